/- OctetLays: behind whatever bytes a number of each width lies as its digits, in a row of its own. -/
import Derived.Test.YthekhgpodopalaaOctL3
import Derived.Deep.RegionHeld3
import Derived.Deep.LoopGhost
namespace Go.Proofs.Ythekhgpodopalaa
open Go.RowKit Go.ChangeShapes Go.WideShapes Go.ChangeAt
open Go.Lib (hid)

/-- one of the three widths -/
def szs : Nat → Nat | 0 => 2 | 1 => 4 | _ => 8

theorem be_mod (k X : Nat) : be k (X % 256 ^ k) = be k X := by
  have h := be_num (be k X)
  rw [be_len, num_be] at h
  exact h
theorem szs_le (k : Nat) : szs k ≤ 8 := by unfold szs; split <;> omega
theorem szs_pos (k : Nat) : 2 ≤ szs k := by unfold szs; split <;> omega

theorem same_yes (w : World) (A1 A2 : Option Addr) (n1 c1 n2 c2 : Nat) (l1 l2 : List UInt8) (F1 F2 : Nat → Prop) (h1 : Bs w F1 A1 n1 c1 l1) (h2 : Bs w F2 A2 n2 c2 l2) (he : l1 = l2) :
    Calls Try.prog 12 #[.slice A1 n1 c1, .slice A2 n2 c2] w fun e w' => e = .returned (.bool true) ∧ Kp All w w' := by
  have := same_any w A1 A2 n1 c1 n2 c2 l1 l2 F1 F2 h1 h2
  rwa [decide_eq_true he] at this

set_option maxHeartbeats 1000000 in
theorem lays_walk (w : World) (A : Option Addr) (n c : Nat) (l : List UInt8) (X : Nat) (h : Bs w All A n c l) (hX : X < 256 ^ 8) :
    Calls Try.prog 4 #[.slice A n c, .int .u64 X] w fun e w' => e = .returned (.bool true) ∧ Kp All w w' := by
  obtain ⟨X2, hX2⟩ : ∃ X2 : Nat, X2 = X % 65536 := ⟨_, rfl⟩
  obtain ⟨X4, hX4⟩ : ∃ X4 : Nat, X4 = X % 4294967296 := ⟨_, rfl⟩
  have bX2 : X2 < 65536 := by omega
  have bX4 : X4 < 4294967296 := by omega
  have eX2 : IntKind.u16.wrap (X : Int) = (X2 : Int) := by rw [IntKind.wrap_u16]; omega
  have eX4 : IntKind.u32.wrap (X : Int) = (X4 : Int) := by rw [IntKind.wrap_u32]; omega
  have HX := hid hX
  have HX2 := hid hX2
  have HX4 := hid hX4
  clear hX hX2 hX4
  go_enter Try.func4, Try.ntmps4
  go_wp2_with fail
  refine (wakes_ok w).mono ?_
  rintro e w0 ⟨rfl, k0⟩
  go_wp2_with fail
  refine (own_var w0 A n c l All (h.keep k0.all)).mono ?_
  rintro e w1 ⟨Ab, m, cb, lb, rfl, hm, hlb, hm6, ob, k1⟩
  go_wp2_with fail
  refine (put_16 w1 _ _ _ _ X2 _ ob.bs (by omega) (by omega)).mono ?_
  rintro e w2 ⟨A2, c2, rfl, o2, k2⟩
  go_wp2_with fail
  refine (put_32 w2 _ _ _ _ X4 _ (ob.all k2).bs (by omega) (by omega)).mono ?_
  rintro e w3 ⟨A4, c4, rfl, o4, k3⟩
  go_wp2_with fail
  refine (put_64 w3 _ _ _ _ X _ (ob.all (k2.trans k3)).bs (by omega) HX.out).mono ?_
  rintro e w4 ⟨A8, c8, rfl, o8, k4⟩
  obtain ⟨AA, hAA⟩ : ∃ AA : Nat → Option Addr, Hid (AA 0 = A2 ∧ AA 1 = A4 ∧ AA 2 = A8) := ⟨fun | 0 => A2 | 1 => A4 | _ => A8, hid ⟨rfl, rfl, rfl⟩⟩
  obtain ⟨cc, hcc⟩ : ∃ cc : Nat → Nat, Hid (cc 0 = c2 ∧ cc 1 = c4 ∧ cc 2 = c8) := ⟨fun | 0 => c2 | 1 => c4 | _ => c8, hid ⟨rfl, rfl, rfl⟩⟩
  obtain ⟨B, hB⟩ : ∃ B : Nat → Nat, Hid (B 0 = w1.heap.size ∧ B 1 = w2.heap.size ∧ B 2 = w3.heap.size ∧ B 3 = w4.heap.size) := ⟨fun | 0 => w1.heap.size | 1 => w2.heap.size | 2 => w3.heap.size | _ => w4.heap.size, hid ⟨rfl, rfl, rfl, rfl⟩⟩
  have hrows : Hid (∀ j, j < 3 → Ob w4 (B j) (AA j) (m + szs j) (cc j) (lb ++ be (szs j) X) ∧ ∀ g, (Value.slice (AA j) (m + szs j) (cc j)).ownBlock = some g → B j ≤ g ∧ g < B (j + 1)) := by
    obtain ⟨a0, a1, a2⟩ := hAA.out
    obtain ⟨b0, b1, b2, b3⟩ := hB.out
    obtain ⟨q0, q1, q2⟩ := hcc.out
    refine hid fun j hj => ?_
    have e2 : be 2 X2 = be 2 X := by rw [HX2.out]; exact be_mod 2 X
    have e4 : be 4 X4 = be 4 X := by rw [HX4.out]; exact be_mod 4 X
    rw [e2] at o2
    rw [e4] at o4
    rcases (show j = 0 ∨ j = 1 ∨ j = 2 by omega) with rfl | rfl | rfl
    · rw [a0, b0, q0, b1]
      exact ⟨o2.all (k3.trans k4), fun g hg => o2.lt g hg⟩
    · rw [a1, b1, q1, b2]
      exact ⟨o4.all k4, fun g hg => o4.lt g hg⟩
    · rw [a2, b2, q2, b3]
      exact ⟨o8, fun g hg => o8.lt g hg⟩
  have hbb : Hid (∀ g, (Value.slice Ab m cb).ownBlock = some g → g < B 0) := hid fun g hg => by rw [hB.out.1]; exact (ob.lt g hg).2
  have hmono : Hid (B 0 ≤ B 1 ∧ B 1 ≤ B 2 ∧ B 2 ≤ B 3 ∧ B 3 = w4.heap.size ∧ w.heap.size ≤ B 0) := by
    obtain ⟨b0, b1, b2, b3⟩ := hB.out
    rw [b0, b1, b2, b3]
    exact hid ⟨k2.size, k3.size, k4.size, rfl, (k0.trans k1).size⟩
  have hobw := (ob.all (k2.trans k3)).all k4
  have kk : Kp All w w4 := (((k0.trans k1).trans k2).trans k3).trans k4
  clear o2 o4 o8 ob k0 k1 k2 k3 k4 hB
  have hA0 := hid hAA.out.1
  go_wp2_with fail
  go_loopw [4, 7, 8, 9, 28] (fun r i s k2 q wr => ∃ k : Nat, k ≤ 3 ∧ q = .int .i64 k ∧ r = .bool false ∧ Kp All w wr ∧ Ob wr w0.heap.size Ab m cb lb ∧ Blk wr w4.heap.size 22 #[.slice (AA 0) (m + szs 0) (cc 0), .slice (AA 1) (m + szs 1) (cc 1), .slice (AA 2) (m + szs 2) (cc 2)] ∧
    Blk wr (w4.heap.size + 1) 3 #[.int .i64 2, .int .i64 4, .int .i64 8] ∧ Hid (∀ j, j < 3 → k ≤ j → Ob wr (B j) (AA j) (m + szs j) (cc j) (lb ++ be (szs j) X))) (fun _ _ _ _ q _ => 3 - (intOf q).toNat)
  case atStart =>
    obtain ⟨a0, a1, a2⟩ := hAA.out
    obtain ⟨q0, q1, q2⟩ := hcc.out
    refine ⟨0, by omega, rfl, rfl, (kk.trans (Kp.alloc _ _)).trans (Kp.alloc _ _), (hobw.all (Kp.alloc _ _)).all (Kp.alloc _ _), ?_, ?_, hid fun j hj _ => (((hrows.out j hj).1.all (Kp.alloc _ _)).all (Kp.alloc _ _))⟩
    · rw [a0, a1, a2, q0, q1, q2]
      exact (Blk.new w4 _ _).alloc _
    · have := Blk.new (w4.alloc (.cells #[.slice A2 (m + 2) c2, .slice A4 (m + 4) c4, .slice A8 (m + 8) c8] 22)) 3 #[.int .i64 2, .int .i64 4, .int .i64 8]
      simpa using this
  case round =>
    obtain ⟨k, hk, rfl, rfl, kr, obr, br, bs, hrw⟩ := hrel
    by_cases hlt : k < 3
    · have hr : wr.cell? ⟨w4.heap.size, k, none⟩ = some (.slice (AA k) (m + szs k) (cc k)) := by
        rw [br.cell]
        rcases (show k = 0 ∨ k = 1 ∨ k = 2 by omega) with rfl | rfl | rfl <;> rfl
      have hs : wr.cell? ⟨w4.heap.size + 1, k, none⟩ = some (.int .i64 (szs k : Nat)) := by
        rw [bs.cell]
        rcases (show k = 0 ∨ k = 1 ∨ k = 2 by omega) with rfl | rfl | rfl <;> rfl
      have hx := h.keep (w' := wr) kr.all
      have s8 := szs_le k
      have s2 := szs_pos k
      go_wp2
      go_region_held3 (fun w' => w'.cell? ⟨w4.heap.size, k, none⟩ = some (.slice (AA k) (m + szs k) (cc k))) (first | assumption | (simp only [World.cell?_drew]; assumption))
        (first
          | (go_at_call 11; refine (own_var _ A n c l All (hx.keep (Kp.drew _))).mono ?_; rintro e wa ⟨Aa, ma, ca, la, rfl, hma, hla, hma6, oa, ka⟩; have qa := ka.cell trivial hr)
          | (go_at_call 20; refine (high_any (szs k) _ X (by omega) HX.out).mono ?_; rintro e wb ⟨Ah, ch, rfl, oh, kh⟩; have qb := kh.cell trivial qa)
          | (go_at_call 19; refine (both_any _ _ _ _ _ _ _ _ _ _ _ (oa.all kh).bs oh.bs (by omega)).mono ?_; rintro e wc ⟨Ac, ccc, rfl, oc, kc⟩; have qc := kc.cell trivial qb)
          | (go_at_call 12; refine (same_yes _ _ _ _ _ _ _ _ _ _ _ ((hrw.out k hlt (Nat.le_refl _)).all ((((Kp.drew wr).trans ka).trans kh).trans kc)).bs oc.bs (by rw [hlb.out, hla.out])).mono ?_; rintro e wd ⟨rfl, kd⟩; have qd := kd.cell trivial qc))
      have kd' : Kp All wr wd := ((((Kp.drew wr).trans ka).trans kh).trans kc).trans kd
      have krd := kr.trans kd'
      have obd := obr.all kd'
      have brd := br.kp kd' trivial
      have bsd := bs.kp kd' trivial
      have hrd : Hid (∀ j, j < 3 → k ≤ j → Ob wd (B j) (AA j) (m + szs j) (cc j) (lb ++ be (szs j) X)) := hid fun j hj hkj => (hrw.out j hj hkj).all kd'
      have hk0 := hrd.out k hlt (Nat.le_refl _)
      obtain ⟨g, hAg, hBg, hgl, hog⟩ := hk0.addr (by omega)
      have hgB := (hrows.out k hlt).2 g hog
      have hog' := hid hog
      have HAg := hid hAg
      obtain ⟨m1, m2, m3, m4, m5⟩ := hmono.out
      have hmon : Hid (∀ i j, i ≤ j → j ≤ 3 → B i ≤ B j) := hid fun i j hij hj => by
        rcases (show i = 0 ∨ i = 1 ∨ i = 2 ∨ i = 3 by omega) with rfl | rfl | rfl | rfl <;> rcases (show j = 0 ∨ j = 1 ∨ j = 2 ∨ j = 3 by omega) with rfl | rfl | rfl | rfl <;> omega
      have hB0 := hmon.out 0 k (by omega) (by omega)
      have hB3 := hmon.out (k + 1) 3 (by omega) (by omega)
      have hgw : g < w4.heap.size := by omega
      have hgw0 : w.heap.size ≤ g := by omega
      clear m1 m2 m3 m4 m5 hB3
      clear kd' kr obr br bs hrw ka kh kc kd hog qa qb qc oa oh oc hr hs hx hAg
      go_wp2
      rw [HAg.out]
      rw [HAg.out] at qd hk0
      go_loopw [9, 50] (fun r q wr2 => ∃ j : Nat, j ≤ m + szs k ∧ q = .int .i64 j ∧ (∃ l', Ob wr2 (B k) (some ⟨g, 0, none⟩) (m + szs k) (cc k) l') ∧ Kp (fun b => b ≠ g) wd wr2) (fun _ q _ => m + szs k - (intOf q).toNat)
      case atStart => exact ⟨0, by omega, rfl, ⟨_, hk0⟩, Kp.refl _ _⟩
      case round =>
        obtain ⟨j, hj, rfl, ⟨l', ol⟩, kj⟩ := hrel
        have hgne : w4.heap.size ≠ g := by omega
        have hcr : wr.cell? ⟨w4.heap.size, k, none⟩ = some (.slice (some ⟨g, 0, none⟩) (m + szs k) (cc k)) := kj.cell hgne qd
        by_cases hjl : j < m + szs k
        · have hcj := ol.cellAt hjl
          have hfj := ol.frozenAt j
          obtain ⟨x, hx⟩ : ∃ x, x = l'.getD j 0 := ⟨_, rfl⟩
          rw [← hx] at hcj
          have hx2 := x.toNat_lt
          clear hx
          have ck := ol.bs.capm
          have ck2 := ol.bs.cap
          unfold maxLen at ck
          go_wp2
          refine ⟨⟨j + 1, by omega, by go_num, ⟨_, ol.stored j (UInt8.ofNat (((x.toNat : Int) + 1) % 256).toNat) _ (bv_mod _)⟩, kj.trans ?_⟩, by simp [intOf]; omega⟩
          exact Kp.setCell wr ⟨g, j, none⟩ _
        · go_wp2
          refine ⟨⟨k + 1, by omega, by go_num, rfl, krd.since kj (fun i hi => by omega), obd.kp kj (fun g' hg' => by have := hbb.out g' hg'; omega), brd.kp kj hgne, bsd.kp kj (by omega), hid fun i hi hki => (hrd.out i hi (by omega)).kp kj (fun g' hg' => ?_)⟩, by simp [intOf]; omega⟩
          have q1 := (hrows.out i hi).2 g' hg'
          have q2 := hmon.out (k + 1) i hki (by omega)
          omega
    · go_wp2_with (go_at_call 11; refine (own_var _ A n c l All (h.keep kr.all)).mono ?_; rintro e wa ⟨Aa, ma, ca, la, rfl, hma, hla, hma6, oa, ka⟩)
      refine (same_yes _ _ _ _ _ _ _ _ _ _ _ (obr.all ka).bs oa.bs (by rw [hlb.out, hla.out])).mono ?_
      rintro e wd ⟨rfl, kd⟩
      go_wp2
      go_ret
      exact ⟨rfl, (kr.trans ka).trans kd⟩

theorem OctetLays_open {H : Type} {enc : TypeId × Value → H} (W : World) {r : Reach} (base : Nat) (v0 v1 : Value) {d0 d1 : DataW H} {p0 p1 : List MemPlace}
    (hv0 : Value.okWide Try.prog W r base 22 v0) (hv1 : Value.okWide Try.prog W r base 27 v1)
    (h0 : DataW.Trod enc Try.prog W 0 (fun _ => true) true 22 v0 d0 p0) (h1 : DataW.Trod enc Try.prog W 0 (fun _ => true) true 27 v1 d1 p1) :
    Calls Try.prog 4 #[v0, v1] W fun e w' => e = .returned (.bool true) ∧ Kp All W w' := by
  obtain ⟨A1, n1, c1, l1, rfl, b1⟩ := open_bytes hv0 h0
  obtain ⟨y, rfl, rfl, rfl, wy⟩ := open_int Try.underlying27 hv1 h1
  obtain ⟨Y, rfl, hY⟩ := wf_u64 wy
  exact lays_walk W A1 n1 c1 l1 Y b1 hY
end Go.Proofs.Ythekhgpodopalaa
