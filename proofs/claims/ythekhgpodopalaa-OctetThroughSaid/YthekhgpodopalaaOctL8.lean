/- OctetThrough: numbers that were put are taken off as they were. -/
import Derived.Test.YthekhgpodopalaaOctL7
import Derived.Deep.RegionHeld3
import Derived.Deep.DeepCutAuto
namespace Go.Proofs.Ythekhgpodopalaa
open Go.RowKit Go.ChangeShapes Go.WideShapes Go.ChangeAt
open Go.Lib (hid)

/-- a slice of numbers of 64 bits that came in -/
structure U64s (w : World) (A : Option Addr) (n c : Nat) (l : List Nat) : Prop where
  len : n = l.length
  cap : n ≤ c
  capm : c ≤ maxLen
  rd : Rd w All 1 A n (l.map fun x => .int .u64 (x : Nat))
  lt : ∀ x ∈ l, x < 256 ^ 8
theorem U64s.keep {w w' : World} {A : Option Addr} {n c : Nat} {l : List Nat} (h : U64s w A n c l) (hk : Kp All w w') : U64s w' A n c l := ⟨h.len, h.cap, h.capm, h.rd.keep hk, h.lt⟩
theorem U64s.head {w : World} {A : Option Addr} {n c : Nat} {l : List Nat} (h : U64s w A n c l) {k : Nat} (hk : k ≤ n) : U64s w A k c (l.take k) := by
  refine ⟨by have := h.len; rw [List.length_take]; omega, by have := h.cap; omega, h.capm, ?_, fun x hx => h.lt x (List.mem_of_mem_take hx)⟩
  have := h.rd.head hk
  rwa [Nat.mul_one, ← List.map_take] at this
theorem U64s.at_ {w : World} {A : Option Addr} {n c : Nat} {l : List Nat} (h : U64s w A n c l) {k : Nat} (hk : k < n) : ∃ ad, A = some ad ∧ w.cell? (ad.add k) = some (.int .u64 (l.getD k 0 : Nat)) ∧ l.getD k 0 < 256 ^ 8 := by
  obtain ⟨ad, u, e, _, hx, hc⟩ := h.rd.at_ hk
  have hl : k < l.length := by have := h.len; omega
  refine ⟨ad, e, ?_, h.lt _ (by simp [hl])⟩
  rw [hc]
  simp [hl] at hx ⊢
  exact hx.symm
theorem open_u64s {H : Type} {enc : TypeId × Value → H} {W : World} {r : Reach} {base : Nat} {v : Value} {d : DataW H} {p : List MemPlace}
    (hv : Value.okWide Try.prog W r base 63 v) (h : DataW.Trod enc Try.prog W 0 (fun _ => true) true 63 v d p) :
    ∃ A n c l, v = .slice A n c ∧ U64s W A n c l := by
  obtain ⟨a0, len0, cap0, rfl⟩ := okWide_slice Try.underlying63 hv
  obtain ⟨fuel, hf⟩ := h
  rcases open_ints Try.underlying63 Try.underlying27 (by kernel_rfl) hf with ⟨hcs, _⟩ | ⟨x, l, c, zs, hcs, _, hl, hm, hz, _, hcell, hwz⟩
  · simp [Value.cells] at hcs
    obtain ⟨rfl, rfl, rfl⟩ := hcs
    exact ⟨none, 0, 0, [], rfl, rfl, Nat.le_refl _, by simp, Rd.none_, by simp⟩
  · simp [Value.cells] at hcs
    obtain ⟨rfl, rfl, rfl⟩ := hcs
    have hz' : zs.length = cap0 := by simpa using hz
    refine ⟨_, _, _, (zs.take len0).map fun z => z.toNat, rfl, by simp; omega, hl, hm, ⟨by simp; omega, fun _ => ⟨x, rfl, trivial, fun j u hu => ?_⟩⟩, fun y hy => ?_⟩
    · rw [List.getElem?_map, List.getElem?_map, List.getElem?_take] at hu
      split at hu
      · have hj : j < zs.length := by omega
        rw [List.getElem?_eq_getElem hj] at hu
        simp at hu
        subst hu
        rw [hcell j hj]
        obtain ⟨X, hX, _⟩ := wf_u64 (hwz zs[j] (List.getElem_mem hj))
        simp [hj, hX]
      · simp at hu
    · obtain ⟨z, hz, rfl⟩ := List.mem_map.1 hy
      obtain ⟨X, rfl, hX⟩ := wf_u64 (hwz z (List.mem_of_mem_take hz))
      simpa using hX

/-- what the numbers come to as bytes -/
def laid (l : List Nat) : List UInt8 := l.flatMap fun x => be 4 (x / 128 % 4294967296) ++ be 2 (x / 8 % 65536) ++ be 8 x
theorem laid_len (l : List Nat) : (laid l).length = 14 * l.length := by
  induction l with
  | nil => rfl
  | cons x l ih => simp only [laid, List.flatMap_cons, List.length_append, be_len, List.length_cons] at *; omega
theorem laid_snoc (l : List Nat) (k : Nat) (hk : k < l.length) : laid (l.take (k + 1)) = laid (l.take k) ++ be 4 (l.getD k 0 / 128 % 4294967296) ++ be 2 (l.getD k 0 / 8 % 65536) ++ be 8 (l.getD k 0) := by
  have e : l.getD k 0 = l[k] := by simp [hk]
  rw [List.take_succ_eq_append_getElem hk, e]
  simp only [laid, List.flatMap_append, List.flatMap_cons, List.flatMap_nil, List.append_nil, List.append_assoc]
theorem laid_drop (l : List Nat) (k : Nat) (hk : k < l.length) : laid (l.drop k) = be 4 (l.getD k 0 / 128 % 4294967296) ++ (be 2 (l.getD k 0 / 8 % 65536) ++ (be 8 (l.getD k 0) ++ laid (l.drop (k + 1)))) := by
  have e : l.getD k 0 = l[k] := by simp [hk]
  rw [List.drop_eq_getElem_cons hk, e]
  simp only [laid, List.flatMap_cons, List.append_assoc]

theorem u_put_16 (w : World) (g : Nat) (F : Nat → Prop) (X : Nat) (rest : List UInt8) (hX : X < 256 ^ 2) (h : RS w g F (be 2 X ++ rest) 0) :
    Calls Try.prog 27 #[.pointer (some ⟨g, 0, none⟩)] w fun e w' => e = .returned (.int .u16 X) ∧ RS w' g F rest 0 ∧ Kp (fun b => b ≠ g) w w' := by
  have := u_ok_16 w g F _ h (by rw [List.length_append, be_len]; omega)
  rwa [List.take_left' (be_len 2 X), List.drop_left' (be_len 2 X), num_be, Nat.mod_eq_of_lt hX] at this
theorem u_put_32 (w : World) (g : Nat) (F : Nat → Prop) (X : Nat) (rest : List UInt8) (hX : X < 256 ^ 4) (h : RS w g F (be 4 X ++ rest) 0) :
    Calls Try.prog 28 #[.pointer (some ⟨g, 0, none⟩)] w fun e w' => e = .returned (.int .u32 X) ∧ RS w' g F rest 0 ∧ Kp (fun b => b ≠ g) w w' := by
  have := u_ok_32 w g F _ h (by rw [List.length_append, be_len]; omega)
  rwa [List.take_left' (be_len 4 X), List.drop_left' (be_len 4 X), num_be, Nat.mod_eq_of_lt hX] at this
theorem u_put_64 (w : World) (g : Nat) (F : Nat → Prop) (X : Nat) (rest : List UInt8) (hX : X < 256 ^ 8) (h : RS w g F (be 8 X ++ rest) 0) :
    Calls Try.prog 29 #[.pointer (some ⟨g, 0, none⟩)] w fun e w' => e = .returned (.int .u64 X) ∧ RS w' g F rest 0 ∧ Kp (fun b => b ≠ g) w w' := by
  have := u_ok_64 w g F _ h (by rw [List.length_append, be_len]; omega)
  rwa [List.take_left' (be_len 8 X), List.drop_left' (be_len 8 X), num_be, Nat.mod_eq_of_lt hX] at this

set_option maxRecDepth 100000 in
set_option maxHeartbeats 1000000 in
theorem through_walk (w : World) (A0 : Option Addr) (n0 c0 : Nat) (ll : List Nat) (h0 : U64s w A0 n0 c0 ll) (A : Option Addr) (n c : Nat) (l0 : List UInt8) (h : Bs w All A n c l0) :
    Calls Try.prog 9 #[.slice A0 n0 c0, .slice A n c] w fun e w' => e = .returned (.bool true) ∧ Kp All w w' := by
  have cm := h0.capm
  have cn := h0.cap
  unfold maxLen at cm
  obtain ⟨m, hm, hmm6, hmn⟩ : ∃ m : Nat, (if (60 : Int) < (n0 : Int) then (60 : Int) else (n0 : Int)) = (m : Int) ∧ m ≤ 60 ∧ m ≤ n0 := ⟨min n0 60, by split <;> omega, by omega, by omega⟩
  have hmc : (m : Int) ≤ (c0 : Int) := by omega
  have hml := h0.head (k := m) hmn
  go_enter Try.func9, Try.ntmps9
  go_wp2_with fail
  refine (wakes_ok w).mono ?_
  rintro e w0 ⟨rfl, k0⟩
  go_upto_region 3 with fail
  go_cut [0, 1] (fun s0 s1 wx => s0 = .slice A0 m c0 ∧ ∃ Ab mb cb l, s1 = .slice Ab mb cb ∧ mb ≤ 600 ∧ Ob wx w0.heap.size Ab mb cb l ∧ Kp All w0 wx)
  case first =>
    go_region_held3 (fun w' => True) (trivial) (first | (go_at_call 11; refine (own_var _ A n c l0 All ((h.keep k0.all).keep (Kp.drew _))).mono ?_; rintro e w1 ⟨Ab, mb, cb, l, rfl, hmb, hl, hmb6, ob, k1⟩))
    all_goals (go_wp2_with fail; go_meet; exact ⟨rfl, Ab, mb, cb, l, rfl, hmb6, ob, (Kp.drew w0).trans k1⟩)
  obtain ⟨rfl, Ab, mb, cb, l, rfl, hmb6, ob, k1⟩ := hcut
  obtain ⟨w1, rfl⟩ : ∃ w1 : World, w1 = wc := ⟨_, rfl⟩
  generalize ll.take m = lx at *
  have hu := hml.keep (k0.trans k1)
  have kk := k0.trans k1
  have hlx := hid hml.len
  have hlen := hid ob.bs.len
  have z1 := kk.size
  have hob := hid ob.lt
  have hlt := hid hml.lt
  clear h0 h hml k0 k1
  go_wp2
  go_loopw [5, 7, 22] (fun s _ q wr => ∃ (k : Nat) (A4 : Option Addr) (c4 : Nat), k ≤ m ∧ q = .int .i64 k ∧ s = .slice A4 (14 * k) c4 ∧ Bs wr All A4 (14 * k) c4 (laid (lx.take k)) ∧ Kp All w1 wr) (fun _ _ q _ => m - (intOf q).toNat)
  case atStart => exact ⟨0, none, 0, by omega, rfl, rfl, Bs.nil _ _, Kp.refl _ _⟩
  case round =>
    obtain ⟨k, A4, c4, hk, rfl, rfl, b4, k4⟩ := hrel
    by_cases hkm : k < m
    · obtain ⟨ad, rfl, hx, hX⟩ := (hu.keep k4).at_ hkm
      have hsn := hid (laid_snoc lx k (by rw [← hlx.out]; omega))
      obtain ⟨X, hXX⟩ : ∃ X, X = lx.getD k 0 := ⟨_, rfl⟩
      rw [← hXX] at hx hX hsn
      clear hXX
      have HX := hid hX
      obtain ⟨X4, hX4⟩ : ∃ X4, X4 = X / 128 % 4294967296 := ⟨_, rfl⟩
      obtain ⟨X2, hX2⟩ : ∃ X2, X2 = X / 8 % 65536 := ⟨_, rfl⟩
      rw [← hX4, ← hX2] at hsn
      have bX4 : X4 < 4294967296 := by omega
      have bX2 : X2 < 65536 := by omega
      have eX4 : IntKind.u32.wrap ((X : Int) / 128) = (X4 : Int) := by rw [IntKind.wrap_u32]; omega
      have eX2 : IntKind.u16.wrap ((X : Int) / 8) = (X2 : Int) := by rw [IntKind.wrap_u16]; omega
      clear hX4 hX2 hX
      go_wp2_with fail
      refine (put_32 wr _ _ _ _ X4 _ b4 (by omega) bX4).mono ?_
      rintro e w2 ⟨A5, c5, rfl, o5, k5⟩
      go_wp2_with fail
      refine (put_16 w2 _ _ _ _ X2 _ o5.bs (by omega) bX2).mono ?_
      rintro e w3 ⟨A6, c6, rfl, o6, k6⟩
      go_wp2_with fail
      refine (put_64 w3 _ _ _ _ X _ o6.bs (by omega) HX.out).mono ?_
      rintro e w4 ⟨A7, c7, rfl, o7, k7⟩
      rw [← hsn.out, show 14 * k + 4 + 2 + 8 = 14 * (k + 1) from by omega] at o7
      go_wp2
      refine ⟨⟨k + 1, A7, c7, by omega, by go_num, by rw [show 14 * k + 4 + 2 + 8 = 14 * (k + 1) from by omega], o7.bs.more (fun _ _ => trivial), ((k4.trans k5).trans k6).trans k7⟩, by simp [intOf]; omega⟩
    · obtain rfl : k = m := by omega
      rw [List.take_of_length_le (l := lx) (by rw [← hlx.out]; exact Nat.le_refl _)] at b4
      have ob4 := ob.all k4
      go_wp2_with fail
      refine (concat_two _ _ _ _ _ _ _ _ _ _ (by exact Blk.new wr _ _) (b4.keep (Kp.alloc wr _)) ((ob4.all (Kp.alloc wr _)).bs.more (fun _ _ => trivial)) (by omega)).mono ?_
      rintro e w5 ⟨A8, c8, rfl, o8, k8⟩
      go_wp2_with fail
      refine (read_mid w5 _ _ _ _ _ o8.bs (by omega)).mono ?_
      rintro e w6 ⟨g, rfl, a1, a1', r6, k9⟩
      have k48 := (k4.trans (Kp.alloc wr _)).trans k8
      have k49 := k48.trans k9
      have z5 := k48.size
      have ob6 := ((ob4.all (Kp.alloc wr _)).all k8).all k9
      have hF := hid ob6.lt
      clear k4 b4 ob4 k8 k9 o8 ob
      go_wp2
      go_loopw [10, 45] (fun _ q wr => ∃ j : Nat, j ≤ k ∧ q = .int .i64 j ∧ RS wr g (Mid w5.heap.size w6.heap.size g) (laid (lx.drop j) ++ l) 0 ∧ Kp (fun b => b ≠ g) w6 wr) (fun _ q _ => k - (intOf q).toNat)
      case atStart => exact ⟨0, by omega, rfl, r6, Kp.refl _ _⟩
      case round =>
        obtain ⟨j, hj, rfl, q6, kj⟩ := hrel
        have kk6 : Kp All w1 wr := k49.since kj (fun b hb => by omega)
        by_cases hjk : j < k
        · obtain ⟨ad, rfl, hx, hX⟩ := hu.at_ hjk
          have hxr := kk6.cell trivial hx
          have hdr := laid_drop lx j (by rw [← hlx.out]; omega)
          obtain ⟨X, hXX⟩ : ∃ X, X = lx.getD j 0 := ⟨_, rfl⟩
          rw [← hXX] at hx hxr hX hdr
          clear hXX
          have HX := hid hX
          obtain ⟨X4, hX4⟩ : ∃ X4, X4 = X / 128 % 4294967296 := ⟨_, rfl⟩
          obtain ⟨X2, hX2⟩ : ∃ X2, X2 = X / 8 % 65536 := ⟨_, rfl⟩
          rw [← hX4, ← hX2] at hdr
          have bX4 : X4 < 4294967296 := by omega
          have bX2 : X2 < 65536 := by omega
          have eX4 : IntKind.u32.wrap ((X : Int) / 128) = (X4 : Int) := by rw [IntKind.wrap_u32]; omega
          have eX2 : IntKind.u16.wrap ((X : Int) / 8) = (X2 : Int) := by rw [IntKind.wrap_u16]; omega
          rw [hdr, List.append_assoc, List.append_assoc, List.append_assoc] at q6
          clear hX4 hX2 hX hx hdr
          go_wp2_with fail
          refine (u_put_32 wr g _ X4 _ bX4 q6).mono ?_
          rintro e wa ⟨rfl, q7, ka⟩
          go_wp2_with fail
          refine (u_put_16 wa g _ X2 _ bX2 q7).mono ?_
          rintro e wb ⟨rfl, q8, kb⟩
          go_wp2_with fail
          refine (u_put_64 wb g _ X _ HX.out q8).mono ?_
          rintro e wc ⟨rfl, q9, kc⟩
          go_wp2
          exact ⟨⟨j + 1, by omega, by go_num, q9, ((kj.trans ka).trans kb).trans kc⟩, by simp [intOf]; omega⟩
        · obtain rfl : j = k := by omega
          rw [List.drop_of_length_le (by rw [← hlx.out]; exact Nat.le_refl _)] at q6
          have q6' : RS wr g (Mid w5.heap.size w6.heap.size g) l 0 := q6
          have obr := ob6.kp kj (fun b hb => by have := hob.out b hb; omega)
          have hln := obr.bs.len
          have hd : l.drop mb = [] := List.eq_nil_of_length_eq_zero (by rw [List.length_drop]; omega)
          have ht : l.take mb = l := List.take_of_length_le (by omega)
          have cl := left_any wr g _ l 0 q6'
          rw [← hln] at cl
          have cr := raw_ok wr g _ l mb q6' (by omega) (by omega)
          rw [hd, ht] at cr
          have CL := hid cl
          have CR := hid cr
          have h14 : ((14 * j : Nat) : Int) = 14 * (j : Int) := by omega
          clear cl cr hd ht hln q6
          go_wp2_with fail
          refine CL.out.mono ?_
          rintro e wa ⟨rfl, rfl⟩
          go_wp2_with fail
          refine CR.out.mono ?_
          rintro e wb ⟨A9, c9, rfl, o9, q9, k9⟩
          go_wp2_with fail
          refine (equal_yes wb _ _ _ _ _ _ _ _ _ _ o9.bs (obr.kp k9 (fun b hb => by have := hob.out b hb; omega)).bs rfl).mono ?_
          rintro e wc ⟨rfl, rfl⟩
          go_wp2_with fail
          refine (left_any wb g _ [] 0 q9).mono ?_
          rintro e wc ⟨rfl, rfl⟩
          go_wp2_with fail
          refine (err_any wb g _ [] 0 q9).mono ?_
          rintro e wc ⟨rfl, rfl⟩
          go_wp2
          go_ret
          exact ⟨rfl, (kk.trans kk6).since k9 (fun b hb => by omega)⟩

theorem OctetThrough_open {H : Type} {enc : TypeId × Value → H} (W : World) {r : Reach} (base : Nat) (v0 v1 : Value) {d0 d1 : DataW H} {p0 p1 : List MemPlace}
    (hv0 : Value.okWide Try.prog W r base 63 v0) (hv1 : Value.okWide Try.prog W r base 22 v1)
    (h0 : DataW.Trod enc Try.prog W 0 (fun _ => true) true 63 v0 d0 p0) (h1 : DataW.Trod enc Try.prog W 0 (fun _ => true) true 22 v1 d1 p1) :
    Calls Try.prog 9 #[v0, v1] W fun e w' => e = .returned (.bool true) ∧ Kp All W w' := by
  obtain ⟨A1, n1, c1, l1, rfl, b1⟩ := open_u64s hv0 h0
  obtain ⟨A2, n2, c2, l2, rfl, b2⟩ := open_bytes hv1 h1
  exact through_walk W A1 n1 c1 l1 b1 A2 n2 c2 l2 b2
end Go.Proofs.Ythekhgpodopalaa
