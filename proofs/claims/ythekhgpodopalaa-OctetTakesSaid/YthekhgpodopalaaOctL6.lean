/- OctetTakes: the walk. -/
import Derived.Test.YthekhgpodopalaaOctL5
namespace Go.Proofs.Ythekhgpodopalaa
open Go.RowKit Go.ChangeShapes Go.WideShapes Go.ChangeAt
open Go.Lib (hid)

theorem kind_of (z : Int) : ∃ kd : Nat, wrap64 ((IntKind.u64.wrap z).tmod 5) = (kd : Int) ∧ kd < 5 := by
  have h : 0 ≤ IntKind.u64.wrap z := by rw [IntKind.wrap_u64]; omega
  rw [Int.tmod_eq_emod_of_nonneg h]
  refine ⟨(IntKind.u64.wrap z % 5).toNat, ?_, by omega⟩
  rw [IntWalk.wrap64_in _ ⟨by omega, by omega⟩]
  omega
theorem num64_small (l : List UInt8) (h : l.length ≤ 8) : num64 l = num l := by
  unfold num64 M64
  have h1 := num_lt l
  have h2 : 256 ^ l.length ≤ 256 ^ 8 := Nat.pow_le_pow_right (by omega) h
  exact Nat.mod_eq_of_lt (by omega)
theorem num_le (l : List UInt8) (k : Nat) (h : l.length ≤ k) : num l < 256 ^ k :=
  Nat.lt_of_lt_of_le (num_lt l) (Nat.pow_le_pow_right (by omega) h)
theorem tookN_lit (len : Nat) (why : Int) (k : Nat) : tookN len why k ≤ k := by unfold tookN; split <;> omega

set_option maxRecDepth 100000 in
set_option maxHeartbeats 1000000 in
theorem takes_walk (w : World) (A : Option Addr) (n c : Nat) (l : List UInt8) (h : Bs w All A n c l) (Aa : Option Addr) (na ca : Nat) (K M : Nat → Int) (hca : ca ≤ maxLen) (hna : na ≤ ca) (ha : Asks w Aa na K M) :
    Calls Try.prog 6 #[.slice A n c, .slice Aa na ca] w fun e w' => e = .returned (.bool true) ∧ Kp All w w' := by
  unfold maxLen at hca
  go_enter Try.func6, Try.ntmps6
  go_wp2_with fail
  refine (wakes_ok w).mono ?_
  rintro e w0 ⟨rfl, k0⟩
  go_wp2_with fail
  refine (own_var w0 A n c l All (h.keep k0.all)).mono ?_
  rintro e w1 ⟨Ab, m, cb, lb, rfl, hm, hlb, hm6, ob, k1⟩
  go_wp2_with fail
  refine (own_var w1 A n c l All (h.keep (k0.trans k1).all)).mono ?_
  rintro e w2 ⟨Ag, mg, cg, lg, rfl, hmg, hlg, hmg6, og, k2⟩
  go_wp2_with fail
  refine (read_any w2 Ag mg cg lg _ og.bs (by omega)).mono ?_
  rintro e w3 ⟨g, rfl, hg, rs, k3⟩
  have ob3 := (ob.all k2).all k3
  have og3 := og.all k3
  have kk : Kp All w w3 := ((k0.trans k1).trans k2).trans k3
  have hgl : g < w3.heap.size := by obtain ⟨_, _, _, q, _⟩ := rs; exact Blk.lt q
  have hbB := hid ob.lt
  have hgB := hid og.lt
  have hs1 := (k0.trans k1).size
  have hs2 := k2.size
  have hs3 := k3.size
  clear ob og k0 k1 k2 k3
  go_wp2_with fail
  go_loopw [8, 31] (fun _ q wr => ∃ j : Nat, j ≤ mg ∧ q = .int .i64 j ∧ (∃ l', Ob wr w1.heap.size Ag mg cg l') ∧ Kp (fun b => some b ≠ (Value.slice Ag mg cg).ownBlock) w3 wr) (fun _ q _ => mg - (intOf q).toNat)
  case atStart => exact ⟨0, by omega, rfl, ⟨_, og3⟩, Kp.refl _ _⟩
  case round =>
    obtain ⟨j, hj, rfl, ⟨l', ol⟩, kj⟩ := hrel
    by_cases hjl : j < mg
    · obtain ⟨gg, rfl, hg1, hg2, hog⟩ := ol.addr (by omega)
      have hog' := hid hog
      clear hog
      have hcj := ol.cellAt hjl
      have hfj := ol.frozenAt j
      obtain ⟨x, hx⟩ : ∃ x, x = l'.getD j 0 := ⟨_, rfl⟩
      rw [← hx] at hcj
      have hx2 := x.toNat_lt
      clear hx
      go_wp2
      obtain ⟨b, hb⟩ := bits_bv .xor (x.toNat : Int) 85
      refine ⟨⟨j + 1, by omega, by go_num, ⟨_, ol.stored j b _ hb⟩, kj.trans ((Kp.setCell wr ⟨gg, j, none⟩ _).mono fun b hb _ e => hb (by rw [hog'.out, e]))⟩, by simp [intOf]; omega⟩
    · go_wp2
      obtain ⟨wo, rfl⟩ : ∃ wo : World, wo = wr := ⟨_, rfl⟩
      have kko : Kp All w wo := kk.since kj (fun b hb e => by have := hgB.out b e.symm; omega)
      have rso : RS wo g (fun b => b < wo.heap.size ∧ b ≠ g) lg 0 := by
        have r2 := rs.kp kj (fun e => by have := hgB.out g e.symm; omega) (fun b hb e => by have := hgB.out b e.symm; omega)
        obtain ⟨A6, n6, c6, q1, q2, q3⟩ := r2
        exact ⟨A6, n6, c6, q1, q2.tight fun b hb hlt => ⟨hlt, hb.2⟩, fun b hb => hb.2⟩
      have obo : Bs wo (fun b => b < wo.heap.size ∧ b ≠ g) Ab m cb lb :=
        (ob3.kp kj (fun b hb e => by have h1 := hbB.out b hb; have h2 := hgB.out b e.symm; omega)).bs_own fun b hb => by have h1 := hbB.out b hb; have := kj.size; exact ⟨by omega, by omega⟩
      have hl : lg = lb := by rw [hlg.out, hlb.out]
      subst hl
      have hsz := kj.size
      have has := ha.keep kko
      clear kj ol l' hj hjl ob3 og3 kk rs
      go_loopw [5, 9, 43] (fun v er q wr => ∃ (i : Nat) (A5 : Option Addr) (n5 c5 : Nat) (l5 : List UInt8) (er5 : Int), i ≤ na ∧ q = .int .i64 i ∧ v = .slice A5 n5 c5 ∧ er = .int .i64 er5 ∧ (er5 = 0 ∨ er5 = 1 ∨ er5 = 2) ∧
        Bs wr (fun b => b < wo.heap.size ∧ b ≠ g) A5 n5 c5 l5 ∧ RS wr g (fun b => b < wo.heap.size ∧ b ≠ g) l5 (errOf er5) ∧ n5 ≤ 600 ∧ Kp All w wr ∧ wo.heap.size ≤ wr.heap.size) (fun _ _ q _ => na - (intOf q).toNat)
      case atStart => exact ⟨0, Ab, m, cb, _, 0, by omega, rfl, rfl, rfl, .inl rfl, obo, rso, hm6, kko, Nat.le_refl _⟩
      case round =>
        obtain ⟨i, A5, n5, c5, l5, er5, hi, rfl, rfl, rfl, her, b5, r5, h56, k5, z5⟩ := hrel
        by_cases hin : i < na
        · by_cases h60 : i = 60
          · have h60' : ((i : Int) == 60) = true := by simp; omega
            have H60 := hid h60
            clear h60
            obtain ⟨ad, rfl, q1, q2⟩ := (ha.keep k5) i hin
            go_wp2
            go_ret
            exact ⟨rfl, k5.trans (Kp.alloc _ _)⟩
          · have h60' : ((i : Int) == 60) = false := by simp; omega
            obtain ⟨ad, rfl, q1, q2⟩ := (ha.keep k5) i hin
            obtain ⟨kd, hkd, hkd5⟩ := kind_of (K i)
            have gl : g < wr.heap.size := by omega
            rcases (show kd = 0 ∨ kd = 1 ∨ kd = 2 ∨ kd = 3 ∨ kd = 4 by omega) with rfl | rfl | rfl | rfl | rfl
            · clear hkd5
              have hoff := off_ref (wr.alloc (.cells #[.int .i64 (K i), .int .i64 (M i)] 45)) l5.length er5 1 her
              obtain ⟨he1, he2⟩ := errOf_ref l5.length er5 1 her
              have htl := tookN_le l5.length (errOf er5) 1
              have ht8 := tookN_lit l5.length (errOf er5) 1
              generalize hT : tookN l5.length (errOf er5) 1 = T at hoff htl ht8
              generalize hE : refErr l5.length er5 1 = E at hoff he1 he2
              rw [← b5.len] at hoff htl
              have HT := hid hT
              have HE1 := hid he1
              have H5 := hid hoff
              clear hT hE he1 hoff
              have bx := b5.keep (w' := wr.alloc (.cells #[.int .i64 (K i), .int .i64 (M i)] 45)) (Kp.alloc _ _)
              have rx := r5.kp (w' := wr.alloc (.cells #[.int .i64 (K i), .int .i64 (M i)] 45)) (Kp.alloc (F := All) _ _) trivial (fun _ _ => trivial)
              have hcut := fun w => run_cut_b w A5 n5 c5 T htl
              have c5m := b5.capm
              have c5n := b5.cap
              unfold maxLen at c5m
              go_wp2_with fail
              refine H5.out.mono ?_
              rintro e w4 ⟨rfl, rfl⟩
              have hlt : (l5.take T).length = T := by rw [List.length_take]; have := b5.len; omega
              have hn64 : num64 (l5.take T) = num (l5.take T) := num64_small _ (by omega)
              have hnb := num_le (l5.take T) 1 (by omega)
              have cn := number_any _ _ _ _ _ _ (bx.head htl)
              rw [hn64] at cn
              have cu := u_any_8 _ g _ l5 (errOf er5) rx
              rw [HT.out, ← HE1.out] at cu
              generalize num (l5.take T) = Y at cn cu hnb
              have CU := hid cu
              have CN := hid cn
              have HLT := hid hlt
              clear cu cn hlt hn64
              go_wp2_with fail
              refine CN.out.mono ?_
              rintro e w4 ⟨rfl, rfl⟩
              go_wp2_with fail
              refine CU.out.mono ?_
              rintro e w5 ⟨rfl, r6, k6, z6⟩
              have b6 := (bx.cutA htl).keep (k6.mono fun b hb _ => hb.2)
              have k7 : Kp All w w5 := (k5.trans (Kp.alloc _ _)).since k6 (fun b hb => by omega)
              have z7 : wo.heap.size ≤ w5.heap.size := by have := z6.out; simp at this; omega
              have hlen : ((l5.drop T).length : Nat) = n5 - T := by rw [List.length_drop, ← b5.len]
              have cl := fun k => left_any (w5.drewN k) g _ (l5.drop T) (errOf E) (r6.kp (Kp.drewN (F := All) _ k) trivial (fun _ _ => trivial))
              have ce := fun k => err_any (w5.drewN k) g _ (l5.drop T) (errOf E) (r6.kp (Kp.drewN (F := All) _ k) trivial (fun _ _ => trivial))
              rw [hlen] at cl
              have CL := hid cl
              have CE := hid ce
              have hidx : ∀ w, (Instr.index 58 (.agg #[.int .i64 0, .int .i64 2, .int .i64 7]) (.int .i64 E)).run Try.prog w = .ok (.int .i64 (errOf E)) w := by
                intro w
                rcases he2 with rfl | rfl | rfl <;> kernel_rfl
              clear cl ce hlen
              go_wp2
              go_quiet (first | (go_at_call 31; exact quiet_left (CL.out _)) | (go_at_call 32; exact quiet_left (CE.out _)))
              go_wp2
              refine ⟨⟨i + 1, _, _, _, _, E, by omega, by go_num, rfl, rfl, he2, b6.keep (Kp.drewN _ _), r6.kp (Kp.drewN (F := All) _ _) trivial (fun _ _ => trivial), by omega, k7.trans (Kp.drewN _ _), z7⟩, by simp [intOf]; omega⟩
            · clear hkd5
              have hoff := off_ref (wr.alloc (.cells #[.int .i64 (K i), .int .i64 (M i)] 45)) l5.length er5 2 her
              obtain ⟨he1, he2⟩ := errOf_ref l5.length er5 2 her
              have htl := tookN_le l5.length (errOf er5) 2
              have ht8 := tookN_lit l5.length (errOf er5) 2
              generalize hT : tookN l5.length (errOf er5) 2 = T at hoff htl ht8
              generalize hE : refErr l5.length er5 2 = E at hoff he1 he2
              rw [← b5.len] at hoff htl
              have HT := hid hT
              have HE1 := hid he1
              have H5 := hid hoff
              clear hT hE he1 hoff
              have bx := b5.keep (w' := wr.alloc (.cells #[.int .i64 (K i), .int .i64 (M i)] 45)) (Kp.alloc _ _)
              have rx := r5.kp (w' := wr.alloc (.cells #[.int .i64 (K i), .int .i64 (M i)] 45)) (Kp.alloc (F := All) _ _) trivial (fun _ _ => trivial)
              have hcut := fun w => run_cut_b w A5 n5 c5 T htl
              have c5m := b5.capm
              have c5n := b5.cap
              unfold maxLen at c5m
              go_wp2_with fail
              refine H5.out.mono ?_
              rintro e w4 ⟨rfl, rfl⟩
              have hlt : (l5.take T).length = T := by rw [List.length_take]; have := b5.len; omega
              have hn64 : num64 (l5.take T) = num (l5.take T) := num64_small _ (by omega)
              have hnb := num_le (l5.take T) 2 (by omega)
              have cn := number_any _ _ _ _ _ _ (bx.head htl)
              rw [hn64] at cn
              have cu := u_any_16 _ g _ l5 (errOf er5) rx
              rw [HT.out, ← HE1.out] at cu
              generalize num (l5.take T) = Y at cn cu hnb
              have CU := hid cu
              have CN := hid cn
              have HLT := hid hlt
              clear cu cn hlt hn64
              go_wp2_with fail
              refine CN.out.mono ?_
              rintro e w4 ⟨rfl, rfl⟩
              go_wp2_with fail
              refine CU.out.mono ?_
              rintro e w5 ⟨rfl, r6, k6, z6⟩
              have b6 := (bx.cutA htl).keep (k6.mono fun b hb _ => hb.2)
              have k7 : Kp All w w5 := (k5.trans (Kp.alloc _ _)).since k6 (fun b hb => by omega)
              have z7 : wo.heap.size ≤ w5.heap.size := by have := z6.out; simp at this; omega
              have hlen : ((l5.drop T).length : Nat) = n5 - T := by rw [List.length_drop, ← b5.len]
              have cl := fun k => left_any (w5.drewN k) g _ (l5.drop T) (errOf E) (r6.kp (Kp.drewN (F := All) _ k) trivial (fun _ _ => trivial))
              have ce := fun k => err_any (w5.drewN k) g _ (l5.drop T) (errOf E) (r6.kp (Kp.drewN (F := All) _ k) trivial (fun _ _ => trivial))
              rw [hlen] at cl
              have CL := hid cl
              have CE := hid ce
              have hidx : ∀ w, (Instr.index 58 (.agg #[.int .i64 0, .int .i64 2, .int .i64 7]) (.int .i64 E)).run Try.prog w = .ok (.int .i64 (errOf E)) w := by
                intro w
                rcases he2 with rfl | rfl | rfl <;> kernel_rfl
              clear cl ce hlen
              go_wp2
              go_quiet (first | (go_at_call 31; exact quiet_left (CL.out _)) | (go_at_call 32; exact quiet_left (CE.out _)))
              go_wp2
              refine ⟨⟨i + 1, _, _, _, _, E, by omega, by go_num, rfl, rfl, he2, b6.keep (Kp.drewN _ _), r6.kp (Kp.drewN (F := All) _ _) trivial (fun _ _ => trivial), by omega, k7.trans (Kp.drewN _ _), z7⟩, by simp [intOf]; omega⟩
            · clear hkd5
              have hoff := off_ref (wr.alloc (.cells #[.int .i64 (K i), .int .i64 (M i)] 45)) l5.length er5 4 her
              obtain ⟨he1, he2⟩ := errOf_ref l5.length er5 4 her
              have htl := tookN_le l5.length (errOf er5) 4
              have ht8 := tookN_lit l5.length (errOf er5) 4
              generalize hT : tookN l5.length (errOf er5) 4 = T at hoff htl ht8
              generalize hE : refErr l5.length er5 4 = E at hoff he1 he2
              rw [← b5.len] at hoff htl
              have HT := hid hT
              have HE1 := hid he1
              have H5 := hid hoff
              clear hT hE he1 hoff
              have bx := b5.keep (w' := wr.alloc (.cells #[.int .i64 (K i), .int .i64 (M i)] 45)) (Kp.alloc _ _)
              have rx := r5.kp (w' := wr.alloc (.cells #[.int .i64 (K i), .int .i64 (M i)] 45)) (Kp.alloc (F := All) _ _) trivial (fun _ _ => trivial)
              have hcut := fun w => run_cut_b w A5 n5 c5 T htl
              have c5m := b5.capm
              have c5n := b5.cap
              unfold maxLen at c5m
              go_wp2_with fail
              refine H5.out.mono ?_
              rintro e w4 ⟨rfl, rfl⟩
              have hlt : (l5.take T).length = T := by rw [List.length_take]; have := b5.len; omega
              have hn64 : num64 (l5.take T) = num (l5.take T) := num64_small _ (by omega)
              have hnb := num_le (l5.take T) 4 (by omega)
              have cn := number_any _ _ _ _ _ _ (bx.head htl)
              rw [hn64] at cn
              have cu := u_any_32 _ g _ l5 (errOf er5) rx
              rw [HT.out, ← HE1.out] at cu
              generalize num (l5.take T) = Y at cn cu hnb
              have CU := hid cu
              have CN := hid cn
              have HLT := hid hlt
              clear cu cn hlt hn64
              go_wp2_with fail
              refine CN.out.mono ?_
              rintro e w4 ⟨rfl, rfl⟩
              go_wp2_with fail
              refine CU.out.mono ?_
              rintro e w5 ⟨rfl, r6, k6, z6⟩
              have b6 := (bx.cutA htl).keep (k6.mono fun b hb _ => hb.2)
              have k7 : Kp All w w5 := (k5.trans (Kp.alloc _ _)).since k6 (fun b hb => by omega)
              have z7 : wo.heap.size ≤ w5.heap.size := by have := z6.out; simp at this; omega
              have hlen : ((l5.drop T).length : Nat) = n5 - T := by rw [List.length_drop, ← b5.len]
              have cl := fun k => left_any (w5.drewN k) g _ (l5.drop T) (errOf E) (r6.kp (Kp.drewN (F := All) _ k) trivial (fun _ _ => trivial))
              have ce := fun k => err_any (w5.drewN k) g _ (l5.drop T) (errOf E) (r6.kp (Kp.drewN (F := All) _ k) trivial (fun _ _ => trivial))
              rw [hlen] at cl
              have CL := hid cl
              have CE := hid ce
              have hidx : ∀ w, (Instr.index 58 (.agg #[.int .i64 0, .int .i64 2, .int .i64 7]) (.int .i64 E)).run Try.prog w = .ok (.int .i64 (errOf E)) w := by
                intro w
                rcases he2 with rfl | rfl | rfl <;> kernel_rfl
              clear cl ce hlen
              go_wp2
              go_quiet (first | (go_at_call 31; exact quiet_left (CL.out _)) | (go_at_call 32; exact quiet_left (CE.out _)))
              go_wp2
              refine ⟨⟨i + 1, _, _, _, _, E, by omega, by go_num, rfl, rfl, he2, b6.keep (Kp.drewN _ _), r6.kp (Kp.drewN (F := All) _ _) trivial (fun _ _ => trivial), by omega, k7.trans (Kp.drewN _ _), z7⟩, by simp [intOf]; omega⟩
            · clear hkd5
              have hoff := off_ref (wr.alloc (.cells #[.int .i64 (K i), .int .i64 (M i)] 45)) l5.length er5 8 her
              obtain ⟨he1, he2⟩ := errOf_ref l5.length er5 8 her
              have htl := tookN_le l5.length (errOf er5) 8
              have ht8 := tookN_lit l5.length (errOf er5) 8
              generalize hT : tookN l5.length (errOf er5) 8 = T at hoff htl ht8
              generalize hE : refErr l5.length er5 8 = E at hoff he1 he2
              rw [← b5.len] at hoff htl
              have HT := hid hT
              have HE1 := hid he1
              have H5 := hid hoff
              clear hT hE he1 hoff
              have bx := b5.keep (w' := wr.alloc (.cells #[.int .i64 (K i), .int .i64 (M i)] 45)) (Kp.alloc _ _)
              have rx := r5.kp (w' := wr.alloc (.cells #[.int .i64 (K i), .int .i64 (M i)] 45)) (Kp.alloc (F := All) _ _) trivial (fun _ _ => trivial)
              have hcut := fun w => run_cut_b w A5 n5 c5 T htl
              have c5m := b5.capm
              have c5n := b5.cap
              unfold maxLen at c5m
              go_wp2_with fail
              refine H5.out.mono ?_
              rintro e w4 ⟨rfl, rfl⟩
              have hlt : (l5.take T).length = T := by rw [List.length_take]; have := b5.len; omega
              have hn64 : num64 (l5.take T) = num (l5.take T) := num64_small _ (by omega)
              have hnb := num_le (l5.take T) 8 (by omega)
              have cn := number_any _ _ _ _ _ _ (bx.head htl)
              rw [hn64] at cn
              have cu := u_any_64 _ g _ l5 (errOf er5) rx
              rw [HT.out, ← HE1.out] at cu
              generalize num (l5.take T) = Y at cn cu hnb
              have CU := hid cu
              have CN := hid cn
              have HLT := hid hlt
              clear cu cn hlt hn64
              go_wp2_with fail
              refine CN.out.mono ?_
              rintro e w4 ⟨rfl, rfl⟩
              go_wp2_with fail
              refine CU.out.mono ?_
              rintro e w5 ⟨rfl, r6, k6, z6⟩
              have b6 := (bx.cutA htl).keep (k6.mono fun b hb _ => hb.2)
              have k7 : Kp All w w5 := (k5.trans (Kp.alloc _ _)).since k6 (fun b hb => by omega)
              have z7 : wo.heap.size ≤ w5.heap.size := by have := z6.out; simp at this; omega
              have hlen : ((l5.drop T).length : Nat) = n5 - T := by rw [List.length_drop, ← b5.len]
              have cl := fun k => left_any (w5.drewN k) g _ (l5.drop T) (errOf E) (r6.kp (Kp.drewN (F := All) _ k) trivial (fun _ _ => trivial))
              have ce := fun k => err_any (w5.drewN k) g _ (l5.drop T) (errOf E) (r6.kp (Kp.drewN (F := All) _ k) trivial (fun _ _ => trivial))
              rw [hlen] at cl
              have CL := hid cl
              have CE := hid ce
              have hidx : ∀ w, (Instr.index 58 (.agg #[.int .i64 0, .int .i64 2, .int .i64 7]) (.int .i64 E)).run Try.prog w = .ok (.int .i64 (errOf E)) w := by
                intro w
                rcases he2 with rfl | rfl | rfl <;> kernel_rfl
              clear cl ce hlen
              go_wp2
              go_quiet (first | (go_at_call 31; exact quiet_left (CL.out _)) | (go_at_call 32; exact quiet_left (CE.out _)))
              go_wp2
              refine ⟨⟨i + 1, _, _, _, _, E, by omega, by go_num, rfl, rfl, he2, b6.keep (Kp.drewN _ _), r6.kp (Kp.drewN (F := All) _ _) trivial (fun _ _ => trivial), by omega, k7.trans (Kp.drewN _ _), z7⟩, by simp [intOf]; omega⟩
            · clear hkd5
              obtain ⟨N, hN⟩ : ∃ N, N = M i := ⟨_, rfl⟩
              rw [← hN] at q2
              clear hN
              have hoff := off_ref (wr.alloc (.cells #[.int .i64 (K i), .int .i64 N] 45)) l5.length er5 N her
              obtain ⟨he1, he2⟩ := errOf_ref l5.length er5 N her
              have htl := tookN_le l5.length (errOf er5) N
              generalize hT : tookN l5.length (errOf er5) N = T at hoff htl
              generalize hE : refErr l5.length er5 N = E at hoff he1 he2
              rw [← b5.len] at hoff htl
              have HT := hid hT
              have HE1 := hid he1
              have H5 := hid hoff
              clear hT hE he1 hoff
              have bx := b5.keep (w' := wr.alloc (.cells #[.int .i64 (K i), .int .i64 N] 45)) (Kp.alloc _ _)
              have rx := r5.kp (w' := wr.alloc (.cells #[.int .i64 (K i), .int .i64 N] 45)) (Kp.alloc (F := All) _ _) trivial (fun _ _ => trivial)
              have hcut := fun w => run_cut_b w A5 n5 c5 T htl
              have c5m := b5.capm
              have c5n := b5.cap
              unfold maxLen at c5m
              have cn := number_any _ _ _ _ _ _ (bx.head htl)
              have cu := raw_any _ g _ l5 (errOf er5) N rx (by rw [← b5.len]; omega)
              rw [HT.out, ← HE1.out] at cu
              generalize num64 (l5.take T) = Y at cn
              have CU := hid cu
              have CN := hid cn
              clear cu cn
              go_wp2_with fail
              refine H5.out.mono ?_
              rintro e w4 ⟨rfl, rfl⟩
              go_wp2_with fail
              refine CN.out.mono ?_
              rintro e w4 ⟨rfl, rfl⟩
              go_wp2_with fail
              refine CU.out.mono ?_
              rintro e w5 ⟨A9, c9, rfl, o9, r6, k6⟩
              have bw := (bx.head htl).keep (k6.mono fun b hb _ => hb.2)
              have b6 := (bx.cutA htl).keep (k6.mono fun b hb _ => hb.2)
              have k7 : Kp All w w5 := (k5.trans (Kp.alloc _ _)).since k6 (fun b hb => by omega)
              have z7 : wr.heap.size + 1 ≤ w5.heap.size := by have := k6.size; simpa using this
              go_wp2_with fail
              refine (same_yes _ _ _ _ _ _ _ _ _ _ _ o9.bs bw rfl).mono ?_
              rintro e w6 ⟨rfl, k8⟩
              have k9 := k7.trans k8
              have b9 := b6.keep k8.all
              have r9 := r6.kp k8 trivial (fun _ _ => trivial)
              have o10 := o9.all k8
              have z8 := k8.size
              have hlt9 := hid o10.lt
              clear o9 r6 b6 bw k7 k8 k6 CU CN H5 rx bx
              go_wp2
              go_loopw [20, 87] (fun _ q wr2 => ∃ j : Nat, j ≤ T ∧ q = .int .i64 j ∧ (∃ l', Ob wr2 (wr.heap.size + 1) A9 T c9 l') ∧ Kp (fun b => some b ≠ (Value.slice A9 T c9).ownBlock) w6 wr2) (fun _ q _ => T - (intOf q).toNat)
              case atStart => exact ⟨0, by omega, rfl, ⟨_, o10.base (by simp)⟩, Kp.refl _ _⟩
              case round =>
                obtain ⟨j, hj, rfl, ⟨l', ol⟩, kj⟩ := hrel
                by_cases hjl : j < T
                · obtain ⟨gg, rfl, hg1, hg2, hog⟩ := ol.addr (by omega)
                  have hog' := hid hog
                  clear hog
                  have hcj := ol.cellAt hjl
                  have hfj := ol.frozenAt j
                  obtain ⟨x, hx⟩ : ∃ x, x = l'.getD j 0 := ⟨_, rfl⟩
                  rw [← hx] at hcj
                  have hx2 := x.toNat_lt
                  clear hx
                  go_wp2
                  refine ⟨⟨j + 1, by omega, by go_num, ⟨_, ol.stored j _ _ (bv_mod _)⟩, kj.trans ((Kp.setCell wr ⟨gg, j, none⟩ _).mono fun b hb _ e => hb (by rw [hog'.out, e]))⟩, by simp [intOf]; omega⟩
                · have hout : ∀ b, (Value.slice A9 T c9).ownBlock = some b → wo.heap.size ≤ b ∧ b ≠ g := fun b hb => by have := hlt9.out b hb; simp at this; omega
                  have hout2 := hid hout
                  have b10 := b9.keep (kj.mono fun b hb _ e => by have := hout b e.symm; omega)
                  have r10 := r9.kp kj (fun e => by have := hout g e.symm; omega) (fun b hb e => by have := hout b e.symm; omega)
                  have k10 : Kp All w wr := k9.since kj (fun b hb e => by have := hout b e.symm; have := kko.size; omega)
                  have z10 : wo.heap.size ≤ wr.heap.size := by have := kj.size; omega
                  have hlen : ((l5.drop T).length : Nat) = n5 - T := by rw [List.length_drop, ← b5.len]
                  have cl := fun k => left_any (wr.drewN k) g _ (l5.drop T) (errOf E) (r10.kp (Kp.drewN (F := All) _ k) trivial (fun _ _ => trivial))
                  have ce := fun k => err_any (wr.drewN k) g _ (l5.drop T) (errOf E) (r10.kp (Kp.drewN (F := All) _ k) trivial (fun _ _ => trivial))
                  rw [hlen] at cl
                  have CL := hid cl
                  have CE := hid ce
                  have hidx : ∀ w, (Instr.index 58 (.agg #[.int .i64 0, .int .i64 2, .int .i64 7]) (.int .i64 E)).run Try.prog w = .ok (.int .i64 (errOf E)) w := by
                    intro w
                    rcases he2 with rfl | rfl | rfl <;> kernel_rfl
                  clear cl ce hlen hout
                  go_wp2
                  go_quiet (first | (go_at_call 31; exact quiet_left (CL.out _)) | (go_at_call 32; exact quiet_left (CE.out _)))
                  go_wp2
                  refine ⟨⟨i + 1, _, _, _, _, E, by omega, by go_num, rfl, rfl, he2, b10.keep (Kp.drewN _ _), r10.kp (Kp.drewN (F := All) _ _) trivial (fun _ _ => trivial), by omega, k10.trans (Kp.drewN _ _), z10⟩, by simp [intOf]; omega⟩
        · go_wp2
          go_ret
          exact ⟨rfl, k5⟩

theorem OctetTakes_open {H : Type} {enc : TypeId × Value → H} (W : World) {r : Reach} (base : Nat) (v0 v1 : Value) {d0 d1 : DataW H} {p0 p1 : List MemPlace}
    (hv0 : Value.okWide Try.prog W r base 22 v0) (hv1 : Value.okWide Try.prog W r base 41 v1)
    (h0 : DataW.Trod enc Try.prog W 0 (fun _ => true) true 22 v0 d0 p0) (h1 : DataW.Trod enc Try.prog W 0 (fun _ => true) true 41 v1 d1 p1) :
    Calls Try.prog 6 #[v0, v1] W fun e w' => e = .returned (.bool true) ∧ Kp All W w' := by
  obtain ⟨A1, n1, c1, l1, rfl, b1⟩ := open_bytes hv0 h0
  obtain ⟨A2, n2, c2, K, M, rfl, hc, hn, ha⟩ := open_asks hv1 h1
  exact takes_walk W A1 n1 c1 l1 b1 A2 n2 c2 K M hc hn ha
end Go.Proofs.Ythekhgpodopalaa
