/- The statement MergeHas. -/
import Derived.Test.YtghfjfgpiomdhaaMeG
namespace Go.Proofs.Ytghfjfgpiomdhaa
open Go.RowKit Go.ChangeShapes Go.WideShapes Go.ChangeAt
open Asn (pt row rb)
set_option linter.unusedVariables false
set_option linter.unusedSimpArgs false
--@use N

section
variable {P : Program} {ro : Option Nat} {ds : List Deferred} {B : Bk ro ds} {n : Nat} {w0 : World} {M : Nat → Prop} {k : List It} {l : List Oper}
theorem D_five {T : Slots} {H : List Asn} {L : Array Bool} {C : List Asn} (i j m q s : Nat) {oi oj om oq os : Oper} {Ei Ej Em Eq' Es : Value → List Asn → Prop} (hi : l[i]? = some oi) (hj : l[j]? = some oj) (hm : l[m]? = some om) (hq : l[q]? = some oq) (hs : l[s]? = some os) (ei : Ef P n w0 M T H oi Ei) (ej : Ef P n w0 M T H oj Ej) (em : Ef P n w0 M T H om Em) (eq' : Ef P n w0 M T H oq Eq') (es : Ef P n w0 M T H os Es)
    (h1 : ∀ v H', Ei v H' → Nx P B n w0 M l k L C i (tput oi.dst v T) H') (h2 : ∀ v H', Ej v H' → Nx P B n w0 M l k L C j (tput oj.dst v T) H') (h3 : ∀ v H', Em v H' → Nx P B n w0 M l k L C m (tput om.dst v T) H') (h4 : ∀ v H', Eq' v H' → Nx P B n w0 M l k L C q (tput oq.dst v T) H') (h5 : ∀ v H', Es v H' → Nx P B n w0 M l k L C s (tput os.dst v T) H')
    (hwi : wants l T oi.guard = some true) (hwj : wants l T oj.guard = some true) (hwm : wants l T om.guard = some true) (hwq : wants l T oq.guard = some true) (hws : wants l T os.guard = some true) (hdi : dok n oi.dst = true) (hdj : dok n oj.dst = true) (hdm : dok n om.dst = true) (hdq : dok n oq.dst = true) (hds : dok n os.dst = true) (hr : Region.ready .any l.toArray L = [i, j, m, q, s]) : RD P B n w0 M l k L C T H := by
  refine D_fin hr (by simp) fun r hr => ?_
  rcases List.mem_cons.1 hr with rfl | hr
  · exact ⟨oi, Ei, hi, hwi, hdi, ei, h1⟩
  rcases List.mem_cons.1 hr with rfl | hr
  · exact ⟨oj, Ej, hj, hwj, hdj, ej, h2⟩
  rcases List.mem_cons.1 hr with rfl | hr
  · exact ⟨om, Em, hm, hwm, hdm, em, h3⟩
  rcases List.mem_cons.1 hr with rfl | hr
  · exact ⟨oq, Eq', hq, hwq, hdq, eq', h4⟩
  obtain rfl : r = s := by simpa using hr
  exact ⟨os, Es, hs, hws, hds, es, h5⟩
end
theorem rd_list4 {w : World} {A1 A2 A3 A4 : Option Addr} {c1' c2' c3' c4' : Nat} {L1 L2 L3 L4 : List Rw} (h1 : Rd w All 2 A1 L1.length (cellsL rwc L1)) (h2 : Rd w All 2 A2 L2.length (cellsL rwc L2)) (h3 : Rd w All 2 A3 L3.length (cellsL rwc L3)) (h4 : Rd w All 2 A4 L4.length (cellsL rwc L4)) : ∀ x ∈ [(A1, c1', L1), (A2, c2', L2), (A3, c3', L3), (A4, c4', L4)], Rd w All 2 x.1 x.2.2.length (cellsL rwc x.2.2) := by simpa using ⟨h1, h2, h3, h4⟩
theorem side_ok {L : List Rw} (h : chkR L = true) (p : Str) : (sideOf L p).2.length ≤ 256 ∧ ((sideOf L p).1 = false → (sideOf L p).2 = []) := by
  cases hs : (sideOf L p).1
  · rw [side_norm L p hs]
    exact ⟨Nat.zero_le _, fun _ => rfl⟩
  · obtain ⟨x, hx, _, e⟩ := side_in hs
    rw [e]
    exact ⟨chkR_txt h x hx, fun h => (by cases h)⟩
theorem rdy_all {L1 L2 L3 : List Rw} (h : rdy L1 L2 L3 = true) : chkR L1 = true ∧ chkR L2 = true ∧ chkR L3 = true := by
  rw [rdy, Bool.and_eq_true, Bool.and_eq_true] at h
  exact h
theorem path_ok {L1 L2 L3 : List Rw} (h : rdy L1 L2 L3 = true) {p : Str} (hp : p ∈ pathsT L1 L2 L3) : pathB p = true := by
  obtain ⟨k1, k2, k3⟩ := rdy_all h
  rcases (pathsT_mem _ _ _ _).1 hp with ⟨x, hx, rfl⟩ | ⟨x, hx, rfl⟩ | ⟨x, hx, rfl⟩
  · exact (chkR_srt k1).2.2 x hx
  · exact (chkR_srt k2).2.2 x hx
  · exact (chkR_srt k3).2.2 x hx
theorem path_le {N : Nat} {L1 L2 L3 : List Rw} (h1 : ∀ x ∈ L1, x.1.length ≤ N) (h2 : ∀ x ∈ L2, x.1.length ≤ N) (h3 : ∀ x ∈ L3, x.1.length ≤ N) {p : Str} (hp : p ∈ pathsT L1 L2 L3) : p.length ≤ N := by
  rcases (pathsT_mem _ _ _ _).1 hp with ⟨x, hx, rfl⟩ | ⟨x, hx, rfl⟩ | ⟨x, hx, rfl⟩
  · exact h1 x hx
  · exact h2 x hx
  · exact h3 x hx
theorem sideI_one (k : Int) (L1 L2 L3 : List Rw) (p : Str) : ∃ L, (L = L1 ∨ L = L2 ∨ L = L3) ∧ sideI k (cnOf L1 L2 L3 p) = sideOf L p := by
  unfold sideI
  split
  · exact ⟨L1, .inl rfl, rfl⟩
  · split
    · exact ⟨L3, .inr (.inr rfl), rfl⟩
    · exact ⟨L2, .inr (.inl rfl), rfl⟩
theorem cnfs_srt (L1 L2 L3 : List Rw) : Srt (·.1) (cnfs L1 L2 L3) := by
  unfold cnfs allT
  refine List.Pairwise.filter _ ?_
  rw [List.pairwise_map]
  exact pathsT_srt L1 L2 L3
theorem takeC_srt (k : Int) (L1 L2 L3 : List Rw) : Srt (·.1) (takeC k (cnfs L1 L2 L3)) := by
  unfold Srt takeC
  rw [List.pairwise_map]
  exact cnfs_srt L1 L2 L3
theorem takeC_in {k : Int} {L1 L2 L3 : List Rw} {x : Ch} (h : x ∈ takeC k (cnfs L1 L2 L3)) : x.1 ∈ pathsT L1 L2 L3 ∧ x.2 = sideI k (cnOf L1 L2 L3 x.1) := by
  obtain ⟨c, hc, rfl⟩ := List.mem_map.1 h
  obtain ⟨h1, h2, _⟩ := cnfs_mem.1 hc
  refine ⟨h1, ?_⟩
  show ((sideI k c).1, (sideI k c).2) = sideI k (cnOf L1 L2 L3 c.1)
  rw [← h2]
theorem take_chk {k : Int} {L1 L2 L3 : List Rw} (h : rdy L1 L2 L3 = true) (hl : (cnfs L1 L2 L3).length ≤ 32) : chkC (takeC k (cnfs L1 L2 L3)) = true := by
  obtain ⟨k1, k2, k3⟩ := rdy_all h
  rw [chkC, Bool.and_eq_true, List.all_eq_true]
  refine ⟨fun x hx => ?_, srt_ris (by rw [takeC_len]; exact hl) (takeC_srt k L1 L2 L3) fun x hx => path_ok h (takeC_in hx).1⟩
  have e := (takeC_in hx).2
  obtain ⟨L, hL, e2⟩ := sideI_one k L1 L2 L3 x.1
  have hk : chkR L = true := by rcases hL with rfl | rfl | rfl <;> assumption
  obtain ⟨s1, s2⟩ := side_ok hk x.1
  rw [← e2, ← e] at s1 s2
  cases hb : x.2.1
  · have := s2 hb
    simp [badC, hb, this]
  · simp [badC, hb]
    omega
theorem fits_take (k : Int) (Q : List Cn) : fitsB Q (takeC k Q) = true := decide_eq_true (by simp [takeC])
/-- what is behind a merge by one of the three -/
def hasT (b o t x : Sd) : Bool × Bool × Bool × Bool × Bool := (decide (x = b), decide (x = o), decide (x = t), decide (b = o), decide (b = t))
def HasT (r : Bool × Bool × Bool × Bool × Bool) : Prop := r = (true, true, true, true, true) ∨ r = (false, false, true, true, false) ∨ r = (false, true, false, false, true) ∨ r = (false, true, true, false, false) ∨ r = (true, false, false, false, false) ∨ r = (false, true, false, false, false) ∨ r = (false, false, true, false, false)
theorem has_res {C : List Ch} {k : Int} {p : Str} {b o t : Sd} (h : (settle_ (p, b, o, t)).2 = false → fstK (·.1) C p = some (p, (sideI k (p, b, o, t)).1, (sideI k (p, b, o, t)).2)) : HasT (hasT b o t (resC C (p, b, o, t))) ∧ (resC C (p, b, o, t) = b ∨ resC C (p, b, o, t) = o ∨ resC C (p, b, o, t) = t) := by
  have hs : settle_ (p, b, o, t) = if o = t ∨ b = t then (o, true) else if b = o then (t, true) else (default, false) := rfl
  have hv : ∀ v, settle_ (p, b, o, t) = (v, true) → resC C (p, b, o, t) = v := fun v e => by
    unfold resC
    rw [e]
    rfl
  by_cases h1 : b = o
  · by_cases h2 : b = t
    · rw [hv o (by rw [hs, if_pos (.inr h2)])]
      subst h1
      subst h2
      unfold hasT HasT
      simp
    · have h3 : ¬ o = t := fun e => h2 (h1.trans e)
      rw [hv t (by rw [hs, if_neg (fun e => Or.elim e h3 h2), if_pos h1])]
      subst h1
      have h4 : ¬ t = b := fun e => h2 e.symm
      unfold hasT HasT
      simp [h2, h4]
  · by_cases h2 : b = t
    · rw [hv o (by rw [hs, if_pos (.inr h2)])]
      subst h2
      have h4 : ¬ o = b := fun e => h1 e.symm
      unfold hasT HasT
      simp [h1, h4]
    · by_cases h3 : o = t
      · rw [hv o (by rw [hs, if_pos (.inl h3)])]
        subst h3
        have h4 : ¬ o = b := fun e => h1 e.symm
        unfold hasT HasT
        simp [h1, h4]
      · have h0 : (settle_ (p, b, o, t)).2 = false := by rw [hs, if_neg (fun e => Or.elim e h3 h2), if_neg h1]
        have hr : resC C (p, b, o, t) = sideI k (p, b, o, t) := by
          unfold resC
          rw [h0, h h0]
          rfl
        rw [hr]
        have h4 : ¬ o = b := fun e => h1 e.symm
        have h5 : ¬ t = b := fun e => h2 e.symm
        have h6 : ¬ t = o := fun e => h3 e.symm
        unfold sideI hasT HasT
        split
        · simp [h1, h2]
        · split
          · simp [h1, h2, h5, h6]
          · simp [h1, h2, h3, h4]
theorem has_all {k : Int} {L1 L2 L3 : List Rw} (p : Str) : HasT (hasT (sideOf L1 p) (sideOf L2 p) (sideOf L3 p) (sideOf (mgU L1 L2 L3 (takeC k (cnfs L1 L2 L3))) p)) := by
  obtain ⟨C, hC⟩ : ∃ C, takeC k (cnfs L1 L2 L3) = C := ⟨_, rfl⟩
  have hm := fun x => mgU_mem (L1 := L1) (L2 := L2) (L3 := L3) (C := C) (x := x)
  by_cases hp : p ∈ pathsT L1 L2 L3
  · have h := has_res (C := C) (k := k) (p := p) (b := sideOf L1 p) (o := sideOf L2 p) (t := sideOf L3 p) fun h0 => by
      rw [← hC]
      refine (fst_mem (takeC_srt k L1 L2 L3)).2 ⟨?_, rfl⟩
      exact List.mem_map.2 ⟨cnOf L1 L2 L3 p, cnfs_mem.2 ⟨hp, rfl, h0⟩, rfl⟩
    have e : sideOf (mgU L1 L2 L3 C) p = resC C (p, sideOf L1 p, sideOf L2 p, sideOf L3 p) := by
      have hn : (resC C (p, sideOf L1 p, sideOf L2 p, sideOf L3 p)).1 = false → resC C (p, sideOf L1 p, sideOf L2 p, sideOf L3 p) = default := fun h0 => by
        rcases h.2 with e | e | e <;> rw [e] at h0 ⊢ <;> exact side_norm _ _ h0
      cases hq : (resC C (p, sideOf L1 p, sideOf L2 p, sideOf L3 p)).1
      · rw [hn hq]
        refine side_out fun x hx e => ?_
        have := ((hm x).1 hx).2
        rw [e] at this
        have e2 : (resC C (cnOf L1 L2 L3 p)).1 = true := by rw [this]
        rw [show resC C (cnOf L1 L2 L3 p) = resC C (p, sideOf L1 p, sideOf L2 p, sideOf L3 p) from rfl, hq] at e2
        cases e2
      · have e3 : resC C (p, sideOf L1 p, sideOf L2 p, sideOf L3 p) = (true, (resC C (p, sideOf L1 p, sideOf L2 p, sideOf L3 p)).2) := Prod.ext hq rfl
        rw [e3]
        exact (side_mem (mgU_srt L1 L2 L3 C)).2 ((hm (p, (resC C (p, sideOf L1 p, sideOf L2 p, sideOf L3 p)).2)).2 ⟨hp, e3⟩)
    rw [hC, e]
    exact h.1
  · have n1 := fun x hx e => hp ((pathsT_mem L1 L2 L3 p).2 (.inl ⟨x, hx, e⟩))
    have n2 := fun x hx e => hp ((pathsT_mem L1 L2 L3 p).2 (.inr (.inl ⟨x, hx, e⟩)))
    have n3 := fun x hx e => hp ((pathsT_mem L1 L2 L3 p).2 (.inr (.inr ⟨x, hx, e⟩)))
    have n4 : ∀ x ∈ mgU L1 L2 L3 C, x.1 ≠ p := fun x hx e => hp (e ▸ ((hm x).1 hx).1)
    rw [hC, side_out n1, side_out n2, side_out n3, side_out n4]
    unfold hasT HasT
    simp
theorem mg_chk {k : Int} {L1 L2 L3 : List Rw} (h : rdy L1 L2 L3 = true) (hl : (cnfs L1 L2 L3).length ≤ 32) (hu : (mgU L1 L2 L3 (takeC k (cnfs L1 L2 L3))).length ≤ 32) : chkR (mgU L1 L2 L3 (takeC k (cnfs L1 L2 L3))) = true := by
  obtain ⟨k1, k2, k3⟩ := rdy_all h
  rw [chkR, Bool.and_eq_true, List.all_eq_true]
  refine ⟨fun x hx => ?_, srt_ris hu (mgU_srt _ _ _ _) fun x hx => path_ok h (mgU_mem.1 hx).1⟩
  have e := has_res (C := takeC k (cnfs L1 L2 L3)) (k := k) (p := x.1) (b := sideOf L1 x.1) (o := sideOf L2 x.1) (t := sideOf L3 x.1) fun h0 => by
    refine (fst_mem (takeC_srt k L1 L2 L3)).2 ⟨?_, rfl⟩
    exact List.mem_map.2 ⟨cnOf L1 L2 L3 x.1, cnfs_mem.2 ⟨(mgU_mem.1 hx).1, rfl, h0⟩, rfl⟩
  have e2 : resC (takeC k (cnfs L1 L2 L3)) (x.1, sideOf L1 x.1, sideOf L2 x.1, sideOf L3 x.1) = (true, x.2) := (mgU_mem.1 hx).2
  have hx2 : x.2.length ≤ 256 := by
    rcases e.2 with e | e | e <;> rw [e2] at e
    · have := (side_ok k1 x.1).1; rwa [← e] at this
    · have := (side_ok k2 x.1).1; rwa [← e] at this
    · have := (side_ok k3 x.1).1; rwa [← e] at this
  simp [badR]
  omega
set_option maxRecDepth 100000 in
set_option maxHeartbeats 4000000 in
theorem has7_any (w : World) (A1 : Option Addr) (c1' : Nat) (L1 : List Rw) (h1 : Rd w All 2 A1 L1.length (cellsL rwc L1)) (A2 : Option Addr) (c2' : Nat) (L2 : List Rw) (h2 : Rd w All 2 A2 L2.length (cellsL rwc L2)) (A3 : Option Addr) (c3' : Nat) (L3 : List Rw) (h3 : Rd w All 2 A3 L3.length (cellsL rwc L3)) (k : Int) :
    Gives Try.prog 6 [.agg #[.slice A1 L1.length c1', .slice A2 L2.length c2', .slice A3 L3.length c3'], zi k] [] w (X := Unit) (fun _ => .bool true) (fun _ => True) (fun _ => []) := by
  refine gives_S Try.func6 rfl Try.ntmps6 Try.results6 (by simp) (St.enter w) (fun B hB => ?_)
  focus (refine S_seq rfl ?_; refine S_region rfl rfl ?_; (refine R_eff (E_boxa (cs := [.slice A1 L1.length c1', .slice A2 L2.length c2', .slice A3 L3.length c3']) rfl) ?_ rfl rfl; rintro _ _ ⟨b2, rfl, rfl⟩); refine R_p rfl ?_ rfl rfl; refine R_nil ?_; refine S_seq rfl ?_; refine S_seq rfl ?_; refine S_region rfl rfl ?_; (refine R_eff (E_hv0 (f := 9) ⟨_, Try.func9, rfl, by kernel_rfl⟩ (fun w hS => wakes7_any w) rfl rfl (fun _ => rfl)) ?_ rfl rfl; rintro _ _ ⟨_, rfl, _, rfl⟩); refine R_take (T_not rfl) ?_ rfl rfl; refine R_nil ?_; refine S_false rfl rfl ?_; refine S_skip rfl ?_; refine S_seq rfl ?_; refine S_seq rfl ?_; refine S_region rfl rfl ?_; refine R_p rfl ?_ rfl rfl; refine R_take (T_loads (ds := [.slice A1 L1.length c1']) rfl rfl rfl rfl rfl) ?_ rfl rfl; refine R_p rfl ?_ rfl rfl; refine R_take (T_loads (ds := [.slice A2 L2.length c2']) rfl rfl rfl rfl rfl) ?_ rfl rfl; refine R_p rfl ?_ rfl rfl; refine R_take (T_loads (ds := [.slice A3 L3.length c3']) rfl rfl rfl rfl rfl) ?_ rfl rfl; (refine R_eff (E_litS (vs := [.agg #[.slice A1 L1.length c1'], .agg #[.slice A2 L2.length c2'], .agg #[.slice A3 L3.length c3']]) (size := 1) (ds := [.slice A1 L1.length c1', .slice A2 L2.length c2', .slice A3 L3.length c3']) rfl rfl rfl rfl rfl rfl (by simp [vcells]) rfl (by omega)) ?_ rfl rfl; rintro _ _ ⟨bl, rfl, rfl⟩); ((refine R_eff (E_hv0 (f := 10) ⟨_, Try.func10, rfl, by kernel_rfl⟩ (fun w hS => large7_any w (some ⟨bl, 0, none⟩) 3 [(A1, c1', L1), (A2, c2', L2), (A3, c3', L3)] ((Srd.pt (g := bl) (n := 3) (ds := [.slice A1 L1.length c1', .slice A2 L2.length c2', .slice A3 L3.length c3']) rfl (fun j u hj => by rw [Nat.zero_add]; exact hj)).rd w hS) (by simp) (rd_list3 ((Srd.old h1 (fun k _ => noOwns k)).rd w hS) ((Srd.old h2 (fun k _ => noOwns k)).rd w hS) ((Srd.old h3 (fun k _ => noOwns k)).rd w hS))) rfl rfl (fun _ => rfl)) ?_ rfl rfl; rintro _ _ ⟨bg, rfl, hbg, rfl⟩); cases bg); refine R_nil ?_; refine S_false rfl rfl ?_; refine S_skip rfl ?_; refine S_seq rfl ?_; refine S_region rfl rfl ?_; refine R_p rfl ?_ rfl rfl; refine R_take (T_loads (ds := [.slice A1 L1.length c1']) rfl rfl rfl rfl rfl) ?_ rfl rfl; refine R_p rfl ?_ rfl rfl; refine R_take (T_loads (ds := [.slice A2 L2.length c2']) rfl rfl rfl rfl rfl) ?_ rfl rfl; refine R_p rfl ?_ rfl rfl; refine R_take (T_loads (ds := [.slice A3 L3.length c3']) rfl rfl rfl rfl rfl) ?_ rfl rfl; refine R_p rfl ?_ rfl rfl; rotate_left; refine R_nil ?_; refine S_true rfl rfl ?_; refine S_seq rfl ?_; refine S_region rfl rfl ?_; refine R_p rfl ?_ rfl rfl; refine R_nil ?_; rotate_left)
  rotate_left
  · exact hB _ _ _ _ _ rfl rfl fun w' hS => ⟨(), rfl, trivial, hS.sublist (List.nil_sublist _)⟩
  have s1 := hbg rfl (A1, c1', L1) (by simp)
  have s1 : smallR L1 := s1
  have hp1 := smallR_pth s1
  have hn1 := s1.1
  have s2 := hbg rfl (A2, c2', L2) (by simp)
  have s2 : smallR L2 := s2
  have hp2 := smallR_pth s2
  have hn2 := s2.1
  have s3 := hbg rfl (A3, c3', L3) (by simp)
  have s3 : smallR L3 := s3
  have hp3 := smallR_pth s3
  have hn3 := s3.1

  have hcl := cnfs_len L1 L2 L3
  obtain ⟨R, hR⟩ : ∃ R, tkR k L1 L2 L3 = R := ⟨_, rfl⟩
  obtain ⟨e, hE⟩ : ∃ e, tkE k L1 L2 L3 = e := ⟨_, rfl⟩
  cases hr : rdy L1 L2 L3
  · have e1 : e = 150 := by rw [← hE, tkE, hr]; rfl
    have e2 : R.length = 0 := by rw [← hR, tkR, hr]; rfl
    focus (((refine R_eff (E_hv1 (f := 23) ⟨_, Try.func23, rfl, by kernel_rfl⟩ (fun w hS => take_any w A1 A2 A3 c1' c2' c3' L1 L2 L3 ((Srd.old h1 (fun k _ => noOwns k)).rd w hS) ((Srd.old h2 (fun k _ => noOwns k)).rd w hS) ((Srd.old h3 (fun k _ => noOwns k)).rd w hS) (by omega) (by omega) (by omega) hp1 hp2 hp3 k) rfl rfl (fun _ => rfl)) ?_ rfl rfl; rintro _ _ ⟨⟨A8, c8⟩, rfl, _, rfl⟩); rw [hR, hE]); refine R_p rfl ?_ rfl rfl; refine R_p rfl ?_ rfl rfl; refine R_p rfl ?_ rfl rfl; (refine R_eff (E_alloca rfl ed_alloc) ?_ rfl rfl; rintro _ _ ⟨b7, rfl, rfl⟩); (refine R_eff0 (E_storew (ds := [.slice A8 R.length c8]) (cs := [.slice none 0 0]) rfl rfl rfl rfl (sl_one _ _ _) rfl) ?_ rfl; rintro _ _ rfl); refine R_p rfl ?_ rfl rfl; refine R_nil ?_; refine S_seq rfl ?_; refine S_seq rfl ?_; refine S_region rfl rfl ?_; refine R_p rfl ?_ rfl rfl; refine R_take (T_decT rfl (by omega)) ?_ rfl rfl; refine R_nil ?_; refine S_true rfl rfl ?_; refine S_seq rfl ?_; refine S_region rfl rfl ?_; refine R_p rfl ?_ rfl rfl; refine R_take (T_load rfl rfl rfl (by first | rfl | assumption)) ?_ rfl rfl; refine R_p rfl ?_ rfl rfl; refine R_take (T_decT rfl (by omega)) ?_ rfl rfl; refine R_take (T_decT rfl (by omega)) ?_ rfl rfl; refine R_nil ?_)
    exact hB _ _ _ _ _ rfl rfl fun w' hS => ⟨(), rfl, trivial, hS.sublist (List.nil_sublist _)⟩
  rcases Nat.lt_or_ge 32 (cnfs L1 L2 L3).length with hq | hq
  · have e1 : e = 151 := by rw [← hE, tkE, hr, if_pos rfl, if_neg (by omega)]
    have e2 : R.length = 0 := by rw [← hR, tkR, hr, if_pos rfl, if_neg (by omega)]; rfl
    focus (((refine R_eff (E_hv1 (f := 23) ⟨_, Try.func23, rfl, by kernel_rfl⟩ (fun w hS => take_any w A1 A2 A3 c1' c2' c3' L1 L2 L3 ((Srd.old h1 (fun k _ => noOwns k)).rd w hS) ((Srd.old h2 (fun k _ => noOwns k)).rd w hS) ((Srd.old h3 (fun k _ => noOwns k)).rd w hS) (by omega) (by omega) (by omega) hp1 hp2 hp3 k) rfl rfl (fun _ => rfl)) ?_ rfl rfl; rintro _ _ ⟨⟨A8, c8⟩, rfl, _, rfl⟩); rw [hR, hE]); refine R_p rfl ?_ rfl rfl; refine R_p rfl ?_ rfl rfl; refine R_p rfl ?_ rfl rfl; (refine R_eff (E_alloca rfl ed_alloc) ?_ rfl rfl; rintro _ _ ⟨b7, rfl, rfl⟩); (refine R_eff0 (E_storew (ds := [.slice A8 R.length c8]) (cs := [.slice none 0 0]) rfl rfl rfl rfl (sl_one _ _ _) rfl) ?_ rfl; rintro _ _ rfl); refine R_p rfl ?_ rfl rfl; refine R_nil ?_; refine S_seq rfl ?_; refine S_seq rfl ?_; refine S_region rfl rfl ?_; refine R_p rfl ?_ rfl rfl; refine R_take (T_decT rfl (by omega)) ?_ rfl rfl; refine R_nil ?_; refine S_true rfl rfl ?_; refine S_seq rfl ?_; refine S_region rfl rfl ?_; refine R_p rfl ?_ rfl rfl; refine R_take (T_load rfl rfl rfl (by first | rfl | assumption)) ?_ rfl rfl; refine R_p rfl ?_ rfl rfl; refine R_take (T_decT rfl (by omega)) ?_ rfl rfl; refine R_take (T_decT rfl (by omega)) ?_ rfl rfl; refine R_nil ?_)
    exact hB _ _ _ _ _ rfl rfl fun w' hS => ⟨(), rfl, trivial, hS.sublist (List.nil_sublist _)⟩
  have e1 : e = 0 := by rw [← hE, tkE, hr, if_pos rfl, if_pos hq]
  have e2 : R = takeC k (cnfs L1 L2 L3) := by rw [← hR, tkR, hr, if_pos rfl, if_pos hq]
  have hRl : R.length ≤ 32 := by rw [e2, takeC_len]; exact hq
  have hpR : ∀ x ∈ R, x.1.length ≤ 100000 := fun x hx => path_le hp1 hp2 hp3 (takeC_in (e2 ▸ hx)).1
  obtain ⟨U, hU⟩ : ∃ U, mgU L1 L2 L3 R = U := ⟨_, rfl⟩
  have hUl : U.length ≤ L1.length + L2.length + L3.length := by
    rw [← hU, mgU]
    exact Nat.le_trans (List.length_filterMap_le _ _) (allT_len L1 L2 L3)
  obtain ⟨M, hM⟩ : ∃ M, mgR L1 L2 L3 R = M := ⟨_, rfl⟩
  obtain ⟨f, hF⟩ : ∃ f, mgE L1 L2 L3 R = f := ⟨_, rfl⟩
  have kc : chkC R = true := by rw [e2]; exact take_chk hr hq
  have kf : fitsB (cnfs L1 L2 L3) R = true := by rw [e2]; exact fits_take k _
  rcases Nat.lt_or_ge 32 U.length with hfl | hfl
  · have f1 : f = 6 := by rw [← hF, mgE, hr, kc, kf, hU, if_pos rfl, if_pos rfl, if_pos rfl, if_neg (by omega)]
    have f2 : M.length = 0 := by rw [← hM, mgR, hr, kc, kf, hU, if_pos rfl, if_pos rfl, if_pos rfl, if_neg (by omega)]; rfl
    focus (((refine R_eff (E_hv1 (f := 23) ⟨_, Try.func23, rfl, by kernel_rfl⟩ (fun w hS => take_any w A1 A2 A3 c1' c2' c3' L1 L2 L3 ((Srd.old h1 (fun k _ => noOwns k)).rd w hS) ((Srd.old h2 (fun k _ => noOwns k)).rd w hS) ((Srd.old h3 (fun k _ => noOwns k)).rd w hS) (by omega) (by omega) (by omega) hp1 hp2 hp3 k) rfl rfl (fun _ => rfl)) ?_ rfl rfl; rintro _ _ ⟨⟨A8, c8⟩, rfl, _, rfl⟩); rw [hR, hE]); refine R_p rfl ?_ rfl rfl; refine R_p rfl ?_ rfl rfl; refine R_p rfl ?_ rfl rfl; (refine R_eff (E_alloca rfl ed_alloc) ?_ rfl rfl; rintro _ _ ⟨b7, rfl, rfl⟩); (refine R_eff0 (E_storew (ds := [.slice A8 R.length c8]) (cs := [.slice none 0 0]) rfl rfl rfl rfl (sl_one _ _ _) rfl) ?_ rfl; rintro _ _ rfl); refine R_p rfl ?_ rfl rfl; refine R_nil ?_; refine S_seq rfl ?_; refine S_seq rfl ?_; refine S_region rfl rfl ?_; refine R_p rfl ?_ rfl rfl; refine R_take (T_decF rfl (by omega)) ?_ rfl rfl; refine R_nil ?_; refine S_false rfl rfl ?_; refine S_skip rfl ?_; refine S_seq rfl ?_; refine S_region rfl rfl ?_; refine R_p rfl ?_ rfl rfl; refine R_take (T_loads (ds := [.slice A1 L1.length c1']) rfl rfl rfl rfl rfl) ?_ rfl rfl; refine R_p rfl ?_ rfl rfl; refine R_take (T_loads (ds := [.slice A2 L2.length c2']) rfl rfl rfl rfl rfl) ?_ rfl rfl; refine R_p rfl ?_ rfl rfl; refine R_take (T_loads (ds := [.slice A3 L3.length c3']) rfl rfl rfl rfl rfl) ?_ rfl rfl; refine R_take (T_loads (ds := [.slice A8 R.length c8]) rfl rfl rfl rfl rfl) ?_ rfl rfl; ((refine R_eff (E_hv1 (f := 13) ⟨_, Try.func13, rfl, by kernel_rfl⟩ (fun w hS => merge_any w A1 A2 A3 c1' c2' c3' L1 L2 L3 ((Srd.old h1 (fun k _ => noOwns k)).rd w hS) ((Srd.old h2 (fun k _ => noOwns k)).rd w hS) ((Srd.old h3 (fun k _ => noOwns k)).rd w hS) (by omega) (by omega) (by omega) hp1 hp2 hp3 A8 c8 R ((Srd.row (A := A8) (n := R.length) (c := c8)).rd w hS) (by omega) hpR) rfl rfl (fun _ => rfl)) ?_ rfl rfl; rintro _ _ ⟨⟨A9, c9⟩, rfl, _, rfl⟩); rw [hM, hF]); refine R_p rfl ?_ rfl rfl; refine R_p rfl ?_ rfl rfl; refine R_p rfl ?_ rfl rfl; (refine R_eff (E_alloca rfl ed_alloc) ?_ rfl rfl; rintro _ _ ⟨b7, rfl, rfl⟩); (refine R_eff0 (E_storew (ds := [.slice A9 M.length c9]) (cs := [.slice none 0 0]) rfl rfl rfl rfl (sl_one _ _ _) rfl) ?_ rfl; rintro _ _ rfl); refine R_p rfl ?_ rfl rfl; refine R_nil ?_; refine S_seq rfl ?_; refine S_seq rfl ?_; refine S_region rfl rfl ?_; refine R_p rfl ?_ rfl rfl; refine R_take (T_decT rfl (by omega)) ?_ rfl rfl; refine R_nil ?_; refine S_true rfl rfl ?_; refine S_seq rfl ?_; refine S_region rfl rfl ?_; refine R_p rfl ?_ rfl rfl; refine R_take (T_decT rfl (by omega)) ?_ rfl rfl; refine R_take (T_decT rfl (by omega)) ?_ rfl rfl; refine R_p rfl ?_ rfl rfl; refine R_take (T_load rfl rfl rfl (by first | rfl | assumption)) ?_ rfl rfl; refine R_p rfl ?_ rfl rfl; refine R_take (T_decT rfl (by omega)) ?_ rfl rfl; refine R_take (T_decT rfl (by omega)) ?_ rfl rfl; refine R_take (T_decT rfl (by omega)) ?_ rfl rfl; refine R_nil ?_)
    exact hB _ _ _ _ _ rfl rfl fun w' hS => ⟨(), rfl, trivial, hS.sublist (List.nil_sublist _)⟩
  have f1 : f = 0 := by rw [← hF, mgE, hr, kc, kf, hU, if_pos rfl, if_pos rfl, if_pos rfl, if_pos (by omega)]
  have f2 : M = U := by rw [← hM, mgR, hr, kc, kf, hU, if_pos rfl, if_pos rfl, if_pos rfl, if_pos (by omega)]
  subst f2
  have hck : chkR M = true := by rw [← hU, e2]; exact mg_chk hr hq (by rw [← e2, hU]; exact hfl)
  have hpU : ∀ x ∈ M, x.1.length ≤ 100000 := fun x hx => path_le hp1 hp2 hp3 (mgU_mem.1 (hU ▸ hx)).1
  have hT := fun p => has_all (k := k) (L1 := L1) (L2 := L2) (L3 := L3) p
  rw [← e2, hU] at hT
  obtain ⟨P, hP⟩ : ∃ P, (∀ A9 c9, pathsP [(A1, c1', L1), (A2, c2', L2), (A3, c3', L3), (A9, c9, M)] = P) := ⟨pathsP [(A1, c1', L1), (A2, c2', L2), (A3, c3', L3), (none, 0, M)], fun _ _ => rfl⟩
  have hPl : P.length ≤ 1000 := by
    rw [← hP none 0]
    refine Nat.le_trans (pathsP_len _) ?_
    simp [keysM]
    omega
  focus (((refine R_eff (E_hv1 (f := 23) ⟨_, Try.func23, rfl, by kernel_rfl⟩ (fun w hS => take_any w A1 A2 A3 c1' c2' c3' L1 L2 L3 ((Srd.old h1 (fun k _ => noOwns k)).rd w hS) ((Srd.old h2 (fun k _ => noOwns k)).rd w hS) ((Srd.old h3 (fun k _ => noOwns k)).rd w hS) (by omega) (by omega) (by omega) hp1 hp2 hp3 k) rfl rfl (fun _ => rfl)) ?_ rfl rfl; rintro _ _ ⟨⟨A8, c8⟩, rfl, _, rfl⟩); rw [hR, hE]); refine R_p rfl ?_ rfl rfl; refine R_p rfl ?_ rfl rfl; refine R_p rfl ?_ rfl rfl; (refine R_eff (E_alloca rfl ed_alloc) ?_ rfl rfl; rintro _ _ ⟨b7, rfl, rfl⟩); (refine R_eff0 (E_storew (ds := [.slice A8 R.length c8]) (cs := [.slice none 0 0]) rfl rfl rfl rfl (sl_one _ _ _) rfl) ?_ rfl; rintro _ _ rfl); refine R_p rfl ?_ rfl rfl; refine R_nil ?_; refine S_seq rfl ?_; refine S_seq rfl ?_; refine S_region rfl rfl ?_; refine R_p rfl ?_ rfl rfl; refine R_take (T_decF rfl (by first | omega | decide)) ?_ rfl rfl; refine R_nil ?_; refine S_false rfl rfl ?_; refine S_skip rfl ?_; refine S_seq rfl ?_; refine S_region rfl rfl ?_; refine R_p rfl ?_ rfl rfl; refine R_take (T_loads (ds := [.slice A1 L1.length c1']) rfl rfl rfl rfl rfl) ?_ rfl rfl; refine R_p rfl ?_ rfl rfl; refine R_take (T_loads (ds := [.slice A2 L2.length c2']) rfl rfl rfl rfl rfl) ?_ rfl rfl; refine R_p rfl ?_ rfl rfl; refine R_take (T_loads (ds := [.slice A3 L3.length c3']) rfl rfl rfl rfl rfl) ?_ rfl rfl; refine R_take (T_loads (ds := [.slice A8 R.length c8]) rfl rfl rfl rfl rfl) ?_ rfl rfl; ((refine R_eff (E_hv1 (f := 13) ⟨_, Try.func13, rfl, by kernel_rfl⟩ (fun w hS => merge_any w A1 A2 A3 c1' c2' c3' L1 L2 L3 ((Srd.old h1 (fun k _ => noOwns k)).rd w hS) ((Srd.old h2 (fun k _ => noOwns k)).rd w hS) ((Srd.old h3 (fun k _ => noOwns k)).rd w hS) (by omega) (by omega) (by omega) hp1 hp2 hp3 A8 c8 R ((Srd.row (A := A8) (n := R.length) (c := c8)).rd w hS) (by omega) hpR) rfl rfl (fun _ => rfl)) ?_ rfl rfl; rintro _ _ ⟨⟨A9, c9⟩, rfl, _, rfl⟩); rw [hM, hF]); refine R_p rfl ?_ rfl rfl; refine R_p rfl ?_ rfl rfl; refine R_p rfl ?_ rfl rfl; (refine R_eff (E_alloca rfl ed_alloc) ?_ rfl rfl; rintro _ _ ⟨b7, rfl, rfl⟩); (refine R_eff0 (E_storew (ds := [.slice A9 M.length c9]) (cs := [.slice none 0 0]) rfl rfl rfl rfl (sl_one _ _ _) rfl) ?_ rfl; rintro _ _ rfl); refine R_p rfl ?_ rfl rfl; refine R_nil ?_; refine S_seq rfl ?_; refine S_seq rfl ?_; refine S_region rfl rfl ?_; refine R_p rfl ?_ rfl rfl; refine R_take (T_decF rfl (by first | omega | decide)) ?_ rfl rfl; refine R_nil ?_; refine S_false rfl rfl ?_; refine S_skip rfl ?_; refine S_seq rfl ?_; refine S_seq rfl ?_; refine S_region rfl rfl ?_; refine R_take (T_loads (ds := [.slice A9 M.length c9]) rfl rfl rfl rfl rfl) ?_ rfl rfl; (refine R_eff (E_chkRW (L := M) (r := true) (A := A9) (m := M.length) (c := c9) rfl (Srd.row (n := M.length) (c := c9)) (by omega) hpU hck) ?_ rfl rfl; rintro _ _ ⟨rfl, rfl⟩); refine R_take (T_decF rfl (by first | omega | decide)) ?_ rfl rfl; refine R_nil ?_; refine S_false rfl rfl ?_; refine S_skip rfl ?_; refine S_seq rfl ?_; refine S_region rfl rfl ?_; refine R_p rfl ?_ rfl rfl; refine R_nil ?_; refine S_seq rfl ?_; refine S_seq rfl ?_; refine S_region rfl rfl ?_; refine R_p rfl ?_ rfl rfl; refine R_take (T_loads (ds := [.slice A1 L1.length c1']) rfl rfl rfl rfl rfl) ?_ rfl rfl; refine R_p rfl ?_ rfl rfl; refine R_take (T_loads (ds := [.slice A2 L2.length c2']) rfl rfl rfl rfl rfl) ?_ rfl rfl; refine R_p rfl ?_ rfl rfl; refine R_take (T_loads (ds := [.slice A3 L3.length c3']) rfl rfl rfl rfl rfl) ?_ rfl rfl; refine R_take (T_loads (ds := [.slice A9 M.length c9]) rfl rfl rfl rfl rfl) ?_ rfl rfl; (refine R_eff (E_litS (vs := [.agg #[.slice A1 L1.length c1'], .agg #[.slice A2 L2.length c2'], .agg #[.slice A3 L3.length c3'], .agg #[.slice A9 M.length c9]]) (size := 1) (ds := [.slice A1 L1.length c1', .slice A2 L2.length c2', .slice A3 L3.length c3', .slice A9 M.length c9]) rfl rfl rfl rfl rfl rfl (by simp [vcells]) rfl (by omega)) ?_ rfl rfl; rintro _ _ ⟨bq, rfl, rfl⟩); ((refine R_eff (E_hv1 (f := 29) ⟨_, Try.func29, rfl, by kernel_rfl⟩ (fun w hS => paths_any w (some ⟨bq, 0, none⟩) 4 4 [(A1, c1', L1), (A2, c2', L2), (A3, c3', L3), (A9, c9, M)] ((Srd.pt (g := bq) (n := 4) (ds := [.slice A1 L1.length c1', .slice A2 L2.length c2', .slice A3 L3.length c3', .slice A9 M.length c9]) rfl (fun j u hj => by rw [Nat.zero_add]; exact hj)).rd w hS) (rd_list4 ((Srd.old h1 (fun k _ => noOwns k)).rd w hS) ((Srd.old h2 (fun k _ => noOwns k)).rd w hS) ((Srd.old h3 (fun k _ => noOwns k)).rd w hS) ((Srd.row (A := A9) (n := M.length) (c := c9)).rd w hS)) (by omega) (by simp [keysM]; omega)) rfl rfl (fun _ => rfl)) ?_ rfl rfl; rintro _ _ ⟨⟨A10, c10⟩, rfl, _, rfl⟩); rw [hP A9 c9]); refine R_p rfl ?_ rfl rfl; refine R_p rfl ?_ rfl rfl; refine R_nil ?_; refine S_block rfl ?_)
  refine RS_row A10 P.length c10 fun _ _ hne10 _ => ?_
  refine S_loop (X := Nat) (fun j => [(2, .pointer (some ⟨b2, 0, none⟩)), (7, .pointer (some ⟨b7, 0, none⟩)), (8, .func (.func 27) #[] #[]), (74, .slice A10 P.length c10), (75, .int .i64 (P.length : Int)), (76, .int .i64 (j : Int))]) (fun _ => [row 9 1 A10 P.length c10 (P.map sv), pt b7 24 [.slice A9 M.length c9], row 70 2 A9 M.length c9 (cellsL rwc M), pt b2 26 [.slice A1 L1.length c1', .slice A2 L2.length c2', .slice A3 L3.length c3']]) (fun j => j ≤ P.length) (fun j => P.length - j) rfl 0 (Nat.zero_le _) (Sub.cons rfl (Sub.cons rfl (Sub.cons rfl (Sub.cons rfl (Sub.cons rfl (Sub.cons rfl Sub.nil)))))) sub_st ?_
  rintro j hj J hJ
  rcases Nat.lt_or_ge j P.length with hjl | hjl
  · have hne10 := hne10 (by omega)
    have hat := fun x (h : P.getD j [] = x) => sv_at hjl h
    obtain ⟨p, hpj⟩ : ∃ p, P.getD j [] = p := ⟨_, rfl⟩
    have hat := hat p hpj
    have hT := hT p
    obtain ⟨b, hb⟩ : ∃ b, sideOf L1 p = b := ⟨_, rfl⟩
    obtain ⟨o, ho⟩ : ∃ b, sideOf L2 p = b := ⟨_, rfl⟩
    obtain ⟨t, ht⟩ : ∃ b, sideOf L3 p = b := ⟨_, rfl⟩
    obtain ⟨z, hz⟩ : ∃ b, sideOf M p = b := ⟨_, rfl⟩
    rw [hb, ho, ht, hz] at hT
    focus (refine S_seq rfl ?_; refine S_region rfl rfl ?_; refine R_take (T_decT rfl (by omega)) ?_ rfl rfl; refine R_nil ?_; refine S_seq rfl ?_; refine S_true rfl rfl ?_; refine S_skip rfl ?_; refine S_seq rfl ?_; refine S_block rfl ?_; refine S_seq rfl ?_; refine S_region rfl rfl ?_; refine R_take (T_ixN rfl rfl rfl rfl rfl rfl hne10 hjl) ?_ rfl rfl; refine R_take (T_ldr rfl rfl rfl (Srd.row (A := A10) (n := P.length) (c := c10)) (by omega) hat) ?_ rfl rfl; refine R_p rfl ?_ rfl rfl; refine R_nil ?_; refine S_seq rfl ?_)
    refine S_cut (X := Nat × Nat × Nat × Nat) (fun y => [(2, .pointer (some ⟨b2, 0, none⟩)), (7, .pointer (some ⟨b7, 0, none⟩)), (8, .func (.func 27) #[] #[]), (74, .slice A10 P.length c10), (75, .int .i64 (P.length : Int)), (76, .int .i64 (j : Int)), (11, .pointer (some ⟨y.1, 0, none⟩)), (12, .pointer (some ⟨y.2.1, 0, none⟩)), (13, .pointer (some ⟨y.2.2.1, 0, none⟩)), (14, .pointer (some ⟨y.2.2.2, 0, none⟩))]) (fun y => [pt y.1 50 (sdc b), pt y.2.1 50 (sdc o), pt y.2.2.1 50 (sdc t), pt y.2.2.2 50 (sdc z), row 9 1 A10 P.length c10 (P.map sv), pt b7 24 [.slice A9 M.length c9], row 70 2 A9 M.length c9 (cellsL rwc M), pt b2 26 [.slice A1 L1.length c1', .slice A2 L2.length c2', .slice A3 L3.length c3']]) (fun _ => True) (fun J2 hJ2 => ?_) (fun y _ => ?_)
    · skip
      refine S_draw ([pt b7 24 [.slice A9 M.length c9], row 70 2 A9 M.length c9 (cellsL rwc M), pt b2 26 [.slice A1 L1.length c1', .slice A2 L2.length c2', .slice A3 L3.length c3']]) sub_st (by kernel_rfl) rfl (by kernel_rfl) (by kernel_rfl : _ = 27) ?_
      refine D_take 0 rfl (pev_ok rfl) ?_ rfl rfl (by kernel_rfl) (by kernel_rfl)
      refine D_take 1 rfl (pev_ok rfl) ?_ rfl rfl (by kernel_rfl) (by kernel_rfl)
      refine D_take 2 rfl (T_loads (ds := [.slice A1 L1.length c1']) rfl rfl rfl rfl rfl) ?_ rfl rfl (by kernel_rfl) (by kernel_rfl)
      refine D_take 3 rfl (pev_ok rfl) ?_ rfl rfl (by kernel_rfl) (by kernel_rfl)
      refine D_take 5 rfl (pev_ok rfl) ?_ rfl rfl (by kernel_rfl) (by kernel_rfl)
      refine D_take 6 rfl (pev_ok rfl) ?_ rfl rfl (by kernel_rfl) (by kernel_rfl)
      refine D_take 7 rfl (T_loads (ds := [.slice A2 L2.length c2']) rfl rfl rfl rfl rfl) ?_ rfl rfl (by kernel_rfl) (by kernel_rfl)
      refine D_take 8 rfl (pev_ok rfl) ?_ rfl rfl (by kernel_rfl) (by kernel_rfl)
      refine D_take 10 rfl (pev_ok rfl) ?_ rfl rfl (by kernel_rfl) (by kernel_rfl)
      refine D_take 11 rfl (pev_ok rfl) ?_ rfl rfl (by kernel_rfl) (by kernel_rfl)
      refine D_take 12 rfl (T_loads (ds := [.slice A3 L3.length c3']) rfl rfl rfl rfl rfl) ?_ rfl rfl (by kernel_rfl) (by kernel_rfl)
      refine D_take 13 rfl (pev_ok rfl) ?_ rfl rfl (by kernel_rfl) (by kernel_rfl)
      refine D_take 15 rfl (pev_ok rfl) ?_ rfl rfl (by kernel_rfl) (by kernel_rfl)
      refine D_take 16 rfl (T_loads (ds := [.slice A9 M.length c9]) rfl rfl rfl rfl rfl) ?_ rfl rfl (by kernel_rfl) (by kernel_rfl)
      refine D_take 17 rfl (pev_ok rfl) ?_ rfl rfl (by kernel_rfl) (by kernel_rfl)
      refine D_node #[true, true, true, true, true, true, true, true, true, true, true, true, true, true, true, true, true, true, true, true, true, true, true, false, false, false, false] (fun x : Nat × Nat × Nat × Nat => [(14, .pointer (some ⟨x.2.2.2, 0, none⟩)), (13, .pointer (some ⟨x.2.2.1, 0, none⟩)), (12, .pointer (some ⟨x.2.1, 0, none⟩)), (11, .pointer (some ⟨x.1, 0, none⟩)), (98, .agg (sdc z).toArray), (94, .agg (sdc t).toArray), (89, .agg (sdc o).toArray), (84, .agg (sdc b).toArray), (80, .func (.func 27) #[] #[]), (85, .func (.func 27) #[] #[]), (90, .func (.func 27) #[] #[]), (95, .func (.func 27) #[] #[]), (83, sv p), (88, sv p), (93, sv p), (97, sv p), (82, .agg #[.slice A1 L1.length c1']), (87, .agg #[.slice A2 L2.length c2']), (92, .agg #[.slice A3 L3.length c3']), (96, .agg #[.slice A9 M.length c9]), (2, .pointer (some ⟨b2, 0, none⟩)), (7, .pointer (some ⟨b7, 0, none⟩)), (8, .func (.func 27) #[] #[]), (74, .slice A10 P.length c10), (75, .int .i64 (P.length : Int)), (76, .int .i64 (j : Int))]) (fun x : Nat × Nat × Nat × Nat => [pt x.2.2.2 50 (sdc default), pt x.2.2.1 50 (sdc default), pt x.2.1 50 (sdc default), pt x.1 50 (sdc default), row 9 1 A10 P.length c10 (P.map sv), pt b7 24 [.slice A9 M.length c9], row 70 2 A9 M.length c9 (cellsL rwc M), pt b2 26 [.slice A1 L1.length c1', .slice A2 L2.length c2', .slice A3 L3.length c3']]) (fun nd0 => ?_) (fun x => ?_)
      refine D_nodeR #[true, true, true, true, true, true, true, true, true, true, true, true, true, true, true, true, true, true, true, true, true, true, false, false, false, false, false] (fun x : Nat × Nat × Nat => [(13, .pointer (some ⟨x.2.2, 0, none⟩)), (12, .pointer (some ⟨x.2.1, 0, none⟩)), (11, .pointer (some ⟨x.1, 0, none⟩)), (98, .agg (sdc z).toArray), (94, .agg (sdc t).toArray), (89, .agg (sdc o).toArray), (84, .agg (sdc b).toArray), (80, .func (.func 27) #[] #[]), (85, .func (.func 27) #[] #[]), (90, .func (.func 27) #[] #[]), (95, .func (.func 27) #[] #[]), (83, sv p), (88, sv p), (93, sv p), (97, sv p), (82, .agg #[.slice A1 L1.length c1']), (87, .agg #[.slice A2 L2.length c2']), (92, .agg #[.slice A3 L3.length c3']), (96, .agg #[.slice A9 M.length c9]), (2, .pointer (some ⟨b2, 0, none⟩)), (7, .pointer (some ⟨b7, 0, none⟩)), (8, .func (.func 27) #[] #[]), (74, .slice A10 P.length c10), (75, .int .i64 (P.length : Int)), (76, .int .i64 (j : Int))]) (fun x : Nat × Nat × Nat => [pt x.2.2 50 (sdc default), pt x.2.1 50 (sdc default), pt x.1 50 (sdc default), row 9 1 A10 P.length c10 (P.map sv), pt b7 24 [.slice A9 M.length c9], row 70 2 A9 M.length c9 (cellsL rwc M), pt b2 26 [.slice A1 L1.length c1', .slice A2 L2.length c2', .slice A3 L3.length c3']]) (fun x => ?_) (fun nd1 => ?_)
      · skip
        obtain ⟨b11, b12, b13⟩ := x
        try dsimp only
        refine D_one 22 rfl (E_alloca rfl sd_zero) ?_ rfl rfl (by kernel_rfl)
        rintro _ _ ⟨b14, rfl, rfl⟩
        refine Nx_same sub_st ?_
        have h := nd0 (b11, b12, b13, b14)
        try dsimp only at h
        exact D_at h (by repeat first | exact Sub.nil | refine Sub.cons rfl ?_) sub_st (by kernel_rfl)
      refine D_nodeR #[true, true, true, true, true, true, true, true, true, true, true, true, true, true, true, true, true, true, true, true, true, false, true, false, false, false, false] (fun x : Nat × Nat × Nat => [(14, .pointer (some ⟨x.2.2, 0, none⟩)), (12, .pointer (some ⟨x.2.1, 0, none⟩)), (11, .pointer (some ⟨x.1, 0, none⟩)), (98, .agg (sdc z).toArray), (94, .agg (sdc t).toArray), (89, .agg (sdc o).toArray), (84, .agg (sdc b).toArray), (80, .func (.func 27) #[] #[]), (85, .func (.func 27) #[] #[]), (90, .func (.func 27) #[] #[]), (95, .func (.func 27) #[] #[]), (83, sv p), (88, sv p), (93, sv p), (97, sv p), (82, .agg #[.slice A1 L1.length c1']), (87, .agg #[.slice A2 L2.length c2']), (92, .agg #[.slice A3 L3.length c3']), (96, .agg #[.slice A9 M.length c9]), (2, .pointer (some ⟨b2, 0, none⟩)), (7, .pointer (some ⟨b7, 0, none⟩)), (8, .func (.func 27) #[] #[]), (74, .slice A10 P.length c10), (75, .int .i64 (P.length : Int)), (76, .int .i64 (j : Int))]) (fun x : Nat × Nat × Nat => [pt x.2.2 50 (sdc default), pt x.2.1 50 (sdc default), pt x.1 50 (sdc default), row 9 1 A10 P.length c10 (P.map sv), pt b7 24 [.slice A9 M.length c9], row 70 2 A9 M.length c9 (cellsL rwc M), pt b2 26 [.slice A1 L1.length c1', .slice A2 L2.length c2', .slice A3 L3.length c3']]) (fun x => ?_) (fun nd2 => ?_)
      · skip
        obtain ⟨b11, b12, b14⟩ := x
        try dsimp only
        refine D_one 21 rfl (E_alloca rfl sd_zero) ?_ rfl rfl (by kernel_rfl)
        rintro _ _ ⟨b13, rfl, rfl⟩
        refine Nx_same sub_st ?_
        have h := nd0 (b11, b12, b13, b14)
        try dsimp only at h
        exact D_at h (by repeat first | exact Sub.nil | refine Sub.cons rfl ?_) sub_st (by kernel_rfl)
      refine D_nodeR #[true, true, true, true, true, true, true, true, true, true, true, true, true, true, true, true, true, true, true, true, false, true, true, false, false, false, false] (fun x : Nat × Nat × Nat => [(14, .pointer (some ⟨x.2.2, 0, none⟩)), (13, .pointer (some ⟨x.2.1, 0, none⟩)), (11, .pointer (some ⟨x.1, 0, none⟩)), (98, .agg (sdc z).toArray), (94, .agg (sdc t).toArray), (89, .agg (sdc o).toArray), (84, .agg (sdc b).toArray), (80, .func (.func 27) #[] #[]), (85, .func (.func 27) #[] #[]), (90, .func (.func 27) #[] #[]), (95, .func (.func 27) #[] #[]), (83, sv p), (88, sv p), (93, sv p), (97, sv p), (82, .agg #[.slice A1 L1.length c1']), (87, .agg #[.slice A2 L2.length c2']), (92, .agg #[.slice A3 L3.length c3']), (96, .agg #[.slice A9 M.length c9]), (2, .pointer (some ⟨b2, 0, none⟩)), (7, .pointer (some ⟨b7, 0, none⟩)), (8, .func (.func 27) #[] #[]), (74, .slice A10 P.length c10), (75, .int .i64 (P.length : Int)), (76, .int .i64 (j : Int))]) (fun x : Nat × Nat × Nat => [pt x.2.2 50 (sdc default), pt x.2.1 50 (sdc default), pt x.1 50 (sdc default), row 9 1 A10 P.length c10 (P.map sv), pt b7 24 [.slice A9 M.length c9], row 70 2 A9 M.length c9 (cellsL rwc M), pt b2 26 [.slice A1 L1.length c1', .slice A2 L2.length c2', .slice A3 L3.length c3']]) (fun x => ?_) (fun nd3 => ?_)
      · skip
        obtain ⟨b11, b13, b14⟩ := x
        try dsimp only
        refine D_one 20 rfl (E_alloca rfl sd_zero) ?_ rfl rfl (by kernel_rfl)
        rintro _ _ ⟨b12, rfl, rfl⟩
        refine Nx_same sub_st ?_
        have h := nd0 (b11, b12, b13, b14)
        try dsimp only at h
        exact D_at h (by repeat first | exact Sub.nil | refine Sub.cons rfl ?_) sub_st (by kernel_rfl)
      refine D_nodeR #[true, true, true, true, true, true, true, true, true, true, true, true, true, true, true, true, true, true, true, false, true, true, true, false, false, false, false] (fun x : Nat × Nat × Nat => [(14, .pointer (some ⟨x.2.2, 0, none⟩)), (13, .pointer (some ⟨x.2.1, 0, none⟩)), (12, .pointer (some ⟨x.1, 0, none⟩)), (98, .agg (sdc z).toArray), (94, .agg (sdc t).toArray), (89, .agg (sdc o).toArray), (84, .agg (sdc b).toArray), (80, .func (.func 27) #[] #[]), (85, .func (.func 27) #[] #[]), (90, .func (.func 27) #[] #[]), (95, .func (.func 27) #[] #[]), (83, sv p), (88, sv p), (93, sv p), (97, sv p), (82, .agg #[.slice A1 L1.length c1']), (87, .agg #[.slice A2 L2.length c2']), (92, .agg #[.slice A3 L3.length c3']), (96, .agg #[.slice A9 M.length c9]), (2, .pointer (some ⟨b2, 0, none⟩)), (7, .pointer (some ⟨b7, 0, none⟩)), (8, .func (.func 27) #[] #[]), (74, .slice A10 P.length c10), (75, .int .i64 (P.length : Int)), (76, .int .i64 (j : Int))]) (fun x : Nat × Nat × Nat => [pt x.2.2 50 (sdc default), pt x.2.1 50 (sdc default), pt x.1 50 (sdc default), row 9 1 A10 P.length c10 (P.map sv), pt b7 24 [.slice A9 M.length c9], row 70 2 A9 M.length c9 (cellsL rwc M), pt b2 26 [.slice A1 L1.length c1', .slice A2 L2.length c2', .slice A3 L3.length c3']]) (fun x => ?_) (fun nd4 => ?_)
      · skip
        obtain ⟨b12, b13, b14⟩ := x
        try dsimp only
        refine D_one 19 rfl (E_alloca rfl sd_zero) ?_ rfl rfl (by kernel_rfl)
        rintro _ _ ⟨b11, rfl, rfl⟩
        refine Nx_same sub_st ?_
        have h := nd0 (b11, b12, b13, b14)
        try dsimp only at h
        exact D_at h (by repeat first | exact Sub.nil | refine Sub.cons rfl ?_) sub_st (by kernel_rfl)
      refine D_nodeR #[true, true, true, true, true, true, true, true, true, true, true, true, true, true, true, true, true, true, false, true, true, true, true, false, false, false, false] (fun x : Nat × Nat × Nat × Nat => [(14, .pointer (some ⟨x.2.2.2, 0, none⟩)), (13, .pointer (some ⟨x.2.2.1, 0, none⟩)), (12, .pointer (some ⟨x.2.1, 0, none⟩)), (11, .pointer (some ⟨x.1, 0, none⟩)), (94, .agg (sdc t).toArray), (89, .agg (sdc o).toArray), (84, .agg (sdc b).toArray), (80, .func (.func 27) #[] #[]), (85, .func (.func 27) #[] #[]), (90, .func (.func 27) #[] #[]), (95, .func (.func 27) #[] #[]), (83, sv p), (88, sv p), (93, sv p), (97, sv p), (82, .agg #[.slice A1 L1.length c1']), (87, .agg #[.slice A2 L2.length c2']), (92, .agg #[.slice A3 L3.length c3']), (96, .agg #[.slice A9 M.length c9]), (2, .pointer (some ⟨b2, 0, none⟩)), (7, .pointer (some ⟨b7, 0, none⟩)), (8, .func (.func 27) #[] #[]), (74, .slice A10 P.length c10), (75, .int .i64 (P.length : Int)), (76, .int .i64 (j : Int))]) (fun x : Nat × Nat × Nat × Nat => [pt x.2.2.2 50 (sdc default), pt x.2.2.1 50 (sdc default), pt x.2.1 50 (sdc default), pt x.1 50 (sdc default), row 9 1 A10 P.length c10 (P.map sv), pt b7 24 [.slice A9 M.length c9], row 70 2 A9 M.length c9 (cellsL rwc M), pt b2 26 [.slice A1 L1.length c1', .slice A2 L2.length c2', .slice A3 L3.length c3']]) (fun x => ?_) (fun nd5 => ?_)
      · skip
        obtain ⟨b11, b12, b13, b14⟩ := x
        try dsimp only
        refine D_one 18 rfl (E_cloA (cap := []) rfl (E_hv0 (f := 27) ⟨_, Try.func27, rfl, by kernel_rfl⟩ (fun w hS => hasL_any w A9 M.length c9 M p ((Srd.row (A := A9) (n := M.length) (c := c9)).rd w hS) (by omega)) rfl rfl (fun _ => rfl))) ?_ rfl rfl (by kernel_rfl)
        rintro _ _ ⟨_, rfl, _, rfl⟩; rw [hz]
        refine Nx_same sub_st ?_
        have h := nd0 (b11, b12, b13, b14)
        try dsimp only at h
        exact D_at h (by repeat first | exact Sub.nil | refine Sub.cons rfl ?_) sub_st (by kernel_rfl)
      refine D_nodeR #[true, true, true, true, true, true, true, true, true, true, true, true, true, true, true, true, true, true, true, true, true, false, false, false, false, false, false] (fun x : Nat × Nat => [(12, .pointer (some ⟨x.2, 0, none⟩)), (11, .pointer (some ⟨x.1, 0, none⟩)), (98, .agg (sdc z).toArray), (94, .agg (sdc t).toArray), (89, .agg (sdc o).toArray), (84, .agg (sdc b).toArray), (80, .func (.func 27) #[] #[]), (85, .func (.func 27) #[] #[]), (90, .func (.func 27) #[] #[]), (95, .func (.func 27) #[] #[]), (83, sv p), (88, sv p), (93, sv p), (97, sv p), (82, .agg #[.slice A1 L1.length c1']), (87, .agg #[.slice A2 L2.length c2']), (92, .agg #[.slice A3 L3.length c3']), (96, .agg #[.slice A9 M.length c9]), (2, .pointer (some ⟨b2, 0, none⟩)), (7, .pointer (some ⟨b7, 0, none⟩)), (8, .func (.func 27) #[] #[]), (74, .slice A10 P.length c10), (75, .int .i64 (P.length : Int)), (76, .int .i64 (j : Int))]) (fun x : Nat × Nat => [pt x.2 50 (sdc default), pt x.1 50 (sdc default), row 9 1 A10 P.length c10 (P.map sv), pt b7 24 [.slice A9 M.length c9], row 70 2 A9 M.length c9 (cellsL rwc M), pt b2 26 [.slice A1 L1.length c1', .slice A2 L2.length c2', .slice A3 L3.length c3']]) (fun x => ?_) (fun nd6 => ?_)
      · skip
        obtain ⟨b11, b12⟩ := x
        try dsimp only
        refine D_two 21 22 (by decide) rfl rfl (E_alloca rfl sd_zero) (E_alloca rfl sd_zero) ?_ ?_ rfl rfl rfl rfl (by kernel_rfl)
        · rintro _ _ ⟨b13, rfl, rfl⟩
          refine Nx_same sub_st ?_
          have h := nd1 (b11, b12, b13)
          try dsimp only at h
          exact D_at h (by repeat first | exact Sub.nil | refine Sub.cons rfl ?_) sub_st (by kernel_rfl)
        · rintro _ _ ⟨b14, rfl, rfl⟩
          refine Nx_same sub_st ?_
          have h := nd2 (b11, b12, b14)
          try dsimp only at h
          exact D_at h (by repeat first | exact Sub.nil | refine Sub.cons rfl ?_) sub_st (by kernel_rfl)
      refine D_nodeR #[true, true, true, true, true, true, true, true, true, true, true, true, true, true, true, true, true, true, true, true, false, true, false, false, false, false, false] (fun x : Nat × Nat => [(13, .pointer (some ⟨x.2, 0, none⟩)), (11, .pointer (some ⟨x.1, 0, none⟩)), (98, .agg (sdc z).toArray), (94, .agg (sdc t).toArray), (89, .agg (sdc o).toArray), (84, .agg (sdc b).toArray), (80, .func (.func 27) #[] #[]), (85, .func (.func 27) #[] #[]), (90, .func (.func 27) #[] #[]), (95, .func (.func 27) #[] #[]), (83, sv p), (88, sv p), (93, sv p), (97, sv p), (82, .agg #[.slice A1 L1.length c1']), (87, .agg #[.slice A2 L2.length c2']), (92, .agg #[.slice A3 L3.length c3']), (96, .agg #[.slice A9 M.length c9]), (2, .pointer (some ⟨b2, 0, none⟩)), (7, .pointer (some ⟨b7, 0, none⟩)), (8, .func (.func 27) #[] #[]), (74, .slice A10 P.length c10), (75, .int .i64 (P.length : Int)), (76, .int .i64 (j : Int))]) (fun x : Nat × Nat => [pt x.2 50 (sdc default), pt x.1 50 (sdc default), row 9 1 A10 P.length c10 (P.map sv), pt b7 24 [.slice A9 M.length c9], row 70 2 A9 M.length c9 (cellsL rwc M), pt b2 26 [.slice A1 L1.length c1', .slice A2 L2.length c2', .slice A3 L3.length c3']]) (fun x => ?_) (fun nd7 => ?_)
      · skip
        obtain ⟨b11, b13⟩ := x
        try dsimp only
        refine D_two 20 22 (by decide) rfl rfl (E_alloca rfl sd_zero) (E_alloca rfl sd_zero) ?_ ?_ rfl rfl rfl rfl (by kernel_rfl)
        · rintro _ _ ⟨b12, rfl, rfl⟩
          refine Nx_same sub_st ?_
          have h := nd1 (b11, b12, b13)
          try dsimp only at h
          exact D_at h (by repeat first | exact Sub.nil | refine Sub.cons rfl ?_) sub_st (by kernel_rfl)
        · rintro _ _ ⟨b14, rfl, rfl⟩
          refine Nx_same sub_st ?_
          have h := nd3 (b11, b13, b14)
          try dsimp only at h
          exact D_at h (by repeat first | exact Sub.nil | refine Sub.cons rfl ?_) sub_st (by kernel_rfl)
      refine D_nodeR #[true, true, true, true, true, true, true, true, true, true, true, true, true, true, true, true, true, true, true, true, false, false, true, false, false, false, false] (fun x : Nat × Nat => [(14, .pointer (some ⟨x.2, 0, none⟩)), (11, .pointer (some ⟨x.1, 0, none⟩)), (98, .agg (sdc z).toArray), (94, .agg (sdc t).toArray), (89, .agg (sdc o).toArray), (84, .agg (sdc b).toArray), (80, .func (.func 27) #[] #[]), (85, .func (.func 27) #[] #[]), (90, .func (.func 27) #[] #[]), (95, .func (.func 27) #[] #[]), (83, sv p), (88, sv p), (93, sv p), (97, sv p), (82, .agg #[.slice A1 L1.length c1']), (87, .agg #[.slice A2 L2.length c2']), (92, .agg #[.slice A3 L3.length c3']), (96, .agg #[.slice A9 M.length c9]), (2, .pointer (some ⟨b2, 0, none⟩)), (7, .pointer (some ⟨b7, 0, none⟩)), (8, .func (.func 27) #[] #[]), (74, .slice A10 P.length c10), (75, .int .i64 (P.length : Int)), (76, .int .i64 (j : Int))]) (fun x : Nat × Nat => [pt x.2 50 (sdc default), pt x.1 50 (sdc default), row 9 1 A10 P.length c10 (P.map sv), pt b7 24 [.slice A9 M.length c9], row 70 2 A9 M.length c9 (cellsL rwc M), pt b2 26 [.slice A1 L1.length c1', .slice A2 L2.length c2', .slice A3 L3.length c3']]) (fun x => ?_) (fun nd8 => ?_)
      · skip
        obtain ⟨b11, b14⟩ := x
        try dsimp only
        refine D_two 20 21 (by decide) rfl rfl (E_alloca rfl sd_zero) (E_alloca rfl sd_zero) ?_ ?_ rfl rfl rfl rfl (by kernel_rfl)
        · rintro _ _ ⟨b12, rfl, rfl⟩
          refine Nx_same sub_st ?_
          have h := nd2 (b11, b12, b14)
          try dsimp only at h
          exact D_at h (by repeat first | exact Sub.nil | refine Sub.cons rfl ?_) sub_st (by kernel_rfl)
        · rintro _ _ ⟨b13, rfl, rfl⟩
          refine Nx_same sub_st ?_
          have h := nd3 (b11, b13, b14)
          try dsimp only at h
          exact D_at h (by repeat first | exact Sub.nil | refine Sub.cons rfl ?_) sub_st (by kernel_rfl)
      refine D_nodeR #[true, true, true, true, true, true, true, true, true, true, true, true, true, true, true, true, true, true, true, false, true, true, false, false, false, false, false] (fun x : Nat × Nat => [(13, .pointer (some ⟨x.2, 0, none⟩)), (12, .pointer (some ⟨x.1, 0, none⟩)), (98, .agg (sdc z).toArray), (94, .agg (sdc t).toArray), (89, .agg (sdc o).toArray), (84, .agg (sdc b).toArray), (80, .func (.func 27) #[] #[]), (85, .func (.func 27) #[] #[]), (90, .func (.func 27) #[] #[]), (95, .func (.func 27) #[] #[]), (83, sv p), (88, sv p), (93, sv p), (97, sv p), (82, .agg #[.slice A1 L1.length c1']), (87, .agg #[.slice A2 L2.length c2']), (92, .agg #[.slice A3 L3.length c3']), (96, .agg #[.slice A9 M.length c9]), (2, .pointer (some ⟨b2, 0, none⟩)), (7, .pointer (some ⟨b7, 0, none⟩)), (8, .func (.func 27) #[] #[]), (74, .slice A10 P.length c10), (75, .int .i64 (P.length : Int)), (76, .int .i64 (j : Int))]) (fun x : Nat × Nat => [pt x.2 50 (sdc default), pt x.1 50 (sdc default), row 9 1 A10 P.length c10 (P.map sv), pt b7 24 [.slice A9 M.length c9], row 70 2 A9 M.length c9 (cellsL rwc M), pt b2 26 [.slice A1 L1.length c1', .slice A2 L2.length c2', .slice A3 L3.length c3']]) (fun x => ?_) (fun nd9 => ?_)
      · skip
        obtain ⟨b12, b13⟩ := x
        try dsimp only
        refine D_two 19 22 (by decide) rfl rfl (E_alloca rfl sd_zero) (E_alloca rfl sd_zero) ?_ ?_ rfl rfl rfl rfl (by kernel_rfl)
        · rintro _ _ ⟨b11, rfl, rfl⟩
          refine Nx_same sub_st ?_
          have h := nd1 (b11, b12, b13)
          try dsimp only at h
          exact D_at h (by repeat first | exact Sub.nil | refine Sub.cons rfl ?_) sub_st (by kernel_rfl)
        · rintro _ _ ⟨b14, rfl, rfl⟩
          refine Nx_same sub_st ?_
          have h := nd4 (b12, b13, b14)
          try dsimp only at h
          exact D_at h (by repeat first | exact Sub.nil | refine Sub.cons rfl ?_) sub_st (by kernel_rfl)
      refine D_nodeR #[true, true, true, true, true, true, true, true, true, true, true, true, true, true, true, true, true, true, true, false, true, false, true, false, false, false, false] (fun x : Nat × Nat => [(14, .pointer (some ⟨x.2, 0, none⟩)), (12, .pointer (some ⟨x.1, 0, none⟩)), (98, .agg (sdc z).toArray), (94, .agg (sdc t).toArray), (89, .agg (sdc o).toArray), (84, .agg (sdc b).toArray), (80, .func (.func 27) #[] #[]), (85, .func (.func 27) #[] #[]), (90, .func (.func 27) #[] #[]), (95, .func (.func 27) #[] #[]), (83, sv p), (88, sv p), (93, sv p), (97, sv p), (82, .agg #[.slice A1 L1.length c1']), (87, .agg #[.slice A2 L2.length c2']), (92, .agg #[.slice A3 L3.length c3']), (96, .agg #[.slice A9 M.length c9]), (2, .pointer (some ⟨b2, 0, none⟩)), (7, .pointer (some ⟨b7, 0, none⟩)), (8, .func (.func 27) #[] #[]), (74, .slice A10 P.length c10), (75, .int .i64 (P.length : Int)), (76, .int .i64 (j : Int))]) (fun x : Nat × Nat => [pt x.2 50 (sdc default), pt x.1 50 (sdc default), row 9 1 A10 P.length c10 (P.map sv), pt b7 24 [.slice A9 M.length c9], row 70 2 A9 M.length c9 (cellsL rwc M), pt b2 26 [.slice A1 L1.length c1', .slice A2 L2.length c2', .slice A3 L3.length c3']]) (fun x => ?_) (fun nd10 => ?_)
      · skip
        obtain ⟨b12, b14⟩ := x
        try dsimp only
        refine D_two 19 21 (by decide) rfl rfl (E_alloca rfl sd_zero) (E_alloca rfl sd_zero) ?_ ?_ rfl rfl rfl rfl (by kernel_rfl)
        · rintro _ _ ⟨b11, rfl, rfl⟩
          refine Nx_same sub_st ?_
          have h := nd2 (b11, b12, b14)
          try dsimp only at h
          exact D_at h (by repeat first | exact Sub.nil | refine Sub.cons rfl ?_) sub_st (by kernel_rfl)
        · rintro _ _ ⟨b13, rfl, rfl⟩
          refine Nx_same sub_st ?_
          have h := nd4 (b12, b13, b14)
          try dsimp only at h
          exact D_at h (by repeat first | exact Sub.nil | refine Sub.cons rfl ?_) sub_st (by kernel_rfl)
      refine D_nodeR #[true, true, true, true, true, true, true, true, true, true, true, true, true, true, true, true, true, true, true, false, false, true, true, false, false, false, false] (fun x : Nat × Nat => [(14, .pointer (some ⟨x.2, 0, none⟩)), (13, .pointer (some ⟨x.1, 0, none⟩)), (98, .agg (sdc z).toArray), (94, .agg (sdc t).toArray), (89, .agg (sdc o).toArray), (84, .agg (sdc b).toArray), (80, .func (.func 27) #[] #[]), (85, .func (.func 27) #[] #[]), (90, .func (.func 27) #[] #[]), (95, .func (.func 27) #[] #[]), (83, sv p), (88, sv p), (93, sv p), (97, sv p), (82, .agg #[.slice A1 L1.length c1']), (87, .agg #[.slice A2 L2.length c2']), (92, .agg #[.slice A3 L3.length c3']), (96, .agg #[.slice A9 M.length c9]), (2, .pointer (some ⟨b2, 0, none⟩)), (7, .pointer (some ⟨b7, 0, none⟩)), (8, .func (.func 27) #[] #[]), (74, .slice A10 P.length c10), (75, .int .i64 (P.length : Int)), (76, .int .i64 (j : Int))]) (fun x : Nat × Nat => [pt x.2 50 (sdc default), pt x.1 50 (sdc default), row 9 1 A10 P.length c10 (P.map sv), pt b7 24 [.slice A9 M.length c9], row 70 2 A9 M.length c9 (cellsL rwc M), pt b2 26 [.slice A1 L1.length c1', .slice A2 L2.length c2', .slice A3 L3.length c3']]) (fun x => ?_) (fun nd11 => ?_)
      · skip
        obtain ⟨b13, b14⟩ := x
        try dsimp only
        refine D_two 19 20 (by decide) rfl rfl (E_alloca rfl sd_zero) (E_alloca rfl sd_zero) ?_ ?_ rfl rfl rfl rfl (by kernel_rfl)
        · rintro _ _ ⟨b11, rfl, rfl⟩
          refine Nx_same sub_st ?_
          have h := nd3 (b11, b13, b14)
          try dsimp only at h
          exact D_at h (by repeat first | exact Sub.nil | refine Sub.cons rfl ?_) sub_st (by kernel_rfl)
        · rintro _ _ ⟨b12, rfl, rfl⟩
          refine Nx_same sub_st ?_
          have h := nd4 (b12, b13, b14)
          try dsimp only at h
          exact D_at h (by repeat first | exact Sub.nil | refine Sub.cons rfl ?_) sub_st (by kernel_rfl)
      refine D_nodeR #[true, true, true, true, true, true, true, true, true, true, true, true, true, true, true, true, true, true, false, true, true, true, false, false, false, false, false] (fun x : Nat × Nat × Nat => [(13, .pointer (some ⟨x.2.2, 0, none⟩)), (12, .pointer (some ⟨x.2.1, 0, none⟩)), (11, .pointer (some ⟨x.1, 0, none⟩)), (94, .agg (sdc t).toArray), (89, .agg (sdc o).toArray), (84, .agg (sdc b).toArray), (80, .func (.func 27) #[] #[]), (85, .func (.func 27) #[] #[]), (90, .func (.func 27) #[] #[]), (95, .func (.func 27) #[] #[]), (83, sv p), (88, sv p), (93, sv p), (97, sv p), (82, .agg #[.slice A1 L1.length c1']), (87, .agg #[.slice A2 L2.length c2']), (92, .agg #[.slice A3 L3.length c3']), (96, .agg #[.slice A9 M.length c9]), (2, .pointer (some ⟨b2, 0, none⟩)), (7, .pointer (some ⟨b7, 0, none⟩)), (8, .func (.func 27) #[] #[]), (74, .slice A10 P.length c10), (75, .int .i64 (P.length : Int)), (76, .int .i64 (j : Int))]) (fun x : Nat × Nat × Nat => [pt x.2.2 50 (sdc default), pt x.2.1 50 (sdc default), pt x.1 50 (sdc default), row 9 1 A10 P.length c10 (P.map sv), pt b7 24 [.slice A9 M.length c9], row 70 2 A9 M.length c9 (cellsL rwc M), pt b2 26 [.slice A1 L1.length c1', .slice A2 L2.length c2', .slice A3 L3.length c3']]) (fun x => ?_) (fun nd12 => ?_)
      · skip
        obtain ⟨b11, b12, b13⟩ := x
        try dsimp only
        refine D_two 18 22 (by decide) rfl rfl (E_cloA (cap := []) rfl (E_hv0 (f := 27) ⟨_, Try.func27, rfl, by kernel_rfl⟩ (fun w hS => hasL_any w A9 M.length c9 M p ((Srd.row (A := A9) (n := M.length) (c := c9)).rd w hS) (by omega)) rfl rfl (fun _ => rfl))) (E_alloca rfl sd_zero) ?_ ?_ rfl rfl rfl rfl (by kernel_rfl)
        · rintro _ _ ⟨_, rfl, _, rfl⟩; rw [hz]
          refine Nx_same sub_st ?_
          have h := nd1 (b11, b12, b13)
          try dsimp only at h
          exact D_at h (by repeat first | exact Sub.nil | refine Sub.cons rfl ?_) sub_st (by kernel_rfl)
        · rintro _ _ ⟨b14, rfl, rfl⟩
          refine Nx_same sub_st ?_
          have h := nd5 (b11, b12, b13, b14)
          try dsimp only at h
          exact D_at h (by repeat first | exact Sub.nil | refine Sub.cons rfl ?_) sub_st (by kernel_rfl)
      refine D_nodeR #[true, true, true, true, true, true, true, true, true, true, true, true, true, true, true, true, true, true, false, true, true, false, true, false, false, false, false] (fun x : Nat × Nat × Nat => [(14, .pointer (some ⟨x.2.2, 0, none⟩)), (12, .pointer (some ⟨x.2.1, 0, none⟩)), (11, .pointer (some ⟨x.1, 0, none⟩)), (94, .agg (sdc t).toArray), (89, .agg (sdc o).toArray), (84, .agg (sdc b).toArray), (80, .func (.func 27) #[] #[]), (85, .func (.func 27) #[] #[]), (90, .func (.func 27) #[] #[]), (95, .func (.func 27) #[] #[]), (83, sv p), (88, sv p), (93, sv p), (97, sv p), (82, .agg #[.slice A1 L1.length c1']), (87, .agg #[.slice A2 L2.length c2']), (92, .agg #[.slice A3 L3.length c3']), (96, .agg #[.slice A9 M.length c9]), (2, .pointer (some ⟨b2, 0, none⟩)), (7, .pointer (some ⟨b7, 0, none⟩)), (8, .func (.func 27) #[] #[]), (74, .slice A10 P.length c10), (75, .int .i64 (P.length : Int)), (76, .int .i64 (j : Int))]) (fun x : Nat × Nat × Nat => [pt x.2.2 50 (sdc default), pt x.2.1 50 (sdc default), pt x.1 50 (sdc default), row 9 1 A10 P.length c10 (P.map sv), pt b7 24 [.slice A9 M.length c9], row 70 2 A9 M.length c9 (cellsL rwc M), pt b2 26 [.slice A1 L1.length c1', .slice A2 L2.length c2', .slice A3 L3.length c3']]) (fun x => ?_) (fun nd13 => ?_)
      · skip
        obtain ⟨b11, b12, b14⟩ := x
        try dsimp only
        refine D_two 18 21 (by decide) rfl rfl (E_cloA (cap := []) rfl (E_hv0 (f := 27) ⟨_, Try.func27, rfl, by kernel_rfl⟩ (fun w hS => hasL_any w A9 M.length c9 M p ((Srd.row (A := A9) (n := M.length) (c := c9)).rd w hS) (by omega)) rfl rfl (fun _ => rfl))) (E_alloca rfl sd_zero) ?_ ?_ rfl rfl rfl rfl (by kernel_rfl)
        · rintro _ _ ⟨_, rfl, _, rfl⟩; rw [hz]
          refine Nx_same sub_st ?_
          have h := nd2 (b11, b12, b14)
          try dsimp only at h
          exact D_at h (by repeat first | exact Sub.nil | refine Sub.cons rfl ?_) sub_st (by kernel_rfl)
        · rintro _ _ ⟨b13, rfl, rfl⟩
          refine Nx_same sub_st ?_
          have h := nd5 (b11, b12, b13, b14)
          try dsimp only at h
          exact D_at h (by repeat first | exact Sub.nil | refine Sub.cons rfl ?_) sub_st (by kernel_rfl)
      refine D_nodeR #[true, true, true, true, true, true, true, true, true, true, true, true, true, true, true, true, true, true, false, true, false, true, true, false, false, false, false] (fun x : Nat × Nat × Nat => [(14, .pointer (some ⟨x.2.2, 0, none⟩)), (13, .pointer (some ⟨x.2.1, 0, none⟩)), (11, .pointer (some ⟨x.1, 0, none⟩)), (94, .agg (sdc t).toArray), (89, .agg (sdc o).toArray), (84, .agg (sdc b).toArray), (80, .func (.func 27) #[] #[]), (85, .func (.func 27) #[] #[]), (90, .func (.func 27) #[] #[]), (95, .func (.func 27) #[] #[]), (83, sv p), (88, sv p), (93, sv p), (97, sv p), (82, .agg #[.slice A1 L1.length c1']), (87, .agg #[.slice A2 L2.length c2']), (92, .agg #[.slice A3 L3.length c3']), (96, .agg #[.slice A9 M.length c9]), (2, .pointer (some ⟨b2, 0, none⟩)), (7, .pointer (some ⟨b7, 0, none⟩)), (8, .func (.func 27) #[] #[]), (74, .slice A10 P.length c10), (75, .int .i64 (P.length : Int)), (76, .int .i64 (j : Int))]) (fun x : Nat × Nat × Nat => [pt x.2.2 50 (sdc default), pt x.2.1 50 (sdc default), pt x.1 50 (sdc default), row 9 1 A10 P.length c10 (P.map sv), pt b7 24 [.slice A9 M.length c9], row 70 2 A9 M.length c9 (cellsL rwc M), pt b2 26 [.slice A1 L1.length c1', .slice A2 L2.length c2', .slice A3 L3.length c3']]) (fun x => ?_) (fun nd14 => ?_)
      · skip
        obtain ⟨b11, b13, b14⟩ := x
        try dsimp only
        refine D_two 18 20 (by decide) rfl rfl (E_cloA (cap := []) rfl (E_hv0 (f := 27) ⟨_, Try.func27, rfl, by kernel_rfl⟩ (fun w hS => hasL_any w A9 M.length c9 M p ((Srd.row (A := A9) (n := M.length) (c := c9)).rd w hS) (by omega)) rfl rfl (fun _ => rfl))) (E_alloca rfl sd_zero) ?_ ?_ rfl rfl rfl rfl (by kernel_rfl)
        · rintro _ _ ⟨_, rfl, _, rfl⟩; rw [hz]
          refine Nx_same sub_st ?_
          have h := nd3 (b11, b13, b14)
          try dsimp only at h
          exact D_at h (by repeat first | exact Sub.nil | refine Sub.cons rfl ?_) sub_st (by kernel_rfl)
        · rintro _ _ ⟨b12, rfl, rfl⟩
          refine Nx_same sub_st ?_
          have h := nd5 (b11, b12, b13, b14)
          try dsimp only at h
          exact D_at h (by repeat first | exact Sub.nil | refine Sub.cons rfl ?_) sub_st (by kernel_rfl)
      refine D_nodeR #[true, true, true, true, true, true, true, true, true, true, true, true, true, true, true, true, true, true, false, false, true, true, true, false, false, false, false] (fun x : Nat × Nat × Nat => [(14, .pointer (some ⟨x.2.2, 0, none⟩)), (13, .pointer (some ⟨x.2.1, 0, none⟩)), (12, .pointer (some ⟨x.1, 0, none⟩)), (94, .agg (sdc t).toArray), (89, .agg (sdc o).toArray), (84, .agg (sdc b).toArray), (80, .func (.func 27) #[] #[]), (85, .func (.func 27) #[] #[]), (90, .func (.func 27) #[] #[]), (95, .func (.func 27) #[] #[]), (83, sv p), (88, sv p), (93, sv p), (97, sv p), (82, .agg #[.slice A1 L1.length c1']), (87, .agg #[.slice A2 L2.length c2']), (92, .agg #[.slice A3 L3.length c3']), (96, .agg #[.slice A9 M.length c9]), (2, .pointer (some ⟨b2, 0, none⟩)), (7, .pointer (some ⟨b7, 0, none⟩)), (8, .func (.func 27) #[] #[]), (74, .slice A10 P.length c10), (75, .int .i64 (P.length : Int)), (76, .int .i64 (j : Int))]) (fun x : Nat × Nat × Nat => [pt x.2.2 50 (sdc default), pt x.2.1 50 (sdc default), pt x.1 50 (sdc default), row 9 1 A10 P.length c10 (P.map sv), pt b7 24 [.slice A9 M.length c9], row 70 2 A9 M.length c9 (cellsL rwc M), pt b2 26 [.slice A1 L1.length c1', .slice A2 L2.length c2', .slice A3 L3.length c3']]) (fun x => ?_) (fun nd15 => ?_)
      · skip
        obtain ⟨b12, b13, b14⟩ := x
        try dsimp only
        refine D_two 18 19 (by decide) rfl rfl (E_cloA (cap := []) rfl (E_hv0 (f := 27) ⟨_, Try.func27, rfl, by kernel_rfl⟩ (fun w hS => hasL_any w A9 M.length c9 M p ((Srd.row (A := A9) (n := M.length) (c := c9)).rd w hS) (by omega)) rfl rfl (fun _ => rfl))) (E_alloca rfl sd_zero) ?_ ?_ rfl rfl rfl rfl (by kernel_rfl)
        · rintro _ _ ⟨_, rfl, _, rfl⟩; rw [hz]
          refine Nx_same sub_st ?_
          have h := nd4 (b12, b13, b14)
          try dsimp only at h
          exact D_at h (by repeat first | exact Sub.nil | refine Sub.cons rfl ?_) sub_st (by kernel_rfl)
        · rintro _ _ ⟨b11, rfl, rfl⟩
          refine Nx_same sub_st ?_
          have h := nd5 (b11, b12, b13, b14)
          try dsimp only at h
          exact D_at h (by repeat first | exact Sub.nil | refine Sub.cons rfl ?_) sub_st (by kernel_rfl)
      refine D_nodeR #[true, true, true, true, true, true, true, true, true, true, true, true, true, true, false, true, true, true, false, true, true, true, true, false, false, false, false] (fun x : Nat × Nat × Nat × Nat => [(14, .pointer (some ⟨x.2.2.2, 0, none⟩)), (13, .pointer (some ⟨x.2.2.1, 0, none⟩)), (12, .pointer (some ⟨x.2.1, 0, none⟩)), (11, .pointer (some ⟨x.1, 0, none⟩)), (89, .agg (sdc o).toArray), (84, .agg (sdc b).toArray), (80, .func (.func 27) #[] #[]), (85, .func (.func 27) #[] #[]), (90, .func (.func 27) #[] #[]), (95, .func (.func 27) #[] #[]), (83, sv p), (88, sv p), (93, sv p), (97, sv p), (82, .agg #[.slice A1 L1.length c1']), (87, .agg #[.slice A2 L2.length c2']), (92, .agg #[.slice A3 L3.length c3']), (96, .agg #[.slice A9 M.length c9]), (2, .pointer (some ⟨b2, 0, none⟩)), (7, .pointer (some ⟨b7, 0, none⟩)), (8, .func (.func 27) #[] #[]), (74, .slice A10 P.length c10), (75, .int .i64 (P.length : Int)), (76, .int .i64 (j : Int))]) (fun x : Nat × Nat × Nat × Nat => [pt x.2.2.2 50 (sdc default), pt x.2.2.1 50 (sdc default), pt x.2.1 50 (sdc default), pt x.1 50 (sdc default), row 9 1 A10 P.length c10 (P.map sv), pt b7 24 [.slice A9 M.length c9], row 70 2 A9 M.length c9 (cellsL rwc M), pt b2 26 [.slice A1 L1.length c1', .slice A2 L2.length c2', .slice A3 L3.length c3']]) (fun x => ?_) (fun nd16 => ?_)
      · skip
        obtain ⟨b11, b12, b13, b14⟩ := x
        try dsimp only
        refine D_one 14 rfl (E_cloA (cap := []) rfl (E_hv0 (f := 27) ⟨_, Try.func27, rfl, by kernel_rfl⟩ (fun w hS => hasL_any w A3 L3.length c3' L3 p ((Srd.old h3 (fun k _ => noOwns k)).rd w hS) (by omega)) rfl rfl (fun _ => rfl))) ?_ rfl rfl (by kernel_rfl)
        rintro _ _ ⟨_, rfl, _, rfl⟩; rw [ht]
        refine Nx_same sub_st ?_
        have h := nd5 (b11, b12, b13, b14)
        try dsimp only at h
        exact D_at h (by repeat first | exact Sub.nil | refine Sub.cons rfl ?_) sub_st (by kernel_rfl)
      refine D_nodeR #[true, true, true, true, true, true, true, true, true, true, true, true, true, true, true, true, true, true, true, true, false, false, false, false, false, false, false] (fun x : Nat => [(11, .pointer (some ⟨x, 0, none⟩)), (98, .agg (sdc z).toArray), (94, .agg (sdc t).toArray), (89, .agg (sdc o).toArray), (84, .agg (sdc b).toArray), (80, .func (.func 27) #[] #[]), (85, .func (.func 27) #[] #[]), (90, .func (.func 27) #[] #[]), (95, .func (.func 27) #[] #[]), (83, sv p), (88, sv p), (93, sv p), (97, sv p), (82, .agg #[.slice A1 L1.length c1']), (87, .agg #[.slice A2 L2.length c2']), (92, .agg #[.slice A3 L3.length c3']), (96, .agg #[.slice A9 M.length c9]), (2, .pointer (some ⟨b2, 0, none⟩)), (7, .pointer (some ⟨b7, 0, none⟩)), (8, .func (.func 27) #[] #[]), (74, .slice A10 P.length c10), (75, .int .i64 (P.length : Int)), (76, .int .i64 (j : Int))]) (fun x : Nat => [pt x 50 (sdc default), row 9 1 A10 P.length c10 (P.map sv), pt b7 24 [.slice A9 M.length c9], row 70 2 A9 M.length c9 (cellsL rwc M), pt b2 26 [.slice A1 L1.length c1', .slice A2 L2.length c2', .slice A3 L3.length c3']]) (fun x => ?_) (fun nd17 => ?_)
      · skip
        revert x; intro b11
        try dsimp only
        refine D_three 20 21 22 rfl rfl rfl (E_alloca rfl sd_zero) (E_alloca rfl sd_zero) (E_alloca rfl sd_zero) ?_ ?_ ?_ rfl rfl rfl rfl rfl rfl (by kernel_rfl)
        · rintro _ _ ⟨b12, rfl, rfl⟩
          refine Nx_same sub_st ?_
          have h := nd6 (b11, b12)
          try dsimp only at h
          exact D_at h (by repeat first | exact Sub.nil | refine Sub.cons rfl ?_) sub_st (by kernel_rfl)
        · rintro _ _ ⟨b13, rfl, rfl⟩
          refine Nx_same sub_st ?_
          have h := nd7 (b11, b13)
          try dsimp only at h
          exact D_at h (by repeat first | exact Sub.nil | refine Sub.cons rfl ?_) sub_st (by kernel_rfl)
        · rintro _ _ ⟨b14, rfl, rfl⟩
          refine Nx_same sub_st ?_
          have h := nd8 (b11, b14)
          try dsimp only at h
          exact D_at h (by repeat first | exact Sub.nil | refine Sub.cons rfl ?_) sub_st (by kernel_rfl)
      refine D_nodeR #[true, true, true, true, true, true, true, true, true, true, true, true, true, true, true, true, true, true, true, false, true, false, false, false, false, false, false] (fun x : Nat => [(12, .pointer (some ⟨x, 0, none⟩)), (98, .agg (sdc z).toArray), (94, .agg (sdc t).toArray), (89, .agg (sdc o).toArray), (84, .agg (sdc b).toArray), (80, .func (.func 27) #[] #[]), (85, .func (.func 27) #[] #[]), (90, .func (.func 27) #[] #[]), (95, .func (.func 27) #[] #[]), (83, sv p), (88, sv p), (93, sv p), (97, sv p), (82, .agg #[.slice A1 L1.length c1']), (87, .agg #[.slice A2 L2.length c2']), (92, .agg #[.slice A3 L3.length c3']), (96, .agg #[.slice A9 M.length c9]), (2, .pointer (some ⟨b2, 0, none⟩)), (7, .pointer (some ⟨b7, 0, none⟩)), (8, .func (.func 27) #[] #[]), (74, .slice A10 P.length c10), (75, .int .i64 (P.length : Int)), (76, .int .i64 (j : Int))]) (fun x : Nat => [pt x 50 (sdc default), row 9 1 A10 P.length c10 (P.map sv), pt b7 24 [.slice A9 M.length c9], row 70 2 A9 M.length c9 (cellsL rwc M), pt b2 26 [.slice A1 L1.length c1', .slice A2 L2.length c2', .slice A3 L3.length c3']]) (fun x => ?_) (fun nd18 => ?_)
      · skip
        revert x; intro b12
        try dsimp only
        refine D_three 19 21 22 rfl rfl rfl (E_alloca rfl sd_zero) (E_alloca rfl sd_zero) (E_alloca rfl sd_zero) ?_ ?_ ?_ rfl rfl rfl rfl rfl rfl (by kernel_rfl)
        · rintro _ _ ⟨b11, rfl, rfl⟩
          refine Nx_same sub_st ?_
          have h := nd6 (b11, b12)
          try dsimp only at h
          exact D_at h (by repeat first | exact Sub.nil | refine Sub.cons rfl ?_) sub_st (by kernel_rfl)
        · rintro _ _ ⟨b13, rfl, rfl⟩
          refine Nx_same sub_st ?_
          have h := nd9 (b12, b13)
          try dsimp only at h
          exact D_at h (by repeat first | exact Sub.nil | refine Sub.cons rfl ?_) sub_st (by kernel_rfl)
        · rintro _ _ ⟨b14, rfl, rfl⟩
          refine Nx_same sub_st ?_
          have h := nd10 (b12, b14)
          try dsimp only at h
          exact D_at h (by repeat first | exact Sub.nil | refine Sub.cons rfl ?_) sub_st (by kernel_rfl)
      refine D_nodeR #[true, true, true, true, true, true, true, true, true, true, true, true, true, true, true, true, true, true, true, false, false, true, false, false, false, false, false] (fun x : Nat => [(13, .pointer (some ⟨x, 0, none⟩)), (98, .agg (sdc z).toArray), (94, .agg (sdc t).toArray), (89, .agg (sdc o).toArray), (84, .agg (sdc b).toArray), (80, .func (.func 27) #[] #[]), (85, .func (.func 27) #[] #[]), (90, .func (.func 27) #[] #[]), (95, .func (.func 27) #[] #[]), (83, sv p), (88, sv p), (93, sv p), (97, sv p), (82, .agg #[.slice A1 L1.length c1']), (87, .agg #[.slice A2 L2.length c2']), (92, .agg #[.slice A3 L3.length c3']), (96, .agg #[.slice A9 M.length c9]), (2, .pointer (some ⟨b2, 0, none⟩)), (7, .pointer (some ⟨b7, 0, none⟩)), (8, .func (.func 27) #[] #[]), (74, .slice A10 P.length c10), (75, .int .i64 (P.length : Int)), (76, .int .i64 (j : Int))]) (fun x : Nat => [pt x 50 (sdc default), row 9 1 A10 P.length c10 (P.map sv), pt b7 24 [.slice A9 M.length c9], row 70 2 A9 M.length c9 (cellsL rwc M), pt b2 26 [.slice A1 L1.length c1', .slice A2 L2.length c2', .slice A3 L3.length c3']]) (fun x => ?_) (fun nd19 => ?_)
      · skip
        revert x; intro b13
        try dsimp only
        refine D_three 19 20 22 rfl rfl rfl (E_alloca rfl sd_zero) (E_alloca rfl sd_zero) (E_alloca rfl sd_zero) ?_ ?_ ?_ rfl rfl rfl rfl rfl rfl (by kernel_rfl)
        · rintro _ _ ⟨b11, rfl, rfl⟩
          refine Nx_same sub_st ?_
          have h := nd7 (b11, b13)
          try dsimp only at h
          exact D_at h (by repeat first | exact Sub.nil | refine Sub.cons rfl ?_) sub_st (by kernel_rfl)
        · rintro _ _ ⟨b12, rfl, rfl⟩
          refine Nx_same sub_st ?_
          have h := nd9 (b12, b13)
          try dsimp only at h
          exact D_at h (by repeat first | exact Sub.nil | refine Sub.cons rfl ?_) sub_st (by kernel_rfl)
        · rintro _ _ ⟨b14, rfl, rfl⟩
          refine Nx_same sub_st ?_
          have h := nd11 (b13, b14)
          try dsimp only at h
          exact D_at h (by repeat first | exact Sub.nil | refine Sub.cons rfl ?_) sub_st (by kernel_rfl)
      refine D_nodeR #[true, true, true, true, true, true, true, true, true, true, true, true, true, true, true, true, true, true, true, false, false, false, true, false, false, false, false] (fun x : Nat => [(14, .pointer (some ⟨x, 0, none⟩)), (98, .agg (sdc z).toArray), (94, .agg (sdc t).toArray), (89, .agg (sdc o).toArray), (84, .agg (sdc b).toArray), (80, .func (.func 27) #[] #[]), (85, .func (.func 27) #[] #[]), (90, .func (.func 27) #[] #[]), (95, .func (.func 27) #[] #[]), (83, sv p), (88, sv p), (93, sv p), (97, sv p), (82, .agg #[.slice A1 L1.length c1']), (87, .agg #[.slice A2 L2.length c2']), (92, .agg #[.slice A3 L3.length c3']), (96, .agg #[.slice A9 M.length c9]), (2, .pointer (some ⟨b2, 0, none⟩)), (7, .pointer (some ⟨b7, 0, none⟩)), (8, .func (.func 27) #[] #[]), (74, .slice A10 P.length c10), (75, .int .i64 (P.length : Int)), (76, .int .i64 (j : Int))]) (fun x : Nat => [pt x 50 (sdc default), row 9 1 A10 P.length c10 (P.map sv), pt b7 24 [.slice A9 M.length c9], row 70 2 A9 M.length c9 (cellsL rwc M), pt b2 26 [.slice A1 L1.length c1', .slice A2 L2.length c2', .slice A3 L3.length c3']]) (fun x => ?_) (fun nd20 => ?_)
      · skip
        revert x; intro b14
        try dsimp only
        refine D_three 19 20 21 rfl rfl rfl (E_alloca rfl sd_zero) (E_alloca rfl sd_zero) (E_alloca rfl sd_zero) ?_ ?_ ?_ rfl rfl rfl rfl rfl rfl (by kernel_rfl)
        · rintro _ _ ⟨b11, rfl, rfl⟩
          refine Nx_same sub_st ?_
          have h := nd8 (b11, b14)
          try dsimp only at h
          exact D_at h (by repeat first | exact Sub.nil | refine Sub.cons rfl ?_) sub_st (by kernel_rfl)
        · rintro _ _ ⟨b12, rfl, rfl⟩
          refine Nx_same sub_st ?_
          have h := nd10 (b12, b14)
          try dsimp only at h
          exact D_at h (by repeat first | exact Sub.nil | refine Sub.cons rfl ?_) sub_st (by kernel_rfl)
        · rintro _ _ ⟨b13, rfl, rfl⟩
          refine Nx_same sub_st ?_
          have h := nd11 (b13, b14)
          try dsimp only at h
          exact D_at h (by repeat first | exact Sub.nil | refine Sub.cons rfl ?_) sub_st (by kernel_rfl)
      refine D_nodeR #[true, true, true, true, true, true, true, true, true, true, true, true, true, true, true, true, true, true, false, true, true, false, false, false, false, false, false] (fun x : Nat × Nat => [(12, .pointer (some ⟨x.2, 0, none⟩)), (11, .pointer (some ⟨x.1, 0, none⟩)), (94, .agg (sdc t).toArray), (89, .agg (sdc o).toArray), (84, .agg (sdc b).toArray), (80, .func (.func 27) #[] #[]), (85, .func (.func 27) #[] #[]), (90, .func (.func 27) #[] #[]), (95, .func (.func 27) #[] #[]), (83, sv p), (88, sv p), (93, sv p), (97, sv p), (82, .agg #[.slice A1 L1.length c1']), (87, .agg #[.slice A2 L2.length c2']), (92, .agg #[.slice A3 L3.length c3']), (96, .agg #[.slice A9 M.length c9]), (2, .pointer (some ⟨b2, 0, none⟩)), (7, .pointer (some ⟨b7, 0, none⟩)), (8, .func (.func 27) #[] #[]), (74, .slice A10 P.length c10), (75, .int .i64 (P.length : Int)), (76, .int .i64 (j : Int))]) (fun x : Nat × Nat => [pt x.2 50 (sdc default), pt x.1 50 (sdc default), row 9 1 A10 P.length c10 (P.map sv), pt b7 24 [.slice A9 M.length c9], row 70 2 A9 M.length c9 (cellsL rwc M), pt b2 26 [.slice A1 L1.length c1', .slice A2 L2.length c2', .slice A3 L3.length c3']]) (fun x => ?_) (fun nd21 => ?_)
      · skip
        obtain ⟨b11, b12⟩ := x
        try dsimp only
        refine D_three 18 21 22 rfl rfl rfl (E_cloA (cap := []) rfl (E_hv0 (f := 27) ⟨_, Try.func27, rfl, by kernel_rfl⟩ (fun w hS => hasL_any w A9 M.length c9 M p ((Srd.row (A := A9) (n := M.length) (c := c9)).rd w hS) (by omega)) rfl rfl (fun _ => rfl))) (E_alloca rfl sd_zero) (E_alloca rfl sd_zero) ?_ ?_ ?_ rfl rfl rfl rfl rfl rfl (by kernel_rfl)
        · rintro _ _ ⟨_, rfl, _, rfl⟩; rw [hz]
          refine Nx_same sub_st ?_
          have h := nd6 (b11, b12)
          try dsimp only at h
          exact D_at h (by repeat first | exact Sub.nil | refine Sub.cons rfl ?_) sub_st (by kernel_rfl)
        · rintro _ _ ⟨b13, rfl, rfl⟩
          refine Nx_same sub_st ?_
          have h := nd12 (b11, b12, b13)
          try dsimp only at h
          exact D_at h (by repeat first | exact Sub.nil | refine Sub.cons rfl ?_) sub_st (by kernel_rfl)
        · rintro _ _ ⟨b14, rfl, rfl⟩
          refine Nx_same sub_st ?_
          have h := nd13 (b11, b12, b14)
          try dsimp only at h
          exact D_at h (by repeat first | exact Sub.nil | refine Sub.cons rfl ?_) sub_st (by kernel_rfl)
      refine D_nodeR #[true, true, true, true, true, true, true, true, true, true, true, true, true, true, true, true, true, true, false, true, false, true, false, false, false, false, false] (fun x : Nat × Nat => [(13, .pointer (some ⟨x.2, 0, none⟩)), (11, .pointer (some ⟨x.1, 0, none⟩)), (94, .agg (sdc t).toArray), (89, .agg (sdc o).toArray), (84, .agg (sdc b).toArray), (80, .func (.func 27) #[] #[]), (85, .func (.func 27) #[] #[]), (90, .func (.func 27) #[] #[]), (95, .func (.func 27) #[] #[]), (83, sv p), (88, sv p), (93, sv p), (97, sv p), (82, .agg #[.slice A1 L1.length c1']), (87, .agg #[.slice A2 L2.length c2']), (92, .agg #[.slice A3 L3.length c3']), (96, .agg #[.slice A9 M.length c9]), (2, .pointer (some ⟨b2, 0, none⟩)), (7, .pointer (some ⟨b7, 0, none⟩)), (8, .func (.func 27) #[] #[]), (74, .slice A10 P.length c10), (75, .int .i64 (P.length : Int)), (76, .int .i64 (j : Int))]) (fun x : Nat × Nat => [pt x.2 50 (sdc default), pt x.1 50 (sdc default), row 9 1 A10 P.length c10 (P.map sv), pt b7 24 [.slice A9 M.length c9], row 70 2 A9 M.length c9 (cellsL rwc M), pt b2 26 [.slice A1 L1.length c1', .slice A2 L2.length c2', .slice A3 L3.length c3']]) (fun x => ?_) (fun nd22 => ?_)
      · skip
        obtain ⟨b11, b13⟩ := x
        try dsimp only
        refine D_three 18 20 22 rfl rfl rfl (E_cloA (cap := []) rfl (E_hv0 (f := 27) ⟨_, Try.func27, rfl, by kernel_rfl⟩ (fun w hS => hasL_any w A9 M.length c9 M p ((Srd.row (A := A9) (n := M.length) (c := c9)).rd w hS) (by omega)) rfl rfl (fun _ => rfl))) (E_alloca rfl sd_zero) (E_alloca rfl sd_zero) ?_ ?_ ?_ rfl rfl rfl rfl rfl rfl (by kernel_rfl)
        · rintro _ _ ⟨_, rfl, _, rfl⟩; rw [hz]
          refine Nx_same sub_st ?_
          have h := nd7 (b11, b13)
          try dsimp only at h
          exact D_at h (by repeat first | exact Sub.nil | refine Sub.cons rfl ?_) sub_st (by kernel_rfl)
        · rintro _ _ ⟨b12, rfl, rfl⟩
          refine Nx_same sub_st ?_
          have h := nd12 (b11, b12, b13)
          try dsimp only at h
          exact D_at h (by repeat first | exact Sub.nil | refine Sub.cons rfl ?_) sub_st (by kernel_rfl)
        · rintro _ _ ⟨b14, rfl, rfl⟩
          refine Nx_same sub_st ?_
          have h := nd14 (b11, b13, b14)
          try dsimp only at h
          exact D_at h (by repeat first | exact Sub.nil | refine Sub.cons rfl ?_) sub_st (by kernel_rfl)
      refine D_nodeR #[true, true, true, true, true, true, true, true, true, true, true, true, true, true, true, true, true, true, false, true, false, false, true, false, false, false, false] (fun x : Nat × Nat => [(14, .pointer (some ⟨x.2, 0, none⟩)), (11, .pointer (some ⟨x.1, 0, none⟩)), (94, .agg (sdc t).toArray), (89, .agg (sdc o).toArray), (84, .agg (sdc b).toArray), (80, .func (.func 27) #[] #[]), (85, .func (.func 27) #[] #[]), (90, .func (.func 27) #[] #[]), (95, .func (.func 27) #[] #[]), (83, sv p), (88, sv p), (93, sv p), (97, sv p), (82, .agg #[.slice A1 L1.length c1']), (87, .agg #[.slice A2 L2.length c2']), (92, .agg #[.slice A3 L3.length c3']), (96, .agg #[.slice A9 M.length c9]), (2, .pointer (some ⟨b2, 0, none⟩)), (7, .pointer (some ⟨b7, 0, none⟩)), (8, .func (.func 27) #[] #[]), (74, .slice A10 P.length c10), (75, .int .i64 (P.length : Int)), (76, .int .i64 (j : Int))]) (fun x : Nat × Nat => [pt x.2 50 (sdc default), pt x.1 50 (sdc default), row 9 1 A10 P.length c10 (P.map sv), pt b7 24 [.slice A9 M.length c9], row 70 2 A9 M.length c9 (cellsL rwc M), pt b2 26 [.slice A1 L1.length c1', .slice A2 L2.length c2', .slice A3 L3.length c3']]) (fun x => ?_) (fun nd23 => ?_)
      · skip
        obtain ⟨b11, b14⟩ := x
        try dsimp only
        refine D_three 18 20 21 rfl rfl rfl (E_cloA (cap := []) rfl (E_hv0 (f := 27) ⟨_, Try.func27, rfl, by kernel_rfl⟩ (fun w hS => hasL_any w A9 M.length c9 M p ((Srd.row (A := A9) (n := M.length) (c := c9)).rd w hS) (by omega)) rfl rfl (fun _ => rfl))) (E_alloca rfl sd_zero) (E_alloca rfl sd_zero) ?_ ?_ ?_ rfl rfl rfl rfl rfl rfl (by kernel_rfl)
        · rintro _ _ ⟨_, rfl, _, rfl⟩; rw [hz]
          refine Nx_same sub_st ?_
          have h := nd8 (b11, b14)
          try dsimp only at h
          exact D_at h (by repeat first | exact Sub.nil | refine Sub.cons rfl ?_) sub_st (by kernel_rfl)
        · rintro _ _ ⟨b12, rfl, rfl⟩
          refine Nx_same sub_st ?_
          have h := nd13 (b11, b12, b14)
          try dsimp only at h
          exact D_at h (by repeat first | exact Sub.nil | refine Sub.cons rfl ?_) sub_st (by kernel_rfl)
        · rintro _ _ ⟨b13, rfl, rfl⟩
          refine Nx_same sub_st ?_
          have h := nd14 (b11, b13, b14)
          try dsimp only at h
          exact D_at h (by repeat first | exact Sub.nil | refine Sub.cons rfl ?_) sub_st (by kernel_rfl)
      refine D_nodeR #[true, true, true, true, true, true, true, true, true, true, true, true, true, true, true, true, true, true, false, false, true, true, false, false, false, false, false] (fun x : Nat × Nat => [(13, .pointer (some ⟨x.2, 0, none⟩)), (12, .pointer (some ⟨x.1, 0, none⟩)), (94, .agg (sdc t).toArray), (89, .agg (sdc o).toArray), (84, .agg (sdc b).toArray), (80, .func (.func 27) #[] #[]), (85, .func (.func 27) #[] #[]), (90, .func (.func 27) #[] #[]), (95, .func (.func 27) #[] #[]), (83, sv p), (88, sv p), (93, sv p), (97, sv p), (82, .agg #[.slice A1 L1.length c1']), (87, .agg #[.slice A2 L2.length c2']), (92, .agg #[.slice A3 L3.length c3']), (96, .agg #[.slice A9 M.length c9]), (2, .pointer (some ⟨b2, 0, none⟩)), (7, .pointer (some ⟨b7, 0, none⟩)), (8, .func (.func 27) #[] #[]), (74, .slice A10 P.length c10), (75, .int .i64 (P.length : Int)), (76, .int .i64 (j : Int))]) (fun x : Nat × Nat => [pt x.2 50 (sdc default), pt x.1 50 (sdc default), row 9 1 A10 P.length c10 (P.map sv), pt b7 24 [.slice A9 M.length c9], row 70 2 A9 M.length c9 (cellsL rwc M), pt b2 26 [.slice A1 L1.length c1', .slice A2 L2.length c2', .slice A3 L3.length c3']]) (fun x => ?_) (fun nd24 => ?_)
      · skip
        obtain ⟨b12, b13⟩ := x
        try dsimp only
        refine D_three 18 19 22 rfl rfl rfl (E_cloA (cap := []) rfl (E_hv0 (f := 27) ⟨_, Try.func27, rfl, by kernel_rfl⟩ (fun w hS => hasL_any w A9 M.length c9 M p ((Srd.row (A := A9) (n := M.length) (c := c9)).rd w hS) (by omega)) rfl rfl (fun _ => rfl))) (E_alloca rfl sd_zero) (E_alloca rfl sd_zero) ?_ ?_ ?_ rfl rfl rfl rfl rfl rfl (by kernel_rfl)
        · rintro _ _ ⟨_, rfl, _, rfl⟩; rw [hz]
          refine Nx_same sub_st ?_
          have h := nd9 (b12, b13)
          try dsimp only at h
          exact D_at h (by repeat first | exact Sub.nil | refine Sub.cons rfl ?_) sub_st (by kernel_rfl)
        · rintro _ _ ⟨b11, rfl, rfl⟩
          refine Nx_same sub_st ?_
          have h := nd12 (b11, b12, b13)
          try dsimp only at h
          exact D_at h (by repeat first | exact Sub.nil | refine Sub.cons rfl ?_) sub_st (by kernel_rfl)
        · rintro _ _ ⟨b14, rfl, rfl⟩
          refine Nx_same sub_st ?_
          have h := nd15 (b12, b13, b14)
          try dsimp only at h
          exact D_at h (by repeat first | exact Sub.nil | refine Sub.cons rfl ?_) sub_st (by kernel_rfl)
      refine D_nodeR #[true, true, true, true, true, true, true, true, true, true, true, true, true, true, true, true, true, true, false, false, true, false, true, false, false, false, false] (fun x : Nat × Nat => [(14, .pointer (some ⟨x.2, 0, none⟩)), (12, .pointer (some ⟨x.1, 0, none⟩)), (94, .agg (sdc t).toArray), (89, .agg (sdc o).toArray), (84, .agg (sdc b).toArray), (80, .func (.func 27) #[] #[]), (85, .func (.func 27) #[] #[]), (90, .func (.func 27) #[] #[]), (95, .func (.func 27) #[] #[]), (83, sv p), (88, sv p), (93, sv p), (97, sv p), (82, .agg #[.slice A1 L1.length c1']), (87, .agg #[.slice A2 L2.length c2']), (92, .agg #[.slice A3 L3.length c3']), (96, .agg #[.slice A9 M.length c9]), (2, .pointer (some ⟨b2, 0, none⟩)), (7, .pointer (some ⟨b7, 0, none⟩)), (8, .func (.func 27) #[] #[]), (74, .slice A10 P.length c10), (75, .int .i64 (P.length : Int)), (76, .int .i64 (j : Int))]) (fun x : Nat × Nat => [pt x.2 50 (sdc default), pt x.1 50 (sdc default), row 9 1 A10 P.length c10 (P.map sv), pt b7 24 [.slice A9 M.length c9], row 70 2 A9 M.length c9 (cellsL rwc M), pt b2 26 [.slice A1 L1.length c1', .slice A2 L2.length c2', .slice A3 L3.length c3']]) (fun x => ?_) (fun nd25 => ?_)
      · skip
        obtain ⟨b12, b14⟩ := x
        try dsimp only
        refine D_three 18 19 21 rfl rfl rfl (E_cloA (cap := []) rfl (E_hv0 (f := 27) ⟨_, Try.func27, rfl, by kernel_rfl⟩ (fun w hS => hasL_any w A9 M.length c9 M p ((Srd.row (A := A9) (n := M.length) (c := c9)).rd w hS) (by omega)) rfl rfl (fun _ => rfl))) (E_alloca rfl sd_zero) (E_alloca rfl sd_zero) ?_ ?_ ?_ rfl rfl rfl rfl rfl rfl (by kernel_rfl)
        · rintro _ _ ⟨_, rfl, _, rfl⟩; rw [hz]
          refine Nx_same sub_st ?_
          have h := nd10 (b12, b14)
          try dsimp only at h
          exact D_at h (by repeat first | exact Sub.nil | refine Sub.cons rfl ?_) sub_st (by kernel_rfl)
        · rintro _ _ ⟨b11, rfl, rfl⟩
          refine Nx_same sub_st ?_
          have h := nd13 (b11, b12, b14)
          try dsimp only at h
          exact D_at h (by repeat first | exact Sub.nil | refine Sub.cons rfl ?_) sub_st (by kernel_rfl)
        · rintro _ _ ⟨b13, rfl, rfl⟩
          refine Nx_same sub_st ?_
          have h := nd15 (b12, b13, b14)
          try dsimp only at h
          exact D_at h (by repeat first | exact Sub.nil | refine Sub.cons rfl ?_) sub_st (by kernel_rfl)
      refine D_nodeR #[true, true, true, true, true, true, true, true, true, true, true, true, true, true, true, true, true, true, false, false, false, true, true, false, false, false, false] (fun x : Nat × Nat => [(14, .pointer (some ⟨x.2, 0, none⟩)), (13, .pointer (some ⟨x.1, 0, none⟩)), (94, .agg (sdc t).toArray), (89, .agg (sdc o).toArray), (84, .agg (sdc b).toArray), (80, .func (.func 27) #[] #[]), (85, .func (.func 27) #[] #[]), (90, .func (.func 27) #[] #[]), (95, .func (.func 27) #[] #[]), (83, sv p), (88, sv p), (93, sv p), (97, sv p), (82, .agg #[.slice A1 L1.length c1']), (87, .agg #[.slice A2 L2.length c2']), (92, .agg #[.slice A3 L3.length c3']), (96, .agg #[.slice A9 M.length c9]), (2, .pointer (some ⟨b2, 0, none⟩)), (7, .pointer (some ⟨b7, 0, none⟩)), (8, .func (.func 27) #[] #[]), (74, .slice A10 P.length c10), (75, .int .i64 (P.length : Int)), (76, .int .i64 (j : Int))]) (fun x : Nat × Nat => [pt x.2 50 (sdc default), pt x.1 50 (sdc default), row 9 1 A10 P.length c10 (P.map sv), pt b7 24 [.slice A9 M.length c9], row 70 2 A9 M.length c9 (cellsL rwc M), pt b2 26 [.slice A1 L1.length c1', .slice A2 L2.length c2', .slice A3 L3.length c3']]) (fun x => ?_) (fun nd26 => ?_)
      · skip
        obtain ⟨b13, b14⟩ := x
        try dsimp only
        refine D_three 18 19 20 rfl rfl rfl (E_cloA (cap := []) rfl (E_hv0 (f := 27) ⟨_, Try.func27, rfl, by kernel_rfl⟩ (fun w hS => hasL_any w A9 M.length c9 M p ((Srd.row (A := A9) (n := M.length) (c := c9)).rd w hS) (by omega)) rfl rfl (fun _ => rfl))) (E_alloca rfl sd_zero) (E_alloca rfl sd_zero) ?_ ?_ ?_ rfl rfl rfl rfl rfl rfl (by kernel_rfl)
        · rintro _ _ ⟨_, rfl, _, rfl⟩; rw [hz]
          refine Nx_same sub_st ?_
          have h := nd11 (b13, b14)
          try dsimp only at h
          exact D_at h (by repeat first | exact Sub.nil | refine Sub.cons rfl ?_) sub_st (by kernel_rfl)
        · rintro _ _ ⟨b11, rfl, rfl⟩
          refine Nx_same sub_st ?_
          have h := nd14 (b11, b13, b14)
          try dsimp only at h
          exact D_at h (by repeat first | exact Sub.nil | refine Sub.cons rfl ?_) sub_st (by kernel_rfl)
        · rintro _ _ ⟨b12, rfl, rfl⟩
          refine Nx_same sub_st ?_
          have h := nd15 (b12, b13, b14)
          try dsimp only at h
          exact D_at h (by repeat first | exact Sub.nil | refine Sub.cons rfl ?_) sub_st (by kernel_rfl)
      refine D_nodeR #[true, true, true, true, true, true, true, true, true, true, true, true, true, true, false, true, true, true, false, true, true, true, false, false, false, false, false] (fun x : Nat × Nat × Nat => [(13, .pointer (some ⟨x.2.2, 0, none⟩)), (12, .pointer (some ⟨x.2.1, 0, none⟩)), (11, .pointer (some ⟨x.1, 0, none⟩)), (89, .agg (sdc o).toArray), (84, .agg (sdc b).toArray), (80, .func (.func 27) #[] #[]), (85, .func (.func 27) #[] #[]), (90, .func (.func 27) #[] #[]), (95, .func (.func 27) #[] #[]), (83, sv p), (88, sv p), (93, sv p), (97, sv p), (82, .agg #[.slice A1 L1.length c1']), (87, .agg #[.slice A2 L2.length c2']), (92, .agg #[.slice A3 L3.length c3']), (96, .agg #[.slice A9 M.length c9]), (2, .pointer (some ⟨b2, 0, none⟩)), (7, .pointer (some ⟨b7, 0, none⟩)), (8, .func (.func 27) #[] #[]), (74, .slice A10 P.length c10), (75, .int .i64 (P.length : Int)), (76, .int .i64 (j : Int))]) (fun x : Nat × Nat × Nat => [pt x.2.2 50 (sdc default), pt x.2.1 50 (sdc default), pt x.1 50 (sdc default), row 9 1 A10 P.length c10 (P.map sv), pt b7 24 [.slice A9 M.length c9], row 70 2 A9 M.length c9 (cellsL rwc M), pt b2 26 [.slice A1 L1.length c1', .slice A2 L2.length c2', .slice A3 L3.length c3']]) (fun x => ?_) (fun nd27 => ?_)
      · skip
        obtain ⟨b11, b12, b13⟩ := x
        try dsimp only
        refine D_two 14 22 (by decide) rfl rfl (E_cloA (cap := []) rfl (E_hv0 (f := 27) ⟨_, Try.func27, rfl, by kernel_rfl⟩ (fun w hS => hasL_any w A3 L3.length c3' L3 p ((Srd.old h3 (fun k _ => noOwns k)).rd w hS) (by omega)) rfl rfl (fun _ => rfl))) (E_alloca rfl sd_zero) ?_ ?_ rfl rfl rfl rfl (by kernel_rfl)
        · rintro _ _ ⟨_, rfl, _, rfl⟩; rw [ht]
          refine Nx_same sub_st ?_
          have h := nd12 (b11, b12, b13)
          try dsimp only at h
          exact D_at h (by repeat first | exact Sub.nil | refine Sub.cons rfl ?_) sub_st (by kernel_rfl)
        · rintro _ _ ⟨b14, rfl, rfl⟩
          refine Nx_same sub_st ?_
          have h := nd16 (b11, b12, b13, b14)
          try dsimp only at h
          exact D_at h (by repeat first | exact Sub.nil | refine Sub.cons rfl ?_) sub_st (by kernel_rfl)
      refine D_nodeR #[true, true, true, true, true, true, true, true, true, true, true, true, true, true, false, true, true, true, false, true, true, false, true, false, false, false, false] (fun x : Nat × Nat × Nat => [(14, .pointer (some ⟨x.2.2, 0, none⟩)), (12, .pointer (some ⟨x.2.1, 0, none⟩)), (11, .pointer (some ⟨x.1, 0, none⟩)), (89, .agg (sdc o).toArray), (84, .agg (sdc b).toArray), (80, .func (.func 27) #[] #[]), (85, .func (.func 27) #[] #[]), (90, .func (.func 27) #[] #[]), (95, .func (.func 27) #[] #[]), (83, sv p), (88, sv p), (93, sv p), (97, sv p), (82, .agg #[.slice A1 L1.length c1']), (87, .agg #[.slice A2 L2.length c2']), (92, .agg #[.slice A3 L3.length c3']), (96, .agg #[.slice A9 M.length c9]), (2, .pointer (some ⟨b2, 0, none⟩)), (7, .pointer (some ⟨b7, 0, none⟩)), (8, .func (.func 27) #[] #[]), (74, .slice A10 P.length c10), (75, .int .i64 (P.length : Int)), (76, .int .i64 (j : Int))]) (fun x : Nat × Nat × Nat => [pt x.2.2 50 (sdc default), pt x.2.1 50 (sdc default), pt x.1 50 (sdc default), row 9 1 A10 P.length c10 (P.map sv), pt b7 24 [.slice A9 M.length c9], row 70 2 A9 M.length c9 (cellsL rwc M), pt b2 26 [.slice A1 L1.length c1', .slice A2 L2.length c2', .slice A3 L3.length c3']]) (fun x => ?_) (fun nd28 => ?_)
      · skip
        obtain ⟨b11, b12, b14⟩ := x
        try dsimp only
        refine D_two 14 21 (by decide) rfl rfl (E_cloA (cap := []) rfl (E_hv0 (f := 27) ⟨_, Try.func27, rfl, by kernel_rfl⟩ (fun w hS => hasL_any w A3 L3.length c3' L3 p ((Srd.old h3 (fun k _ => noOwns k)).rd w hS) (by omega)) rfl rfl (fun _ => rfl))) (E_alloca rfl sd_zero) ?_ ?_ rfl rfl rfl rfl (by kernel_rfl)
        · rintro _ _ ⟨_, rfl, _, rfl⟩; rw [ht]
          refine Nx_same sub_st ?_
          have h := nd13 (b11, b12, b14)
          try dsimp only at h
          exact D_at h (by repeat first | exact Sub.nil | refine Sub.cons rfl ?_) sub_st (by kernel_rfl)
        · rintro _ _ ⟨b13, rfl, rfl⟩
          refine Nx_same sub_st ?_
          have h := nd16 (b11, b12, b13, b14)
          try dsimp only at h
          exact D_at h (by repeat first | exact Sub.nil | refine Sub.cons rfl ?_) sub_st (by kernel_rfl)
      refine D_nodeR #[true, true, true, true, true, true, true, true, true, true, true, true, true, true, false, true, true, true, false, true, false, true, true, false, false, false, false] (fun x : Nat × Nat × Nat => [(14, .pointer (some ⟨x.2.2, 0, none⟩)), (13, .pointer (some ⟨x.2.1, 0, none⟩)), (11, .pointer (some ⟨x.1, 0, none⟩)), (89, .agg (sdc o).toArray), (84, .agg (sdc b).toArray), (80, .func (.func 27) #[] #[]), (85, .func (.func 27) #[] #[]), (90, .func (.func 27) #[] #[]), (95, .func (.func 27) #[] #[]), (83, sv p), (88, sv p), (93, sv p), (97, sv p), (82, .agg #[.slice A1 L1.length c1']), (87, .agg #[.slice A2 L2.length c2']), (92, .agg #[.slice A3 L3.length c3']), (96, .agg #[.slice A9 M.length c9]), (2, .pointer (some ⟨b2, 0, none⟩)), (7, .pointer (some ⟨b7, 0, none⟩)), (8, .func (.func 27) #[] #[]), (74, .slice A10 P.length c10), (75, .int .i64 (P.length : Int)), (76, .int .i64 (j : Int))]) (fun x : Nat × Nat × Nat => [pt x.2.2 50 (sdc default), pt x.2.1 50 (sdc default), pt x.1 50 (sdc default), row 9 1 A10 P.length c10 (P.map sv), pt b7 24 [.slice A9 M.length c9], row 70 2 A9 M.length c9 (cellsL rwc M), pt b2 26 [.slice A1 L1.length c1', .slice A2 L2.length c2', .slice A3 L3.length c3']]) (fun x => ?_) (fun nd29 => ?_)
      · skip
        obtain ⟨b11, b13, b14⟩ := x
        try dsimp only
        refine D_two 14 20 (by decide) rfl rfl (E_cloA (cap := []) rfl (E_hv0 (f := 27) ⟨_, Try.func27, rfl, by kernel_rfl⟩ (fun w hS => hasL_any w A3 L3.length c3' L3 p ((Srd.old h3 (fun k _ => noOwns k)).rd w hS) (by omega)) rfl rfl (fun _ => rfl))) (E_alloca rfl sd_zero) ?_ ?_ rfl rfl rfl rfl (by kernel_rfl)
        · rintro _ _ ⟨_, rfl, _, rfl⟩; rw [ht]
          refine Nx_same sub_st ?_
          have h := nd14 (b11, b13, b14)
          try dsimp only at h
          exact D_at h (by repeat first | exact Sub.nil | refine Sub.cons rfl ?_) sub_st (by kernel_rfl)
        · rintro _ _ ⟨b12, rfl, rfl⟩
          refine Nx_same sub_st ?_
          have h := nd16 (b11, b12, b13, b14)
          try dsimp only at h
          exact D_at h (by repeat first | exact Sub.nil | refine Sub.cons rfl ?_) sub_st (by kernel_rfl)
      refine D_nodeR #[true, true, true, true, true, true, true, true, true, true, true, true, true, true, false, true, true, true, false, false, true, true, true, false, false, false, false] (fun x : Nat × Nat × Nat => [(14, .pointer (some ⟨x.2.2, 0, none⟩)), (13, .pointer (some ⟨x.2.1, 0, none⟩)), (12, .pointer (some ⟨x.1, 0, none⟩)), (89, .agg (sdc o).toArray), (84, .agg (sdc b).toArray), (80, .func (.func 27) #[] #[]), (85, .func (.func 27) #[] #[]), (90, .func (.func 27) #[] #[]), (95, .func (.func 27) #[] #[]), (83, sv p), (88, sv p), (93, sv p), (97, sv p), (82, .agg #[.slice A1 L1.length c1']), (87, .agg #[.slice A2 L2.length c2']), (92, .agg #[.slice A3 L3.length c3']), (96, .agg #[.slice A9 M.length c9]), (2, .pointer (some ⟨b2, 0, none⟩)), (7, .pointer (some ⟨b7, 0, none⟩)), (8, .func (.func 27) #[] #[]), (74, .slice A10 P.length c10), (75, .int .i64 (P.length : Int)), (76, .int .i64 (j : Int))]) (fun x : Nat × Nat × Nat => [pt x.2.2 50 (sdc default), pt x.2.1 50 (sdc default), pt x.1 50 (sdc default), row 9 1 A10 P.length c10 (P.map sv), pt b7 24 [.slice A9 M.length c9], row 70 2 A9 M.length c9 (cellsL rwc M), pt b2 26 [.slice A1 L1.length c1', .slice A2 L2.length c2', .slice A3 L3.length c3']]) (fun x => ?_) (fun nd30 => ?_)
      · skip
        obtain ⟨b12, b13, b14⟩ := x
        try dsimp only
        refine D_two 14 19 (by decide) rfl rfl (E_cloA (cap := []) rfl (E_hv0 (f := 27) ⟨_, Try.func27, rfl, by kernel_rfl⟩ (fun w hS => hasL_any w A3 L3.length c3' L3 p ((Srd.old h3 (fun k _ => noOwns k)).rd w hS) (by omega)) rfl rfl (fun _ => rfl))) (E_alloca rfl sd_zero) ?_ ?_ rfl rfl rfl rfl (by kernel_rfl)
        · rintro _ _ ⟨_, rfl, _, rfl⟩; rw [ht]
          refine Nx_same sub_st ?_
          have h := nd15 (b12, b13, b14)
          try dsimp only at h
          exact D_at h (by repeat first | exact Sub.nil | refine Sub.cons rfl ?_) sub_st (by kernel_rfl)
        · rintro _ _ ⟨b11, rfl, rfl⟩
          refine Nx_same sub_st ?_
          have h := nd16 (b11, b12, b13, b14)
          try dsimp only at h
          exact D_at h (by repeat first | exact Sub.nil | refine Sub.cons rfl ?_) sub_st (by kernel_rfl)
      refine D_nodeR #[true, true, true, true, true, true, true, true, true, false, true, true, true, true, false, true, true, true, false, true, true, true, true, false, false, false, false] (fun x : Nat × Nat × Nat × Nat => [(14, .pointer (some ⟨x.2.2.2, 0, none⟩)), (13, .pointer (some ⟨x.2.2.1, 0, none⟩)), (12, .pointer (some ⟨x.2.1, 0, none⟩)), (11, .pointer (some ⟨x.1, 0, none⟩)), (84, .agg (sdc b).toArray), (80, .func (.func 27) #[] #[]), (85, .func (.func 27) #[] #[]), (90, .func (.func 27) #[] #[]), (95, .func (.func 27) #[] #[]), (83, sv p), (88, sv p), (93, sv p), (97, sv p), (82, .agg #[.slice A1 L1.length c1']), (87, .agg #[.slice A2 L2.length c2']), (92, .agg #[.slice A3 L3.length c3']), (96, .agg #[.slice A9 M.length c9]), (2, .pointer (some ⟨b2, 0, none⟩)), (7, .pointer (some ⟨b7, 0, none⟩)), (8, .func (.func 27) #[] #[]), (74, .slice A10 P.length c10), (75, .int .i64 (P.length : Int)), (76, .int .i64 (j : Int))]) (fun x : Nat × Nat × Nat × Nat => [pt x.2.2.2 50 (sdc default), pt x.2.2.1 50 (sdc default), pt x.2.1 50 (sdc default), pt x.1 50 (sdc default), row 9 1 A10 P.length c10 (P.map sv), pt b7 24 [.slice A9 M.length c9], row 70 2 A9 M.length c9 (cellsL rwc M), pt b2 26 [.slice A1 L1.length c1', .slice A2 L2.length c2', .slice A3 L3.length c3']]) (fun x => ?_) (fun nd31 => ?_)
      · skip
        obtain ⟨b11, b12, b13, b14⟩ := x
        try dsimp only
        refine D_one 9 rfl (E_cloA (cap := []) rfl (E_hv0 (f := 27) ⟨_, Try.func27, rfl, by kernel_rfl⟩ (fun w hS => hasL_any w A2 L2.length c2' L2 p ((Srd.old h2 (fun k _ => noOwns k)).rd w hS) (by omega)) rfl rfl (fun _ => rfl))) ?_ rfl rfl (by kernel_rfl)
        rintro _ _ ⟨_, rfl, _, rfl⟩; rw [ho]
        refine Nx_same sub_st ?_
        have h := nd16 (b11, b12, b13, b14)
        try dsimp only at h
        exact D_at h (by repeat first | exact Sub.nil | refine Sub.cons rfl ?_) sub_st (by kernel_rfl)
      refine D_nodeR #[true, true, true, true, true, true, true, true, true, true, true, true, true, true, true, true, true, true, true, false, false, false, false, false, false, false, false] (fun _ : Unit => [(98, .agg (sdc z).toArray), (94, .agg (sdc t).toArray), (89, .agg (sdc o).toArray), (84, .agg (sdc b).toArray), (80, .func (.func 27) #[] #[]), (85, .func (.func 27) #[] #[]), (90, .func (.func 27) #[] #[]), (95, .func (.func 27) #[] #[]), (83, sv p), (88, sv p), (93, sv p), (97, sv p), (82, .agg #[.slice A1 L1.length c1']), (87, .agg #[.slice A2 L2.length c2']), (92, .agg #[.slice A3 L3.length c3']), (96, .agg #[.slice A9 M.length c9]), (2, .pointer (some ⟨b2, 0, none⟩)), (7, .pointer (some ⟨b7, 0, none⟩)), (8, .func (.func 27) #[] #[]), (74, .slice A10 P.length c10), (75, .int .i64 (P.length : Int)), (76, .int .i64 (j : Int))]) (fun _ : Unit => [row 9 1 A10 P.length c10 (P.map sv), pt b7 24 [.slice A9 M.length c9], row 70 2 A9 M.length c9 (cellsL rwc M), pt b2 26 [.slice A1 L1.length c1', .slice A2 L2.length c2', .slice A3 L3.length c3']]) (fun x => ?_) (fun nd32 => ?_)
      · skip
        obtain ⟨⟩ := x
        try dsimp only
        refine D_four 19 20 21 22 rfl rfl rfl rfl (E_alloca rfl sd_zero) (E_alloca rfl sd_zero) (E_alloca rfl sd_zero) (E_alloca rfl sd_zero) ?_ ?_ ?_ ?_ rfl rfl rfl rfl rfl rfl rfl rfl (by kernel_rfl)
        · rintro _ _ ⟨b11, rfl, rfl⟩
          refine Nx_same sub_st ?_
          have h := nd17 (b11)
          try dsimp only at h
          exact D_at h (by repeat first | exact Sub.nil | refine Sub.cons rfl ?_) sub_st (by kernel_rfl)
        · rintro _ _ ⟨b12, rfl, rfl⟩
          refine Nx_same sub_st ?_
          have h := nd18 (b12)
          try dsimp only at h
          exact D_at h (by repeat first | exact Sub.nil | refine Sub.cons rfl ?_) sub_st (by kernel_rfl)
        · rintro _ _ ⟨b13, rfl, rfl⟩
          refine Nx_same sub_st ?_
          have h := nd19 (b13)
          try dsimp only at h
          exact D_at h (by repeat first | exact Sub.nil | refine Sub.cons rfl ?_) sub_st (by kernel_rfl)
        · rintro _ _ ⟨b14, rfl, rfl⟩
          refine Nx_same sub_st ?_
          have h := nd20 (b14)
          try dsimp only at h
          exact D_at h (by repeat first | exact Sub.nil | refine Sub.cons rfl ?_) sub_st (by kernel_rfl)
      refine D_nodeR #[true, true, true, true, true, true, true, true, true, true, true, true, true, true, true, true, true, true, false, true, false, false, false, false, false, false, false] (fun x : Nat => [(11, .pointer (some ⟨x, 0, none⟩)), (94, .agg (sdc t).toArray), (89, .agg (sdc o).toArray), (84, .agg (sdc b).toArray), (80, .func (.func 27) #[] #[]), (85, .func (.func 27) #[] #[]), (90, .func (.func 27) #[] #[]), (95, .func (.func 27) #[] #[]), (83, sv p), (88, sv p), (93, sv p), (97, sv p), (82, .agg #[.slice A1 L1.length c1']), (87, .agg #[.slice A2 L2.length c2']), (92, .agg #[.slice A3 L3.length c3']), (96, .agg #[.slice A9 M.length c9]), (2, .pointer (some ⟨b2, 0, none⟩)), (7, .pointer (some ⟨b7, 0, none⟩)), (8, .func (.func 27) #[] #[]), (74, .slice A10 P.length c10), (75, .int .i64 (P.length : Int)), (76, .int .i64 (j : Int))]) (fun x : Nat => [pt x 50 (sdc default), row 9 1 A10 P.length c10 (P.map sv), pt b7 24 [.slice A9 M.length c9], row 70 2 A9 M.length c9 (cellsL rwc M), pt b2 26 [.slice A1 L1.length c1', .slice A2 L2.length c2', .slice A3 L3.length c3']]) (fun x => ?_) (fun nd33 => ?_)
      · skip
        revert x; intro b11
        try dsimp only
        refine D_four 18 20 21 22 rfl rfl rfl rfl (E_cloA (cap := []) rfl (E_hv0 (f := 27) ⟨_, Try.func27, rfl, by kernel_rfl⟩ (fun w hS => hasL_any w A9 M.length c9 M p ((Srd.row (A := A9) (n := M.length) (c := c9)).rd w hS) (by omega)) rfl rfl (fun _ => rfl))) (E_alloca rfl sd_zero) (E_alloca rfl sd_zero) (E_alloca rfl sd_zero) ?_ ?_ ?_ ?_ rfl rfl rfl rfl rfl rfl rfl rfl (by kernel_rfl)
        · rintro _ _ ⟨_, rfl, _, rfl⟩; rw [hz]
          refine Nx_same sub_st ?_
          have h := nd17 (b11)
          try dsimp only at h
          exact D_at h (by repeat first | exact Sub.nil | refine Sub.cons rfl ?_) sub_st (by kernel_rfl)
        · rintro _ _ ⟨b12, rfl, rfl⟩
          refine Nx_same sub_st ?_
          have h := nd21 (b11, b12)
          try dsimp only at h
          exact D_at h (by repeat first | exact Sub.nil | refine Sub.cons rfl ?_) sub_st (by kernel_rfl)
        · rintro _ _ ⟨b13, rfl, rfl⟩
          refine Nx_same sub_st ?_
          have h := nd22 (b11, b13)
          try dsimp only at h
          exact D_at h (by repeat first | exact Sub.nil | refine Sub.cons rfl ?_) sub_st (by kernel_rfl)
        · rintro _ _ ⟨b14, rfl, rfl⟩
          refine Nx_same sub_st ?_
          have h := nd23 (b11, b14)
          try dsimp only at h
          exact D_at h (by repeat first | exact Sub.nil | refine Sub.cons rfl ?_) sub_st (by kernel_rfl)
      refine D_nodeR #[true, true, true, true, true, true, true, true, true, true, true, true, true, true, true, true, true, true, false, false, true, false, false, false, false, false, false] (fun x : Nat => [(12, .pointer (some ⟨x, 0, none⟩)), (94, .agg (sdc t).toArray), (89, .agg (sdc o).toArray), (84, .agg (sdc b).toArray), (80, .func (.func 27) #[] #[]), (85, .func (.func 27) #[] #[]), (90, .func (.func 27) #[] #[]), (95, .func (.func 27) #[] #[]), (83, sv p), (88, sv p), (93, sv p), (97, sv p), (82, .agg #[.slice A1 L1.length c1']), (87, .agg #[.slice A2 L2.length c2']), (92, .agg #[.slice A3 L3.length c3']), (96, .agg #[.slice A9 M.length c9]), (2, .pointer (some ⟨b2, 0, none⟩)), (7, .pointer (some ⟨b7, 0, none⟩)), (8, .func (.func 27) #[] #[]), (74, .slice A10 P.length c10), (75, .int .i64 (P.length : Int)), (76, .int .i64 (j : Int))]) (fun x : Nat => [pt x 50 (sdc default), row 9 1 A10 P.length c10 (P.map sv), pt b7 24 [.slice A9 M.length c9], row 70 2 A9 M.length c9 (cellsL rwc M), pt b2 26 [.slice A1 L1.length c1', .slice A2 L2.length c2', .slice A3 L3.length c3']]) (fun x => ?_) (fun nd34 => ?_)
      · skip
        revert x; intro b12
        try dsimp only
        refine D_four 18 19 21 22 rfl rfl rfl rfl (E_cloA (cap := []) rfl (E_hv0 (f := 27) ⟨_, Try.func27, rfl, by kernel_rfl⟩ (fun w hS => hasL_any w A9 M.length c9 M p ((Srd.row (A := A9) (n := M.length) (c := c9)).rd w hS) (by omega)) rfl rfl (fun _ => rfl))) (E_alloca rfl sd_zero) (E_alloca rfl sd_zero) (E_alloca rfl sd_zero) ?_ ?_ ?_ ?_ rfl rfl rfl rfl rfl rfl rfl rfl (by kernel_rfl)
        · rintro _ _ ⟨_, rfl, _, rfl⟩; rw [hz]
          refine Nx_same sub_st ?_
          have h := nd18 (b12)
          try dsimp only at h
          exact D_at h (by repeat first | exact Sub.nil | refine Sub.cons rfl ?_) sub_st (by kernel_rfl)
        · rintro _ _ ⟨b11, rfl, rfl⟩
          refine Nx_same sub_st ?_
          have h := nd21 (b11, b12)
          try dsimp only at h
          exact D_at h (by repeat first | exact Sub.nil | refine Sub.cons rfl ?_) sub_st (by kernel_rfl)
        · rintro _ _ ⟨b13, rfl, rfl⟩
          refine Nx_same sub_st ?_
          have h := nd24 (b12, b13)
          try dsimp only at h
          exact D_at h (by repeat first | exact Sub.nil | refine Sub.cons rfl ?_) sub_st (by kernel_rfl)
        · rintro _ _ ⟨b14, rfl, rfl⟩
          refine Nx_same sub_st ?_
          have h := nd25 (b12, b14)
          try dsimp only at h
          exact D_at h (by repeat first | exact Sub.nil | refine Sub.cons rfl ?_) sub_st (by kernel_rfl)
      refine D_nodeR #[true, true, true, true, true, true, true, true, true, true, true, true, true, true, true, true, true, true, false, false, false, true, false, false, false, false, false] (fun x : Nat => [(13, .pointer (some ⟨x, 0, none⟩)), (94, .agg (sdc t).toArray), (89, .agg (sdc o).toArray), (84, .agg (sdc b).toArray), (80, .func (.func 27) #[] #[]), (85, .func (.func 27) #[] #[]), (90, .func (.func 27) #[] #[]), (95, .func (.func 27) #[] #[]), (83, sv p), (88, sv p), (93, sv p), (97, sv p), (82, .agg #[.slice A1 L1.length c1']), (87, .agg #[.slice A2 L2.length c2']), (92, .agg #[.slice A3 L3.length c3']), (96, .agg #[.slice A9 M.length c9]), (2, .pointer (some ⟨b2, 0, none⟩)), (7, .pointer (some ⟨b7, 0, none⟩)), (8, .func (.func 27) #[] #[]), (74, .slice A10 P.length c10), (75, .int .i64 (P.length : Int)), (76, .int .i64 (j : Int))]) (fun x : Nat => [pt x 50 (sdc default), row 9 1 A10 P.length c10 (P.map sv), pt b7 24 [.slice A9 M.length c9], row 70 2 A9 M.length c9 (cellsL rwc M), pt b2 26 [.slice A1 L1.length c1', .slice A2 L2.length c2', .slice A3 L3.length c3']]) (fun x => ?_) (fun nd35 => ?_)
      · skip
        revert x; intro b13
        try dsimp only
        refine D_four 18 19 20 22 rfl rfl rfl rfl (E_cloA (cap := []) rfl (E_hv0 (f := 27) ⟨_, Try.func27, rfl, by kernel_rfl⟩ (fun w hS => hasL_any w A9 M.length c9 M p ((Srd.row (A := A9) (n := M.length) (c := c9)).rd w hS) (by omega)) rfl rfl (fun _ => rfl))) (E_alloca rfl sd_zero) (E_alloca rfl sd_zero) (E_alloca rfl sd_zero) ?_ ?_ ?_ ?_ rfl rfl rfl rfl rfl rfl rfl rfl (by kernel_rfl)
        · rintro _ _ ⟨_, rfl, _, rfl⟩; rw [hz]
          refine Nx_same sub_st ?_
          have h := nd19 (b13)
          try dsimp only at h
          exact D_at h (by repeat first | exact Sub.nil | refine Sub.cons rfl ?_) sub_st (by kernel_rfl)
        · rintro _ _ ⟨b11, rfl, rfl⟩
          refine Nx_same sub_st ?_
          have h := nd22 (b11, b13)
          try dsimp only at h
          exact D_at h (by repeat first | exact Sub.nil | refine Sub.cons rfl ?_) sub_st (by kernel_rfl)
        · rintro _ _ ⟨b12, rfl, rfl⟩
          refine Nx_same sub_st ?_
          have h := nd24 (b12, b13)
          try dsimp only at h
          exact D_at h (by repeat first | exact Sub.nil | refine Sub.cons rfl ?_) sub_st (by kernel_rfl)
        · rintro _ _ ⟨b14, rfl, rfl⟩
          refine Nx_same sub_st ?_
          have h := nd26 (b13, b14)
          try dsimp only at h
          exact D_at h (by repeat first | exact Sub.nil | refine Sub.cons rfl ?_) sub_st (by kernel_rfl)
      refine D_nodeR #[true, true, true, true, true, true, true, true, true, true, true, true, true, true, true, true, true, true, false, false, false, false, true, false, false, false, false] (fun x : Nat => [(14, .pointer (some ⟨x, 0, none⟩)), (94, .agg (sdc t).toArray), (89, .agg (sdc o).toArray), (84, .agg (sdc b).toArray), (80, .func (.func 27) #[] #[]), (85, .func (.func 27) #[] #[]), (90, .func (.func 27) #[] #[]), (95, .func (.func 27) #[] #[]), (83, sv p), (88, sv p), (93, sv p), (97, sv p), (82, .agg #[.slice A1 L1.length c1']), (87, .agg #[.slice A2 L2.length c2']), (92, .agg #[.slice A3 L3.length c3']), (96, .agg #[.slice A9 M.length c9]), (2, .pointer (some ⟨b2, 0, none⟩)), (7, .pointer (some ⟨b7, 0, none⟩)), (8, .func (.func 27) #[] #[]), (74, .slice A10 P.length c10), (75, .int .i64 (P.length : Int)), (76, .int .i64 (j : Int))]) (fun x : Nat => [pt x 50 (sdc default), row 9 1 A10 P.length c10 (P.map sv), pt b7 24 [.slice A9 M.length c9], row 70 2 A9 M.length c9 (cellsL rwc M), pt b2 26 [.slice A1 L1.length c1', .slice A2 L2.length c2', .slice A3 L3.length c3']]) (fun x => ?_) (fun nd36 => ?_)
      · skip
        revert x; intro b14
        try dsimp only
        refine D_four 18 19 20 21 rfl rfl rfl rfl (E_cloA (cap := []) rfl (E_hv0 (f := 27) ⟨_, Try.func27, rfl, by kernel_rfl⟩ (fun w hS => hasL_any w A9 M.length c9 M p ((Srd.row (A := A9) (n := M.length) (c := c9)).rd w hS) (by omega)) rfl rfl (fun _ => rfl))) (E_alloca rfl sd_zero) (E_alloca rfl sd_zero) (E_alloca rfl sd_zero) ?_ ?_ ?_ ?_ rfl rfl rfl rfl rfl rfl rfl rfl (by kernel_rfl)
        · rintro _ _ ⟨_, rfl, _, rfl⟩; rw [hz]
          refine Nx_same sub_st ?_
          have h := nd20 (b14)
          try dsimp only at h
          exact D_at h (by repeat first | exact Sub.nil | refine Sub.cons rfl ?_) sub_st (by kernel_rfl)
        · rintro _ _ ⟨b11, rfl, rfl⟩
          refine Nx_same sub_st ?_
          have h := nd23 (b11, b14)
          try dsimp only at h
          exact D_at h (by repeat first | exact Sub.nil | refine Sub.cons rfl ?_) sub_st (by kernel_rfl)
        · rintro _ _ ⟨b12, rfl, rfl⟩
          refine Nx_same sub_st ?_
          have h := nd25 (b12, b14)
          try dsimp only at h
          exact D_at h (by repeat first | exact Sub.nil | refine Sub.cons rfl ?_) sub_st (by kernel_rfl)
        · rintro _ _ ⟨b13, rfl, rfl⟩
          refine Nx_same sub_st ?_
          have h := nd26 (b13, b14)
          try dsimp only at h
          exact D_at h (by repeat first | exact Sub.nil | refine Sub.cons rfl ?_) sub_st (by kernel_rfl)
      refine D_nodeR #[true, true, true, true, true, true, true, true, true, true, true, true, true, true, false, true, true, true, false, true, true, false, false, false, false, false, false] (fun x : Nat × Nat => [(12, .pointer (some ⟨x.2, 0, none⟩)), (11, .pointer (some ⟨x.1, 0, none⟩)), (89, .agg (sdc o).toArray), (84, .agg (sdc b).toArray), (80, .func (.func 27) #[] #[]), (85, .func (.func 27) #[] #[]), (90, .func (.func 27) #[] #[]), (95, .func (.func 27) #[] #[]), (83, sv p), (88, sv p), (93, sv p), (97, sv p), (82, .agg #[.slice A1 L1.length c1']), (87, .agg #[.slice A2 L2.length c2']), (92, .agg #[.slice A3 L3.length c3']), (96, .agg #[.slice A9 M.length c9]), (2, .pointer (some ⟨b2, 0, none⟩)), (7, .pointer (some ⟨b7, 0, none⟩)), (8, .func (.func 27) #[] #[]), (74, .slice A10 P.length c10), (75, .int .i64 (P.length : Int)), (76, .int .i64 (j : Int))]) (fun x : Nat × Nat => [pt x.2 50 (sdc default), pt x.1 50 (sdc default), row 9 1 A10 P.length c10 (P.map sv), pt b7 24 [.slice A9 M.length c9], row 70 2 A9 M.length c9 (cellsL rwc M), pt b2 26 [.slice A1 L1.length c1', .slice A2 L2.length c2', .slice A3 L3.length c3']]) (fun x => ?_) (fun nd37 => ?_)
      · skip
        obtain ⟨b11, b12⟩ := x
        try dsimp only
        refine D_three 14 21 22 rfl rfl rfl (E_cloA (cap := []) rfl (E_hv0 (f := 27) ⟨_, Try.func27, rfl, by kernel_rfl⟩ (fun w hS => hasL_any w A3 L3.length c3' L3 p ((Srd.old h3 (fun k _ => noOwns k)).rd w hS) (by omega)) rfl rfl (fun _ => rfl))) (E_alloca rfl sd_zero) (E_alloca rfl sd_zero) ?_ ?_ ?_ rfl rfl rfl rfl rfl rfl (by kernel_rfl)
        · rintro _ _ ⟨_, rfl, _, rfl⟩; rw [ht]
          refine Nx_same sub_st ?_
          have h := nd21 (b11, b12)
          try dsimp only at h
          exact D_at h (by repeat first | exact Sub.nil | refine Sub.cons rfl ?_) sub_st (by kernel_rfl)
        · rintro _ _ ⟨b13, rfl, rfl⟩
          refine Nx_same sub_st ?_
          have h := nd27 (b11, b12, b13)
          try dsimp only at h
          exact D_at h (by repeat first | exact Sub.nil | refine Sub.cons rfl ?_) sub_st (by kernel_rfl)
        · rintro _ _ ⟨b14, rfl, rfl⟩
          refine Nx_same sub_st ?_
          have h := nd28 (b11, b12, b14)
          try dsimp only at h
          exact D_at h (by repeat first | exact Sub.nil | refine Sub.cons rfl ?_) sub_st (by kernel_rfl)
      refine D_nodeR #[true, true, true, true, true, true, true, true, true, true, true, true, true, true, false, true, true, true, false, true, false, true, false, false, false, false, false] (fun x : Nat × Nat => [(13, .pointer (some ⟨x.2, 0, none⟩)), (11, .pointer (some ⟨x.1, 0, none⟩)), (89, .agg (sdc o).toArray), (84, .agg (sdc b).toArray), (80, .func (.func 27) #[] #[]), (85, .func (.func 27) #[] #[]), (90, .func (.func 27) #[] #[]), (95, .func (.func 27) #[] #[]), (83, sv p), (88, sv p), (93, sv p), (97, sv p), (82, .agg #[.slice A1 L1.length c1']), (87, .agg #[.slice A2 L2.length c2']), (92, .agg #[.slice A3 L3.length c3']), (96, .agg #[.slice A9 M.length c9]), (2, .pointer (some ⟨b2, 0, none⟩)), (7, .pointer (some ⟨b7, 0, none⟩)), (8, .func (.func 27) #[] #[]), (74, .slice A10 P.length c10), (75, .int .i64 (P.length : Int)), (76, .int .i64 (j : Int))]) (fun x : Nat × Nat => [pt x.2 50 (sdc default), pt x.1 50 (sdc default), row 9 1 A10 P.length c10 (P.map sv), pt b7 24 [.slice A9 M.length c9], row 70 2 A9 M.length c9 (cellsL rwc M), pt b2 26 [.slice A1 L1.length c1', .slice A2 L2.length c2', .slice A3 L3.length c3']]) (fun x => ?_) (fun nd38 => ?_)
      · skip
        obtain ⟨b11, b13⟩ := x
        try dsimp only
        refine D_three 14 20 22 rfl rfl rfl (E_cloA (cap := []) rfl (E_hv0 (f := 27) ⟨_, Try.func27, rfl, by kernel_rfl⟩ (fun w hS => hasL_any w A3 L3.length c3' L3 p ((Srd.old h3 (fun k _ => noOwns k)).rd w hS) (by omega)) rfl rfl (fun _ => rfl))) (E_alloca rfl sd_zero) (E_alloca rfl sd_zero) ?_ ?_ ?_ rfl rfl rfl rfl rfl rfl (by kernel_rfl)
        · rintro _ _ ⟨_, rfl, _, rfl⟩; rw [ht]
          refine Nx_same sub_st ?_
          have h := nd22 (b11, b13)
          try dsimp only at h
          exact D_at h (by repeat first | exact Sub.nil | refine Sub.cons rfl ?_) sub_st (by kernel_rfl)
        · rintro _ _ ⟨b12, rfl, rfl⟩
          refine Nx_same sub_st ?_
          have h := nd27 (b11, b12, b13)
          try dsimp only at h
          exact D_at h (by repeat first | exact Sub.nil | refine Sub.cons rfl ?_) sub_st (by kernel_rfl)
        · rintro _ _ ⟨b14, rfl, rfl⟩
          refine Nx_same sub_st ?_
          have h := nd29 (b11, b13, b14)
          try dsimp only at h
          exact D_at h (by repeat first | exact Sub.nil | refine Sub.cons rfl ?_) sub_st (by kernel_rfl)
      refine D_nodeR #[true, true, true, true, true, true, true, true, true, true, true, true, true, true, false, true, true, true, false, true, false, false, true, false, false, false, false] (fun x : Nat × Nat => [(14, .pointer (some ⟨x.2, 0, none⟩)), (11, .pointer (some ⟨x.1, 0, none⟩)), (89, .agg (sdc o).toArray), (84, .agg (sdc b).toArray), (80, .func (.func 27) #[] #[]), (85, .func (.func 27) #[] #[]), (90, .func (.func 27) #[] #[]), (95, .func (.func 27) #[] #[]), (83, sv p), (88, sv p), (93, sv p), (97, sv p), (82, .agg #[.slice A1 L1.length c1']), (87, .agg #[.slice A2 L2.length c2']), (92, .agg #[.slice A3 L3.length c3']), (96, .agg #[.slice A9 M.length c9]), (2, .pointer (some ⟨b2, 0, none⟩)), (7, .pointer (some ⟨b7, 0, none⟩)), (8, .func (.func 27) #[] #[]), (74, .slice A10 P.length c10), (75, .int .i64 (P.length : Int)), (76, .int .i64 (j : Int))]) (fun x : Nat × Nat => [pt x.2 50 (sdc default), pt x.1 50 (sdc default), row 9 1 A10 P.length c10 (P.map sv), pt b7 24 [.slice A9 M.length c9], row 70 2 A9 M.length c9 (cellsL rwc M), pt b2 26 [.slice A1 L1.length c1', .slice A2 L2.length c2', .slice A3 L3.length c3']]) (fun x => ?_) (fun nd39 => ?_)
      · skip
        obtain ⟨b11, b14⟩ := x
        try dsimp only
        refine D_three 14 20 21 rfl rfl rfl (E_cloA (cap := []) rfl (E_hv0 (f := 27) ⟨_, Try.func27, rfl, by kernel_rfl⟩ (fun w hS => hasL_any w A3 L3.length c3' L3 p ((Srd.old h3 (fun k _ => noOwns k)).rd w hS) (by omega)) rfl rfl (fun _ => rfl))) (E_alloca rfl sd_zero) (E_alloca rfl sd_zero) ?_ ?_ ?_ rfl rfl rfl rfl rfl rfl (by kernel_rfl)
        · rintro _ _ ⟨_, rfl, _, rfl⟩; rw [ht]
          refine Nx_same sub_st ?_
          have h := nd23 (b11, b14)
          try dsimp only at h
          exact D_at h (by repeat first | exact Sub.nil | refine Sub.cons rfl ?_) sub_st (by kernel_rfl)
        · rintro _ _ ⟨b12, rfl, rfl⟩
          refine Nx_same sub_st ?_
          have h := nd28 (b11, b12, b14)
          try dsimp only at h
          exact D_at h (by repeat first | exact Sub.nil | refine Sub.cons rfl ?_) sub_st (by kernel_rfl)
        · rintro _ _ ⟨b13, rfl, rfl⟩
          refine Nx_same sub_st ?_
          have h := nd29 (b11, b13, b14)
          try dsimp only at h
          exact D_at h (by repeat first | exact Sub.nil | refine Sub.cons rfl ?_) sub_st (by kernel_rfl)
      refine D_nodeR #[true, true, true, true, true, true, true, true, true, true, true, true, true, true, false, true, true, true, false, false, true, true, false, false, false, false, false] (fun x : Nat × Nat => [(13, .pointer (some ⟨x.2, 0, none⟩)), (12, .pointer (some ⟨x.1, 0, none⟩)), (89, .agg (sdc o).toArray), (84, .agg (sdc b).toArray), (80, .func (.func 27) #[] #[]), (85, .func (.func 27) #[] #[]), (90, .func (.func 27) #[] #[]), (95, .func (.func 27) #[] #[]), (83, sv p), (88, sv p), (93, sv p), (97, sv p), (82, .agg #[.slice A1 L1.length c1']), (87, .agg #[.slice A2 L2.length c2']), (92, .agg #[.slice A3 L3.length c3']), (96, .agg #[.slice A9 M.length c9]), (2, .pointer (some ⟨b2, 0, none⟩)), (7, .pointer (some ⟨b7, 0, none⟩)), (8, .func (.func 27) #[] #[]), (74, .slice A10 P.length c10), (75, .int .i64 (P.length : Int)), (76, .int .i64 (j : Int))]) (fun x : Nat × Nat => [pt x.2 50 (sdc default), pt x.1 50 (sdc default), row 9 1 A10 P.length c10 (P.map sv), pt b7 24 [.slice A9 M.length c9], row 70 2 A9 M.length c9 (cellsL rwc M), pt b2 26 [.slice A1 L1.length c1', .slice A2 L2.length c2', .slice A3 L3.length c3']]) (fun x => ?_) (fun nd40 => ?_)
      · skip
        obtain ⟨b12, b13⟩ := x
        try dsimp only
        refine D_three 14 19 22 rfl rfl rfl (E_cloA (cap := []) rfl (E_hv0 (f := 27) ⟨_, Try.func27, rfl, by kernel_rfl⟩ (fun w hS => hasL_any w A3 L3.length c3' L3 p ((Srd.old h3 (fun k _ => noOwns k)).rd w hS) (by omega)) rfl rfl (fun _ => rfl))) (E_alloca rfl sd_zero) (E_alloca rfl sd_zero) ?_ ?_ ?_ rfl rfl rfl rfl rfl rfl (by kernel_rfl)
        · rintro _ _ ⟨_, rfl, _, rfl⟩; rw [ht]
          refine Nx_same sub_st ?_
          have h := nd24 (b12, b13)
          try dsimp only at h
          exact D_at h (by repeat first | exact Sub.nil | refine Sub.cons rfl ?_) sub_st (by kernel_rfl)
        · rintro _ _ ⟨b11, rfl, rfl⟩
          refine Nx_same sub_st ?_
          have h := nd27 (b11, b12, b13)
          try dsimp only at h
          exact D_at h (by repeat first | exact Sub.nil | refine Sub.cons rfl ?_) sub_st (by kernel_rfl)
        · rintro _ _ ⟨b14, rfl, rfl⟩
          refine Nx_same sub_st ?_
          have h := nd30 (b12, b13, b14)
          try dsimp only at h
          exact D_at h (by repeat first | exact Sub.nil | refine Sub.cons rfl ?_) sub_st (by kernel_rfl)
      refine D_nodeR #[true, true, true, true, true, true, true, true, true, true, true, true, true, true, false, true, true, true, false, false, true, false, true, false, false, false, false] (fun x : Nat × Nat => [(14, .pointer (some ⟨x.2, 0, none⟩)), (12, .pointer (some ⟨x.1, 0, none⟩)), (89, .agg (sdc o).toArray), (84, .agg (sdc b).toArray), (80, .func (.func 27) #[] #[]), (85, .func (.func 27) #[] #[]), (90, .func (.func 27) #[] #[]), (95, .func (.func 27) #[] #[]), (83, sv p), (88, sv p), (93, sv p), (97, sv p), (82, .agg #[.slice A1 L1.length c1']), (87, .agg #[.slice A2 L2.length c2']), (92, .agg #[.slice A3 L3.length c3']), (96, .agg #[.slice A9 M.length c9]), (2, .pointer (some ⟨b2, 0, none⟩)), (7, .pointer (some ⟨b7, 0, none⟩)), (8, .func (.func 27) #[] #[]), (74, .slice A10 P.length c10), (75, .int .i64 (P.length : Int)), (76, .int .i64 (j : Int))]) (fun x : Nat × Nat => [pt x.2 50 (sdc default), pt x.1 50 (sdc default), row 9 1 A10 P.length c10 (P.map sv), pt b7 24 [.slice A9 M.length c9], row 70 2 A9 M.length c9 (cellsL rwc M), pt b2 26 [.slice A1 L1.length c1', .slice A2 L2.length c2', .slice A3 L3.length c3']]) (fun x => ?_) (fun nd41 => ?_)
      · skip
        obtain ⟨b12, b14⟩ := x
        try dsimp only
        refine D_three 14 19 21 rfl rfl rfl (E_cloA (cap := []) rfl (E_hv0 (f := 27) ⟨_, Try.func27, rfl, by kernel_rfl⟩ (fun w hS => hasL_any w A3 L3.length c3' L3 p ((Srd.old h3 (fun k _ => noOwns k)).rd w hS) (by omega)) rfl rfl (fun _ => rfl))) (E_alloca rfl sd_zero) (E_alloca rfl sd_zero) ?_ ?_ ?_ rfl rfl rfl rfl rfl rfl (by kernel_rfl)
        · rintro _ _ ⟨_, rfl, _, rfl⟩; rw [ht]
          refine Nx_same sub_st ?_
          have h := nd25 (b12, b14)
          try dsimp only at h
          exact D_at h (by repeat first | exact Sub.nil | refine Sub.cons rfl ?_) sub_st (by kernel_rfl)
        · rintro _ _ ⟨b11, rfl, rfl⟩
          refine Nx_same sub_st ?_
          have h := nd28 (b11, b12, b14)
          try dsimp only at h
          exact D_at h (by repeat first | exact Sub.nil | refine Sub.cons rfl ?_) sub_st (by kernel_rfl)
        · rintro _ _ ⟨b13, rfl, rfl⟩
          refine Nx_same sub_st ?_
          have h := nd30 (b12, b13, b14)
          try dsimp only at h
          exact D_at h (by repeat first | exact Sub.nil | refine Sub.cons rfl ?_) sub_st (by kernel_rfl)
      refine D_nodeR #[true, true, true, true, true, true, true, true, true, true, true, true, true, true, false, true, true, true, false, false, false, true, true, false, false, false, false] (fun x : Nat × Nat => [(14, .pointer (some ⟨x.2, 0, none⟩)), (13, .pointer (some ⟨x.1, 0, none⟩)), (89, .agg (sdc o).toArray), (84, .agg (sdc b).toArray), (80, .func (.func 27) #[] #[]), (85, .func (.func 27) #[] #[]), (90, .func (.func 27) #[] #[]), (95, .func (.func 27) #[] #[]), (83, sv p), (88, sv p), (93, sv p), (97, sv p), (82, .agg #[.slice A1 L1.length c1']), (87, .agg #[.slice A2 L2.length c2']), (92, .agg #[.slice A3 L3.length c3']), (96, .agg #[.slice A9 M.length c9]), (2, .pointer (some ⟨b2, 0, none⟩)), (7, .pointer (some ⟨b7, 0, none⟩)), (8, .func (.func 27) #[] #[]), (74, .slice A10 P.length c10), (75, .int .i64 (P.length : Int)), (76, .int .i64 (j : Int))]) (fun x : Nat × Nat => [pt x.2 50 (sdc default), pt x.1 50 (sdc default), row 9 1 A10 P.length c10 (P.map sv), pt b7 24 [.slice A9 M.length c9], row 70 2 A9 M.length c9 (cellsL rwc M), pt b2 26 [.slice A1 L1.length c1', .slice A2 L2.length c2', .slice A3 L3.length c3']]) (fun x => ?_) (fun nd42 => ?_)
      · skip
        obtain ⟨b13, b14⟩ := x
        try dsimp only
        refine D_three 14 19 20 rfl rfl rfl (E_cloA (cap := []) rfl (E_hv0 (f := 27) ⟨_, Try.func27, rfl, by kernel_rfl⟩ (fun w hS => hasL_any w A3 L3.length c3' L3 p ((Srd.old h3 (fun k _ => noOwns k)).rd w hS) (by omega)) rfl rfl (fun _ => rfl))) (E_alloca rfl sd_zero) (E_alloca rfl sd_zero) ?_ ?_ ?_ rfl rfl rfl rfl rfl rfl (by kernel_rfl)
        · rintro _ _ ⟨_, rfl, _, rfl⟩; rw [ht]
          refine Nx_same sub_st ?_
          have h := nd26 (b13, b14)
          try dsimp only at h
          exact D_at h (by repeat first | exact Sub.nil | refine Sub.cons rfl ?_) sub_st (by kernel_rfl)
        · rintro _ _ ⟨b11, rfl, rfl⟩
          refine Nx_same sub_st ?_
          have h := nd29 (b11, b13, b14)
          try dsimp only at h
          exact D_at h (by repeat first | exact Sub.nil | refine Sub.cons rfl ?_) sub_st (by kernel_rfl)
        · rintro _ _ ⟨b12, rfl, rfl⟩
          refine Nx_same sub_st ?_
          have h := nd30 (b12, b13, b14)
          try dsimp only at h
          exact D_at h (by repeat first | exact Sub.nil | refine Sub.cons rfl ?_) sub_st (by kernel_rfl)
      refine D_nodeR #[true, true, true, true, true, true, true, true, true, false, true, true, true, true, false, true, true, true, false, true, true, true, false, false, false, false, false] (fun x : Nat × Nat × Nat => [(13, .pointer (some ⟨x.2.2, 0, none⟩)), (12, .pointer (some ⟨x.2.1, 0, none⟩)), (11, .pointer (some ⟨x.1, 0, none⟩)), (84, .agg (sdc b).toArray), (80, .func (.func 27) #[] #[]), (85, .func (.func 27) #[] #[]), (90, .func (.func 27) #[] #[]), (95, .func (.func 27) #[] #[]), (83, sv p), (88, sv p), (93, sv p), (97, sv p), (82, .agg #[.slice A1 L1.length c1']), (87, .agg #[.slice A2 L2.length c2']), (92, .agg #[.slice A3 L3.length c3']), (96, .agg #[.slice A9 M.length c9]), (2, .pointer (some ⟨b2, 0, none⟩)), (7, .pointer (some ⟨b7, 0, none⟩)), (8, .func (.func 27) #[] #[]), (74, .slice A10 P.length c10), (75, .int .i64 (P.length : Int)), (76, .int .i64 (j : Int))]) (fun x : Nat × Nat × Nat => [pt x.2.2 50 (sdc default), pt x.2.1 50 (sdc default), pt x.1 50 (sdc default), row 9 1 A10 P.length c10 (P.map sv), pt b7 24 [.slice A9 M.length c9], row 70 2 A9 M.length c9 (cellsL rwc M), pt b2 26 [.slice A1 L1.length c1', .slice A2 L2.length c2', .slice A3 L3.length c3']]) (fun x => ?_) (fun nd43 => ?_)
      · skip
        obtain ⟨b11, b12, b13⟩ := x
        try dsimp only
        refine D_two 9 22 (by decide) rfl rfl (E_cloA (cap := []) rfl (E_hv0 (f := 27) ⟨_, Try.func27, rfl, by kernel_rfl⟩ (fun w hS => hasL_any w A2 L2.length c2' L2 p ((Srd.old h2 (fun k _ => noOwns k)).rd w hS) (by omega)) rfl rfl (fun _ => rfl))) (E_alloca rfl sd_zero) ?_ ?_ rfl rfl rfl rfl (by kernel_rfl)
        · rintro _ _ ⟨_, rfl, _, rfl⟩; rw [ho]
          refine Nx_same sub_st ?_
          have h := nd27 (b11, b12, b13)
          try dsimp only at h
          exact D_at h (by repeat first | exact Sub.nil | refine Sub.cons rfl ?_) sub_st (by kernel_rfl)
        · rintro _ _ ⟨b14, rfl, rfl⟩
          refine Nx_same sub_st ?_
          have h := nd31 (b11, b12, b13, b14)
          try dsimp only at h
          exact D_at h (by repeat first | exact Sub.nil | refine Sub.cons rfl ?_) sub_st (by kernel_rfl)
      refine D_nodeR #[true, true, true, true, true, true, true, true, true, false, true, true, true, true, false, true, true, true, false, true, true, false, true, false, false, false, false] (fun x : Nat × Nat × Nat => [(14, .pointer (some ⟨x.2.2, 0, none⟩)), (12, .pointer (some ⟨x.2.1, 0, none⟩)), (11, .pointer (some ⟨x.1, 0, none⟩)), (84, .agg (sdc b).toArray), (80, .func (.func 27) #[] #[]), (85, .func (.func 27) #[] #[]), (90, .func (.func 27) #[] #[]), (95, .func (.func 27) #[] #[]), (83, sv p), (88, sv p), (93, sv p), (97, sv p), (82, .agg #[.slice A1 L1.length c1']), (87, .agg #[.slice A2 L2.length c2']), (92, .agg #[.slice A3 L3.length c3']), (96, .agg #[.slice A9 M.length c9]), (2, .pointer (some ⟨b2, 0, none⟩)), (7, .pointer (some ⟨b7, 0, none⟩)), (8, .func (.func 27) #[] #[]), (74, .slice A10 P.length c10), (75, .int .i64 (P.length : Int)), (76, .int .i64 (j : Int))]) (fun x : Nat × Nat × Nat => [pt x.2.2 50 (sdc default), pt x.2.1 50 (sdc default), pt x.1 50 (sdc default), row 9 1 A10 P.length c10 (P.map sv), pt b7 24 [.slice A9 M.length c9], row 70 2 A9 M.length c9 (cellsL rwc M), pt b2 26 [.slice A1 L1.length c1', .slice A2 L2.length c2', .slice A3 L3.length c3']]) (fun x => ?_) (fun nd44 => ?_)
      · skip
        obtain ⟨b11, b12, b14⟩ := x
        try dsimp only
        refine D_two 9 21 (by decide) rfl rfl (E_cloA (cap := []) rfl (E_hv0 (f := 27) ⟨_, Try.func27, rfl, by kernel_rfl⟩ (fun w hS => hasL_any w A2 L2.length c2' L2 p ((Srd.old h2 (fun k _ => noOwns k)).rd w hS) (by omega)) rfl rfl (fun _ => rfl))) (E_alloca rfl sd_zero) ?_ ?_ rfl rfl rfl rfl (by kernel_rfl)
        · rintro _ _ ⟨_, rfl, _, rfl⟩; rw [ho]
          refine Nx_same sub_st ?_
          have h := nd28 (b11, b12, b14)
          try dsimp only at h
          exact D_at h (by repeat first | exact Sub.nil | refine Sub.cons rfl ?_) sub_st (by kernel_rfl)
        · rintro _ _ ⟨b13, rfl, rfl⟩
          refine Nx_same sub_st ?_
          have h := nd31 (b11, b12, b13, b14)
          try dsimp only at h
          exact D_at h (by repeat first | exact Sub.nil | refine Sub.cons rfl ?_) sub_st (by kernel_rfl)
      refine D_nodeR #[true, true, true, true, true, true, true, true, true, false, true, true, true, true, false, true, true, true, false, true, false, true, true, false, false, false, false] (fun x : Nat × Nat × Nat => [(14, .pointer (some ⟨x.2.2, 0, none⟩)), (13, .pointer (some ⟨x.2.1, 0, none⟩)), (11, .pointer (some ⟨x.1, 0, none⟩)), (84, .agg (sdc b).toArray), (80, .func (.func 27) #[] #[]), (85, .func (.func 27) #[] #[]), (90, .func (.func 27) #[] #[]), (95, .func (.func 27) #[] #[]), (83, sv p), (88, sv p), (93, sv p), (97, sv p), (82, .agg #[.slice A1 L1.length c1']), (87, .agg #[.slice A2 L2.length c2']), (92, .agg #[.slice A3 L3.length c3']), (96, .agg #[.slice A9 M.length c9]), (2, .pointer (some ⟨b2, 0, none⟩)), (7, .pointer (some ⟨b7, 0, none⟩)), (8, .func (.func 27) #[] #[]), (74, .slice A10 P.length c10), (75, .int .i64 (P.length : Int)), (76, .int .i64 (j : Int))]) (fun x : Nat × Nat × Nat => [pt x.2.2 50 (sdc default), pt x.2.1 50 (sdc default), pt x.1 50 (sdc default), row 9 1 A10 P.length c10 (P.map sv), pt b7 24 [.slice A9 M.length c9], row 70 2 A9 M.length c9 (cellsL rwc M), pt b2 26 [.slice A1 L1.length c1', .slice A2 L2.length c2', .slice A3 L3.length c3']]) (fun x => ?_) (fun nd45 => ?_)
      · skip
        obtain ⟨b11, b13, b14⟩ := x
        try dsimp only
        refine D_two 9 20 (by decide) rfl rfl (E_cloA (cap := []) rfl (E_hv0 (f := 27) ⟨_, Try.func27, rfl, by kernel_rfl⟩ (fun w hS => hasL_any w A2 L2.length c2' L2 p ((Srd.old h2 (fun k _ => noOwns k)).rd w hS) (by omega)) rfl rfl (fun _ => rfl))) (E_alloca rfl sd_zero) ?_ ?_ rfl rfl rfl rfl (by kernel_rfl)
        · rintro _ _ ⟨_, rfl, _, rfl⟩; rw [ho]
          refine Nx_same sub_st ?_
          have h := nd29 (b11, b13, b14)
          try dsimp only at h
          exact D_at h (by repeat first | exact Sub.nil | refine Sub.cons rfl ?_) sub_st (by kernel_rfl)
        · rintro _ _ ⟨b12, rfl, rfl⟩
          refine Nx_same sub_st ?_
          have h := nd31 (b11, b12, b13, b14)
          try dsimp only at h
          exact D_at h (by repeat first | exact Sub.nil | refine Sub.cons rfl ?_) sub_st (by kernel_rfl)
      refine D_nodeR #[true, true, true, true, true, true, true, true, true, false, true, true, true, true, false, true, true, true, false, false, true, true, true, false, false, false, false] (fun x : Nat × Nat × Nat => [(14, .pointer (some ⟨x.2.2, 0, none⟩)), (13, .pointer (some ⟨x.2.1, 0, none⟩)), (12, .pointer (some ⟨x.1, 0, none⟩)), (84, .agg (sdc b).toArray), (80, .func (.func 27) #[] #[]), (85, .func (.func 27) #[] #[]), (90, .func (.func 27) #[] #[]), (95, .func (.func 27) #[] #[]), (83, sv p), (88, sv p), (93, sv p), (97, sv p), (82, .agg #[.slice A1 L1.length c1']), (87, .agg #[.slice A2 L2.length c2']), (92, .agg #[.slice A3 L3.length c3']), (96, .agg #[.slice A9 M.length c9]), (2, .pointer (some ⟨b2, 0, none⟩)), (7, .pointer (some ⟨b7, 0, none⟩)), (8, .func (.func 27) #[] #[]), (74, .slice A10 P.length c10), (75, .int .i64 (P.length : Int)), (76, .int .i64 (j : Int))]) (fun x : Nat × Nat × Nat => [pt x.2.2 50 (sdc default), pt x.2.1 50 (sdc default), pt x.1 50 (sdc default), row 9 1 A10 P.length c10 (P.map sv), pt b7 24 [.slice A9 M.length c9], row 70 2 A9 M.length c9 (cellsL rwc M), pt b2 26 [.slice A1 L1.length c1', .slice A2 L2.length c2', .slice A3 L3.length c3']]) (fun x => ?_) (fun nd46 => ?_)
      · skip
        obtain ⟨b12, b13, b14⟩ := x
        try dsimp only
        refine D_two 9 19 (by decide) rfl rfl (E_cloA (cap := []) rfl (E_hv0 (f := 27) ⟨_, Try.func27, rfl, by kernel_rfl⟩ (fun w hS => hasL_any w A2 L2.length c2' L2 p ((Srd.old h2 (fun k _ => noOwns k)).rd w hS) (by omega)) rfl rfl (fun _ => rfl))) (E_alloca rfl sd_zero) ?_ ?_ rfl rfl rfl rfl (by kernel_rfl)
        · rintro _ _ ⟨_, rfl, _, rfl⟩; rw [ho]
          refine Nx_same sub_st ?_
          have h := nd30 (b12, b13, b14)
          try dsimp only at h
          exact D_at h (by repeat first | exact Sub.nil | refine Sub.cons rfl ?_) sub_st (by kernel_rfl)
        · rintro _ _ ⟨b11, rfl, rfl⟩
          refine Nx_same sub_st ?_
          have h := nd31 (b11, b12, b13, b14)
          try dsimp only at h
          exact D_at h (by repeat first | exact Sub.nil | refine Sub.cons rfl ?_) sub_st (by kernel_rfl)
      refine D_nodeR #[true, true, true, true, false, true, true, true, true, false, true, true, true, true, false, true, true, true, false, true, true, true, true, false, false, false, false] (fun x : Nat × Nat × Nat × Nat => [(14, .pointer (some ⟨x.2.2.2, 0, none⟩)), (13, .pointer (some ⟨x.2.2.1, 0, none⟩)), (12, .pointer (some ⟨x.2.1, 0, none⟩)), (11, .pointer (some ⟨x.1, 0, none⟩)), (80, .func (.func 27) #[] #[]), (85, .func (.func 27) #[] #[]), (90, .func (.func 27) #[] #[]), (95, .func (.func 27) #[] #[]), (83, sv p), (88, sv p), (93, sv p), (97, sv p), (82, .agg #[.slice A1 L1.length c1']), (87, .agg #[.slice A2 L2.length c2']), (92, .agg #[.slice A3 L3.length c3']), (96, .agg #[.slice A9 M.length c9]), (2, .pointer (some ⟨b2, 0, none⟩)), (7, .pointer (some ⟨b7, 0, none⟩)), (8, .func (.func 27) #[] #[]), (74, .slice A10 P.length c10), (75, .int .i64 (P.length : Int)), (76, .int .i64 (j : Int))]) (fun x : Nat × Nat × Nat × Nat => [pt x.2.2.2 50 (sdc default), pt x.2.2.1 50 (sdc default), pt x.2.1 50 (sdc default), pt x.1 50 (sdc default), row 9 1 A10 P.length c10 (P.map sv), pt b7 24 [.slice A9 M.length c9], row 70 2 A9 M.length c9 (cellsL rwc M), pt b2 26 [.slice A1 L1.length c1', .slice A2 L2.length c2', .slice A3 L3.length c3']]) (fun x => ?_) (fun nd47 => ?_)
      · skip
        obtain ⟨b11, b12, b13, b14⟩ := x
        try dsimp only
        refine D_one 4 rfl (E_cloA (cap := []) rfl (E_hv0 (f := 27) ⟨_, Try.func27, rfl, by kernel_rfl⟩ (fun w hS => hasL_any w A1 L1.length c1' L1 p ((Srd.old h1 (fun k _ => noOwns k)).rd w hS) (by omega)) rfl rfl (fun _ => rfl))) ?_ rfl rfl (by kernel_rfl)
        rintro _ _ ⟨_, rfl, _, rfl⟩; rw [hb]
        refine Nx_same sub_st ?_
        have h := nd31 (b11, b12, b13, b14)
        try dsimp only at h
        exact D_at h (by repeat first | exact Sub.nil | refine Sub.cons rfl ?_) sub_st (by kernel_rfl)
      refine D_nodeR #[true, true, true, true, true, true, true, true, true, true, true, true, true, true, true, true, true, true, false, false, false, false, false, false, false, false, false] (fun _ : Unit => [(94, .agg (sdc t).toArray), (89, .agg (sdc o).toArray), (84, .agg (sdc b).toArray), (80, .func (.func 27) #[] #[]), (85, .func (.func 27) #[] #[]), (90, .func (.func 27) #[] #[]), (95, .func (.func 27) #[] #[]), (83, sv p), (88, sv p), (93, sv p), (97, sv p), (82, .agg #[.slice A1 L1.length c1']), (87, .agg #[.slice A2 L2.length c2']), (92, .agg #[.slice A3 L3.length c3']), (96, .agg #[.slice A9 M.length c9]), (2, .pointer (some ⟨b2, 0, none⟩)), (7, .pointer (some ⟨b7, 0, none⟩)), (8, .func (.func 27) #[] #[]), (74, .slice A10 P.length c10), (75, .int .i64 (P.length : Int)), (76, .int .i64 (j : Int))]) (fun _ : Unit => [row 9 1 A10 P.length c10 (P.map sv), pt b7 24 [.slice A9 M.length c9], row 70 2 A9 M.length c9 (cellsL rwc M), pt b2 26 [.slice A1 L1.length c1', .slice A2 L2.length c2', .slice A3 L3.length c3']]) (fun x => ?_) (fun nd48 => ?_)
      · skip
        obtain ⟨⟩ := x
        try dsimp only
        refine D_five 18 19 20 21 22 rfl rfl rfl rfl rfl (E_cloA (cap := []) rfl (E_hv0 (f := 27) ⟨_, Try.func27, rfl, by kernel_rfl⟩ (fun w hS => hasL_any w A9 M.length c9 M p ((Srd.row (A := A9) (n := M.length) (c := c9)).rd w hS) (by omega)) rfl rfl (fun _ => rfl))) (E_alloca rfl sd_zero) (E_alloca rfl sd_zero) (E_alloca rfl sd_zero) (E_alloca rfl sd_zero) ?_ ?_ ?_ ?_ ?_ rfl rfl rfl rfl rfl rfl rfl rfl rfl rfl (by kernel_rfl)
        · rintro _ _ ⟨_, rfl, _, rfl⟩; rw [hz]
          refine Nx_same sub_st ?_
          have h := nd32 ()
          try dsimp only at h
          exact D_at h (by repeat first | exact Sub.nil | refine Sub.cons rfl ?_) sub_st (by kernel_rfl)
        · rintro _ _ ⟨b11, rfl, rfl⟩
          refine Nx_same sub_st ?_
          have h := nd33 (b11)
          try dsimp only at h
          exact D_at h (by repeat first | exact Sub.nil | refine Sub.cons rfl ?_) sub_st (by kernel_rfl)
        · rintro _ _ ⟨b12, rfl, rfl⟩
          refine Nx_same sub_st ?_
          have h := nd34 (b12)
          try dsimp only at h
          exact D_at h (by repeat first | exact Sub.nil | refine Sub.cons rfl ?_) sub_st (by kernel_rfl)
        · rintro _ _ ⟨b13, rfl, rfl⟩
          refine Nx_same sub_st ?_
          have h := nd35 (b13)
          try dsimp only at h
          exact D_at h (by repeat first | exact Sub.nil | refine Sub.cons rfl ?_) sub_st (by kernel_rfl)
        · rintro _ _ ⟨b14, rfl, rfl⟩
          refine Nx_same sub_st ?_
          have h := nd36 (b14)
          try dsimp only at h
          exact D_at h (by repeat first | exact Sub.nil | refine Sub.cons rfl ?_) sub_st (by kernel_rfl)
      refine D_nodeR #[true, true, true, true, true, true, true, true, true, true, true, true, true, true, false, true, true, true, false, true, false, false, false, false, false, false, false] (fun x : Nat => [(11, .pointer (some ⟨x, 0, none⟩)), (89, .agg (sdc o).toArray), (84, .agg (sdc b).toArray), (80, .func (.func 27) #[] #[]), (85, .func (.func 27) #[] #[]), (90, .func (.func 27) #[] #[]), (95, .func (.func 27) #[] #[]), (83, sv p), (88, sv p), (93, sv p), (97, sv p), (82, .agg #[.slice A1 L1.length c1']), (87, .agg #[.slice A2 L2.length c2']), (92, .agg #[.slice A3 L3.length c3']), (96, .agg #[.slice A9 M.length c9]), (2, .pointer (some ⟨b2, 0, none⟩)), (7, .pointer (some ⟨b7, 0, none⟩)), (8, .func (.func 27) #[] #[]), (74, .slice A10 P.length c10), (75, .int .i64 (P.length : Int)), (76, .int .i64 (j : Int))]) (fun x : Nat => [pt x 50 (sdc default), row 9 1 A10 P.length c10 (P.map sv), pt b7 24 [.slice A9 M.length c9], row 70 2 A9 M.length c9 (cellsL rwc M), pt b2 26 [.slice A1 L1.length c1', .slice A2 L2.length c2', .slice A3 L3.length c3']]) (fun x => ?_) (fun nd49 => ?_)
      · skip
        revert x; intro b11
        try dsimp only
        refine D_four 14 20 21 22 rfl rfl rfl rfl (E_cloA (cap := []) rfl (E_hv0 (f := 27) ⟨_, Try.func27, rfl, by kernel_rfl⟩ (fun w hS => hasL_any w A3 L3.length c3' L3 p ((Srd.old h3 (fun k _ => noOwns k)).rd w hS) (by omega)) rfl rfl (fun _ => rfl))) (E_alloca rfl sd_zero) (E_alloca rfl sd_zero) (E_alloca rfl sd_zero) ?_ ?_ ?_ ?_ rfl rfl rfl rfl rfl rfl rfl rfl (by kernel_rfl)
        · rintro _ _ ⟨_, rfl, _, rfl⟩; rw [ht]
          refine Nx_same sub_st ?_
          have h := nd33 (b11)
          try dsimp only at h
          exact D_at h (by repeat first | exact Sub.nil | refine Sub.cons rfl ?_) sub_st (by kernel_rfl)
        · rintro _ _ ⟨b12, rfl, rfl⟩
          refine Nx_same sub_st ?_
          have h := nd37 (b11, b12)
          try dsimp only at h
          exact D_at h (by repeat first | exact Sub.nil | refine Sub.cons rfl ?_) sub_st (by kernel_rfl)
        · rintro _ _ ⟨b13, rfl, rfl⟩
          refine Nx_same sub_st ?_
          have h := nd38 (b11, b13)
          try dsimp only at h
          exact D_at h (by repeat first | exact Sub.nil | refine Sub.cons rfl ?_) sub_st (by kernel_rfl)
        · rintro _ _ ⟨b14, rfl, rfl⟩
          refine Nx_same sub_st ?_
          have h := nd39 (b11, b14)
          try dsimp only at h
          exact D_at h (by repeat first | exact Sub.nil | refine Sub.cons rfl ?_) sub_st (by kernel_rfl)
      refine D_nodeR #[true, true, true, true, true, true, true, true, true, true, true, true, true, true, false, true, true, true, false, false, true, false, false, false, false, false, false] (fun x : Nat => [(12, .pointer (some ⟨x, 0, none⟩)), (89, .agg (sdc o).toArray), (84, .agg (sdc b).toArray), (80, .func (.func 27) #[] #[]), (85, .func (.func 27) #[] #[]), (90, .func (.func 27) #[] #[]), (95, .func (.func 27) #[] #[]), (83, sv p), (88, sv p), (93, sv p), (97, sv p), (82, .agg #[.slice A1 L1.length c1']), (87, .agg #[.slice A2 L2.length c2']), (92, .agg #[.slice A3 L3.length c3']), (96, .agg #[.slice A9 M.length c9]), (2, .pointer (some ⟨b2, 0, none⟩)), (7, .pointer (some ⟨b7, 0, none⟩)), (8, .func (.func 27) #[] #[]), (74, .slice A10 P.length c10), (75, .int .i64 (P.length : Int)), (76, .int .i64 (j : Int))]) (fun x : Nat => [pt x 50 (sdc default), row 9 1 A10 P.length c10 (P.map sv), pt b7 24 [.slice A9 M.length c9], row 70 2 A9 M.length c9 (cellsL rwc M), pt b2 26 [.slice A1 L1.length c1', .slice A2 L2.length c2', .slice A3 L3.length c3']]) (fun x => ?_) (fun nd50 => ?_)
      · skip
        revert x; intro b12
        try dsimp only
        refine D_four 14 19 21 22 rfl rfl rfl rfl (E_cloA (cap := []) rfl (E_hv0 (f := 27) ⟨_, Try.func27, rfl, by kernel_rfl⟩ (fun w hS => hasL_any w A3 L3.length c3' L3 p ((Srd.old h3 (fun k _ => noOwns k)).rd w hS) (by omega)) rfl rfl (fun _ => rfl))) (E_alloca rfl sd_zero) (E_alloca rfl sd_zero) (E_alloca rfl sd_zero) ?_ ?_ ?_ ?_ rfl rfl rfl rfl rfl rfl rfl rfl (by kernel_rfl)
        · rintro _ _ ⟨_, rfl, _, rfl⟩; rw [ht]
          refine Nx_same sub_st ?_
          have h := nd34 (b12)
          try dsimp only at h
          exact D_at h (by repeat first | exact Sub.nil | refine Sub.cons rfl ?_) sub_st (by kernel_rfl)
        · rintro _ _ ⟨b11, rfl, rfl⟩
          refine Nx_same sub_st ?_
          have h := nd37 (b11, b12)
          try dsimp only at h
          exact D_at h (by repeat first | exact Sub.nil | refine Sub.cons rfl ?_) sub_st (by kernel_rfl)
        · rintro _ _ ⟨b13, rfl, rfl⟩
          refine Nx_same sub_st ?_
          have h := nd40 (b12, b13)
          try dsimp only at h
          exact D_at h (by repeat first | exact Sub.nil | refine Sub.cons rfl ?_) sub_st (by kernel_rfl)
        · rintro _ _ ⟨b14, rfl, rfl⟩
          refine Nx_same sub_st ?_
          have h := nd41 (b12, b14)
          try dsimp only at h
          exact D_at h (by repeat first | exact Sub.nil | refine Sub.cons rfl ?_) sub_st (by kernel_rfl)
      refine D_nodeR #[true, true, true, true, true, true, true, true, true, true, true, true, true, true, false, true, true, true, false, false, false, true, false, false, false, false, false] (fun x : Nat => [(13, .pointer (some ⟨x, 0, none⟩)), (89, .agg (sdc o).toArray), (84, .agg (sdc b).toArray), (80, .func (.func 27) #[] #[]), (85, .func (.func 27) #[] #[]), (90, .func (.func 27) #[] #[]), (95, .func (.func 27) #[] #[]), (83, sv p), (88, sv p), (93, sv p), (97, sv p), (82, .agg #[.slice A1 L1.length c1']), (87, .agg #[.slice A2 L2.length c2']), (92, .agg #[.slice A3 L3.length c3']), (96, .agg #[.slice A9 M.length c9]), (2, .pointer (some ⟨b2, 0, none⟩)), (7, .pointer (some ⟨b7, 0, none⟩)), (8, .func (.func 27) #[] #[]), (74, .slice A10 P.length c10), (75, .int .i64 (P.length : Int)), (76, .int .i64 (j : Int))]) (fun x : Nat => [pt x 50 (sdc default), row 9 1 A10 P.length c10 (P.map sv), pt b7 24 [.slice A9 M.length c9], row 70 2 A9 M.length c9 (cellsL rwc M), pt b2 26 [.slice A1 L1.length c1', .slice A2 L2.length c2', .slice A3 L3.length c3']]) (fun x => ?_) (fun nd51 => ?_)
      · skip
        revert x; intro b13
        try dsimp only
        refine D_four 14 19 20 22 rfl rfl rfl rfl (E_cloA (cap := []) rfl (E_hv0 (f := 27) ⟨_, Try.func27, rfl, by kernel_rfl⟩ (fun w hS => hasL_any w A3 L3.length c3' L3 p ((Srd.old h3 (fun k _ => noOwns k)).rd w hS) (by omega)) rfl rfl (fun _ => rfl))) (E_alloca rfl sd_zero) (E_alloca rfl sd_zero) (E_alloca rfl sd_zero) ?_ ?_ ?_ ?_ rfl rfl rfl rfl rfl rfl rfl rfl (by kernel_rfl)
        · rintro _ _ ⟨_, rfl, _, rfl⟩; rw [ht]
          refine Nx_same sub_st ?_
          have h := nd35 (b13)
          try dsimp only at h
          exact D_at h (by repeat first | exact Sub.nil | refine Sub.cons rfl ?_) sub_st (by kernel_rfl)
        · rintro _ _ ⟨b11, rfl, rfl⟩
          refine Nx_same sub_st ?_
          have h := nd38 (b11, b13)
          try dsimp only at h
          exact D_at h (by repeat first | exact Sub.nil | refine Sub.cons rfl ?_) sub_st (by kernel_rfl)
        · rintro _ _ ⟨b12, rfl, rfl⟩
          refine Nx_same sub_st ?_
          have h := nd40 (b12, b13)
          try dsimp only at h
          exact D_at h (by repeat first | exact Sub.nil | refine Sub.cons rfl ?_) sub_st (by kernel_rfl)
        · rintro _ _ ⟨b14, rfl, rfl⟩
          refine Nx_same sub_st ?_
          have h := nd42 (b13, b14)
          try dsimp only at h
          exact D_at h (by repeat first | exact Sub.nil | refine Sub.cons rfl ?_) sub_st (by kernel_rfl)
      refine D_nodeR #[true, true, true, true, true, true, true, true, true, true, true, true, true, true, false, true, true, true, false, false, false, false, true, false, false, false, false] (fun x : Nat => [(14, .pointer (some ⟨x, 0, none⟩)), (89, .agg (sdc o).toArray), (84, .agg (sdc b).toArray), (80, .func (.func 27) #[] #[]), (85, .func (.func 27) #[] #[]), (90, .func (.func 27) #[] #[]), (95, .func (.func 27) #[] #[]), (83, sv p), (88, sv p), (93, sv p), (97, sv p), (82, .agg #[.slice A1 L1.length c1']), (87, .agg #[.slice A2 L2.length c2']), (92, .agg #[.slice A3 L3.length c3']), (96, .agg #[.slice A9 M.length c9]), (2, .pointer (some ⟨b2, 0, none⟩)), (7, .pointer (some ⟨b7, 0, none⟩)), (8, .func (.func 27) #[] #[]), (74, .slice A10 P.length c10), (75, .int .i64 (P.length : Int)), (76, .int .i64 (j : Int))]) (fun x : Nat => [pt x 50 (sdc default), row 9 1 A10 P.length c10 (P.map sv), pt b7 24 [.slice A9 M.length c9], row 70 2 A9 M.length c9 (cellsL rwc M), pt b2 26 [.slice A1 L1.length c1', .slice A2 L2.length c2', .slice A3 L3.length c3']]) (fun x => ?_) (fun nd52 => ?_)
      · skip
        revert x; intro b14
        try dsimp only
        refine D_four 14 19 20 21 rfl rfl rfl rfl (E_cloA (cap := []) rfl (E_hv0 (f := 27) ⟨_, Try.func27, rfl, by kernel_rfl⟩ (fun w hS => hasL_any w A3 L3.length c3' L3 p ((Srd.old h3 (fun k _ => noOwns k)).rd w hS) (by omega)) rfl rfl (fun _ => rfl))) (E_alloca rfl sd_zero) (E_alloca rfl sd_zero) (E_alloca rfl sd_zero) ?_ ?_ ?_ ?_ rfl rfl rfl rfl rfl rfl rfl rfl (by kernel_rfl)
        · rintro _ _ ⟨_, rfl, _, rfl⟩; rw [ht]
          refine Nx_same sub_st ?_
          have h := nd36 (b14)
          try dsimp only at h
          exact D_at h (by repeat first | exact Sub.nil | refine Sub.cons rfl ?_) sub_st (by kernel_rfl)
        · rintro _ _ ⟨b11, rfl, rfl⟩
          refine Nx_same sub_st ?_
          have h := nd39 (b11, b14)
          try dsimp only at h
          exact D_at h (by repeat first | exact Sub.nil | refine Sub.cons rfl ?_) sub_st (by kernel_rfl)
        · rintro _ _ ⟨b12, rfl, rfl⟩
          refine Nx_same sub_st ?_
          have h := nd41 (b12, b14)
          try dsimp only at h
          exact D_at h (by repeat first | exact Sub.nil | refine Sub.cons rfl ?_) sub_st (by kernel_rfl)
        · rintro _ _ ⟨b13, rfl, rfl⟩
          refine Nx_same sub_st ?_
          have h := nd42 (b13, b14)
          try dsimp only at h
          exact D_at h (by repeat first | exact Sub.nil | refine Sub.cons rfl ?_) sub_st (by kernel_rfl)
      refine D_nodeR #[true, true, true, true, true, true, true, true, true, false, true, true, true, true, false, true, true, true, false, true, true, false, false, false, false, false, false] (fun x : Nat × Nat => [(12, .pointer (some ⟨x.2, 0, none⟩)), (11, .pointer (some ⟨x.1, 0, none⟩)), (84, .agg (sdc b).toArray), (80, .func (.func 27) #[] #[]), (85, .func (.func 27) #[] #[]), (90, .func (.func 27) #[] #[]), (95, .func (.func 27) #[] #[]), (83, sv p), (88, sv p), (93, sv p), (97, sv p), (82, .agg #[.slice A1 L1.length c1']), (87, .agg #[.slice A2 L2.length c2']), (92, .agg #[.slice A3 L3.length c3']), (96, .agg #[.slice A9 M.length c9]), (2, .pointer (some ⟨b2, 0, none⟩)), (7, .pointer (some ⟨b7, 0, none⟩)), (8, .func (.func 27) #[] #[]), (74, .slice A10 P.length c10), (75, .int .i64 (P.length : Int)), (76, .int .i64 (j : Int))]) (fun x : Nat × Nat => [pt x.2 50 (sdc default), pt x.1 50 (sdc default), row 9 1 A10 P.length c10 (P.map sv), pt b7 24 [.slice A9 M.length c9], row 70 2 A9 M.length c9 (cellsL rwc M), pt b2 26 [.slice A1 L1.length c1', .slice A2 L2.length c2', .slice A3 L3.length c3']]) (fun x => ?_) (fun nd53 => ?_)
      · skip
        obtain ⟨b11, b12⟩ := x
        try dsimp only
        refine D_three 9 21 22 rfl rfl rfl (E_cloA (cap := []) rfl (E_hv0 (f := 27) ⟨_, Try.func27, rfl, by kernel_rfl⟩ (fun w hS => hasL_any w A2 L2.length c2' L2 p ((Srd.old h2 (fun k _ => noOwns k)).rd w hS) (by omega)) rfl rfl (fun _ => rfl))) (E_alloca rfl sd_zero) (E_alloca rfl sd_zero) ?_ ?_ ?_ rfl rfl rfl rfl rfl rfl (by kernel_rfl)
        · rintro _ _ ⟨_, rfl, _, rfl⟩; rw [ho]
          refine Nx_same sub_st ?_
          have h := nd37 (b11, b12)
          try dsimp only at h
          exact D_at h (by repeat first | exact Sub.nil | refine Sub.cons rfl ?_) sub_st (by kernel_rfl)
        · rintro _ _ ⟨b13, rfl, rfl⟩
          refine Nx_same sub_st ?_
          have h := nd43 (b11, b12, b13)
          try dsimp only at h
          exact D_at h (by repeat first | exact Sub.nil | refine Sub.cons rfl ?_) sub_st (by kernel_rfl)
        · rintro _ _ ⟨b14, rfl, rfl⟩
          refine Nx_same sub_st ?_
          have h := nd44 (b11, b12, b14)
          try dsimp only at h
          exact D_at h (by repeat first | exact Sub.nil | refine Sub.cons rfl ?_) sub_st (by kernel_rfl)
      refine D_nodeR #[true, true, true, true, true, true, true, true, true, false, true, true, true, true, false, true, true, true, false, true, false, true, false, false, false, false, false] (fun x : Nat × Nat => [(13, .pointer (some ⟨x.2, 0, none⟩)), (11, .pointer (some ⟨x.1, 0, none⟩)), (84, .agg (sdc b).toArray), (80, .func (.func 27) #[] #[]), (85, .func (.func 27) #[] #[]), (90, .func (.func 27) #[] #[]), (95, .func (.func 27) #[] #[]), (83, sv p), (88, sv p), (93, sv p), (97, sv p), (82, .agg #[.slice A1 L1.length c1']), (87, .agg #[.slice A2 L2.length c2']), (92, .agg #[.slice A3 L3.length c3']), (96, .agg #[.slice A9 M.length c9]), (2, .pointer (some ⟨b2, 0, none⟩)), (7, .pointer (some ⟨b7, 0, none⟩)), (8, .func (.func 27) #[] #[]), (74, .slice A10 P.length c10), (75, .int .i64 (P.length : Int)), (76, .int .i64 (j : Int))]) (fun x : Nat × Nat => [pt x.2 50 (sdc default), pt x.1 50 (sdc default), row 9 1 A10 P.length c10 (P.map sv), pt b7 24 [.slice A9 M.length c9], row 70 2 A9 M.length c9 (cellsL rwc M), pt b2 26 [.slice A1 L1.length c1', .slice A2 L2.length c2', .slice A3 L3.length c3']]) (fun x => ?_) (fun nd54 => ?_)
      · skip
        obtain ⟨b11, b13⟩ := x
        try dsimp only
        refine D_three 9 20 22 rfl rfl rfl (E_cloA (cap := []) rfl (E_hv0 (f := 27) ⟨_, Try.func27, rfl, by kernel_rfl⟩ (fun w hS => hasL_any w A2 L2.length c2' L2 p ((Srd.old h2 (fun k _ => noOwns k)).rd w hS) (by omega)) rfl rfl (fun _ => rfl))) (E_alloca rfl sd_zero) (E_alloca rfl sd_zero) ?_ ?_ ?_ rfl rfl rfl rfl rfl rfl (by kernel_rfl)
        · rintro _ _ ⟨_, rfl, _, rfl⟩; rw [ho]
          refine Nx_same sub_st ?_
          have h := nd38 (b11, b13)
          try dsimp only at h
          exact D_at h (by repeat first | exact Sub.nil | refine Sub.cons rfl ?_) sub_st (by kernel_rfl)
        · rintro _ _ ⟨b12, rfl, rfl⟩
          refine Nx_same sub_st ?_
          have h := nd43 (b11, b12, b13)
          try dsimp only at h
          exact D_at h (by repeat first | exact Sub.nil | refine Sub.cons rfl ?_) sub_st (by kernel_rfl)
        · rintro _ _ ⟨b14, rfl, rfl⟩
          refine Nx_same sub_st ?_
          have h := nd45 (b11, b13, b14)
          try dsimp only at h
          exact D_at h (by repeat first | exact Sub.nil | refine Sub.cons rfl ?_) sub_st (by kernel_rfl)
      refine D_nodeR #[true, true, true, true, true, true, true, true, true, false, true, true, true, true, false, true, true, true, false, true, false, false, true, false, false, false, false] (fun x : Nat × Nat => [(14, .pointer (some ⟨x.2, 0, none⟩)), (11, .pointer (some ⟨x.1, 0, none⟩)), (84, .agg (sdc b).toArray), (80, .func (.func 27) #[] #[]), (85, .func (.func 27) #[] #[]), (90, .func (.func 27) #[] #[]), (95, .func (.func 27) #[] #[]), (83, sv p), (88, sv p), (93, sv p), (97, sv p), (82, .agg #[.slice A1 L1.length c1']), (87, .agg #[.slice A2 L2.length c2']), (92, .agg #[.slice A3 L3.length c3']), (96, .agg #[.slice A9 M.length c9]), (2, .pointer (some ⟨b2, 0, none⟩)), (7, .pointer (some ⟨b7, 0, none⟩)), (8, .func (.func 27) #[] #[]), (74, .slice A10 P.length c10), (75, .int .i64 (P.length : Int)), (76, .int .i64 (j : Int))]) (fun x : Nat × Nat => [pt x.2 50 (sdc default), pt x.1 50 (sdc default), row 9 1 A10 P.length c10 (P.map sv), pt b7 24 [.slice A9 M.length c9], row 70 2 A9 M.length c9 (cellsL rwc M), pt b2 26 [.slice A1 L1.length c1', .slice A2 L2.length c2', .slice A3 L3.length c3']]) (fun x => ?_) (fun nd55 => ?_)
      · skip
        obtain ⟨b11, b14⟩ := x
        try dsimp only
        refine D_three 9 20 21 rfl rfl rfl (E_cloA (cap := []) rfl (E_hv0 (f := 27) ⟨_, Try.func27, rfl, by kernel_rfl⟩ (fun w hS => hasL_any w A2 L2.length c2' L2 p ((Srd.old h2 (fun k _ => noOwns k)).rd w hS) (by omega)) rfl rfl (fun _ => rfl))) (E_alloca rfl sd_zero) (E_alloca rfl sd_zero) ?_ ?_ ?_ rfl rfl rfl rfl rfl rfl (by kernel_rfl)
        · rintro _ _ ⟨_, rfl, _, rfl⟩; rw [ho]
          refine Nx_same sub_st ?_
          have h := nd39 (b11, b14)
          try dsimp only at h
          exact D_at h (by repeat first | exact Sub.nil | refine Sub.cons rfl ?_) sub_st (by kernel_rfl)
        · rintro _ _ ⟨b12, rfl, rfl⟩
          refine Nx_same sub_st ?_
          have h := nd44 (b11, b12, b14)
          try dsimp only at h
          exact D_at h (by repeat first | exact Sub.nil | refine Sub.cons rfl ?_) sub_st (by kernel_rfl)
        · rintro _ _ ⟨b13, rfl, rfl⟩
          refine Nx_same sub_st ?_
          have h := nd45 (b11, b13, b14)
          try dsimp only at h
          exact D_at h (by repeat first | exact Sub.nil | refine Sub.cons rfl ?_) sub_st (by kernel_rfl)
      refine D_nodeR #[true, true, true, true, true, true, true, true, true, false, true, true, true, true, false, true, true, true, false, false, true, true, false, false, false, false, false] (fun x : Nat × Nat => [(13, .pointer (some ⟨x.2, 0, none⟩)), (12, .pointer (some ⟨x.1, 0, none⟩)), (84, .agg (sdc b).toArray), (80, .func (.func 27) #[] #[]), (85, .func (.func 27) #[] #[]), (90, .func (.func 27) #[] #[]), (95, .func (.func 27) #[] #[]), (83, sv p), (88, sv p), (93, sv p), (97, sv p), (82, .agg #[.slice A1 L1.length c1']), (87, .agg #[.slice A2 L2.length c2']), (92, .agg #[.slice A3 L3.length c3']), (96, .agg #[.slice A9 M.length c9]), (2, .pointer (some ⟨b2, 0, none⟩)), (7, .pointer (some ⟨b7, 0, none⟩)), (8, .func (.func 27) #[] #[]), (74, .slice A10 P.length c10), (75, .int .i64 (P.length : Int)), (76, .int .i64 (j : Int))]) (fun x : Nat × Nat => [pt x.2 50 (sdc default), pt x.1 50 (sdc default), row 9 1 A10 P.length c10 (P.map sv), pt b7 24 [.slice A9 M.length c9], row 70 2 A9 M.length c9 (cellsL rwc M), pt b2 26 [.slice A1 L1.length c1', .slice A2 L2.length c2', .slice A3 L3.length c3']]) (fun x => ?_) (fun nd56 => ?_)
      · skip
        obtain ⟨b12, b13⟩ := x
        try dsimp only
        refine D_three 9 19 22 rfl rfl rfl (E_cloA (cap := []) rfl (E_hv0 (f := 27) ⟨_, Try.func27, rfl, by kernel_rfl⟩ (fun w hS => hasL_any w A2 L2.length c2' L2 p ((Srd.old h2 (fun k _ => noOwns k)).rd w hS) (by omega)) rfl rfl (fun _ => rfl))) (E_alloca rfl sd_zero) (E_alloca rfl sd_zero) ?_ ?_ ?_ rfl rfl rfl rfl rfl rfl (by kernel_rfl)
        · rintro _ _ ⟨_, rfl, _, rfl⟩; rw [ho]
          refine Nx_same sub_st ?_
          have h := nd40 (b12, b13)
          try dsimp only at h
          exact D_at h (by repeat first | exact Sub.nil | refine Sub.cons rfl ?_) sub_st (by kernel_rfl)
        · rintro _ _ ⟨b11, rfl, rfl⟩
          refine Nx_same sub_st ?_
          have h := nd43 (b11, b12, b13)
          try dsimp only at h
          exact D_at h (by repeat first | exact Sub.nil | refine Sub.cons rfl ?_) sub_st (by kernel_rfl)
        · rintro _ _ ⟨b14, rfl, rfl⟩
          refine Nx_same sub_st ?_
          have h := nd46 (b12, b13, b14)
          try dsimp only at h
          exact D_at h (by repeat first | exact Sub.nil | refine Sub.cons rfl ?_) sub_st (by kernel_rfl)
      refine D_nodeR #[true, true, true, true, true, true, true, true, true, false, true, true, true, true, false, true, true, true, false, false, true, false, true, false, false, false, false] (fun x : Nat × Nat => [(14, .pointer (some ⟨x.2, 0, none⟩)), (12, .pointer (some ⟨x.1, 0, none⟩)), (84, .agg (sdc b).toArray), (80, .func (.func 27) #[] #[]), (85, .func (.func 27) #[] #[]), (90, .func (.func 27) #[] #[]), (95, .func (.func 27) #[] #[]), (83, sv p), (88, sv p), (93, sv p), (97, sv p), (82, .agg #[.slice A1 L1.length c1']), (87, .agg #[.slice A2 L2.length c2']), (92, .agg #[.slice A3 L3.length c3']), (96, .agg #[.slice A9 M.length c9]), (2, .pointer (some ⟨b2, 0, none⟩)), (7, .pointer (some ⟨b7, 0, none⟩)), (8, .func (.func 27) #[] #[]), (74, .slice A10 P.length c10), (75, .int .i64 (P.length : Int)), (76, .int .i64 (j : Int))]) (fun x : Nat × Nat => [pt x.2 50 (sdc default), pt x.1 50 (sdc default), row 9 1 A10 P.length c10 (P.map sv), pt b7 24 [.slice A9 M.length c9], row 70 2 A9 M.length c9 (cellsL rwc M), pt b2 26 [.slice A1 L1.length c1', .slice A2 L2.length c2', .slice A3 L3.length c3']]) (fun x => ?_) (fun nd57 => ?_)
      · skip
        obtain ⟨b12, b14⟩ := x
        try dsimp only
        refine D_three 9 19 21 rfl rfl rfl (E_cloA (cap := []) rfl (E_hv0 (f := 27) ⟨_, Try.func27, rfl, by kernel_rfl⟩ (fun w hS => hasL_any w A2 L2.length c2' L2 p ((Srd.old h2 (fun k _ => noOwns k)).rd w hS) (by omega)) rfl rfl (fun _ => rfl))) (E_alloca rfl sd_zero) (E_alloca rfl sd_zero) ?_ ?_ ?_ rfl rfl rfl rfl rfl rfl (by kernel_rfl)
        · rintro _ _ ⟨_, rfl, _, rfl⟩; rw [ho]
          refine Nx_same sub_st ?_
          have h := nd41 (b12, b14)
          try dsimp only at h
          exact D_at h (by repeat first | exact Sub.nil | refine Sub.cons rfl ?_) sub_st (by kernel_rfl)
        · rintro _ _ ⟨b11, rfl, rfl⟩
          refine Nx_same sub_st ?_
          have h := nd44 (b11, b12, b14)
          try dsimp only at h
          exact D_at h (by repeat first | exact Sub.nil | refine Sub.cons rfl ?_) sub_st (by kernel_rfl)
        · rintro _ _ ⟨b13, rfl, rfl⟩
          refine Nx_same sub_st ?_
          have h := nd46 (b12, b13, b14)
          try dsimp only at h
          exact D_at h (by repeat first | exact Sub.nil | refine Sub.cons rfl ?_) sub_st (by kernel_rfl)
      refine D_nodeR #[true, true, true, true, true, true, true, true, true, false, true, true, true, true, false, true, true, true, false, false, false, true, true, false, false, false, false] (fun x : Nat × Nat => [(14, .pointer (some ⟨x.2, 0, none⟩)), (13, .pointer (some ⟨x.1, 0, none⟩)), (84, .agg (sdc b).toArray), (80, .func (.func 27) #[] #[]), (85, .func (.func 27) #[] #[]), (90, .func (.func 27) #[] #[]), (95, .func (.func 27) #[] #[]), (83, sv p), (88, sv p), (93, sv p), (97, sv p), (82, .agg #[.slice A1 L1.length c1']), (87, .agg #[.slice A2 L2.length c2']), (92, .agg #[.slice A3 L3.length c3']), (96, .agg #[.slice A9 M.length c9]), (2, .pointer (some ⟨b2, 0, none⟩)), (7, .pointer (some ⟨b7, 0, none⟩)), (8, .func (.func 27) #[] #[]), (74, .slice A10 P.length c10), (75, .int .i64 (P.length : Int)), (76, .int .i64 (j : Int))]) (fun x : Nat × Nat => [pt x.2 50 (sdc default), pt x.1 50 (sdc default), row 9 1 A10 P.length c10 (P.map sv), pt b7 24 [.slice A9 M.length c9], row 70 2 A9 M.length c9 (cellsL rwc M), pt b2 26 [.slice A1 L1.length c1', .slice A2 L2.length c2', .slice A3 L3.length c3']]) (fun x => ?_) (fun nd58 => ?_)
      · skip
        obtain ⟨b13, b14⟩ := x
        try dsimp only
        refine D_three 9 19 20 rfl rfl rfl (E_cloA (cap := []) rfl (E_hv0 (f := 27) ⟨_, Try.func27, rfl, by kernel_rfl⟩ (fun w hS => hasL_any w A2 L2.length c2' L2 p ((Srd.old h2 (fun k _ => noOwns k)).rd w hS) (by omega)) rfl rfl (fun _ => rfl))) (E_alloca rfl sd_zero) (E_alloca rfl sd_zero) ?_ ?_ ?_ rfl rfl rfl rfl rfl rfl (by kernel_rfl)
        · rintro _ _ ⟨_, rfl, _, rfl⟩; rw [ho]
          refine Nx_same sub_st ?_
          have h := nd42 (b13, b14)
          try dsimp only at h
          exact D_at h (by repeat first | exact Sub.nil | refine Sub.cons rfl ?_) sub_st (by kernel_rfl)
        · rintro _ _ ⟨b11, rfl, rfl⟩
          refine Nx_same sub_st ?_
          have h := nd45 (b11, b13, b14)
          try dsimp only at h
          exact D_at h (by repeat first | exact Sub.nil | refine Sub.cons rfl ?_) sub_st (by kernel_rfl)
        · rintro _ _ ⟨b12, rfl, rfl⟩
          refine Nx_same sub_st ?_
          have h := nd46 (b12, b13, b14)
          try dsimp only at h
          exact D_at h (by repeat first | exact Sub.nil | refine Sub.cons rfl ?_) sub_st (by kernel_rfl)
      refine D_nodeR #[true, true, true, true, false, true, true, true, true, false, true, true, true, true, false, true, true, true, false, true, true, true, false, false, false, false, false] (fun x : Nat × Nat × Nat => [(13, .pointer (some ⟨x.2.2, 0, none⟩)), (12, .pointer (some ⟨x.2.1, 0, none⟩)), (11, .pointer (some ⟨x.1, 0, none⟩)), (80, .func (.func 27) #[] #[]), (85, .func (.func 27) #[] #[]), (90, .func (.func 27) #[] #[]), (95, .func (.func 27) #[] #[]), (83, sv p), (88, sv p), (93, sv p), (97, sv p), (82, .agg #[.slice A1 L1.length c1']), (87, .agg #[.slice A2 L2.length c2']), (92, .agg #[.slice A3 L3.length c3']), (96, .agg #[.slice A9 M.length c9]), (2, .pointer (some ⟨b2, 0, none⟩)), (7, .pointer (some ⟨b7, 0, none⟩)), (8, .func (.func 27) #[] #[]), (74, .slice A10 P.length c10), (75, .int .i64 (P.length : Int)), (76, .int .i64 (j : Int))]) (fun x : Nat × Nat × Nat => [pt x.2.2 50 (sdc default), pt x.2.1 50 (sdc default), pt x.1 50 (sdc default), row 9 1 A10 P.length c10 (P.map sv), pt b7 24 [.slice A9 M.length c9], row 70 2 A9 M.length c9 (cellsL rwc M), pt b2 26 [.slice A1 L1.length c1', .slice A2 L2.length c2', .slice A3 L3.length c3']]) (fun x => ?_) (fun nd59 => ?_)
      · skip
        obtain ⟨b11, b12, b13⟩ := x
        try dsimp only
        refine D_two 4 22 (by decide) rfl rfl (E_cloA (cap := []) rfl (E_hv0 (f := 27) ⟨_, Try.func27, rfl, by kernel_rfl⟩ (fun w hS => hasL_any w A1 L1.length c1' L1 p ((Srd.old h1 (fun k _ => noOwns k)).rd w hS) (by omega)) rfl rfl (fun _ => rfl))) (E_alloca rfl sd_zero) ?_ ?_ rfl rfl rfl rfl (by kernel_rfl)
        · rintro _ _ ⟨_, rfl, _, rfl⟩; rw [hb]
          refine Nx_same sub_st ?_
          have h := nd43 (b11, b12, b13)
          try dsimp only at h
          exact D_at h (by repeat first | exact Sub.nil | refine Sub.cons rfl ?_) sub_st (by kernel_rfl)
        · rintro _ _ ⟨b14, rfl, rfl⟩
          refine Nx_same sub_st ?_
          have h := nd47 (b11, b12, b13, b14)
          try dsimp only at h
          exact D_at h (by repeat first | exact Sub.nil | refine Sub.cons rfl ?_) sub_st (by kernel_rfl)
      refine D_nodeR #[true, true, true, true, false, true, true, true, true, false, true, true, true, true, false, true, true, true, false, true, true, false, true, false, false, false, false] (fun x : Nat × Nat × Nat => [(14, .pointer (some ⟨x.2.2, 0, none⟩)), (12, .pointer (some ⟨x.2.1, 0, none⟩)), (11, .pointer (some ⟨x.1, 0, none⟩)), (80, .func (.func 27) #[] #[]), (85, .func (.func 27) #[] #[]), (90, .func (.func 27) #[] #[]), (95, .func (.func 27) #[] #[]), (83, sv p), (88, sv p), (93, sv p), (97, sv p), (82, .agg #[.slice A1 L1.length c1']), (87, .agg #[.slice A2 L2.length c2']), (92, .agg #[.slice A3 L3.length c3']), (96, .agg #[.slice A9 M.length c9]), (2, .pointer (some ⟨b2, 0, none⟩)), (7, .pointer (some ⟨b7, 0, none⟩)), (8, .func (.func 27) #[] #[]), (74, .slice A10 P.length c10), (75, .int .i64 (P.length : Int)), (76, .int .i64 (j : Int))]) (fun x : Nat × Nat × Nat => [pt x.2.2 50 (sdc default), pt x.2.1 50 (sdc default), pt x.1 50 (sdc default), row 9 1 A10 P.length c10 (P.map sv), pt b7 24 [.slice A9 M.length c9], row 70 2 A9 M.length c9 (cellsL rwc M), pt b2 26 [.slice A1 L1.length c1', .slice A2 L2.length c2', .slice A3 L3.length c3']]) (fun x => ?_) (fun nd60 => ?_)
      · skip
        obtain ⟨b11, b12, b14⟩ := x
        try dsimp only
        refine D_two 4 21 (by decide) rfl rfl (E_cloA (cap := []) rfl (E_hv0 (f := 27) ⟨_, Try.func27, rfl, by kernel_rfl⟩ (fun w hS => hasL_any w A1 L1.length c1' L1 p ((Srd.old h1 (fun k _ => noOwns k)).rd w hS) (by omega)) rfl rfl (fun _ => rfl))) (E_alloca rfl sd_zero) ?_ ?_ rfl rfl rfl rfl (by kernel_rfl)
        · rintro _ _ ⟨_, rfl, _, rfl⟩; rw [hb]
          refine Nx_same sub_st ?_
          have h := nd44 (b11, b12, b14)
          try dsimp only at h
          exact D_at h (by repeat first | exact Sub.nil | refine Sub.cons rfl ?_) sub_st (by kernel_rfl)
        · rintro _ _ ⟨b13, rfl, rfl⟩
          refine Nx_same sub_st ?_
          have h := nd47 (b11, b12, b13, b14)
          try dsimp only at h
          exact D_at h (by repeat first | exact Sub.nil | refine Sub.cons rfl ?_) sub_st (by kernel_rfl)
      refine D_nodeR #[true, true, true, true, false, true, true, true, true, false, true, true, true, true, false, true, true, true, false, true, false, true, true, false, false, false, false] (fun x : Nat × Nat × Nat => [(14, .pointer (some ⟨x.2.2, 0, none⟩)), (13, .pointer (some ⟨x.2.1, 0, none⟩)), (11, .pointer (some ⟨x.1, 0, none⟩)), (80, .func (.func 27) #[] #[]), (85, .func (.func 27) #[] #[]), (90, .func (.func 27) #[] #[]), (95, .func (.func 27) #[] #[]), (83, sv p), (88, sv p), (93, sv p), (97, sv p), (82, .agg #[.slice A1 L1.length c1']), (87, .agg #[.slice A2 L2.length c2']), (92, .agg #[.slice A3 L3.length c3']), (96, .agg #[.slice A9 M.length c9]), (2, .pointer (some ⟨b2, 0, none⟩)), (7, .pointer (some ⟨b7, 0, none⟩)), (8, .func (.func 27) #[] #[]), (74, .slice A10 P.length c10), (75, .int .i64 (P.length : Int)), (76, .int .i64 (j : Int))]) (fun x : Nat × Nat × Nat => [pt x.2.2 50 (sdc default), pt x.2.1 50 (sdc default), pt x.1 50 (sdc default), row 9 1 A10 P.length c10 (P.map sv), pt b7 24 [.slice A9 M.length c9], row 70 2 A9 M.length c9 (cellsL rwc M), pt b2 26 [.slice A1 L1.length c1', .slice A2 L2.length c2', .slice A3 L3.length c3']]) (fun x => ?_) (fun nd61 => ?_)
      · skip
        obtain ⟨b11, b13, b14⟩ := x
        try dsimp only
        refine D_two 4 20 (by decide) rfl rfl (E_cloA (cap := []) rfl (E_hv0 (f := 27) ⟨_, Try.func27, rfl, by kernel_rfl⟩ (fun w hS => hasL_any w A1 L1.length c1' L1 p ((Srd.old h1 (fun k _ => noOwns k)).rd w hS) (by omega)) rfl rfl (fun _ => rfl))) (E_alloca rfl sd_zero) ?_ ?_ rfl rfl rfl rfl (by kernel_rfl)
        · rintro _ _ ⟨_, rfl, _, rfl⟩; rw [hb]
          refine Nx_same sub_st ?_
          have h := nd45 (b11, b13, b14)
          try dsimp only at h
          exact D_at h (by repeat first | exact Sub.nil | refine Sub.cons rfl ?_) sub_st (by kernel_rfl)
        · rintro _ _ ⟨b12, rfl, rfl⟩
          refine Nx_same sub_st ?_
          have h := nd47 (b11, b12, b13, b14)
          try dsimp only at h
          exact D_at h (by repeat first | exact Sub.nil | refine Sub.cons rfl ?_) sub_st (by kernel_rfl)
      refine D_nodeR #[true, true, true, true, false, true, true, true, true, false, true, true, true, true, false, true, true, true, false, false, true, true, true, false, false, false, false] (fun x : Nat × Nat × Nat => [(14, .pointer (some ⟨x.2.2, 0, none⟩)), (13, .pointer (some ⟨x.2.1, 0, none⟩)), (12, .pointer (some ⟨x.1, 0, none⟩)), (80, .func (.func 27) #[] #[]), (85, .func (.func 27) #[] #[]), (90, .func (.func 27) #[] #[]), (95, .func (.func 27) #[] #[]), (83, sv p), (88, sv p), (93, sv p), (97, sv p), (82, .agg #[.slice A1 L1.length c1']), (87, .agg #[.slice A2 L2.length c2']), (92, .agg #[.slice A3 L3.length c3']), (96, .agg #[.slice A9 M.length c9]), (2, .pointer (some ⟨b2, 0, none⟩)), (7, .pointer (some ⟨b7, 0, none⟩)), (8, .func (.func 27) #[] #[]), (74, .slice A10 P.length c10), (75, .int .i64 (P.length : Int)), (76, .int .i64 (j : Int))]) (fun x : Nat × Nat × Nat => [pt x.2.2 50 (sdc default), pt x.2.1 50 (sdc default), pt x.1 50 (sdc default), row 9 1 A10 P.length c10 (P.map sv), pt b7 24 [.slice A9 M.length c9], row 70 2 A9 M.length c9 (cellsL rwc M), pt b2 26 [.slice A1 L1.length c1', .slice A2 L2.length c2', .slice A3 L3.length c3']]) (fun x => ?_) (fun nd62 => ?_)
      · skip
        obtain ⟨b12, b13, b14⟩ := x
        try dsimp only
        refine D_two 4 19 (by decide) rfl rfl (E_cloA (cap := []) rfl (E_hv0 (f := 27) ⟨_, Try.func27, rfl, by kernel_rfl⟩ (fun w hS => hasL_any w A1 L1.length c1' L1 p ((Srd.old h1 (fun k _ => noOwns k)).rd w hS) (by omega)) rfl rfl (fun _ => rfl))) (E_alloca rfl sd_zero) ?_ ?_ rfl rfl rfl rfl (by kernel_rfl)
        · rintro _ _ ⟨_, rfl, _, rfl⟩; rw [hb]
          refine Nx_same sub_st ?_
          have h := nd46 (b12, b13, b14)
          try dsimp only at h
          exact D_at h (by repeat first | exact Sub.nil | refine Sub.cons rfl ?_) sub_st (by kernel_rfl)
        · rintro _ _ ⟨b11, rfl, rfl⟩
          refine Nx_same sub_st ?_
          have h := nd47 (b11, b12, b13, b14)
          try dsimp only at h
          exact D_at h (by repeat first | exact Sub.nil | refine Sub.cons rfl ?_) sub_st (by kernel_rfl)
      refine D_nodeR #[true, true, true, true, true, true, true, true, true, true, true, true, true, true, false, true, true, true, false, false, false, false, false, false, false, false, false] (fun _ : Unit => [(89, .agg (sdc o).toArray), (84, .agg (sdc b).toArray), (80, .func (.func 27) #[] #[]), (85, .func (.func 27) #[] #[]), (90, .func (.func 27) #[] #[]), (95, .func (.func 27) #[] #[]), (83, sv p), (88, sv p), (93, sv p), (97, sv p), (82, .agg #[.slice A1 L1.length c1']), (87, .agg #[.slice A2 L2.length c2']), (92, .agg #[.slice A3 L3.length c3']), (96, .agg #[.slice A9 M.length c9]), (2, .pointer (some ⟨b2, 0, none⟩)), (7, .pointer (some ⟨b7, 0, none⟩)), (8, .func (.func 27) #[] #[]), (74, .slice A10 P.length c10), (75, .int .i64 (P.length : Int)), (76, .int .i64 (j : Int))]) (fun _ : Unit => [row 9 1 A10 P.length c10 (P.map sv), pt b7 24 [.slice A9 M.length c9], row 70 2 A9 M.length c9 (cellsL rwc M), pt b2 26 [.slice A1 L1.length c1', .slice A2 L2.length c2', .slice A3 L3.length c3']]) (fun x => ?_) (fun nd63 => ?_)
      · skip
        obtain ⟨⟩ := x
        try dsimp only
        refine D_five 14 19 20 21 22 rfl rfl rfl rfl rfl (E_cloA (cap := []) rfl (E_hv0 (f := 27) ⟨_, Try.func27, rfl, by kernel_rfl⟩ (fun w hS => hasL_any w A3 L3.length c3' L3 p ((Srd.old h3 (fun k _ => noOwns k)).rd w hS) (by omega)) rfl rfl (fun _ => rfl))) (E_alloca rfl sd_zero) (E_alloca rfl sd_zero) (E_alloca rfl sd_zero) (E_alloca rfl sd_zero) ?_ ?_ ?_ ?_ ?_ rfl rfl rfl rfl rfl rfl rfl rfl rfl rfl (by kernel_rfl)
        · rintro _ _ ⟨_, rfl, _, rfl⟩; rw [ht]
          refine Nx_same sub_st ?_
          have h := nd48 ()
          try dsimp only at h
          exact D_at h (by repeat first | exact Sub.nil | refine Sub.cons rfl ?_) sub_st (by kernel_rfl)
        · rintro _ _ ⟨b11, rfl, rfl⟩
          refine Nx_same sub_st ?_
          have h := nd49 (b11)
          try dsimp only at h
          exact D_at h (by repeat first | exact Sub.nil | refine Sub.cons rfl ?_) sub_st (by kernel_rfl)
        · rintro _ _ ⟨b12, rfl, rfl⟩
          refine Nx_same sub_st ?_
          have h := nd50 (b12)
          try dsimp only at h
          exact D_at h (by repeat first | exact Sub.nil | refine Sub.cons rfl ?_) sub_st (by kernel_rfl)
        · rintro _ _ ⟨b13, rfl, rfl⟩
          refine Nx_same sub_st ?_
          have h := nd51 (b13)
          try dsimp only at h
          exact D_at h (by repeat first | exact Sub.nil | refine Sub.cons rfl ?_) sub_st (by kernel_rfl)
        · rintro _ _ ⟨b14, rfl, rfl⟩
          refine Nx_same sub_st ?_
          have h := nd52 (b14)
          try dsimp only at h
          exact D_at h (by repeat first | exact Sub.nil | refine Sub.cons rfl ?_) sub_st (by kernel_rfl)
      refine D_nodeR #[true, true, true, true, true, true, true, true, true, false, true, true, true, true, false, true, true, true, false, true, false, false, false, false, false, false, false] (fun x : Nat => [(11, .pointer (some ⟨x, 0, none⟩)), (84, .agg (sdc b).toArray), (80, .func (.func 27) #[] #[]), (85, .func (.func 27) #[] #[]), (90, .func (.func 27) #[] #[]), (95, .func (.func 27) #[] #[]), (83, sv p), (88, sv p), (93, sv p), (97, sv p), (82, .agg #[.slice A1 L1.length c1']), (87, .agg #[.slice A2 L2.length c2']), (92, .agg #[.slice A3 L3.length c3']), (96, .agg #[.slice A9 M.length c9]), (2, .pointer (some ⟨b2, 0, none⟩)), (7, .pointer (some ⟨b7, 0, none⟩)), (8, .func (.func 27) #[] #[]), (74, .slice A10 P.length c10), (75, .int .i64 (P.length : Int)), (76, .int .i64 (j : Int))]) (fun x : Nat => [pt x 50 (sdc default), row 9 1 A10 P.length c10 (P.map sv), pt b7 24 [.slice A9 M.length c9], row 70 2 A9 M.length c9 (cellsL rwc M), pt b2 26 [.slice A1 L1.length c1', .slice A2 L2.length c2', .slice A3 L3.length c3']]) (fun x => ?_) (fun nd64 => ?_)
      · skip
        revert x; intro b11
        try dsimp only
        refine D_four 9 20 21 22 rfl rfl rfl rfl (E_cloA (cap := []) rfl (E_hv0 (f := 27) ⟨_, Try.func27, rfl, by kernel_rfl⟩ (fun w hS => hasL_any w A2 L2.length c2' L2 p ((Srd.old h2 (fun k _ => noOwns k)).rd w hS) (by omega)) rfl rfl (fun _ => rfl))) (E_alloca rfl sd_zero) (E_alloca rfl sd_zero) (E_alloca rfl sd_zero) ?_ ?_ ?_ ?_ rfl rfl rfl rfl rfl rfl rfl rfl (by kernel_rfl)
        · rintro _ _ ⟨_, rfl, _, rfl⟩; rw [ho]
          refine Nx_same sub_st ?_
          have h := nd49 (b11)
          try dsimp only at h
          exact D_at h (by repeat first | exact Sub.nil | refine Sub.cons rfl ?_) sub_st (by kernel_rfl)
        · rintro _ _ ⟨b12, rfl, rfl⟩
          refine Nx_same sub_st ?_
          have h := nd53 (b11, b12)
          try dsimp only at h
          exact D_at h (by repeat first | exact Sub.nil | refine Sub.cons rfl ?_) sub_st (by kernel_rfl)
        · rintro _ _ ⟨b13, rfl, rfl⟩
          refine Nx_same sub_st ?_
          have h := nd54 (b11, b13)
          try dsimp only at h
          exact D_at h (by repeat first | exact Sub.nil | refine Sub.cons rfl ?_) sub_st (by kernel_rfl)
        · rintro _ _ ⟨b14, rfl, rfl⟩
          refine Nx_same sub_st ?_
          have h := nd55 (b11, b14)
          try dsimp only at h
          exact D_at h (by repeat first | exact Sub.nil | refine Sub.cons rfl ?_) sub_st (by kernel_rfl)
      refine D_nodeR #[true, true, true, true, true, true, true, true, true, false, true, true, true, true, false, true, true, true, false, false, true, false, false, false, false, false, false] (fun x : Nat => [(12, .pointer (some ⟨x, 0, none⟩)), (84, .agg (sdc b).toArray), (80, .func (.func 27) #[] #[]), (85, .func (.func 27) #[] #[]), (90, .func (.func 27) #[] #[]), (95, .func (.func 27) #[] #[]), (83, sv p), (88, sv p), (93, sv p), (97, sv p), (82, .agg #[.slice A1 L1.length c1']), (87, .agg #[.slice A2 L2.length c2']), (92, .agg #[.slice A3 L3.length c3']), (96, .agg #[.slice A9 M.length c9]), (2, .pointer (some ⟨b2, 0, none⟩)), (7, .pointer (some ⟨b7, 0, none⟩)), (8, .func (.func 27) #[] #[]), (74, .slice A10 P.length c10), (75, .int .i64 (P.length : Int)), (76, .int .i64 (j : Int))]) (fun x : Nat => [pt x 50 (sdc default), row 9 1 A10 P.length c10 (P.map sv), pt b7 24 [.slice A9 M.length c9], row 70 2 A9 M.length c9 (cellsL rwc M), pt b2 26 [.slice A1 L1.length c1', .slice A2 L2.length c2', .slice A3 L3.length c3']]) (fun x => ?_) (fun nd65 => ?_)
      · skip
        revert x; intro b12
        try dsimp only
        refine D_four 9 19 21 22 rfl rfl rfl rfl (E_cloA (cap := []) rfl (E_hv0 (f := 27) ⟨_, Try.func27, rfl, by kernel_rfl⟩ (fun w hS => hasL_any w A2 L2.length c2' L2 p ((Srd.old h2 (fun k _ => noOwns k)).rd w hS) (by omega)) rfl rfl (fun _ => rfl))) (E_alloca rfl sd_zero) (E_alloca rfl sd_zero) (E_alloca rfl sd_zero) ?_ ?_ ?_ ?_ rfl rfl rfl rfl rfl rfl rfl rfl (by kernel_rfl)
        · rintro _ _ ⟨_, rfl, _, rfl⟩; rw [ho]
          refine Nx_same sub_st ?_
          have h := nd50 (b12)
          try dsimp only at h
          exact D_at h (by repeat first | exact Sub.nil | refine Sub.cons rfl ?_) sub_st (by kernel_rfl)
        · rintro _ _ ⟨b11, rfl, rfl⟩
          refine Nx_same sub_st ?_
          have h := nd53 (b11, b12)
          try dsimp only at h
          exact D_at h (by repeat first | exact Sub.nil | refine Sub.cons rfl ?_) sub_st (by kernel_rfl)
        · rintro _ _ ⟨b13, rfl, rfl⟩
          refine Nx_same sub_st ?_
          have h := nd56 (b12, b13)
          try dsimp only at h
          exact D_at h (by repeat first | exact Sub.nil | refine Sub.cons rfl ?_) sub_st (by kernel_rfl)
        · rintro _ _ ⟨b14, rfl, rfl⟩
          refine Nx_same sub_st ?_
          have h := nd57 (b12, b14)
          try dsimp only at h
          exact D_at h (by repeat first | exact Sub.nil | refine Sub.cons rfl ?_) sub_st (by kernel_rfl)
      refine D_nodeR #[true, true, true, true, true, true, true, true, true, false, true, true, true, true, false, true, true, true, false, false, false, true, false, false, false, false, false] (fun x : Nat => [(13, .pointer (some ⟨x, 0, none⟩)), (84, .agg (sdc b).toArray), (80, .func (.func 27) #[] #[]), (85, .func (.func 27) #[] #[]), (90, .func (.func 27) #[] #[]), (95, .func (.func 27) #[] #[]), (83, sv p), (88, sv p), (93, sv p), (97, sv p), (82, .agg #[.slice A1 L1.length c1']), (87, .agg #[.slice A2 L2.length c2']), (92, .agg #[.slice A3 L3.length c3']), (96, .agg #[.slice A9 M.length c9]), (2, .pointer (some ⟨b2, 0, none⟩)), (7, .pointer (some ⟨b7, 0, none⟩)), (8, .func (.func 27) #[] #[]), (74, .slice A10 P.length c10), (75, .int .i64 (P.length : Int)), (76, .int .i64 (j : Int))]) (fun x : Nat => [pt x 50 (sdc default), row 9 1 A10 P.length c10 (P.map sv), pt b7 24 [.slice A9 M.length c9], row 70 2 A9 M.length c9 (cellsL rwc M), pt b2 26 [.slice A1 L1.length c1', .slice A2 L2.length c2', .slice A3 L3.length c3']]) (fun x => ?_) (fun nd66 => ?_)
      · skip
        revert x; intro b13
        try dsimp only
        refine D_four 9 19 20 22 rfl rfl rfl rfl (E_cloA (cap := []) rfl (E_hv0 (f := 27) ⟨_, Try.func27, rfl, by kernel_rfl⟩ (fun w hS => hasL_any w A2 L2.length c2' L2 p ((Srd.old h2 (fun k _ => noOwns k)).rd w hS) (by omega)) rfl rfl (fun _ => rfl))) (E_alloca rfl sd_zero) (E_alloca rfl sd_zero) (E_alloca rfl sd_zero) ?_ ?_ ?_ ?_ rfl rfl rfl rfl rfl rfl rfl rfl (by kernel_rfl)
        · rintro _ _ ⟨_, rfl, _, rfl⟩; rw [ho]
          refine Nx_same sub_st ?_
          have h := nd51 (b13)
          try dsimp only at h
          exact D_at h (by repeat first | exact Sub.nil | refine Sub.cons rfl ?_) sub_st (by kernel_rfl)
        · rintro _ _ ⟨b11, rfl, rfl⟩
          refine Nx_same sub_st ?_
          have h := nd54 (b11, b13)
          try dsimp only at h
          exact D_at h (by repeat first | exact Sub.nil | refine Sub.cons rfl ?_) sub_st (by kernel_rfl)
        · rintro _ _ ⟨b12, rfl, rfl⟩
          refine Nx_same sub_st ?_
          have h := nd56 (b12, b13)
          try dsimp only at h
          exact D_at h (by repeat first | exact Sub.nil | refine Sub.cons rfl ?_) sub_st (by kernel_rfl)
        · rintro _ _ ⟨b14, rfl, rfl⟩
          refine Nx_same sub_st ?_
          have h := nd58 (b13, b14)
          try dsimp only at h
          exact D_at h (by repeat first | exact Sub.nil | refine Sub.cons rfl ?_) sub_st (by kernel_rfl)
      refine D_nodeR #[true, true, true, true, true, true, true, true, true, false, true, true, true, true, false, true, true, true, false, false, false, false, true, false, false, false, false] (fun x : Nat => [(14, .pointer (some ⟨x, 0, none⟩)), (84, .agg (sdc b).toArray), (80, .func (.func 27) #[] #[]), (85, .func (.func 27) #[] #[]), (90, .func (.func 27) #[] #[]), (95, .func (.func 27) #[] #[]), (83, sv p), (88, sv p), (93, sv p), (97, sv p), (82, .agg #[.slice A1 L1.length c1']), (87, .agg #[.slice A2 L2.length c2']), (92, .agg #[.slice A3 L3.length c3']), (96, .agg #[.slice A9 M.length c9]), (2, .pointer (some ⟨b2, 0, none⟩)), (7, .pointer (some ⟨b7, 0, none⟩)), (8, .func (.func 27) #[] #[]), (74, .slice A10 P.length c10), (75, .int .i64 (P.length : Int)), (76, .int .i64 (j : Int))]) (fun x : Nat => [pt x 50 (sdc default), row 9 1 A10 P.length c10 (P.map sv), pt b7 24 [.slice A9 M.length c9], row 70 2 A9 M.length c9 (cellsL rwc M), pt b2 26 [.slice A1 L1.length c1', .slice A2 L2.length c2', .slice A3 L3.length c3']]) (fun x => ?_) (fun nd67 => ?_)
      · skip
        revert x; intro b14
        try dsimp only
        refine D_four 9 19 20 21 rfl rfl rfl rfl (E_cloA (cap := []) rfl (E_hv0 (f := 27) ⟨_, Try.func27, rfl, by kernel_rfl⟩ (fun w hS => hasL_any w A2 L2.length c2' L2 p ((Srd.old h2 (fun k _ => noOwns k)).rd w hS) (by omega)) rfl rfl (fun _ => rfl))) (E_alloca rfl sd_zero) (E_alloca rfl sd_zero) (E_alloca rfl sd_zero) ?_ ?_ ?_ ?_ rfl rfl rfl rfl rfl rfl rfl rfl (by kernel_rfl)
        · rintro _ _ ⟨_, rfl, _, rfl⟩; rw [ho]
          refine Nx_same sub_st ?_
          have h := nd52 (b14)
          try dsimp only at h
          exact D_at h (by repeat first | exact Sub.nil | refine Sub.cons rfl ?_) sub_st (by kernel_rfl)
        · rintro _ _ ⟨b11, rfl, rfl⟩
          refine Nx_same sub_st ?_
          have h := nd55 (b11, b14)
          try dsimp only at h
          exact D_at h (by repeat first | exact Sub.nil | refine Sub.cons rfl ?_) sub_st (by kernel_rfl)
        · rintro _ _ ⟨b12, rfl, rfl⟩
          refine Nx_same sub_st ?_
          have h := nd57 (b12, b14)
          try dsimp only at h
          exact D_at h (by repeat first | exact Sub.nil | refine Sub.cons rfl ?_) sub_st (by kernel_rfl)
        · rintro _ _ ⟨b13, rfl, rfl⟩
          refine Nx_same sub_st ?_
          have h := nd58 (b13, b14)
          try dsimp only at h
          exact D_at h (by repeat first | exact Sub.nil | refine Sub.cons rfl ?_) sub_st (by kernel_rfl)
      refine D_nodeR #[true, true, true, true, false, true, true, true, true, false, true, true, true, true, false, true, true, true, false, true, true, false, false, false, false, false, false] (fun x : Nat × Nat => [(12, .pointer (some ⟨x.2, 0, none⟩)), (11, .pointer (some ⟨x.1, 0, none⟩)), (80, .func (.func 27) #[] #[]), (85, .func (.func 27) #[] #[]), (90, .func (.func 27) #[] #[]), (95, .func (.func 27) #[] #[]), (83, sv p), (88, sv p), (93, sv p), (97, sv p), (82, .agg #[.slice A1 L1.length c1']), (87, .agg #[.slice A2 L2.length c2']), (92, .agg #[.slice A3 L3.length c3']), (96, .agg #[.slice A9 M.length c9]), (2, .pointer (some ⟨b2, 0, none⟩)), (7, .pointer (some ⟨b7, 0, none⟩)), (8, .func (.func 27) #[] #[]), (74, .slice A10 P.length c10), (75, .int .i64 (P.length : Int)), (76, .int .i64 (j : Int))]) (fun x : Nat × Nat => [pt x.2 50 (sdc default), pt x.1 50 (sdc default), row 9 1 A10 P.length c10 (P.map sv), pt b7 24 [.slice A9 M.length c9], row 70 2 A9 M.length c9 (cellsL rwc M), pt b2 26 [.slice A1 L1.length c1', .slice A2 L2.length c2', .slice A3 L3.length c3']]) (fun x => ?_) (fun nd68 => ?_)
      · skip
        obtain ⟨b11, b12⟩ := x
        try dsimp only
        refine D_three 4 21 22 rfl rfl rfl (E_cloA (cap := []) rfl (E_hv0 (f := 27) ⟨_, Try.func27, rfl, by kernel_rfl⟩ (fun w hS => hasL_any w A1 L1.length c1' L1 p ((Srd.old h1 (fun k _ => noOwns k)).rd w hS) (by omega)) rfl rfl (fun _ => rfl))) (E_alloca rfl sd_zero) (E_alloca rfl sd_zero) ?_ ?_ ?_ rfl rfl rfl rfl rfl rfl (by kernel_rfl)
        · rintro _ _ ⟨_, rfl, _, rfl⟩; rw [hb]
          refine Nx_same sub_st ?_
          have h := nd53 (b11, b12)
          try dsimp only at h
          exact D_at h (by repeat first | exact Sub.nil | refine Sub.cons rfl ?_) sub_st (by kernel_rfl)
        · rintro _ _ ⟨b13, rfl, rfl⟩
          refine Nx_same sub_st ?_
          have h := nd59 (b11, b12, b13)
          try dsimp only at h
          exact D_at h (by repeat first | exact Sub.nil | refine Sub.cons rfl ?_) sub_st (by kernel_rfl)
        · rintro _ _ ⟨b14, rfl, rfl⟩
          refine Nx_same sub_st ?_
          have h := nd60 (b11, b12, b14)
          try dsimp only at h
          exact D_at h (by repeat first | exact Sub.nil | refine Sub.cons rfl ?_) sub_st (by kernel_rfl)
      refine D_nodeR #[true, true, true, true, false, true, true, true, true, false, true, true, true, true, false, true, true, true, false, true, false, true, false, false, false, false, false] (fun x : Nat × Nat => [(13, .pointer (some ⟨x.2, 0, none⟩)), (11, .pointer (some ⟨x.1, 0, none⟩)), (80, .func (.func 27) #[] #[]), (85, .func (.func 27) #[] #[]), (90, .func (.func 27) #[] #[]), (95, .func (.func 27) #[] #[]), (83, sv p), (88, sv p), (93, sv p), (97, sv p), (82, .agg #[.slice A1 L1.length c1']), (87, .agg #[.slice A2 L2.length c2']), (92, .agg #[.slice A3 L3.length c3']), (96, .agg #[.slice A9 M.length c9]), (2, .pointer (some ⟨b2, 0, none⟩)), (7, .pointer (some ⟨b7, 0, none⟩)), (8, .func (.func 27) #[] #[]), (74, .slice A10 P.length c10), (75, .int .i64 (P.length : Int)), (76, .int .i64 (j : Int))]) (fun x : Nat × Nat => [pt x.2 50 (sdc default), pt x.1 50 (sdc default), row 9 1 A10 P.length c10 (P.map sv), pt b7 24 [.slice A9 M.length c9], row 70 2 A9 M.length c9 (cellsL rwc M), pt b2 26 [.slice A1 L1.length c1', .slice A2 L2.length c2', .slice A3 L3.length c3']]) (fun x => ?_) (fun nd69 => ?_)
      · skip
        obtain ⟨b11, b13⟩ := x
        try dsimp only
        refine D_three 4 20 22 rfl rfl rfl (E_cloA (cap := []) rfl (E_hv0 (f := 27) ⟨_, Try.func27, rfl, by kernel_rfl⟩ (fun w hS => hasL_any w A1 L1.length c1' L1 p ((Srd.old h1 (fun k _ => noOwns k)).rd w hS) (by omega)) rfl rfl (fun _ => rfl))) (E_alloca rfl sd_zero) (E_alloca rfl sd_zero) ?_ ?_ ?_ rfl rfl rfl rfl rfl rfl (by kernel_rfl)
        · rintro _ _ ⟨_, rfl, _, rfl⟩; rw [hb]
          refine Nx_same sub_st ?_
          have h := nd54 (b11, b13)
          try dsimp only at h
          exact D_at h (by repeat first | exact Sub.nil | refine Sub.cons rfl ?_) sub_st (by kernel_rfl)
        · rintro _ _ ⟨b12, rfl, rfl⟩
          refine Nx_same sub_st ?_
          have h := nd59 (b11, b12, b13)
          try dsimp only at h
          exact D_at h (by repeat first | exact Sub.nil | refine Sub.cons rfl ?_) sub_st (by kernel_rfl)
        · rintro _ _ ⟨b14, rfl, rfl⟩
          refine Nx_same sub_st ?_
          have h := nd61 (b11, b13, b14)
          try dsimp only at h
          exact D_at h (by repeat first | exact Sub.nil | refine Sub.cons rfl ?_) sub_st (by kernel_rfl)
      refine D_nodeR #[true, true, true, true, false, true, true, true, true, false, true, true, true, true, false, true, true, true, false, true, false, false, true, false, false, false, false] (fun x : Nat × Nat => [(14, .pointer (some ⟨x.2, 0, none⟩)), (11, .pointer (some ⟨x.1, 0, none⟩)), (80, .func (.func 27) #[] #[]), (85, .func (.func 27) #[] #[]), (90, .func (.func 27) #[] #[]), (95, .func (.func 27) #[] #[]), (83, sv p), (88, sv p), (93, sv p), (97, sv p), (82, .agg #[.slice A1 L1.length c1']), (87, .agg #[.slice A2 L2.length c2']), (92, .agg #[.slice A3 L3.length c3']), (96, .agg #[.slice A9 M.length c9]), (2, .pointer (some ⟨b2, 0, none⟩)), (7, .pointer (some ⟨b7, 0, none⟩)), (8, .func (.func 27) #[] #[]), (74, .slice A10 P.length c10), (75, .int .i64 (P.length : Int)), (76, .int .i64 (j : Int))]) (fun x : Nat × Nat => [pt x.2 50 (sdc default), pt x.1 50 (sdc default), row 9 1 A10 P.length c10 (P.map sv), pt b7 24 [.slice A9 M.length c9], row 70 2 A9 M.length c9 (cellsL rwc M), pt b2 26 [.slice A1 L1.length c1', .slice A2 L2.length c2', .slice A3 L3.length c3']]) (fun x => ?_) (fun nd70 => ?_)
      · skip
        obtain ⟨b11, b14⟩ := x
        try dsimp only
        refine D_three 4 20 21 rfl rfl rfl (E_cloA (cap := []) rfl (E_hv0 (f := 27) ⟨_, Try.func27, rfl, by kernel_rfl⟩ (fun w hS => hasL_any w A1 L1.length c1' L1 p ((Srd.old h1 (fun k _ => noOwns k)).rd w hS) (by omega)) rfl rfl (fun _ => rfl))) (E_alloca rfl sd_zero) (E_alloca rfl sd_zero) ?_ ?_ ?_ rfl rfl rfl rfl rfl rfl (by kernel_rfl)
        · rintro _ _ ⟨_, rfl, _, rfl⟩; rw [hb]
          refine Nx_same sub_st ?_
          have h := nd55 (b11, b14)
          try dsimp only at h
          exact D_at h (by repeat first | exact Sub.nil | refine Sub.cons rfl ?_) sub_st (by kernel_rfl)
        · rintro _ _ ⟨b12, rfl, rfl⟩
          refine Nx_same sub_st ?_
          have h := nd60 (b11, b12, b14)
          try dsimp only at h
          exact D_at h (by repeat first | exact Sub.nil | refine Sub.cons rfl ?_) sub_st (by kernel_rfl)
        · rintro _ _ ⟨b13, rfl, rfl⟩
          refine Nx_same sub_st ?_
          have h := nd61 (b11, b13, b14)
          try dsimp only at h
          exact D_at h (by repeat first | exact Sub.nil | refine Sub.cons rfl ?_) sub_st (by kernel_rfl)
      refine D_nodeR #[true, true, true, true, false, true, true, true, true, false, true, true, true, true, false, true, true, true, false, false, true, true, false, false, false, false, false] (fun x : Nat × Nat => [(13, .pointer (some ⟨x.2, 0, none⟩)), (12, .pointer (some ⟨x.1, 0, none⟩)), (80, .func (.func 27) #[] #[]), (85, .func (.func 27) #[] #[]), (90, .func (.func 27) #[] #[]), (95, .func (.func 27) #[] #[]), (83, sv p), (88, sv p), (93, sv p), (97, sv p), (82, .agg #[.slice A1 L1.length c1']), (87, .agg #[.slice A2 L2.length c2']), (92, .agg #[.slice A3 L3.length c3']), (96, .agg #[.slice A9 M.length c9]), (2, .pointer (some ⟨b2, 0, none⟩)), (7, .pointer (some ⟨b7, 0, none⟩)), (8, .func (.func 27) #[] #[]), (74, .slice A10 P.length c10), (75, .int .i64 (P.length : Int)), (76, .int .i64 (j : Int))]) (fun x : Nat × Nat => [pt x.2 50 (sdc default), pt x.1 50 (sdc default), row 9 1 A10 P.length c10 (P.map sv), pt b7 24 [.slice A9 M.length c9], row 70 2 A9 M.length c9 (cellsL rwc M), pt b2 26 [.slice A1 L1.length c1', .slice A2 L2.length c2', .slice A3 L3.length c3']]) (fun x => ?_) (fun nd71 => ?_)
      · skip
        obtain ⟨b12, b13⟩ := x
        try dsimp only
        refine D_three 4 19 22 rfl rfl rfl (E_cloA (cap := []) rfl (E_hv0 (f := 27) ⟨_, Try.func27, rfl, by kernel_rfl⟩ (fun w hS => hasL_any w A1 L1.length c1' L1 p ((Srd.old h1 (fun k _ => noOwns k)).rd w hS) (by omega)) rfl rfl (fun _ => rfl))) (E_alloca rfl sd_zero) (E_alloca rfl sd_zero) ?_ ?_ ?_ rfl rfl rfl rfl rfl rfl (by kernel_rfl)
        · rintro _ _ ⟨_, rfl, _, rfl⟩; rw [hb]
          refine Nx_same sub_st ?_
          have h := nd56 (b12, b13)
          try dsimp only at h
          exact D_at h (by repeat first | exact Sub.nil | refine Sub.cons rfl ?_) sub_st (by kernel_rfl)
        · rintro _ _ ⟨b11, rfl, rfl⟩
          refine Nx_same sub_st ?_
          have h := nd59 (b11, b12, b13)
          try dsimp only at h
          exact D_at h (by repeat first | exact Sub.nil | refine Sub.cons rfl ?_) sub_st (by kernel_rfl)
        · rintro _ _ ⟨b14, rfl, rfl⟩
          refine Nx_same sub_st ?_
          have h := nd62 (b12, b13, b14)
          try dsimp only at h
          exact D_at h (by repeat first | exact Sub.nil | refine Sub.cons rfl ?_) sub_st (by kernel_rfl)
      refine D_nodeR #[true, true, true, true, false, true, true, true, true, false, true, true, true, true, false, true, true, true, false, false, true, false, true, false, false, false, false] (fun x : Nat × Nat => [(14, .pointer (some ⟨x.2, 0, none⟩)), (12, .pointer (some ⟨x.1, 0, none⟩)), (80, .func (.func 27) #[] #[]), (85, .func (.func 27) #[] #[]), (90, .func (.func 27) #[] #[]), (95, .func (.func 27) #[] #[]), (83, sv p), (88, sv p), (93, sv p), (97, sv p), (82, .agg #[.slice A1 L1.length c1']), (87, .agg #[.slice A2 L2.length c2']), (92, .agg #[.slice A3 L3.length c3']), (96, .agg #[.slice A9 M.length c9]), (2, .pointer (some ⟨b2, 0, none⟩)), (7, .pointer (some ⟨b7, 0, none⟩)), (8, .func (.func 27) #[] #[]), (74, .slice A10 P.length c10), (75, .int .i64 (P.length : Int)), (76, .int .i64 (j : Int))]) (fun x : Nat × Nat => [pt x.2 50 (sdc default), pt x.1 50 (sdc default), row 9 1 A10 P.length c10 (P.map sv), pt b7 24 [.slice A9 M.length c9], row 70 2 A9 M.length c9 (cellsL rwc M), pt b2 26 [.slice A1 L1.length c1', .slice A2 L2.length c2', .slice A3 L3.length c3']]) (fun x => ?_) (fun nd72 => ?_)
      · skip
        obtain ⟨b12, b14⟩ := x
        try dsimp only
        refine D_three 4 19 21 rfl rfl rfl (E_cloA (cap := []) rfl (E_hv0 (f := 27) ⟨_, Try.func27, rfl, by kernel_rfl⟩ (fun w hS => hasL_any w A1 L1.length c1' L1 p ((Srd.old h1 (fun k _ => noOwns k)).rd w hS) (by omega)) rfl rfl (fun _ => rfl))) (E_alloca rfl sd_zero) (E_alloca rfl sd_zero) ?_ ?_ ?_ rfl rfl rfl rfl rfl rfl (by kernel_rfl)
        · rintro _ _ ⟨_, rfl, _, rfl⟩; rw [hb]
          refine Nx_same sub_st ?_
          have h := nd57 (b12, b14)
          try dsimp only at h
          exact D_at h (by repeat first | exact Sub.nil | refine Sub.cons rfl ?_) sub_st (by kernel_rfl)
        · rintro _ _ ⟨b11, rfl, rfl⟩
          refine Nx_same sub_st ?_
          have h := nd60 (b11, b12, b14)
          try dsimp only at h
          exact D_at h (by repeat first | exact Sub.nil | refine Sub.cons rfl ?_) sub_st (by kernel_rfl)
        · rintro _ _ ⟨b13, rfl, rfl⟩
          refine Nx_same sub_st ?_
          have h := nd62 (b12, b13, b14)
          try dsimp only at h
          exact D_at h (by repeat first | exact Sub.nil | refine Sub.cons rfl ?_) sub_st (by kernel_rfl)
      refine D_nodeR #[true, true, true, true, false, true, true, true, true, false, true, true, true, true, false, true, true, true, false, false, false, true, true, false, false, false, false] (fun x : Nat × Nat => [(14, .pointer (some ⟨x.2, 0, none⟩)), (13, .pointer (some ⟨x.1, 0, none⟩)), (80, .func (.func 27) #[] #[]), (85, .func (.func 27) #[] #[]), (90, .func (.func 27) #[] #[]), (95, .func (.func 27) #[] #[]), (83, sv p), (88, sv p), (93, sv p), (97, sv p), (82, .agg #[.slice A1 L1.length c1']), (87, .agg #[.slice A2 L2.length c2']), (92, .agg #[.slice A3 L3.length c3']), (96, .agg #[.slice A9 M.length c9]), (2, .pointer (some ⟨b2, 0, none⟩)), (7, .pointer (some ⟨b7, 0, none⟩)), (8, .func (.func 27) #[] #[]), (74, .slice A10 P.length c10), (75, .int .i64 (P.length : Int)), (76, .int .i64 (j : Int))]) (fun x : Nat × Nat => [pt x.2 50 (sdc default), pt x.1 50 (sdc default), row 9 1 A10 P.length c10 (P.map sv), pt b7 24 [.slice A9 M.length c9], row 70 2 A9 M.length c9 (cellsL rwc M), pt b2 26 [.slice A1 L1.length c1', .slice A2 L2.length c2', .slice A3 L3.length c3']]) (fun x => ?_) (fun nd73 => ?_)
      · skip
        obtain ⟨b13, b14⟩ := x
        try dsimp only
        refine D_three 4 19 20 rfl rfl rfl (E_cloA (cap := []) rfl (E_hv0 (f := 27) ⟨_, Try.func27, rfl, by kernel_rfl⟩ (fun w hS => hasL_any w A1 L1.length c1' L1 p ((Srd.old h1 (fun k _ => noOwns k)).rd w hS) (by omega)) rfl rfl (fun _ => rfl))) (E_alloca rfl sd_zero) (E_alloca rfl sd_zero) ?_ ?_ ?_ rfl rfl rfl rfl rfl rfl (by kernel_rfl)
        · rintro _ _ ⟨_, rfl, _, rfl⟩; rw [hb]
          refine Nx_same sub_st ?_
          have h := nd58 (b13, b14)
          try dsimp only at h
          exact D_at h (by repeat first | exact Sub.nil | refine Sub.cons rfl ?_) sub_st (by kernel_rfl)
        · rintro _ _ ⟨b11, rfl, rfl⟩
          refine Nx_same sub_st ?_
          have h := nd61 (b11, b13, b14)
          try dsimp only at h
          exact D_at h (by repeat first | exact Sub.nil | refine Sub.cons rfl ?_) sub_st (by kernel_rfl)
        · rintro _ _ ⟨b12, rfl, rfl⟩
          refine Nx_same sub_st ?_
          have h := nd62 (b12, b13, b14)
          try dsimp only at h
          exact D_at h (by repeat first | exact Sub.nil | refine Sub.cons rfl ?_) sub_st (by kernel_rfl)
      refine D_nodeR #[true, true, true, true, true, true, true, true, true, false, true, true, true, true, false, true, true, true, false, false, false, false, false, false, false, false, false] (fun _ : Unit => [(84, .agg (sdc b).toArray), (80, .func (.func 27) #[] #[]), (85, .func (.func 27) #[] #[]), (90, .func (.func 27) #[] #[]), (95, .func (.func 27) #[] #[]), (83, sv p), (88, sv p), (93, sv p), (97, sv p), (82, .agg #[.slice A1 L1.length c1']), (87, .agg #[.slice A2 L2.length c2']), (92, .agg #[.slice A3 L3.length c3']), (96, .agg #[.slice A9 M.length c9]), (2, .pointer (some ⟨b2, 0, none⟩)), (7, .pointer (some ⟨b7, 0, none⟩)), (8, .func (.func 27) #[] #[]), (74, .slice A10 P.length c10), (75, .int .i64 (P.length : Int)), (76, .int .i64 (j : Int))]) (fun _ : Unit => [row 9 1 A10 P.length c10 (P.map sv), pt b7 24 [.slice A9 M.length c9], row 70 2 A9 M.length c9 (cellsL rwc M), pt b2 26 [.slice A1 L1.length c1', .slice A2 L2.length c2', .slice A3 L3.length c3']]) (fun x => ?_) (fun nd74 => ?_)
      · skip
        obtain ⟨⟩ := x
        try dsimp only
        refine D_five 9 19 20 21 22 rfl rfl rfl rfl rfl (E_cloA (cap := []) rfl (E_hv0 (f := 27) ⟨_, Try.func27, rfl, by kernel_rfl⟩ (fun w hS => hasL_any w A2 L2.length c2' L2 p ((Srd.old h2 (fun k _ => noOwns k)).rd w hS) (by omega)) rfl rfl (fun _ => rfl))) (E_alloca rfl sd_zero) (E_alloca rfl sd_zero) (E_alloca rfl sd_zero) (E_alloca rfl sd_zero) ?_ ?_ ?_ ?_ ?_ rfl rfl rfl rfl rfl rfl rfl rfl rfl rfl (by kernel_rfl)
        · rintro _ _ ⟨_, rfl, _, rfl⟩; rw [ho]
          refine Nx_same sub_st ?_
          have h := nd63 ()
          try dsimp only at h
          exact D_at h (by repeat first | exact Sub.nil | refine Sub.cons rfl ?_) sub_st (by kernel_rfl)
        · rintro _ _ ⟨b11, rfl, rfl⟩
          refine Nx_same sub_st ?_
          have h := nd64 (b11)
          try dsimp only at h
          exact D_at h (by repeat first | exact Sub.nil | refine Sub.cons rfl ?_) sub_st (by kernel_rfl)
        · rintro _ _ ⟨b12, rfl, rfl⟩
          refine Nx_same sub_st ?_
          have h := nd65 (b12)
          try dsimp only at h
          exact D_at h (by repeat first | exact Sub.nil | refine Sub.cons rfl ?_) sub_st (by kernel_rfl)
        · rintro _ _ ⟨b13, rfl, rfl⟩
          refine Nx_same sub_st ?_
          have h := nd66 (b13)
          try dsimp only at h
          exact D_at h (by repeat first | exact Sub.nil | refine Sub.cons rfl ?_) sub_st (by kernel_rfl)
        · rintro _ _ ⟨b14, rfl, rfl⟩
          refine Nx_same sub_st ?_
          have h := nd67 (b14)
          try dsimp only at h
          exact D_at h (by repeat first | exact Sub.nil | refine Sub.cons rfl ?_) sub_st (by kernel_rfl)
      refine D_nodeR #[true, true, true, true, false, true, true, true, true, false, true, true, true, true, false, true, true, true, false, true, false, false, false, false, false, false, false] (fun x : Nat => [(11, .pointer (some ⟨x, 0, none⟩)), (80, .func (.func 27) #[] #[]), (85, .func (.func 27) #[] #[]), (90, .func (.func 27) #[] #[]), (95, .func (.func 27) #[] #[]), (83, sv p), (88, sv p), (93, sv p), (97, sv p), (82, .agg #[.slice A1 L1.length c1']), (87, .agg #[.slice A2 L2.length c2']), (92, .agg #[.slice A3 L3.length c3']), (96, .agg #[.slice A9 M.length c9]), (2, .pointer (some ⟨b2, 0, none⟩)), (7, .pointer (some ⟨b7, 0, none⟩)), (8, .func (.func 27) #[] #[]), (74, .slice A10 P.length c10), (75, .int .i64 (P.length : Int)), (76, .int .i64 (j : Int))]) (fun x : Nat => [pt x 50 (sdc default), row 9 1 A10 P.length c10 (P.map sv), pt b7 24 [.slice A9 M.length c9], row 70 2 A9 M.length c9 (cellsL rwc M), pt b2 26 [.slice A1 L1.length c1', .slice A2 L2.length c2', .slice A3 L3.length c3']]) (fun x => ?_) (fun nd75 => ?_)
      · skip
        revert x; intro b11
        try dsimp only
        refine D_four 4 20 21 22 rfl rfl rfl rfl (E_cloA (cap := []) rfl (E_hv0 (f := 27) ⟨_, Try.func27, rfl, by kernel_rfl⟩ (fun w hS => hasL_any w A1 L1.length c1' L1 p ((Srd.old h1 (fun k _ => noOwns k)).rd w hS) (by omega)) rfl rfl (fun _ => rfl))) (E_alloca rfl sd_zero) (E_alloca rfl sd_zero) (E_alloca rfl sd_zero) ?_ ?_ ?_ ?_ rfl rfl rfl rfl rfl rfl rfl rfl (by kernel_rfl)
        · rintro _ _ ⟨_, rfl, _, rfl⟩; rw [hb]
          refine Nx_same sub_st ?_
          have h := nd64 (b11)
          try dsimp only at h
          exact D_at h (by repeat first | exact Sub.nil | refine Sub.cons rfl ?_) sub_st (by kernel_rfl)
        · rintro _ _ ⟨b12, rfl, rfl⟩
          refine Nx_same sub_st ?_
          have h := nd68 (b11, b12)
          try dsimp only at h
          exact D_at h (by repeat first | exact Sub.nil | refine Sub.cons rfl ?_) sub_st (by kernel_rfl)
        · rintro _ _ ⟨b13, rfl, rfl⟩
          refine Nx_same sub_st ?_
          have h := nd69 (b11, b13)
          try dsimp only at h
          exact D_at h (by repeat first | exact Sub.nil | refine Sub.cons rfl ?_) sub_st (by kernel_rfl)
        · rintro _ _ ⟨b14, rfl, rfl⟩
          refine Nx_same sub_st ?_
          have h := nd70 (b11, b14)
          try dsimp only at h
          exact D_at h (by repeat first | exact Sub.nil | refine Sub.cons rfl ?_) sub_st (by kernel_rfl)
      refine D_nodeR #[true, true, true, true, false, true, true, true, true, false, true, true, true, true, false, true, true, true, false, false, true, false, false, false, false, false, false] (fun x : Nat => [(12, .pointer (some ⟨x, 0, none⟩)), (80, .func (.func 27) #[] #[]), (85, .func (.func 27) #[] #[]), (90, .func (.func 27) #[] #[]), (95, .func (.func 27) #[] #[]), (83, sv p), (88, sv p), (93, sv p), (97, sv p), (82, .agg #[.slice A1 L1.length c1']), (87, .agg #[.slice A2 L2.length c2']), (92, .agg #[.slice A3 L3.length c3']), (96, .agg #[.slice A9 M.length c9]), (2, .pointer (some ⟨b2, 0, none⟩)), (7, .pointer (some ⟨b7, 0, none⟩)), (8, .func (.func 27) #[] #[]), (74, .slice A10 P.length c10), (75, .int .i64 (P.length : Int)), (76, .int .i64 (j : Int))]) (fun x : Nat => [pt x 50 (sdc default), row 9 1 A10 P.length c10 (P.map sv), pt b7 24 [.slice A9 M.length c9], row 70 2 A9 M.length c9 (cellsL rwc M), pt b2 26 [.slice A1 L1.length c1', .slice A2 L2.length c2', .slice A3 L3.length c3']]) (fun x => ?_) (fun nd76 => ?_)
      · skip
        revert x; intro b12
        try dsimp only
        refine D_four 4 19 21 22 rfl rfl rfl rfl (E_cloA (cap := []) rfl (E_hv0 (f := 27) ⟨_, Try.func27, rfl, by kernel_rfl⟩ (fun w hS => hasL_any w A1 L1.length c1' L1 p ((Srd.old h1 (fun k _ => noOwns k)).rd w hS) (by omega)) rfl rfl (fun _ => rfl))) (E_alloca rfl sd_zero) (E_alloca rfl sd_zero) (E_alloca rfl sd_zero) ?_ ?_ ?_ ?_ rfl rfl rfl rfl rfl rfl rfl rfl (by kernel_rfl)
        · rintro _ _ ⟨_, rfl, _, rfl⟩; rw [hb]
          refine Nx_same sub_st ?_
          have h := nd65 (b12)
          try dsimp only at h
          exact D_at h (by repeat first | exact Sub.nil | refine Sub.cons rfl ?_) sub_st (by kernel_rfl)
        · rintro _ _ ⟨b11, rfl, rfl⟩
          refine Nx_same sub_st ?_
          have h := nd68 (b11, b12)
          try dsimp only at h
          exact D_at h (by repeat first | exact Sub.nil | refine Sub.cons rfl ?_) sub_st (by kernel_rfl)
        · rintro _ _ ⟨b13, rfl, rfl⟩
          refine Nx_same sub_st ?_
          have h := nd71 (b12, b13)
          try dsimp only at h
          exact D_at h (by repeat first | exact Sub.nil | refine Sub.cons rfl ?_) sub_st (by kernel_rfl)
        · rintro _ _ ⟨b14, rfl, rfl⟩
          refine Nx_same sub_st ?_
          have h := nd72 (b12, b14)
          try dsimp only at h
          exact D_at h (by repeat first | exact Sub.nil | refine Sub.cons rfl ?_) sub_st (by kernel_rfl)
      refine D_nodeR #[true, true, true, true, false, true, true, true, true, false, true, true, true, true, false, true, true, true, false, false, false, true, false, false, false, false, false] (fun x : Nat => [(13, .pointer (some ⟨x, 0, none⟩)), (80, .func (.func 27) #[] #[]), (85, .func (.func 27) #[] #[]), (90, .func (.func 27) #[] #[]), (95, .func (.func 27) #[] #[]), (83, sv p), (88, sv p), (93, sv p), (97, sv p), (82, .agg #[.slice A1 L1.length c1']), (87, .agg #[.slice A2 L2.length c2']), (92, .agg #[.slice A3 L3.length c3']), (96, .agg #[.slice A9 M.length c9]), (2, .pointer (some ⟨b2, 0, none⟩)), (7, .pointer (some ⟨b7, 0, none⟩)), (8, .func (.func 27) #[] #[]), (74, .slice A10 P.length c10), (75, .int .i64 (P.length : Int)), (76, .int .i64 (j : Int))]) (fun x : Nat => [pt x 50 (sdc default), row 9 1 A10 P.length c10 (P.map sv), pt b7 24 [.slice A9 M.length c9], row 70 2 A9 M.length c9 (cellsL rwc M), pt b2 26 [.slice A1 L1.length c1', .slice A2 L2.length c2', .slice A3 L3.length c3']]) (fun x => ?_) (fun nd77 => ?_)
      · skip
        revert x; intro b13
        try dsimp only
        refine D_four 4 19 20 22 rfl rfl rfl rfl (E_cloA (cap := []) rfl (E_hv0 (f := 27) ⟨_, Try.func27, rfl, by kernel_rfl⟩ (fun w hS => hasL_any w A1 L1.length c1' L1 p ((Srd.old h1 (fun k _ => noOwns k)).rd w hS) (by omega)) rfl rfl (fun _ => rfl))) (E_alloca rfl sd_zero) (E_alloca rfl sd_zero) (E_alloca rfl sd_zero) ?_ ?_ ?_ ?_ rfl rfl rfl rfl rfl rfl rfl rfl (by kernel_rfl)
        · rintro _ _ ⟨_, rfl, _, rfl⟩; rw [hb]
          refine Nx_same sub_st ?_
          have h := nd66 (b13)
          try dsimp only at h
          exact D_at h (by repeat first | exact Sub.nil | refine Sub.cons rfl ?_) sub_st (by kernel_rfl)
        · rintro _ _ ⟨b11, rfl, rfl⟩
          refine Nx_same sub_st ?_
          have h := nd69 (b11, b13)
          try dsimp only at h
          exact D_at h (by repeat first | exact Sub.nil | refine Sub.cons rfl ?_) sub_st (by kernel_rfl)
        · rintro _ _ ⟨b12, rfl, rfl⟩
          refine Nx_same sub_st ?_
          have h := nd71 (b12, b13)
          try dsimp only at h
          exact D_at h (by repeat first | exact Sub.nil | refine Sub.cons rfl ?_) sub_st (by kernel_rfl)
        · rintro _ _ ⟨b14, rfl, rfl⟩
          refine Nx_same sub_st ?_
          have h := nd73 (b13, b14)
          try dsimp only at h
          exact D_at h (by repeat first | exact Sub.nil | refine Sub.cons rfl ?_) sub_st (by kernel_rfl)
      refine D_nodeR #[true, true, true, true, false, true, true, true, true, false, true, true, true, true, false, true, true, true, false, false, false, false, true, false, false, false, false] (fun x : Nat => [(14, .pointer (some ⟨x, 0, none⟩)), (80, .func (.func 27) #[] #[]), (85, .func (.func 27) #[] #[]), (90, .func (.func 27) #[] #[]), (95, .func (.func 27) #[] #[]), (83, sv p), (88, sv p), (93, sv p), (97, sv p), (82, .agg #[.slice A1 L1.length c1']), (87, .agg #[.slice A2 L2.length c2']), (92, .agg #[.slice A3 L3.length c3']), (96, .agg #[.slice A9 M.length c9]), (2, .pointer (some ⟨b2, 0, none⟩)), (7, .pointer (some ⟨b7, 0, none⟩)), (8, .func (.func 27) #[] #[]), (74, .slice A10 P.length c10), (75, .int .i64 (P.length : Int)), (76, .int .i64 (j : Int))]) (fun x : Nat => [pt x 50 (sdc default), row 9 1 A10 P.length c10 (P.map sv), pt b7 24 [.slice A9 M.length c9], row 70 2 A9 M.length c9 (cellsL rwc M), pt b2 26 [.slice A1 L1.length c1', .slice A2 L2.length c2', .slice A3 L3.length c3']]) (fun x => ?_) (fun nd78 => ?_)
      · skip
        revert x; intro b14
        try dsimp only
        refine D_four 4 19 20 21 rfl rfl rfl rfl (E_cloA (cap := []) rfl (E_hv0 (f := 27) ⟨_, Try.func27, rfl, by kernel_rfl⟩ (fun w hS => hasL_any w A1 L1.length c1' L1 p ((Srd.old h1 (fun k _ => noOwns k)).rd w hS) (by omega)) rfl rfl (fun _ => rfl))) (E_alloca rfl sd_zero) (E_alloca rfl sd_zero) (E_alloca rfl sd_zero) ?_ ?_ ?_ ?_ rfl rfl rfl rfl rfl rfl rfl rfl (by kernel_rfl)
        · rintro _ _ ⟨_, rfl, _, rfl⟩; rw [hb]
          refine Nx_same sub_st ?_
          have h := nd67 (b14)
          try dsimp only at h
          exact D_at h (by repeat first | exact Sub.nil | refine Sub.cons rfl ?_) sub_st (by kernel_rfl)
        · rintro _ _ ⟨b11, rfl, rfl⟩
          refine Nx_same sub_st ?_
          have h := nd70 (b11, b14)
          try dsimp only at h
          exact D_at h (by repeat first | exact Sub.nil | refine Sub.cons rfl ?_) sub_st (by kernel_rfl)
        · rintro _ _ ⟨b12, rfl, rfl⟩
          refine Nx_same sub_st ?_
          have h := nd72 (b12, b14)
          try dsimp only at h
          exact D_at h (by repeat first | exact Sub.nil | refine Sub.cons rfl ?_) sub_st (by kernel_rfl)
        · rintro _ _ ⟨b13, rfl, rfl⟩
          refine Nx_same sub_st ?_
          have h := nd73 (b13, b14)
          try dsimp only at h
          exact D_at h (by repeat first | exact Sub.nil | refine Sub.cons rfl ?_) sub_st (by kernel_rfl)
      refine D_nodeR #[true, true, true, true, false, true, true, true, true, false, true, true, true, true, false, true, true, true, false, false, false, false, false, false, false, false, false] (fun _ : Unit => [(80, .func (.func 27) #[] #[]), (85, .func (.func 27) #[] #[]), (90, .func (.func 27) #[] #[]), (95, .func (.func 27) #[] #[]), (83, sv p), (88, sv p), (93, sv p), (97, sv p), (82, .agg #[.slice A1 L1.length c1']), (87, .agg #[.slice A2 L2.length c2']), (92, .agg #[.slice A3 L3.length c3']), (96, .agg #[.slice A9 M.length c9]), (2, .pointer (some ⟨b2, 0, none⟩)), (7, .pointer (some ⟨b7, 0, none⟩)), (8, .func (.func 27) #[] #[]), (74, .slice A10 P.length c10), (75, .int .i64 (P.length : Int)), (76, .int .i64 (j : Int))]) (fun _ : Unit => [row 9 1 A10 P.length c10 (P.map sv), pt b7 24 [.slice A9 M.length c9], row 70 2 A9 M.length c9 (cellsL rwc M), pt b2 26 [.slice A1 L1.length c1', .slice A2 L2.length c2', .slice A3 L3.length c3']]) (fun x => ?_) (fun nd79 => ?_)
      · skip
        obtain ⟨⟩ := x
        try dsimp only
        refine D_five 4 19 20 21 22 rfl rfl rfl rfl rfl (E_cloA (cap := []) rfl (E_hv0 (f := 27) ⟨_, Try.func27, rfl, by kernel_rfl⟩ (fun w hS => hasL_any w A1 L1.length c1' L1 p ((Srd.old h1 (fun k _ => noOwns k)).rd w hS) (by omega)) rfl rfl (fun _ => rfl))) (E_alloca rfl sd_zero) (E_alloca rfl sd_zero) (E_alloca rfl sd_zero) (E_alloca rfl sd_zero) ?_ ?_ ?_ ?_ ?_ rfl rfl rfl rfl rfl rfl rfl rfl rfl rfl (by kernel_rfl)
        · rintro _ _ ⟨_, rfl, _, rfl⟩; rw [hb]
          refine Nx_same sub_st ?_
          have h := nd74 ()
          try dsimp only at h
          exact D_at h (by repeat first | exact Sub.nil | refine Sub.cons rfl ?_) sub_st (by kernel_rfl)
        · rintro _ _ ⟨b11, rfl, rfl⟩
          refine Nx_same sub_st ?_
          have h := nd75 (b11)
          try dsimp only at h
          exact D_at h (by repeat first | exact Sub.nil | refine Sub.cons rfl ?_) sub_st (by kernel_rfl)
        · rintro _ _ ⟨b12, rfl, rfl⟩
          refine Nx_same sub_st ?_
          have h := nd76 (b12)
          try dsimp only at h
          exact D_at h (by repeat first | exact Sub.nil | refine Sub.cons rfl ?_) sub_st (by kernel_rfl)
        · rintro _ _ ⟨b13, rfl, rfl⟩
          refine Nx_same sub_st ?_
          have h := nd77 (b13)
          try dsimp only at h
          exact D_at h (by repeat first | exact Sub.nil | refine Sub.cons rfl ?_) sub_st (by kernel_rfl)
        · rintro _ _ ⟨b14, rfl, rfl⟩
          refine Nx_same sub_st ?_
          have h := nd78 (b14)
          try dsimp only at h
          exact D_at h (by repeat first | exact Sub.nil | refine Sub.cons rfl ?_) sub_st (by kernel_rfl)
      have h := nd79 ()
      try dsimp only at h
      exact D_at h (by repeat first | exact Sub.nil | refine Sub.cons rfl ?_) sub_st (by kernel_rfl)
      obtain ⟨b11, b12, b13, b14⟩ := x
      try dsimp only
      refine D_one 23 rfl (E_storew (cs := sdc default) (ds := sdc b) rfl rfl rfl rfl (sdc_one _) rfl) ?_ rfl rfl (by kernel_rfl)
      rintro _ _ rfl
      refine Nx_same sub_st ?_
      refine D_one 24 rfl (E_storew (cs := sdc default) (ds := sdc o) rfl rfl rfl rfl (sdc_one _) rfl) ?_ rfl rfl (by kernel_rfl)
      rintro _ _ rfl
      refine Nx_same sub_st ?_
      refine D_one 25 rfl (E_storew (cs := sdc default) (ds := sdc t) rfl rfl rfl rfl (sdc_one _) rfl) ?_ rfl rfl (by kernel_rfl)
      rintro _ _ rfl
      refine Nx_same sub_st ?_
      refine D_one 26 rfl (E_storew (cs := sdc default) (ds := sdc z) rfl rfl rfl rfl (sdc_one _) rfl) ?_ rfl rfl (by kernel_rfl)
      rintro _ _ rfl
      refine Nx_same sub_st ?_
      refine D_done ?_ (by kernel_rfl)
      skip
      exact hJ2 (b11, b12, b13, b14) _ _ trivial (Sub.cons rfl (Sub.cons rfl (Sub.cons rfl (Sub.cons rfl (Sub.cons rfl (Sub.cons rfl (Sub.cons rfl (Sub.cons rfl (Sub.cons rfl (Sub.cons rfl Sub.nil)))))))))) sub_st
    obtain ⟨b11, b12, b13, b14⟩ := y
    dsimp only
    rcases hT with hT | hT | hT | hT | hT | hT | hT
    · have q1 : decide (z = b) = true := congrArg (·.1) hT
      have q2 : decide (z = o) = true := congrArg (·.2.1) hT
      have q3 : decide (z = t) = true := congrArg (·.2.2.1) hT
      have q4 : decide (b = o) = true := congrArg (·.2.2.2.1) hT
      have q5 : decide (b = t) = true := congrArg (·.2.2.2.2) hT
      have q6 : decide (o = b) = true := by rw [← q4, decide_eq_decide]; exact eq_comm
      have q7 : decide (t = b) = true := by rw [← q5, decide_eq_decide]; exact eq_comm
      focus (refine S_seq rfl ?_; refine S_region rfl rfl ?_; refine R_take (T_loads (ds := sdc z) rfl rfl rfl rfl rfl) ?_ rfl rfl; refine R_take (T_loads (ds := sdc b) rfl rfl rfl rfl rfl) ?_ rfl rfl; refine R_take (T_neSd (a := z) (b := b) rfl rfl q1) ?_ rfl rfl; refine R_p rfl ?_ rfl rfl; refine R_skip ?_ rfl rfl; refine R_skip ?_ rfl rfl; refine R_skip ?_ rfl rfl; refine R_p rfl ?_ rfl rfl; refine R_p rfl ?_ rfl rfl; refine R_skip ?_ rfl rfl; refine R_skip ?_ rfl rfl; refine R_skip ?_ rfl rfl; refine R_p rfl ?_ rfl rfl; refine R_p rfl ?_ rfl rfl; refine R_take (T_loads (ds := sdc b) rfl rfl rfl rfl rfl) ?_ rfl rfl; refine R_take (T_loads (ds := sdc o) rfl rfl rfl rfl rfl) ?_ rfl rfl; refine R_take (T_eqSd (a := b) (b := o) rfl rfl q4) ?_ rfl rfl; refine R_p rfl ?_ rfl rfl; refine R_take (T_loads (ds := sdc b) rfl rfl rfl rfl rfl) ?_ rfl rfl; refine R_take (T_loads (ds := sdc t) rfl rfl rfl rfl rfl) ?_ rfl rfl; refine R_take (T_eqSd (a := b) (b := t) rfl rfl q5) ?_ rfl rfl; refine R_p rfl ?_ rfl rfl; refine R_p rfl ?_ rfl rfl; refine R_take (T_loads (ds := sdc z) rfl rfl rfl rfl rfl) ?_ rfl rfl; refine R_take (T_loads (ds := sdc b) rfl rfl rfl rfl rfl) ?_ rfl rfl; refine R_take (T_neSd (a := z) (b := b) rfl rfl q1) ?_ rfl rfl; refine R_p rfl ?_ rfl rfl; refine R_p rfl ?_ rfl rfl; refine R_p rfl ?_ rfl rfl; refine R_take (T_loads (ds := sdc o) rfl rfl rfl rfl rfl) ?_ rfl rfl; refine R_take (T_loads (ds := sdc b) rfl rfl rfl rfl rfl) ?_ rfl rfl; refine R_take (T_neSd (a := o) (b := b) rfl rfl q6) ?_ rfl rfl; refine R_p rfl ?_ rfl rfl; refine R_skip ?_ rfl rfl; refine R_skip ?_ rfl rfl; refine R_skip ?_ rfl rfl; refine R_p rfl ?_ rfl rfl; refine R_p rfl ?_ rfl rfl; refine R_skip ?_ rfl rfl; refine R_skip ?_ rfl rfl; refine R_skip ?_ rfl rfl; refine R_p rfl ?_ rfl rfl; refine R_p rfl ?_ rfl rfl; refine R_p rfl ?_ rfl rfl; refine R_take (T_loads (ds := sdc t) rfl rfl rfl rfl rfl) ?_ rfl rfl; refine R_take (T_loads (ds := sdc b) rfl rfl rfl rfl rfl) ?_ rfl rfl; refine R_take (T_neSd (a := t) (b := b) rfl rfl q7) ?_ rfl rfl; refine R_p rfl ?_ rfl rfl; refine R_skip ?_ rfl rfl; refine R_skip ?_ rfl rfl; refine R_skip ?_ rfl rfl; refine R_p rfl ?_ rfl rfl; refine R_p rfl ?_ rfl rfl; refine R_skip ?_ rfl rfl; refine R_skip ?_ rfl rfl; refine R_skip ?_ rfl rfl; refine R_p rfl ?_ rfl rfl; refine R_p rfl ?_ rfl rfl; refine R_nil ?_; refine S_false rfl rfl ?_; refine S_skip rfl ?_; refine RS_blk ?_; refine S_region rfl rfl ?_; refine R_take (T_addN rfl rfl (by unfold fits; omega)) ?_ rfl rfl; refine R_p rfl ?_ rfl rfl; refine R_nil ?_)
      exact hJ (j + 1) _ _ (by show j + 1 ≤ _; omega) (Sub.cons rfl (Sub.cons rfl (Sub.cons rfl (Sub.cons rfl (Sub.cons rfl (Sub.cons rfl Sub.nil)))))) sub_st (by show P.length - (j + 1) < _; omega)
    · have q1 : decide (z = b) = false := congrArg (·.1) hT
      have q2 : decide (z = o) = false := congrArg (·.2.1) hT
      have q3 : decide (z = t) = true := congrArg (·.2.2.1) hT
      have q4 : decide (b = o) = true := congrArg (·.2.2.2.1) hT
      have q5 : decide (b = t) = false := congrArg (·.2.2.2.2) hT
      have q6 : decide (o = b) = true := by rw [← q4, decide_eq_decide]; exact eq_comm
      have q7 : decide (t = b) = false := by rw [← q5, decide_eq_decide]; exact eq_comm
      focus (refine S_seq rfl ?_; refine S_region rfl rfl ?_; refine R_take (T_loads (ds := sdc z) rfl rfl rfl rfl rfl) ?_ rfl rfl; refine R_take (T_loads (ds := sdc b) rfl rfl rfl rfl rfl) ?_ rfl rfl; refine R_take (T_neSd (a := z) (b := b) rfl rfl q1) ?_ rfl rfl; refine R_p rfl ?_ rfl rfl; refine R_take (T_loads (ds := sdc z) rfl rfl rfl rfl rfl) ?_ rfl rfl; refine R_take (T_loads (ds := sdc o) rfl rfl rfl rfl rfl) ?_ rfl rfl; refine R_take (T_neSd (a := z) (b := o) rfl rfl q2) ?_ rfl rfl; refine R_p rfl ?_ rfl rfl; refine R_p rfl ?_ rfl rfl; refine R_take (T_loads (ds := sdc z) rfl rfl rfl rfl rfl) ?_ rfl rfl; refine R_take (T_loads (ds := sdc t) rfl rfl rfl rfl rfl) ?_ rfl rfl; refine R_take (T_neSd (a := z) (b := t) rfl rfl q3) ?_ rfl rfl; refine R_p rfl ?_ rfl rfl; refine R_p rfl ?_ rfl rfl; refine R_take (T_loads (ds := sdc b) rfl rfl rfl rfl rfl) ?_ rfl rfl; refine R_take (T_loads (ds := sdc o) rfl rfl rfl rfl rfl) ?_ rfl rfl; refine R_take (T_eqSd (a := b) (b := o) rfl rfl q4) ?_ rfl rfl; refine R_p rfl ?_ rfl rfl; refine R_take (T_loads (ds := sdc b) rfl rfl rfl rfl rfl) ?_ rfl rfl; refine R_take (T_loads (ds := sdc t) rfl rfl rfl rfl rfl) ?_ rfl rfl; refine R_take (T_eqSd (a := b) (b := t) rfl rfl q5) ?_ rfl rfl; refine R_p rfl ?_ rfl rfl; refine R_p rfl ?_ rfl rfl; refine R_skip ?_ rfl rfl; refine R_skip ?_ rfl rfl; refine R_skip ?_ rfl rfl; refine R_p rfl ?_ rfl rfl; refine R_p rfl ?_ rfl rfl; refine R_p rfl ?_ rfl rfl; refine R_take (T_loads (ds := sdc o) rfl rfl rfl rfl rfl) ?_ rfl rfl; refine R_take (T_loads (ds := sdc b) rfl rfl rfl rfl rfl) ?_ rfl rfl; refine R_take (T_neSd (a := o) (b := b) rfl rfl q6) ?_ rfl rfl; refine R_p rfl ?_ rfl rfl; refine R_skip ?_ rfl rfl; refine R_skip ?_ rfl rfl; refine R_skip ?_ rfl rfl; refine R_p rfl ?_ rfl rfl; refine R_p rfl ?_ rfl rfl; refine R_skip ?_ rfl rfl; refine R_skip ?_ rfl rfl; refine R_skip ?_ rfl rfl; refine R_p rfl ?_ rfl rfl; refine R_p rfl ?_ rfl rfl; refine R_p rfl ?_ rfl rfl; refine R_take (T_loads (ds := sdc t) rfl rfl rfl rfl rfl) ?_ rfl rfl; refine R_take (T_loads (ds := sdc b) rfl rfl rfl rfl rfl) ?_ rfl rfl; refine R_take (T_neSd (a := t) (b := b) rfl rfl q7) ?_ rfl rfl; refine R_p rfl ?_ rfl rfl; refine R_take (T_loads (ds := sdc o) rfl rfl rfl rfl rfl) ?_ rfl rfl; refine R_take (T_loads (ds := sdc b) rfl rfl rfl rfl rfl) ?_ rfl rfl; refine R_take (T_eqSd (a := o) (b := b) rfl rfl q6) ?_ rfl rfl; refine R_p rfl ?_ rfl rfl; refine R_p rfl ?_ rfl rfl; refine R_take (T_loads (ds := sdc z) rfl rfl rfl rfl rfl) ?_ rfl rfl; refine R_take (T_loads (ds := sdc t) rfl rfl rfl rfl rfl) ?_ rfl rfl; refine R_take (T_neSd (a := z) (b := t) rfl rfl q3) ?_ rfl rfl; refine R_p rfl ?_ rfl rfl; refine R_p rfl ?_ rfl rfl; refine R_nil ?_; refine S_false rfl rfl ?_; refine S_skip rfl ?_; refine RS_blk ?_; refine S_region rfl rfl ?_; refine R_take (T_addN rfl rfl (by unfold fits; omega)) ?_ rfl rfl; refine R_p rfl ?_ rfl rfl; refine R_nil ?_)
      exact hJ (j + 1) _ _ (by show j + 1 ≤ _; omega) (Sub.cons rfl (Sub.cons rfl (Sub.cons rfl (Sub.cons rfl (Sub.cons rfl (Sub.cons rfl Sub.nil)))))) sub_st (by show P.length - (j + 1) < _; omega)
    · have q1 : decide (z = b) = false := congrArg (·.1) hT
      have q2 : decide (z = o) = true := congrArg (·.2.1) hT
      have q3 : decide (z = t) = false := congrArg (·.2.2.1) hT
      have q4 : decide (b = o) = false := congrArg (·.2.2.2.1) hT
      have q5 : decide (b = t) = true := congrArg (·.2.2.2.2) hT
      have q6 : decide (o = b) = false := by rw [← q4, decide_eq_decide]; exact eq_comm
      have q7 : decide (t = b) = true := by rw [← q5, decide_eq_decide]; exact eq_comm
      focus (refine S_seq rfl ?_; refine S_region rfl rfl ?_; refine R_take (T_loads (ds := sdc z) rfl rfl rfl rfl rfl) ?_ rfl rfl; refine R_take (T_loads (ds := sdc b) rfl rfl rfl rfl rfl) ?_ rfl rfl; refine R_take (T_neSd (a := z) (b := b) rfl rfl q1) ?_ rfl rfl; refine R_p rfl ?_ rfl rfl; refine R_take (T_loads (ds := sdc z) rfl rfl rfl rfl rfl) ?_ rfl rfl; refine R_take (T_loads (ds := sdc o) rfl rfl rfl rfl rfl) ?_ rfl rfl; refine R_take (T_neSd (a := z) (b := o) rfl rfl q2) ?_ rfl rfl; refine R_p rfl ?_ rfl rfl; refine R_p rfl ?_ rfl rfl; refine R_skip ?_ rfl rfl; refine R_skip ?_ rfl rfl; refine R_skip ?_ rfl rfl; refine R_p rfl ?_ rfl rfl; refine R_p rfl ?_ rfl rfl; refine R_take (T_loads (ds := sdc b) rfl rfl rfl rfl rfl) ?_ rfl rfl; refine R_take (T_loads (ds := sdc o) rfl rfl rfl rfl rfl) ?_ rfl rfl; refine R_take (T_eqSd (a := b) (b := o) rfl rfl q4) ?_ rfl rfl; refine R_p rfl ?_ rfl rfl; refine R_skip ?_ rfl rfl; refine R_skip ?_ rfl rfl; refine R_skip ?_ rfl rfl; refine R_p rfl ?_ rfl rfl; refine R_p rfl ?_ rfl rfl; refine R_skip ?_ rfl rfl; refine R_skip ?_ rfl rfl; refine R_skip ?_ rfl rfl; refine R_p rfl ?_ rfl rfl; refine R_p rfl ?_ rfl rfl; refine R_p rfl ?_ rfl rfl; refine R_take (T_loads (ds := sdc o) rfl rfl rfl rfl rfl) ?_ rfl rfl; refine R_take (T_loads (ds := sdc b) rfl rfl rfl rfl rfl) ?_ rfl rfl; refine R_take (T_neSd (a := o) (b := b) rfl rfl q6) ?_ rfl rfl; refine R_p rfl ?_ rfl rfl; refine R_take (T_loads (ds := sdc t) rfl rfl rfl rfl rfl) ?_ rfl rfl; refine R_take (T_loads (ds := sdc b) rfl rfl rfl rfl rfl) ?_ rfl rfl; refine R_take (T_eqSd (a := t) (b := b) rfl rfl q7) ?_ rfl rfl; refine R_p rfl ?_ rfl rfl; refine R_p rfl ?_ rfl rfl; refine R_take (T_loads (ds := sdc z) rfl rfl rfl rfl rfl) ?_ rfl rfl; refine R_take (T_loads (ds := sdc o) rfl rfl rfl rfl rfl) ?_ rfl rfl; refine R_take (T_neSd (a := z) (b := o) rfl rfl q2) ?_ rfl rfl; refine R_p rfl ?_ rfl rfl; refine R_p rfl ?_ rfl rfl; refine R_p rfl ?_ rfl rfl; refine R_take (T_loads (ds := sdc t) rfl rfl rfl rfl rfl) ?_ rfl rfl; refine R_take (T_loads (ds := sdc b) rfl rfl rfl rfl rfl) ?_ rfl rfl; refine R_take (T_neSd (a := t) (b := b) rfl rfl q7) ?_ rfl rfl; refine R_p rfl ?_ rfl rfl; refine R_skip ?_ rfl rfl; refine R_skip ?_ rfl rfl; refine R_skip ?_ rfl rfl; refine R_p rfl ?_ rfl rfl; refine R_p rfl ?_ rfl rfl; refine R_skip ?_ rfl rfl; refine R_skip ?_ rfl rfl; refine R_skip ?_ rfl rfl; refine R_p rfl ?_ rfl rfl; refine R_p rfl ?_ rfl rfl; refine R_nil ?_; refine S_false rfl rfl ?_; refine S_skip rfl ?_; refine RS_blk ?_; refine S_region rfl rfl ?_; refine R_take (T_addN rfl rfl (by unfold fits; omega)) ?_ rfl rfl; refine R_p rfl ?_ rfl rfl; refine R_nil ?_)
      exact hJ (j + 1) _ _ (by show j + 1 ≤ _; omega) (Sub.cons rfl (Sub.cons rfl (Sub.cons rfl (Sub.cons rfl (Sub.cons rfl (Sub.cons rfl Sub.nil)))))) sub_st (by show P.length - (j + 1) < _; omega)
    · have q1 : decide (z = b) = false := congrArg (·.1) hT
      have q2 : decide (z = o) = true := congrArg (·.2.1) hT
      have q3 : decide (z = t) = true := congrArg (·.2.2.1) hT
      have q4 : decide (b = o) = false := congrArg (·.2.2.2.1) hT
      have q5 : decide (b = t) = false := congrArg (·.2.2.2.2) hT
      have q6 : decide (o = b) = false := by rw [← q4, decide_eq_decide]; exact eq_comm
      have q7 : decide (t = b) = false := by rw [← q5, decide_eq_decide]; exact eq_comm
      focus (refine S_seq rfl ?_; refine S_region rfl rfl ?_; refine R_take (T_loads (ds := sdc z) rfl rfl rfl rfl rfl) ?_ rfl rfl; refine R_take (T_loads (ds := sdc b) rfl rfl rfl rfl rfl) ?_ rfl rfl; refine R_take (T_neSd (a := z) (b := b) rfl rfl q1) ?_ rfl rfl; refine R_p rfl ?_ rfl rfl; refine R_take (T_loads (ds := sdc z) rfl rfl rfl rfl rfl) ?_ rfl rfl; refine R_take (T_loads (ds := sdc o) rfl rfl rfl rfl rfl) ?_ rfl rfl; refine R_take (T_neSd (a := z) (b := o) rfl rfl q2) ?_ rfl rfl; refine R_p rfl ?_ rfl rfl; refine R_p rfl ?_ rfl rfl; refine R_skip ?_ rfl rfl; refine R_skip ?_ rfl rfl; refine R_skip ?_ rfl rfl; refine R_p rfl ?_ rfl rfl; refine R_p rfl ?_ rfl rfl; refine R_take (T_loads (ds := sdc b) rfl rfl rfl rfl rfl) ?_ rfl rfl; refine R_take (T_loads (ds := sdc o) rfl rfl rfl rfl rfl) ?_ rfl rfl; refine R_take (T_eqSd (a := b) (b := o) rfl rfl q4) ?_ rfl rfl; refine R_p rfl ?_ rfl rfl; refine R_skip ?_ rfl rfl; refine R_skip ?_ rfl rfl; refine R_skip ?_ rfl rfl; refine R_p rfl ?_ rfl rfl; refine R_p rfl ?_ rfl rfl; refine R_skip ?_ rfl rfl; refine R_skip ?_ rfl rfl; refine R_skip ?_ rfl rfl; refine R_p rfl ?_ rfl rfl; refine R_p rfl ?_ rfl rfl; refine R_p rfl ?_ rfl rfl; refine R_take (T_loads (ds := sdc o) rfl rfl rfl rfl rfl) ?_ rfl rfl; refine R_take (T_loads (ds := sdc b) rfl rfl rfl rfl rfl) ?_ rfl rfl; refine R_take (T_neSd (a := o) (b := b) rfl rfl q6) ?_ rfl rfl; refine R_p rfl ?_ rfl rfl; refine R_take (T_loads (ds := sdc t) rfl rfl rfl rfl rfl) ?_ rfl rfl; refine R_take (T_loads (ds := sdc b) rfl rfl rfl rfl rfl) ?_ rfl rfl; refine R_take (T_eqSd (a := t) (b := b) rfl rfl q7) ?_ rfl rfl; refine R_p rfl ?_ rfl rfl; refine R_p rfl ?_ rfl rfl; refine R_skip ?_ rfl rfl; refine R_skip ?_ rfl rfl; refine R_skip ?_ rfl rfl; refine R_p rfl ?_ rfl rfl; refine R_p rfl ?_ rfl rfl; refine R_p rfl ?_ rfl rfl; refine R_take (T_loads (ds := sdc t) rfl rfl rfl rfl rfl) ?_ rfl rfl; refine R_take (T_loads (ds := sdc b) rfl rfl rfl rfl rfl) ?_ rfl rfl; refine R_take (T_neSd (a := t) (b := b) rfl rfl q7) ?_ rfl rfl; refine R_p rfl ?_ rfl rfl; refine R_take (T_loads (ds := sdc o) rfl rfl rfl rfl rfl) ?_ rfl rfl; refine R_take (T_loads (ds := sdc b) rfl rfl rfl rfl rfl) ?_ rfl rfl; refine R_take (T_eqSd (a := o) (b := b) rfl rfl q6) ?_ rfl rfl; refine R_p rfl ?_ rfl rfl; refine R_p rfl ?_ rfl rfl; refine R_skip ?_ rfl rfl; refine R_skip ?_ rfl rfl; refine R_skip ?_ rfl rfl; refine R_p rfl ?_ rfl rfl; refine R_p rfl ?_ rfl rfl; refine R_nil ?_; refine S_false rfl rfl ?_; refine S_skip rfl ?_; refine RS_blk ?_; refine S_region rfl rfl ?_; refine R_take (T_addN rfl rfl (by unfold fits; omega)) ?_ rfl rfl; refine R_p rfl ?_ rfl rfl; refine R_nil ?_)
      exact hJ (j + 1) _ _ (by show j + 1 ≤ _; omega) (Sub.cons rfl (Sub.cons rfl (Sub.cons rfl (Sub.cons rfl (Sub.cons rfl (Sub.cons rfl Sub.nil)))))) sub_st (by show P.length - (j + 1) < _; omega)
    · have q1 : decide (z = b) = true := congrArg (·.1) hT
      have q2 : decide (z = o) = false := congrArg (·.2.1) hT
      have q3 : decide (z = t) = false := congrArg (·.2.2.1) hT
      have q4 : decide (b = o) = false := congrArg (·.2.2.2.1) hT
      have q5 : decide (b = t) = false := congrArg (·.2.2.2.2) hT
      have q6 : decide (o = b) = false := by rw [← q4, decide_eq_decide]; exact eq_comm
      have q7 : decide (t = b) = false := by rw [← q5, decide_eq_decide]; exact eq_comm
      focus (refine S_seq rfl ?_; refine S_region rfl rfl ?_; refine R_take (T_loads (ds := sdc z) rfl rfl rfl rfl rfl) ?_ rfl rfl; refine R_take (T_loads (ds := sdc b) rfl rfl rfl rfl rfl) ?_ rfl rfl; refine R_take (T_neSd (a := z) (b := b) rfl rfl q1) ?_ rfl rfl; refine R_p rfl ?_ rfl rfl; refine R_skip ?_ rfl rfl; refine R_skip ?_ rfl rfl; refine R_skip ?_ rfl rfl; refine R_p rfl ?_ rfl rfl; refine R_p rfl ?_ rfl rfl; refine R_skip ?_ rfl rfl; refine R_skip ?_ rfl rfl; refine R_skip ?_ rfl rfl; refine R_p rfl ?_ rfl rfl; refine R_p rfl ?_ rfl rfl; refine R_take (T_loads (ds := sdc b) rfl rfl rfl rfl rfl) ?_ rfl rfl; refine R_take (T_loads (ds := sdc o) rfl rfl rfl rfl rfl) ?_ rfl rfl; refine R_take (T_eqSd (a := b) (b := o) rfl rfl q4) ?_ rfl rfl; refine R_p rfl ?_ rfl rfl; refine R_skip ?_ rfl rfl; refine R_skip ?_ rfl rfl; refine R_skip ?_ rfl rfl; refine R_p rfl ?_ rfl rfl; refine R_p rfl ?_ rfl rfl; refine R_skip ?_ rfl rfl; refine R_skip ?_ rfl rfl; refine R_skip ?_ rfl rfl; refine R_p rfl ?_ rfl rfl; refine R_p rfl ?_ rfl rfl; refine R_p rfl ?_ rfl rfl; refine R_take (T_loads (ds := sdc o) rfl rfl rfl rfl rfl) ?_ rfl rfl; refine R_take (T_loads (ds := sdc b) rfl rfl rfl rfl rfl) ?_ rfl rfl; refine R_take (T_neSd (a := o) (b := b) rfl rfl q6) ?_ rfl rfl; refine R_p rfl ?_ rfl rfl; refine R_take (T_loads (ds := sdc t) rfl rfl rfl rfl rfl) ?_ rfl rfl; refine R_take (T_loads (ds := sdc b) rfl rfl rfl rfl rfl) ?_ rfl rfl; refine R_take (T_eqSd (a := t) (b := b) rfl rfl q7) ?_ rfl rfl; refine R_p rfl ?_ rfl rfl; refine R_p rfl ?_ rfl rfl; refine R_skip ?_ rfl rfl; refine R_skip ?_ rfl rfl; refine R_skip ?_ rfl rfl; refine R_p rfl ?_ rfl rfl; refine R_p rfl ?_ rfl rfl; refine R_p rfl ?_ rfl rfl; refine R_take (T_loads (ds := sdc t) rfl rfl rfl rfl rfl) ?_ rfl rfl; refine R_take (T_loads (ds := sdc b) rfl rfl rfl rfl rfl) ?_ rfl rfl; refine R_take (T_neSd (a := t) (b := b) rfl rfl q7) ?_ rfl rfl; refine R_p rfl ?_ rfl rfl; refine R_take (T_loads (ds := sdc o) rfl rfl rfl rfl rfl) ?_ rfl rfl; refine R_take (T_loads (ds := sdc b) rfl rfl rfl rfl rfl) ?_ rfl rfl; refine R_take (T_eqSd (a := o) (b := b) rfl rfl q6) ?_ rfl rfl; refine R_p rfl ?_ rfl rfl; refine R_p rfl ?_ rfl rfl; refine R_skip ?_ rfl rfl; refine R_skip ?_ rfl rfl; refine R_skip ?_ rfl rfl; refine R_p rfl ?_ rfl rfl; refine R_p rfl ?_ rfl rfl; refine R_nil ?_; refine S_false rfl rfl ?_; refine S_skip rfl ?_; refine RS_blk ?_; refine S_region rfl rfl ?_; refine R_take (T_addN rfl rfl (by unfold fits; omega)) ?_ rfl rfl; refine R_p rfl ?_ rfl rfl; refine R_nil ?_)
      exact hJ (j + 1) _ _ (by show j + 1 ≤ _; omega) (Sub.cons rfl (Sub.cons rfl (Sub.cons rfl (Sub.cons rfl (Sub.cons rfl (Sub.cons rfl Sub.nil)))))) sub_st (by show P.length - (j + 1) < _; omega)
    · have q1 : decide (z = b) = false := congrArg (·.1) hT
      have q2 : decide (z = o) = true := congrArg (·.2.1) hT
      have q3 : decide (z = t) = false := congrArg (·.2.2.1) hT
      have q4 : decide (b = o) = false := congrArg (·.2.2.2.1) hT
      have q5 : decide (b = t) = false := congrArg (·.2.2.2.2) hT
      have q6 : decide (o = b) = false := by rw [← q4, decide_eq_decide]; exact eq_comm
      have q7 : decide (t = b) = false := by rw [← q5, decide_eq_decide]; exact eq_comm
      focus (refine S_seq rfl ?_; refine S_region rfl rfl ?_; refine R_take (T_loads (ds := sdc z) rfl rfl rfl rfl rfl) ?_ rfl rfl; refine R_take (T_loads (ds := sdc b) rfl rfl rfl rfl rfl) ?_ rfl rfl; refine R_take (T_neSd (a := z) (b := b) rfl rfl q1) ?_ rfl rfl; refine R_p rfl ?_ rfl rfl; refine R_take (T_loads (ds := sdc z) rfl rfl rfl rfl rfl) ?_ rfl rfl; refine R_take (T_loads (ds := sdc o) rfl rfl rfl rfl rfl) ?_ rfl rfl; refine R_take (T_neSd (a := z) (b := o) rfl rfl q2) ?_ rfl rfl; refine R_p rfl ?_ rfl rfl; refine R_p rfl ?_ rfl rfl; refine R_skip ?_ rfl rfl; refine R_skip ?_ rfl rfl; refine R_skip ?_ rfl rfl; refine R_p rfl ?_ rfl rfl; refine R_p rfl ?_ rfl rfl; refine R_take (T_loads (ds := sdc b) rfl rfl rfl rfl rfl) ?_ rfl rfl; refine R_take (T_loads (ds := sdc o) rfl rfl rfl rfl rfl) ?_ rfl rfl; refine R_take (T_eqSd (a := b) (b := o) rfl rfl q4) ?_ rfl rfl; refine R_p rfl ?_ rfl rfl; refine R_skip ?_ rfl rfl; refine R_skip ?_ rfl rfl; refine R_skip ?_ rfl rfl; refine R_p rfl ?_ rfl rfl; refine R_p rfl ?_ rfl rfl; refine R_skip ?_ rfl rfl; refine R_skip ?_ rfl rfl; refine R_skip ?_ rfl rfl; refine R_p rfl ?_ rfl rfl; refine R_p rfl ?_ rfl rfl; refine R_p rfl ?_ rfl rfl; refine R_take (T_loads (ds := sdc o) rfl rfl rfl rfl rfl) ?_ rfl rfl; refine R_take (T_loads (ds := sdc b) rfl rfl rfl rfl rfl) ?_ rfl rfl; refine R_take (T_neSd (a := o) (b := b) rfl rfl q6) ?_ rfl rfl; refine R_p rfl ?_ rfl rfl; refine R_take (T_loads (ds := sdc t) rfl rfl rfl rfl rfl) ?_ rfl rfl; refine R_take (T_loads (ds := sdc b) rfl rfl rfl rfl rfl) ?_ rfl rfl; refine R_take (T_eqSd (a := t) (b := b) rfl rfl q7) ?_ rfl rfl; refine R_p rfl ?_ rfl rfl; refine R_p rfl ?_ rfl rfl; refine R_skip ?_ rfl rfl; refine R_skip ?_ rfl rfl; refine R_skip ?_ rfl rfl; refine R_p rfl ?_ rfl rfl; refine R_p rfl ?_ rfl rfl; refine R_p rfl ?_ rfl rfl; refine R_take (T_loads (ds := sdc t) rfl rfl rfl rfl rfl) ?_ rfl rfl; refine R_take (T_loads (ds := sdc b) rfl rfl rfl rfl rfl) ?_ rfl rfl; refine R_take (T_neSd (a := t) (b := b) rfl rfl q7) ?_ rfl rfl; refine R_p rfl ?_ rfl rfl; refine R_take (T_loads (ds := sdc o) rfl rfl rfl rfl rfl) ?_ rfl rfl; refine R_take (T_loads (ds := sdc b) rfl rfl rfl rfl rfl) ?_ rfl rfl; refine R_take (T_eqSd (a := o) (b := b) rfl rfl q6) ?_ rfl rfl; refine R_p rfl ?_ rfl rfl; refine R_p rfl ?_ rfl rfl; refine R_skip ?_ rfl rfl; refine R_skip ?_ rfl rfl; refine R_skip ?_ rfl rfl; refine R_p rfl ?_ rfl rfl; refine R_p rfl ?_ rfl rfl; refine R_nil ?_; refine S_false rfl rfl ?_; refine S_skip rfl ?_; refine RS_blk ?_; refine S_region rfl rfl ?_; refine R_take (T_addN rfl rfl (by unfold fits; omega)) ?_ rfl rfl; refine R_p rfl ?_ rfl rfl; refine R_nil ?_)
      exact hJ (j + 1) _ _ (by show j + 1 ≤ _; omega) (Sub.cons rfl (Sub.cons rfl (Sub.cons rfl (Sub.cons rfl (Sub.cons rfl (Sub.cons rfl Sub.nil)))))) sub_st (by show P.length - (j + 1) < _; omega)
    · have q1 : decide (z = b) = false := congrArg (·.1) hT
      have q2 : decide (z = o) = false := congrArg (·.2.1) hT
      have q3 : decide (z = t) = true := congrArg (·.2.2.1) hT
      have q4 : decide (b = o) = false := congrArg (·.2.2.2.1) hT
      have q5 : decide (b = t) = false := congrArg (·.2.2.2.2) hT
      have q6 : decide (o = b) = false := by rw [← q4, decide_eq_decide]; exact eq_comm
      have q7 : decide (t = b) = false := by rw [← q5, decide_eq_decide]; exact eq_comm
      focus (refine S_seq rfl ?_; refine S_region rfl rfl ?_; refine R_take (T_loads (ds := sdc z) rfl rfl rfl rfl rfl) ?_ rfl rfl; refine R_take (T_loads (ds := sdc b) rfl rfl rfl rfl rfl) ?_ rfl rfl; refine R_take (T_neSd (a := z) (b := b) rfl rfl q1) ?_ rfl rfl; refine R_p rfl ?_ rfl rfl; refine R_take (T_loads (ds := sdc z) rfl rfl rfl rfl rfl) ?_ rfl rfl; refine R_take (T_loads (ds := sdc o) rfl rfl rfl rfl rfl) ?_ rfl rfl; refine R_take (T_neSd (a := z) (b := o) rfl rfl q2) ?_ rfl rfl; refine R_p rfl ?_ rfl rfl; refine R_p rfl ?_ rfl rfl; refine R_take (T_loads (ds := sdc z) rfl rfl rfl rfl rfl) ?_ rfl rfl; refine R_take (T_loads (ds := sdc t) rfl rfl rfl rfl rfl) ?_ rfl rfl; refine R_take (T_neSd (a := z) (b := t) rfl rfl q3) ?_ rfl rfl; refine R_p rfl ?_ rfl rfl; refine R_p rfl ?_ rfl rfl; refine R_take (T_loads (ds := sdc b) rfl rfl rfl rfl rfl) ?_ rfl rfl; refine R_take (T_loads (ds := sdc o) rfl rfl rfl rfl rfl) ?_ rfl rfl; refine R_take (T_eqSd (a := b) (b := o) rfl rfl q4) ?_ rfl rfl; refine R_p rfl ?_ rfl rfl; refine R_skip ?_ rfl rfl; refine R_skip ?_ rfl rfl; refine R_skip ?_ rfl rfl; refine R_p rfl ?_ rfl rfl; refine R_p rfl ?_ rfl rfl; refine R_skip ?_ rfl rfl; refine R_skip ?_ rfl rfl; refine R_skip ?_ rfl rfl; refine R_p rfl ?_ rfl rfl; refine R_p rfl ?_ rfl rfl; refine R_p rfl ?_ rfl rfl; refine R_take (T_loads (ds := sdc o) rfl rfl rfl rfl rfl) ?_ rfl rfl; refine R_take (T_loads (ds := sdc b) rfl rfl rfl rfl rfl) ?_ rfl rfl; refine R_take (T_neSd (a := o) (b := b) rfl rfl q6) ?_ rfl rfl; refine R_p rfl ?_ rfl rfl; refine R_take (T_loads (ds := sdc t) rfl rfl rfl rfl rfl) ?_ rfl rfl; refine R_take (T_loads (ds := sdc b) rfl rfl rfl rfl rfl) ?_ rfl rfl; refine R_take (T_eqSd (a := t) (b := b) rfl rfl q7) ?_ rfl rfl; refine R_p rfl ?_ rfl rfl; refine R_p rfl ?_ rfl rfl; refine R_skip ?_ rfl rfl; refine R_skip ?_ rfl rfl; refine R_skip ?_ rfl rfl; refine R_p rfl ?_ rfl rfl; refine R_p rfl ?_ rfl rfl; refine R_p rfl ?_ rfl rfl; refine R_take (T_loads (ds := sdc t) rfl rfl rfl rfl rfl) ?_ rfl rfl; refine R_take (T_loads (ds := sdc b) rfl rfl rfl rfl rfl) ?_ rfl rfl; refine R_take (T_neSd (a := t) (b := b) rfl rfl q7) ?_ rfl rfl; refine R_p rfl ?_ rfl rfl; refine R_take (T_loads (ds := sdc o) rfl rfl rfl rfl rfl) ?_ rfl rfl; refine R_take (T_loads (ds := sdc b) rfl rfl rfl rfl rfl) ?_ rfl rfl; refine R_take (T_eqSd (a := o) (b := b) rfl rfl q6) ?_ rfl rfl; refine R_p rfl ?_ rfl rfl; refine R_p rfl ?_ rfl rfl; refine R_skip ?_ rfl rfl; refine R_skip ?_ rfl rfl; refine R_skip ?_ rfl rfl; refine R_p rfl ?_ rfl rfl; refine R_p rfl ?_ rfl rfl; refine R_nil ?_; refine S_false rfl rfl ?_; refine S_skip rfl ?_; refine RS_blk ?_; refine S_region rfl rfl ?_; refine R_take (T_addN rfl rfl (by unfold fits; omega)) ?_ rfl rfl; refine R_p rfl ?_ rfl rfl; refine R_nil ?_)
      exact hJ (j + 1) _ _ (by show j + 1 ≤ _; omega) (Sub.cons rfl (Sub.cons rfl (Sub.cons rfl (Sub.cons rfl (Sub.cons rfl (Sub.cons rfl Sub.nil)))))) sub_st (by show P.length - (j + 1) < _; omega)
  focus (refine S_seq rfl ?_; refine S_region rfl rfl ?_; refine R_take (T_decF rfl (by omega)) ?_ rfl rfl; refine R_nil ?_; refine S_seq rfl ?_; refine S_false rfl rfl ?_; refine S_exit rfl rfl ?_; refine S_seq rfl ?_; refine S_region rfl rfl ?_; refine R_p rfl ?_ rfl rfl; refine R_nil ?_)
  exact hB _ _ _ _ _ rfl rfl fun w' hS => ⟨(), rfl, trivial, hS.sublist (List.nil_sublist _)⟩
set_option maxRecDepth 100000 in
theorem MergeHas_open {H : Type} {enc : TypeId × Value → H} (W : World) {r : Reach} (base : Nat) (v0 v1 : Value) {d0 d1 : DataW H} {p0 p1 : List MemPlace}
    (hv0 : Value.okWide Try.prog W r base 26 v0) (hv1 : Value.okWide Try.prog W r base 3 v1)
    (h0 : DataW.Trod enc Try.prog W 0 (fun _ => true) true 26 v0 d0 p0) (h1 : DataW.Trod enc Try.prog W 0 (fun _ => true) true 3 v1 d1 p1) :
    Calls Try.prog 6 #[v0, v1] W fun e w' => e = .returned (.bool true) ∧ Kp All W w' := by
  obtain ⟨A1, c1', L1, A2, c2', L2, A3, c3', L3, rfl, g1, g2, g3⟩ := open_three hv0 h0
  obtain ⟨k, rfl⟩ := okWide_int Try.underlying3 hv1
  exact (has7_any W A1 c1' L1 g1 A2 c2' L2 g2 A3 c3' L3 g3 k).pure7
end Go.Proofs.Ytghfjfgpiomdhaa
