/- Nets: the statement NetBrings. -/
import Derived.Test.YtclmaoagdkhboaaNtP
import Derived.Test.YtclmaoagdkhboaaNtH
namespace Go.Proofs.Ytclmaoagdkhboaa
open Go.RowKit Go.ChangeShapes Go.WideShapes Go.ChangeAt
open Asn (pt row rb)
set_option linter.unusedVariables false
set_option linter.unusedSimpArgs false
--@use N

/-- what happens: its kind, two numbers, a byte -/
abbrev Ac := Int × Int × Int × UInt8
def acc (a : Ac) : List Value := [.int .i64 a.1, .int .i64 a.2.1, .int .i64 a.2.2.1, bv a.2.2.2]
theorem acc_len (a : Ac) : (acc a).length = 4 := rfl
theorem acc_one (a : Ac) : ∀ u ∈ acc a, u.oneCell' = true := by simp [acc, bv, Value.oneCell']
theorem ac_zero : ti57.zero = .agg (acc (0, 0, 0, 0)).toArray := by kernel_rfl
theorem ky_zero : ti59.zero = kyv (0, 0, 0) := by kernel_rfl
theorem ky_built3 (a b : Int) (x : UInt8) : Try.prog.built 59 [(0, .int .i64 a), (1, .int .i64 b), (2, bv x)] = some [Value.int .i64 a, .int .i64 b, bv x].toArray := by kernel_rfl
/-- a net: where its parts lie, and what they say -/
structure Nd where
  A : Option Addr
  n : Nat
  c : Nat
  W : List Pn
  P : ShP W
  A2 : Option Addr
  n2 : Nat
  c2 : Nat
  C : List Ct
/-- it may be; each packet has one byte -/
structure Nd.Ok (y : Nd) : Prop where
  hW : y.W.length = y.n
  hC : y.C.length = y.n2
  ch : chkB y.W y.C = true
  one : ∀ p ∈ y.W, p.2.2.length = 1
  h28 : y.n2 ≤ 28
def Nd.cs (y : Nd) : List Value := ntc y.A y.n y.c y.A2 y.n2 y.c2
def Nd.rs (y : Nd) : List Asn := [row 30 3 y.A y.n y.c (cellsL pkc y.P.1), dtB 5 (y.P.1.map pkd), row 73 2 y.A2 y.n2 y.c2 (cellsL ctc y.C)]
theorem T_rem6 {P : Program} {n : Nat} {w0 : World} {M : Nat → Prop} {T : Slots} {H : List Asn} {dd : Option Tmp} {tt : TypeId} {pos : String} {af : Array Edge} {g : Option (Nat × Bool)} {x y : Operand} {t u : TypeId} {i : Int} (hx : oget T x = some (.int .i64 i)) (hy : oget T y = some (.int .i64 6)) :
    Tk P n w0 M T H ⟨dd, .binOp .rem t x y u, tt, pos, af, g⟩ (.int .i64 (i.tmod 6)) := .mk (fun a w ha _ => by
  have h1 := Int.tmod_lt_of_pos i (show (0 : Int) < 6 by decide)
  have h2 := Int.lt_tmod_of_pos i (show (0 : Int) < 6 by decide)
  have hf : fits .i64 (i.tmod 6) := by unfold fits; omega
  simp [execOp, ha.eval hx, ha.eval hy, eqGuard, binOp, Op.intDiv, wrap_fits hf])
theorem rem6 (i : Int) : ∃ q : Nat, (i.tmod 6 + 6).tmod 6 = (q : Int) ∧ q < 6 ∧ fits .i64 (i.tmod 6 + 6) := by
  have h1 := Int.tmod_lt_of_pos i (show (0 : Int) < 6 by decide)
  have h2 := Int.lt_tmod_of_pos i (show (0 : Int) < 6 by decide)
  generalize i.tmod 6 = z at h1 h2
  have h3 : 0 ≤ z + 6 := by omega
  rw [Int.tmod_eq_emod_of_nonneg h3]
  exact ⟨((z + 6) % 6).toNat, by omega, by omega, by unfold fits; omega⟩
theorem wk_st {P : Program} {w0 : World} {M : Nat → Prop} {kt : TypeId} {κ : Type} {kv : κ → Value} {H Hr C : List Asn} (g : Nat) (f : κ → Int) (s : Option (Nat × κ)) [hr : RemC H (mpF P kt kv g f s) Hr] [hc : SubC C (mpF P kt kv g f none :: Hr)] : ∀ w, St w0 M H w → St w0 M C w := fun w hS => by
  have h1 := hS.perm hr.perm
  exact sub_st w (h1.upd (A := mpF P kt kv g f s) (A' := mpF P kt kv g f none) .here (Kp.refl _ w) (by
    obtain ⟨es, clock, h2, h3, _⟩ : MapF P kt kv g f s w := h1.at_ (A := mpF P kt kv g f s) (by simp)
    exact ⟨es, clock, h2, h3, by simp⟩) (fun _ h => h))
theorem telF_st {P : Program} {w0 : World} {M : Nat → Prop} {kt : TypeId} {κ : Type} {kv : κ → Value} {H Hr C : List Asn} (g : Nat) (es : Array MapEntry) (clock : Nat) (f : κ → Int) (hT : Tal P kt kv es clock f) [hr : RemC H (mpE g es clock) Hr] [hc : SubC C (mpF P kt kv g f none :: Hr)] : ∀ w, St w0 M H w → St w0 M C w := fun w hS => by
  have h1 := hS.perm hr.perm
  exact sub_st w (h1.upd (A := mpE g es clock) (A' := mpF P kt kv g f none) .here (Kp.refl _ w) (by
    have h2 : w.heap[g]? = some (.map es clock) := h1.at_ (A := mpE g es clock) (by simp)
    exact ⟨es, clock, h2, hT, by simp⟩) (fun _ h => h))
theorem E_nextT {P : Program} {n : Nat} {w0 : World} {M : Nat → Prop} {T : Slots} {H Hr : List Asn} {dd : Option Tmp} {tt : TypeId} {pos : String} {af : Array Edge} {gd : Option (Nat × Bool)} {x : Operand} {b r clock : Nat} {es : Array MapEntry} {seen : Array Nat} {N : Int} (hx : oget T x = some (.pointer (some ⟨r, 0, none⟩))) (hst : (es.toList.map (·.born)).Nodup) (hold : ∀ e ∈ es.toList, e.born < clock) (hv : ∀ e ∈ es.toList, ∃ v, e.val = .int .i64 v) (hN : (es.toList.map fun e => valOf e.val).sum = N) [hr : RemC H (itM r b clock seen) Hr] (hm : mpE b es clock ∈ Hr) :
    Ef P n w0 M T H ⟨dd, .next x false, tt, pos, af, gd⟩ (fun u H' => (seenSum es.toList seen = N ∧ u = .tuple #[.bool false] ∧ H' = H) ∨ ∃ key v born, (⟨key, .int .i64 v, born⟩ : MapEntry) ∈ es.toList ∧ (leftOf es (seen.push born)).size < (leftOf es seen).size ∧ seenSum es.toList (seen.push born) = seenSum es.toList seen + v ∧ u = .tuple #[.bool true, key, .int .i64 v] ∧ H' = itM r b clock (seen.push born) :: Hr) :=
  (E_nextM (b := b) (r := r) (clock := clock) (es := es) (seen := seen) hx hold hm).mono (by
    rintro u H' (⟨h1, rfl, rfl⟩ | ⟨e, he, rfl, rfl⟩) w hS
    · exact ⟨_, _, rfl, .inl ⟨by rw [seenSum_all es seen h1, hN], rfl, rfl⟩, hS⟩
    · obtain ⟨h2, h3⟩ := mem_left he
      have h4 := seenSum_push seen e h3 es.toList hst h2
      have h5 := left_shrinks es seen e he
      obtain ⟨v, h6⟩ := hv e h2
      obtain ⟨key, val, born⟩ := e
      dsimp only at h6
      subst h6
      exact ⟨_, _, rfl, .inr ⟨key, v, born, h2, h5, h4, rfl, rfl⟩, hS⟩)
theorem T_entryT {P : Program} {n : Nat} {w0 : World} {M : Nat → Prop} {T : Slots} {H Hr : List Asn} {dd : Option Tmp} {tt : TypeId} {pos : String} {af : Array Edge} {gd : Option (Nat × Bool)} {x : Operand} {b r clock : Nat} {es : Array MapEntry} {seen : Array Nat} {key : Value} {v : Int} {born : Nat} (hx : oget T x = some (.pointer (some ⟨r, 0, none⟩))) (he : (⟨key, .int .i64 v, born⟩ : MapEntry) ∈ es.toList) (hn : (es.toList.map (·.born)).Nodup) [hr : RemC H (itM r b clock (seen.push born)) Hr] (hm : mpE b es clock ∈ Hr) :
    Tk P n w0 M T H ⟨dd, .entry x, tt, pos, af, gd⟩ (.tuple #[key, .int .i64 v]) :=
  T_entryM (b := b) (r := r) (clock := clock) (es := es) (seen := seen) (e := ⟨key, .int .i64 v, born⟩) hx he hn hm
theorem cntK_le (W : List Pn) (k : Ky) : 0 ≤ cntK W k ∧ cntK W k ≤ W.length := by
  unfold cntK
  have := List.count_le_length (a := k) (l := W.map kyp)
  rw [List.length_map] at this
  omega
theorem chk_pk {W : List Pn} {C : List Ct} (h : chkB W C = true) : W.length ≤ 80 ∧ W.all pkB = true ∧ cutsB C C.length = true := by
  unfold chkB at h
  simp only [Bool.and_eq_true, decide_eq_true_eq] at h
  exact ⟨h.1.1, h.1.2, h.2⟩
theorem chk_mk {W : List Pn} {C : List Ct} (h1 : W.length ≤ 80) (h2 : W.all pkB = true) (h3 : cutsB C C.length = true) : chkB W C = true := by
  unfold chkB
  rw [decide_eq_true h1, h2, h3]
  rfl
theorem chk_app {W : List Pn} {C : List Ct} {p : Pn} (h : chkB W C = true) (hp : pkB p = true) (hl : W.length < 80) : chkB (W ++ [p]) C = true := by
  obtain ⟨h1, h2, h3⟩ := chk_pk h
  refine chk_mk (by rw [List.length_append]; simp; omega) ?_ h3
  rw [List.all_append, h2, List.all_cons, hp]
  rfl
theorem chk_del {W : List Pn} {C : List Ct} {q : Nat} (h : chkB W C = true) : chkB (del W q) C = true := by
  obtain ⟨h1, h2, h3⟩ := chk_pk h
  refine chk_mk (Nat.le_trans (del_sub W q).length_le h1) ?_ h3
  rw [List.all_eq_true] at h2 ⊢
  exact fun p hp => h2 p ((del_sub W q).subset hp)
theorem chk_at {W : List Pn} {C : List Ct} {q : Nat} (h : chkB W C = true) (hq : q < W.length) : pkB (W.getD q default) = true := by
  obtain ⟨h1, h2, h3⟩ := chk_pk h
  rw [List.all_eq_true] at h2
  exact h2 _ (by simp [List.getD, hq])
theorem pk_lo {p : Pn} (h : pkB p = true) : (1 ≤ p.1 ∧ p.1 ≤ 8) ∧ (1 ≤ p.2.1 ∧ p.2.1 ≤ 8) := by
  unfold pkB at h
  rw [Bool.and_eq_true] at h
  have := pairB_lo h.1
  omega
theorem getD_mem {α : Type} [Inhabited α] {l : List α} {q : Nat} (h : q < l.length) : l.getD q default ∈ l := by simp [List.getD, h]
theorem one_of {l : List UInt8} (h : l.length = 1) : ∃ x, l = [x] := by
  match l, h with
  | [x], _ => exact ⟨x, rfl⟩
theorem at_of_W {W : List Pn} (h1 : ∀ p ∈ W, p.2.2.length = 1) {q : Nat} (hq : q < W.length) : ∃ f t x, W.getD q default = (f, t, [x]) ∧ (f, t, [x]) ∈ W := by
  have hm : W.getD q default ∈ W := by simp [List.getD, hq]
  obtain ⟨x, hx⟩ := one_of (h1 _ hm)
  generalize W.getD q default = p at *
  obtain ⟨f, t, l⟩ := p
  subst hx
  exact ⟨f, t, x, rfl, hm⟩
/-- a send of one packet -/
theorem send_one (w : World) (A : Option Addr) (c n : Nat) (P : List Pk) (W : List Pn) (hk : P.length = n) (hW : P.map pkv = W) (h : Rd w All 3 A n (cellsL pkc P)) (A2 : Option Addr) (c2' n2 : Nat) (C : List Ct) (hk2 : C.length = n2) (h2 : Rd w All 2 A2 n2 (cellsL ctc C)) (hn : n ≤ 500) (hn2 : n2 ≤ 1000) (hd : RDt w All (P.map pkd)) (hkk : ∀ m ∈ P, m.2.2.2.2.length ≤ 100000) (hch : chkB W C = true) (fr : Int) (hfr : nodeB fr = true) (va vb : Nat) (to : Int) (x : UInt8) (h3 : Rd w All 2 (some ⟨va, 0, none⟩) 1 [.int .i64 to, .slice (some ⟨vb, 0, none⟩) 1 1]) (h4 : Rd w All 1 (some ⟨vb, 0, none⟩) 1 [bv x]) (W' : List Pn) (m : Nat) (hW' : sayW C fr W (to, [x]) = W') (hm : W'.length = m) :
    Gives Try.prog 20 [.agg (ntc A n c A2 n2 c2').toArray, .int .i64 fr, .slice (some ⟨va, 0, none⟩) 1 1] [] w (X := (Option Addr × Nat) × ShP W' × (Option Addr × Nat)) (fun y => .tuple #[.agg (ntc y.1.1 m y.1.2 y.2.2.1 n2 y.2.2.2).toArray, .int .i64 0]) (fun _ => True) (fun y => [row 30 3 y.1.1 m y.1.2 (cellsL pkc y.2.1.1), dtB 5 (y.2.1.1.map pkd), row 73 2 y.2.2.1 n2 y.2.2.2 (cellsL ctc C)]) := by
  have h5 := send_ok w A c n P W hk hW h A2 c2' n2 C hk2 h2 hn hn2 hd hkk hch fr hfr (some ⟨va, 0, none⟩) 1 1 [(to, some ⟨vb, 0, none⟩, 1, [x])] rfl h3 (fun d hd => by rw [List.mem_singleton.1 hd]; exact h4) (by omega) (fun m hm => by rw [List.mem_singleton.1 hm]; exact (by decide : 1 ≤ 100000))
  have e : sendW C fr W ([(to, some ⟨vb, 0, none⟩, 1, [x])].map sdv) = W' := hW'
  rw [e] at h5
  subst hm
  exact h5
theorem double_one (w : World) (A : Option Addr) (c n : Nat) (P : List Pk) (W : List Pn) (hk : P.length = n) (hW : P.map pkv = W) (h : Rd w All 3 A n (cellsL pkc P)) (A2 : Option Addr) (c2' n2 : Nat) (C : List Ct) (hk2 : C.length = n2) (h2 : Rd w All 2 A2 n2 (cellsL ctc C)) (hn : n ≤ 500) (hn2 : n2 ≤ 1000) (hd : RDt w All (P.map pkd)) (hkk : ∀ m ∈ P, m.2.2.2.2.length ≤ 100000) (hch : chkB W C = true) (q : Nat) (hq : q < n) (h80 : n < 80) (p : Pn) (hp : W.getD q default = p) :
    Gives Try.prog 13 [.agg (ntc A n c A2 n2 c2').toArray, .int .i64 (q : Int)] [] w (X := (Option Addr × Nat) × ShP (W ++ [p]) × (Option Addr × Nat)) (fun y => .tuple #[.agg (ntc y.1.1 (n + 1) y.1.2 y.2.2.1 n2 y.2.2.2).toArray, .int .i64 0]) (fun _ => True) (fun y => [row 30 3 y.1.1 (n + 1) y.1.2 (cellsL pkc y.2.1.1), dtB 5 (y.2.1.1.map pkd), row 73 2 y.2.2.1 n2 y.2.2.2 (cellsL ctc C)]) := by
  subst hp
  exact double_ok w A c n P W hk hW h A2 c2' n2 C hk2 h2 hn hn2 hd hkk hch q hq h80
theorem kz : ti59.zero = .agg [Value.int .i64 0, .int .i64 0, bv 0].toArray := by kernel_rfl
set_option maxRecDepth 100000 in
set_option maxHeartbeats 4000000 in
theorem brings_any (w : World) (SA : Option Addr) (sc k : Nat) (L : List Ac) (hL : L.length = k) (h : Rd w All 4 SA k (cellsL acc L)) (hk : k ≤ maxLen) :
    Gives Try.prog 6 [.slice SA k sc] [] w (X := Unit) (fun _ => .bool true) (fun _ => True) (fun _ => []) := by
  refine gives_S Try.func6 rfl Try.ntmps6 Try.results6 (by simp) (St.enter w) (fun B hB => ?_)
  have hne : 0 < k → SA ≠ none := fun h0 => by obtain ⟨ad, rfl, _⟩ := h.2 (by omega); simp
  focus (refine S_seq rfl ?_; refine S_region rfl rfl ?_; refine R_p rfl ?_ rfl rfl; refine R_nil ?_; refine S_seq rfl ?_; refine S_seq rfl ?_; refine S_region rfl rfl ?_; (refine R_eff (E_hv0 (f := 8) ⟨_, Try.func8, rfl, by kernel_rfl⟩ (fun w hS => wakes23_any w) rfl rfl (fun _ => rfl)) ?_ rfl rfl; rintro _ _ ⟨_, rfl, _, rfl⟩); refine R_take (T_not rfl) ?_ rfl rfl; refine R_nil ?_; refine S_false rfl rfl ?_; refine S_skip rfl ?_; refine S_seq rfl ?_; refine S_region rfl rfl ?_; (refine R_eff (E_alloca rfl nt_zero) ?_ rfl rfl; rintro _ _ ⟨b3, rfl, rfl⟩); refine R_nil ?_; refine S_seq rfl ?_; refine S_region rfl rfl ?_; (refine R_eff (E_mkmapF (P := Try.prog) (kt := 59) (kv := kyv)) ?_ rfl rfl; rintro _ _ ⟨g, rfl, rfl⟩); refine R_p rfl ?_ rfl rfl; refine R_nil ?_; refine S_seq rfl ?_; refine S_seq rfl ?_; refine S_region rfl rfl ?_; refine R_p rfl ?_ rfl rfl; refine R_p rfl ?_ rfl rfl; refine R_p rfl ?_ rfl rfl; refine R_nil ?_; refine S_block rfl ?_)
  have hf0 : (fun _ : Ky => (0 : Int)) = cntK [] := cntK_nil.symm
  rw [hf0]
  refine RS_mem (fun w hS => dtB_nil (e := 5) ((hS.nilrow 30 3).nilrow 73 2)) ?_
  refine S_loop (X := Nat × Nd) (fun x => [(3, .pointer (some ⟨b3, 0, none⟩)), (4, .map (some g)), (19, .slice SA k sc), (20, .int .i64 (k : Int)), (21, .int .i64 (x.1 : Int))]) (fun x => [pt b3 25 (ntc x.2.A x.2.n x.2.c x.2.A2 x.2.n2 x.2.c2), row 30 3 x.2.A x.2.n x.2.c (cellsL pkc x.2.P.1), dtB 5 (x.2.P.1.map pkd), row 73 2 x.2.A2 x.2.n2 x.2.c2 (cellsL ctc x.2.C), mpF Try.prog 59 kyv g (cntK x.2.W) none]) (fun x => x.1 ≤ k ∧ x.1 ≤ 100 ∧ x.2.Ok) (fun x => k - x.1) rfl (0, ⟨none, 0, 0, [], ⟨[], rfl, fun m hm => absurd hm (by simp)⟩, none, 0, 0, []⟩) ⟨Nat.zero_le _, Nat.zero_le _, ⟨rfl, rfl, wkC0, fun p hp => absurd hp (by simp), by decide⟩⟩ (Sub.cons rfl (Sub.cons rfl (Sub.cons rfl (Sub.cons rfl (Sub.cons rfl Sub.nil))))) (fun w' hS => sub_st (H' := [pt b3 25 (ntc none 0 0 none 0 0), row 30 3 none 0 0 [], dtB 5 [], row 73 2 none 0 0 [], mpF Try.prog 59 kyv g (cntK []) none]) w' hS) ?_
  rintro ⟨j, A, n, c, W, P, A2, n2, c2', C⟩ ⟨hj, hj100, hok⟩ J hJ
  dsimp only at hj hj100 ⊢
  have hWn : W.length = n := hok.hW
  have hk2 : C.length = n2 := hok.hC
  have hch : chkB W C = true := hok.ch
  have h1 : ∀ p ∈ W, p.2.2.length = 1 := hok.one
  have h28 : n2 ≤ 28 := hok.h28
  have h80 : n ≤ 80 := hWn ▸ (chk_pk hch).1
  have hWt : ∀ p ∈ W, p.2.2.length ≤ 100000 := fun p hp => by rw [h1 p hp]; decide
  rcases Nat.lt_or_ge j k with hjl | hjl
  · have hne := hne (by omega)
    have hat := cellsL_at (f := acc) acc_len L default j (by omega)
    generalize L.getD j default = ac at hat
    obtain ⟨K, a, b, x⟩ := ac
    by_cases h100 : j = 100
    · focus (refine S_seq rfl ?_; refine S_region rfl rfl ?_; refine R_take (T_decT rfl (by omega)) ?_ rfl rfl; refine R_nil ?_; refine S_seq rfl ?_; refine S_true rfl rfl ?_; refine S_skip rfl ?_; refine S_seq rfl ?_; refine S_block rfl ?_; refine S_seq rfl ?_; refine S_region rfl rfl ?_; refine R_p rfl ?_ rfl rfl; refine R_take (T_ixM (sz := 4) (q := j) rfl rfl rfl rfl rfl rfl hne hjl) ?_ rfl rfl; refine R_take (T_lda (ds := acc (K, a, b, x)) rfl rfl rfl (Srd.old h (fun k _ => noOwns k)) rfl (by omega) hat) ?_ rfl rfl; (refine R_eff (E_alloca rfl ac_zero) ?_ rfl rfl; rintro _ _ ⟨b6, rfl, rfl⟩); refine R_p rfl ?_ rfl rfl; (refine R_eff0 (E_storew (cs := acc (0, 0, 0, 0)) (ds := acc (K, a, b, x)) rfl rfl rfl rfl (acc_one _) rfl) ?_ rfl; rintro _ _ rfl); refine R_nil ?_; refine S_seq rfl ?_; refine S_seq rfl ?_; refine S_region rfl rfl ?_; refine R_p rfl ?_ rfl rfl; refine R_take (T_decT rfl (by omega)) ?_ rfl rfl; refine R_nil ?_; refine S_true rfl rfl ?_; refine S_exit rfl rfl ?_; refine S_seq rfl ?_; refine S_region rfl rfl ?_; refine R_p rfl ?_ rfl rfl; refine R_nil ?_)
      exact hB _ _ _ _ _ rfl rfl fun w' hS => ⟨(), rfl, trivial, hS.sublist (List.nil_sublist _)⟩
    refine RS_row A n c (fun _ _ hneA _ => ?_)
    focus (refine S_seq rfl ?_; refine S_region rfl rfl ?_; refine R_take (T_decT rfl (by omega)) ?_ rfl rfl; refine R_nil ?_; refine S_seq rfl ?_; refine S_true rfl rfl ?_; refine S_skip rfl ?_; refine S_seq rfl ?_; refine S_block rfl ?_; refine S_seq rfl ?_; refine S_region rfl rfl ?_; refine R_p rfl ?_ rfl rfl; refine R_take (T_ixM (sz := 4) (q := j) rfl rfl rfl rfl rfl rfl hne hjl) ?_ rfl rfl; refine R_take (T_lda (ds := acc (K, a, b, x)) rfl rfl rfl (Srd.old h (fun k _ => noOwns k)) rfl (by omega) hat) ?_ rfl rfl; (refine R_eff (E_alloca rfl ac_zero) ?_ rfl rfl; rintro _ _ ⟨b6, rfl, rfl⟩); refine R_p rfl ?_ rfl rfl; (refine R_eff0 (E_storew (cs := acc (0, 0, 0, 0)) (ds := acc (K, a, b, x)) rfl rfl rfl rfl (acc_one _) rfl) ?_ rfl; rintro _ _ rfl); refine R_nil ?_; refine S_seq rfl ?_; refine S_seq rfl ?_; refine S_region rfl rfl ?_; refine R_p rfl ?_ rfl rfl; refine R_take (T_decF rfl (by omega)) ?_ rfl rfl; refine R_nil ?_; refine S_false rfl rfl ?_; refine S_skip rfl ?_; refine S_seq rfl ?_; refine S_region rfl rfl ?_; refine R_p rfl ?_ rfl rfl; refine R_nil ?_; refine S_seq rfl ?_; refine S_region rfl rfl ?_; (refine R_eff (E_alloca rfl nt_zero) ?_ rfl rfl; rintro _ _ ⟨b8, rfl, rfl⟩); refine R_nil ?_; refine S_seq rfl ?_; refine S_seq rfl ?_; refine S_region rfl rfl ?_; refine R_p rfl ?_ rfl rfl; refine R_take (T_load rfl rfl rfl rfl) ?_ rfl rfl)
    obtain ⟨q, hq, hq6, hqf⟩ := rem6 K
    refine R_take (T_rem6 rfl rfl) ?_ rfl rfl
    refine R_take (T_sum (op := .add) rfl rfl rfl hqf) ?_ rfl rfl
    refine R_take (T_rem6 rfl rfl) ?_ rfl rfl
    rw [hq]
    refine R_nil ?_
    refine S_cut (X := (Int × Nd × List Value)) (fun y => [(3, .pointer (some ⟨b3, 0, none⟩)), (4, .map (some g)), (19, .slice SA k sc), (20, .int .i64 (k : Int)), (21, .int .i64 (j : Int)), (7, .int .i64 y.1), (8, .pointer (some ⟨b8, 0, none⟩))]) (fun y => [pt b3 25 (ntc A n c A2 n2 c2'), pt b8 25 y.2.2, row 30 3 y.2.1.A y.2.1.n y.2.1.c (cellsL pkc y.2.1.P.1), dtB 5 (y.2.1.P.1.map pkd), row 73 2 y.2.1.A2 y.2.1.n2 y.2.1.c2 (cellsL ctc y.2.1.C), mpF Try.prog 59 kyv g (cntK y.2.1.W) none]) (fun y => y.2.1.Ok ∧ ((y.1 = 0 ∧ y.2.2 = y.2.1.cs) ∨ (y.1 ≠ 0 ∧ ntc A n c A2 n2 c2' = y.2.1.cs))) (fun J2 hJ2 => ?_) (fun y hy => ?_)
    · have hq6 : q = 0 ∨ q = 1 ∨ q = 2 ∨ q = 3 ∨ q = 4 ∨ q = 5 := by omega
      rcases hq6 with rfl | rfl | rfl | rfl | rfl | rfl
      · cases hfr : nodeB a
        · skip
          focus (refine S_block rfl ?_; refine S_seq rfl ?_; refine S_region rfl rfl ?_; refine R_take (T_decT rfl (by omega)) ?_ rfl rfl; refine R_p rfl ?_ rfl rfl; refine R_nil ?_; refine S_true rfl rfl ?_; refine S_seq rfl ?_; refine S_region rfl rfl ?_; refine R_take (T_loads (ds := ntc A n c A2 n2 c2') rfl rfl rfl rfl rfl) ?_ rfl rfl; refine R_p rfl ?_ rfl rfl; refine R_take (T_load rfl rfl rfl rfl) ?_ rfl rfl; refine R_p rfl ?_ rfl rfl; refine R_take (T_load rfl rfl rfl rfl) ?_ rfl rfl; refine R_p rfl ?_ rfl rfl; refine R_take (T_load rfl rfl rfl rfl) ?_ rfl rfl; (refine R_eff (E_lit1 (m := 1) (vs := [bv x]) rfl rfl rfl rfl rfl rfl rfl (by simp [bv, Value.oneCell']) (by decide)) ?_ rfl rfl; rintro _ _ ⟨vb, rfl, rfl⟩); refine R_take (T_build2 rfl rfl (sa_built2 _ _ _ _)) ?_ rfl rfl; (refine R_eff (E_litS (vs := [.agg [Value.int .i64 b, .slice (some ⟨vb, 0, none⟩) 1 1].toArray]) (size := 2) (ds := [.int .i64 b, .slice (some ⟨vb, 0, none⟩) 1 1]) rfl rfl rfl rfl rfl rfl (by simp [vcells]) rfl (by omega)) ?_ rfl rfl; rintro _ _ ⟨va, rfl, rfl⟩); (refine R_eff (E_hv0 (f := 20) ⟨_, Try.func20, rfl, by kernel_rfl⟩ (fun w hS => send_bad w A c n P.1 W ((pk_len P.2.1).trans hWn) P.2.1 ((Srd.row (A := A) (n := n) (c := c)).rd w hS) A2 c2' n2 C hk2 ((Srd.row (A := A2) (n := n2) (c := c2')).rd w hS) (by omega) (by omega) a (some ⟨va, 0, none⟩) 1 1 2 (.inr ⟨hch, hfr, rfl⟩)) rfl rfl (fun _ => rfl)) ?_ rfl rfl; rintro _ _ ⟨_, rfl, _, rfl⟩); refine R_p rfl ?_ rfl rfl; refine R_p rfl ?_ rfl rfl; refine R_p rfl ?_ rfl rfl; (refine R_eff0 (E_storew (cs := ntc none 0 0 none 0 0) (ds := ntc none 0 0 none 0 0) rfl rfl rfl rfl (ntc_one _ _ _ _ _ _) rfl) ?_ rfl; rintro _ _ rfl); refine R_p rfl ?_ rfl rfl; refine R_nil ?_; refine S_seq rfl ?_; refine S_region rfl rfl ?_; refine R_p rfl ?_ rfl rfl; refine R_take (T_decF rfl (by omega)) ?_ rfl rfl; refine R_p rfl ?_ rfl rfl; refine R_skip ?_ rfl rfl; refine R_skip ?_ rfl rfl; refine R_skip ?_ rfl rfl; refine R_skip ?_ rfl rfl; refine R_skip ?_ rfl rfl; refine R_skip ?_ rfl rfl; refine R_skip ?_ rfl rfl; refine R_p rfl ?_ rfl rfl; refine R_nil ?_; refine S_false rfl rfl ?_; refine S_skip rfl ?_; refine RS_blk ?_)
          exact hJ2 (2, ⟨A, n, c, W, P, A2, n2, c2', C⟩, ntc none 0 0 none 0 0) _ _ ⟨hok, .inr ⟨(show (2 : Int) ≠ 0 by decide), rfl⟩⟩ (Sub.cons rfl (Sub.cons rfl (Sub.cons rfl (Sub.cons rfl (Sub.cons rfl (Sub.cons rfl (Sub.cons rfl Sub.nil))))))) (fun w' hS => sub_st (H' := [pt b3 25 (ntc A n c A2 n2 c2'), pt b8 25 (ntc none 0 0 none 0 0), row 30 3 A n c (cellsL pkc P.1), dtB 5 (P.1.map pkd), row 73 2 A2 n2 c2' (cellsL ctc C), mpF Try.prog 59 kyv g (cntK W) none]) w' hS)
        · cases hs : (pkB (a, b, [x]) && !partP C a b && decide (W.length < 80))
          · skip
            have hsw : sayW C a W (b, [x]) = W := if_neg (by rw [hs]; decide)
            focus (refine S_block rfl ?_; refine S_seq rfl ?_; refine S_region rfl rfl ?_; refine R_take (T_decT rfl (by omega)) ?_ rfl rfl; refine R_p rfl ?_ rfl rfl; refine R_nil ?_; refine S_true rfl rfl ?_; refine S_seq rfl ?_; refine S_region rfl rfl ?_; refine R_take (T_loads (ds := ntc A n c A2 n2 c2') rfl rfl rfl rfl rfl) ?_ rfl rfl; refine R_p rfl ?_ rfl rfl; refine R_take (T_load rfl rfl rfl rfl) ?_ rfl rfl; refine R_p rfl ?_ rfl rfl; refine R_take (T_load rfl rfl rfl rfl) ?_ rfl rfl; refine R_p rfl ?_ rfl rfl; refine R_take (T_load rfl rfl rfl rfl) ?_ rfl rfl; (refine R_eff (E_lit1 (m := 1) (vs := [bv x]) rfl rfl rfl rfl rfl rfl rfl (by simp [bv, Value.oneCell']) (by decide)) ?_ rfl rfl; rintro _ _ ⟨vb, rfl, rfl⟩); refine R_take (T_build2 rfl rfl (sa_built2 _ _ _ _)) ?_ rfl rfl; (refine R_eff (E_litS (vs := [.agg [Value.int .i64 b, .slice (some ⟨vb, 0, none⟩) 1 1].toArray]) (size := 2) (ds := [.int .i64 b, .slice (some ⟨vb, 0, none⟩) 1 1]) rfl rfl rfl rfl rfl rfl (by simp [vcells]) rfl (by omega)) ?_ rfl rfl; rintro _ _ ⟨va, rfl, rfl⟩); (refine R_eff (E_hvG (f := 20) ⟨_, Try.func20, rfl, by kernel_rfl⟩ (fun w hS => send_one w A c n P.1 W ((pk_len P.2.1).trans hWn) P.2.1 ((Srd.row (A := A) (n := n) (c := c)).rd w hS) A2 c2' n2 C hk2 ((Srd.row (A := A2) (n := n2) (c := c2')).rd w hS) (by omega) (by omega) ((SDt.own (e := 5) (D := P.1.map pkd) (by simp)).rd w hS) (pk_txt P.2.1 hWt) hch a hfr va vb b x ((Srd.pt (n := 1) (g := va) (size := 2) (ds := [.int .i64 b, .slice (some ⟨vb, 0, none⟩) 1 1]) rfl (fun j u hj => by rw [Nat.zero_add]; exact hj)).rd w hS) ((Srd.pt (n := 1) (g := vb) (size := 1) (ds := [bv x]) rfl (fun j u hj => by rw [Nat.zero_add]; exact hj)).rd w hS) W n hsw hWn) rfl rfl) ?_ rfl rfl; rintro _ _ ⟨⟨⟨A7, c7⟩, P7, ⟨B7, d7⟩⟩, rfl, _, rfl⟩; dsimp only [List.cons_append, List.nil_append]); refine R_p rfl ?_ rfl rfl; refine R_p rfl ?_ rfl rfl; refine R_p rfl ?_ rfl rfl; (refine R_eff0 (E_storew (cs := ntc none 0 0 none 0 0) (ds := ntc A7 n c7 B7 n2 d7) rfl rfl rfl rfl (ntc_one _ _ _ _ _ _) rfl) ?_ rfl; rintro _ _ rfl); refine R_p rfl ?_ rfl rfl; refine R_nil ?_; refine S_seq rfl ?_; refine S_region rfl rfl ?_; refine R_p rfl ?_ rfl rfl; refine R_take (T_decT rfl (by omega)) ?_ rfl rfl; refine R_take (T_decT rfl (by omega)) ?_ rfl rfl; refine R_p rfl ?_ rfl rfl; refine R_take (T_load rfl rfl rfl rfl) ?_ rfl rfl; refine R_p rfl ?_ rfl rfl; refine R_p rfl ?_ rfl rfl; refine R_take (T_load rfl rfl rfl rfl) ?_ rfl rfl; refine R_p rfl ?_ rfl rfl; refine R_take (T_decF rfl (by omega)) ?_ rfl rfl; refine R_p rfl ?_ rfl rfl; refine R_nil ?_; refine S_false rfl rfl ?_; refine S_skip rfl ?_; refine RS_blk ?_)
            refine hJ2 (0, ⟨A7, n, c7, W, P7, B7, n2, d7, C⟩, ntc A7 n c7 B7 n2 d7) _ _ ⟨⟨hWn, hk2, hch, h1, h28⟩, .inl ⟨rfl, rfl⟩⟩ (Sub.cons rfl (Sub.cons rfl (Sub.cons rfl (Sub.cons rfl (Sub.cons rfl (Sub.cons rfl (Sub.cons rfl Sub.nil))))))) (fun w' hS => ?_)
            exact sub_st (H' := [pt b3 25 (ntc A n c A2 n2 c2'), pt b8 25 (ntc A7 n c7 B7 n2 d7), row 30 3 A7 n c7 (cellsL pkc P7.1), dtB 5 (P7.1.map pkd), row 73 2 B7 n2 d7 (cellsL ctc C), mpF Try.prog 59 kyv g (cntK W) none]) w' hS
          · skip
            have hsw : sayW C a W (b, [x]) = W ++ [(a, b, [x])] := if_pos hs
            simp only [Bool.and_eq_true, decide_eq_true_eq] at hs
            have hb := pk_lo hs.1.1
            have hcn := cntK_le W (a, b, x)
            focus (refine S_block rfl ?_; refine S_seq rfl ?_; refine S_region rfl rfl ?_; refine R_take (T_decT rfl (by omega)) ?_ rfl rfl; refine R_p rfl ?_ rfl rfl; refine R_nil ?_; refine S_true rfl rfl ?_; refine S_seq rfl ?_; refine S_region rfl rfl ?_; refine R_take (T_loads (ds := ntc A n c A2 n2 c2') rfl rfl rfl rfl rfl) ?_ rfl rfl; refine R_p rfl ?_ rfl rfl; refine R_take (T_load rfl rfl rfl rfl) ?_ rfl rfl; refine R_p rfl ?_ rfl rfl; refine R_take (T_load rfl rfl rfl rfl) ?_ rfl rfl; refine R_p rfl ?_ rfl rfl; refine R_take (T_load rfl rfl rfl rfl) ?_ rfl rfl; (refine R_eff (E_lit1 (m := 1) (vs := [bv x]) rfl rfl rfl rfl rfl rfl rfl (by simp [bv, Value.oneCell']) (by decide)) ?_ rfl rfl; rintro _ _ ⟨vb, rfl, rfl⟩); refine R_take (T_build2 rfl rfl (sa_built2 _ _ _ _)) ?_ rfl rfl; (refine R_eff (E_litS (vs := [.agg [Value.int .i64 b, .slice (some ⟨vb, 0, none⟩) 1 1].toArray]) (size := 2) (ds := [.int .i64 b, .slice (some ⟨vb, 0, none⟩) 1 1]) rfl rfl rfl rfl rfl rfl (by simp [vcells]) rfl (by omega)) ?_ rfl rfl; rintro _ _ ⟨va, rfl, rfl⟩); (refine R_eff (E_hvG (f := 20) ⟨_, Try.func20, rfl, by kernel_rfl⟩ (fun w hS => send_one w A c n P.1 W ((pk_len P.2.1).trans hWn) P.2.1 ((Srd.row (A := A) (n := n) (c := c)).rd w hS) A2 c2' n2 C hk2 ((Srd.row (A := A2) (n := n2) (c := c2')).rd w hS) (by omega) (by omega) ((SDt.own (e := 5) (D := P.1.map pkd) (by simp)).rd w hS) (pk_txt P.2.1 hWt) hch a hfr va vb b x ((Srd.pt (n := 1) (g := va) (size := 2) (ds := [.int .i64 b, .slice (some ⟨vb, 0, none⟩) 1 1]) rfl (fun j u hj => by rw [Nat.zero_add]; exact hj)).rd w hS) ((Srd.pt (n := 1) (g := vb) (size := 1) (ds := [bv x]) rfl (fun j u hj => by rw [Nat.zero_add]; exact hj)).rd w hS) (W ++ [(a, b, [x])]) (n + 1) hsw (by rw [List.length_append, hWn]; rfl)) rfl rfl) ?_ rfl rfl; rintro _ _ ⟨⟨⟨A7, c7⟩, P7, ⟨B7, d7⟩⟩, rfl, _, rfl⟩; dsimp only [List.cons_append, List.nil_append]); refine R_p rfl ?_ rfl rfl; refine R_p rfl ?_ rfl rfl; refine R_p rfl ?_ rfl rfl; (refine R_eff0 (E_storew (cs := ntc none 0 0 none 0 0) (ds := ntc A7 (n + 1) c7 B7 n2 d7) rfl rfl rfl rfl (ntc_one _ _ _ _ _ _) rfl) ?_ rfl; rintro _ _ rfl); refine R_p rfl ?_ rfl rfl; refine R_nil ?_; refine S_seq rfl ?_; refine S_region rfl rfl ?_; refine R_p rfl ?_ rfl rfl; refine R_take (T_decT rfl (by omega)) ?_ rfl rfl; refine R_take (T_decT rfl (by omega)) ?_ rfl rfl; refine R_p rfl ?_ rfl rfl; refine R_take (T_load rfl rfl rfl rfl) ?_ rfl rfl; refine R_p rfl ?_ rfl rfl; refine R_p rfl ?_ rfl rfl; refine R_take (T_load rfl rfl rfl rfl) ?_ rfl rfl; refine R_p rfl ?_ rfl rfl; refine R_take (T_decT rfl (by omega)) ?_ rfl rfl; refine R_take (T_decT rfl (by omega)) ?_ rfl rfl; refine R_nil ?_; refine S_true rfl rfl ?_)
            refine S_draw ([pt b6 57 (acc (K, a, b, x)), mpF Try.prog 59 kyv g (cntK W) none]) sub_st (by kernel_rfl) rfl (by kernel_rfl) (by kernel_rfl : _ = 13) ?_
            refine D_take 0 rfl (pev_ok rfl) ?_ rfl rfl (by kernel_rfl) (by kernel_rfl)
            refine D_take 1 rfl (pev_ok rfl) ?_ rfl rfl (by kernel_rfl) (by kernel_rfl)
            refine D_take 2 rfl (T_load rfl rfl rfl rfl) ?_ rfl rfl (by kernel_rfl) (by kernel_rfl)
            refine D_take 3 rfl (pev_ok rfl) ?_ rfl rfl (by kernel_rfl) (by kernel_rfl)
            refine D_take 4 rfl (T_load rfl rfl rfl rfl) ?_ rfl rfl (by kernel_rfl) (by kernel_rfl)
            refine D_take 5 rfl (pev_ok rfl) ?_ rfl rfl (by kernel_rfl) (by kernel_rfl)
            refine D_take 6 rfl (T_load rfl rfl rfl rfl) ?_ rfl rfl (by kernel_rfl) (by kernel_rfl)
            refine D_take 7 rfl (T_build3 rfl rfl rfl (ky_built3 _ _ _)) ?_ rfl rfl (by kernel_rfl) (by kernel_rfl)
            refine D_take 8 rfl (T_lookF (v := (a, b, x)) (f := cntK W) (b := g) (s := none) key_law rfl rfl (key_of hb.1 hb.2) rfl rfl rfl rfl) ?_ rfl rfl (by kernel_rfl) (by kernel_rfl)
            (refine D_take 9 rfl (T_sum rfl rfl rfl (by unfold fits; omega)) ?_ rfl rfl (by kernel_rfl) (by kernel_rfl))
            refine D_one 10 rfl (E_mentF (v := (a, b, x)) (f := cntK W) (b := g) key_law kyv_inj rfl rfl (key_of hb.1 hb.2) rfl rfl rfl rfl) ?_ rfl rfl (by kernel_rfl)
            rintro _ _ ⟨st, rfl, rfl⟩
            refine Nx_same (wk_st (P := Try.prog) (kt := 59) (kv := kyv) g (cntK W) (some (st, (a, b, x)))) ?_
            refine D_take 11 rfl (pev_ok rfl) ?_ rfl rfl (by kernel_rfl) (by kernel_rfl)
            refine D_one 12 rfl (E_mstoF (kt := 59) (v := (a, b, x)) (f := cntK W) (b := g) kyv_inj rfl rfl rfl) ?_ rfl rfl (by kernel_rfl)
            rintro _ _ rfl
            refine Nx_pivot (by kernel_rfl) ?_
            refine D_done ?_ (by kernel_rfl)
            skip
            focus (refine RS_blk ?_)
            have he : (fun r : Ky => if r = (a, b, x) then cntK W (a, b, x) + 1 else cntK W r) = cntK (W ++ [(a, b, [x])]) := cntK_add W (a, b, [x])
            refine hJ2 (0, ⟨A7, (n + 1), c7, (W ++ [(a, b, [x])]), P7, B7, n2, d7, C⟩, ntc A7 (n + 1) c7 B7 n2 d7) _ _ ⟨⟨by show (W ++ [(a, b, [x])]).length = n + 1; rw [List.length_append, hWn]; rfl, hk2, chk_app hch hs.1.1 hs.2, fun p hp => (List.mem_append.1 hp).elim (h1 p) fun h2 => by rw [List.mem_singleton.1 h2]; rfl, h28⟩, .inl ⟨rfl, rfl⟩⟩ (Sub.cons rfl (Sub.cons rfl (Sub.cons rfl (Sub.cons rfl (Sub.cons rfl (Sub.cons rfl (Sub.cons rfl Sub.nil))))))) (fun w' hS => ?_)
            rw [he] at hS
            exact sub_st (H' := [pt b3 25 (ntc A n c A2 n2 c2'), pt b8 25 (ntc A7 (n + 1) c7 B7 n2 d7), row 30 3 A7 (n + 1) c7 (cellsL pkc P7.1), dtB 5 (P7.1.map pkd), row 73 2 B7 n2 d7 (cellsL ctc C), mpF Try.prog 59 kyv g (cntK (W ++ [(a, b, [x])])) none]) w' hS
      · by_cases hin : 0 ≤ a ∧ a < (n : Int); rotate_left
        · skip
          focus (refine S_block rfl ?_; refine S_seq rfl ?_; refine S_region rfl rfl ?_; refine R_take (T_decF rfl (by omega)) ?_ rfl rfl; refine R_p rfl ?_ rfl rfl; refine R_nil ?_; refine S_false rfl rfl ?_; refine S_seq rfl ?_; refine S_region rfl rfl ?_; refine R_take (T_decT rfl (by omega)) ?_ rfl rfl; refine R_p rfl ?_ rfl rfl; refine R_nil ?_; refine S_true rfl rfl ?_; refine S_seq rfl ?_; refine S_region rfl rfl ?_; (refine R_eff (E_alloca rfl pk_zero) ?_ rfl rfl; rintro _ _ ⟨b9, rfl, rfl⟩); refine R_nil ?_; refine S_seq rfl ?_; refine S_region rfl rfl ?_; refine R_take (T_loads (ds := ntc A n c A2 n2 c2') rfl rfl rfl rfl rfl) ?_ rfl rfl; refine R_p rfl ?_ rfl rfl; refine R_take (T_load rfl rfl rfl rfl) ?_ rfl rfl; (refine R_eff (E_hv0 (f := 10) ⟨_, Try.func10, rfl, by kernel_rfl⟩ (fun w hS => deliver_bad w A c n P.1 W ((pk_len P.2.1).trans hWn) P.2.1 ((Srd.row (A := A) (n := n) (c := c)).rd w hS) A2 c2' n2 C hk2 ((Srd.row (A := A2) (n := n2) (c := c2')).rd w hS) (by omega) (by omega) a 2 (.inr ⟨hch, .inl ⟨by omega, rfl⟩⟩)) rfl rfl (fun _ => rfl)) ?_ rfl rfl; rintro _ _ ⟨_, rfl, _, rfl⟩); refine R_p rfl ?_ rfl rfl; refine R_p rfl ?_ rfl rfl; refine R_p rfl ?_ rfl rfl; refine R_p rfl ?_ rfl rfl; (refine R_eff0 (E_storew (cs := ntc none 0 0 none 0 0) (ds := ntc none 0 0 none 0 0) rfl rfl rfl rfl (ntc_one _ _ _ _ _ _) rfl) ?_ rfl; rintro _ _ rfl); (refine R_eff0 (E_storew (cs := pkc (0, 0, none, 0, [])) (ds := pkc (0, 0, none, 0, [])) rfl rfl rfl rfl (pkc_one _) rfl) ?_ rfl; rintro _ _ rfl); refine R_p rfl ?_ rfl rfl; refine R_nil ?_; refine S_seq rfl ?_; refine S_region rfl rfl ?_; refine R_p rfl ?_ rfl rfl; refine R_take (T_decF rfl (by omega)) ?_ rfl rfl; refine R_nil ?_; refine S_false rfl rfl ?_; refine S_skip rfl ?_; refine RS_blk ?_)
          exact hJ2 (2, ⟨A, n, c, W, P, A2, n2, c2', C⟩, ntc none 0 0 none 0 0) _ _ ⟨hok, .inr ⟨(show (2 : Int) ≠ 0 by decide), rfl⟩⟩ (Sub.cons rfl (Sub.cons rfl (Sub.cons rfl (Sub.cons rfl (Sub.cons rfl (Sub.cons rfl (Sub.cons rfl Sub.nil))))))) (fun w' hS => sub_st (H' := [pt b3 25 (ntc A n c A2 n2 c2'), pt b8 25 (ntc none 0 0 none 0 0), row 30 3 A n c (cellsL pkc P.1), dtB 5 (P.1.map pkd), row 73 2 A2 n2 c2' (cellsL ctc C), mpF Try.prog 59 kyv g (cntK W) none]) w' hS)
        obtain ⟨q, rfl⟩ : ∃ q : Nat, a = (q : Int) := ⟨a.toNat, by omega⟩
        have hq : q < n := by omega
        obtain ⟨f, t, y, hWq, hmem⟩ := at_of_W h1 (q := q) (by omega)
        have hpk := chk_at hch (q := q) (by omega)
        rw [hWq] at hpk
        have hb := pk_lo hpk
        have hcn := cntK_le W (f, t, y)
        have hcp : 1 ≤ cntK W (f, t, y) := cntK_pos hmem
        have hdl : (del W q).length = q + (n - (q + 1)) := (del_len (by omega)).trans (by rw [hWn])
        cases hpp : partP C (W.getD q default).1 (W.getD q default).2.1; rotate_left
        · skip
          focus (refine S_block rfl ?_; refine S_seq rfl ?_; refine S_region rfl rfl ?_; refine R_take (T_decF rfl (by omega)) ?_ rfl rfl; refine R_p rfl ?_ rfl rfl; refine R_nil ?_; refine S_false rfl rfl ?_; refine S_seq rfl ?_; refine S_region rfl rfl ?_; refine R_take (T_decT rfl (by omega)) ?_ rfl rfl; refine R_p rfl ?_ rfl rfl; refine R_nil ?_; refine S_true rfl rfl ?_; refine S_seq rfl ?_; refine S_region rfl rfl ?_; (refine R_eff (E_alloca rfl pk_zero) ?_ rfl rfl; rintro _ _ ⟨b9, rfl, rfl⟩); refine R_nil ?_; refine S_seq rfl ?_; refine S_region rfl rfl ?_; refine R_take (T_loads (ds := ntc A n c A2 n2 c2') rfl rfl rfl rfl rfl) ?_ rfl rfl; refine R_p rfl ?_ rfl rfl; refine R_take (T_load rfl rfl rfl rfl) ?_ rfl rfl; (refine R_eff (E_hv0 (f := 10) ⟨_, Try.func10, rfl, by kernel_rfl⟩ (fun w hS => deliver_bad w A c n P.1 W ((pk_len P.2.1).trans hWn) P.2.1 ((Srd.row (A := A) (n := n) (c := c)).rd w hS) A2 c2' n2 C hk2 ((Srd.row (A := A2) (n := n2) (c := c2')).rd w hS) (by omega) (by omega) (q : Int) 331 (.inr ⟨hch, .inr ⟨⟨q, rfl, hq, hpp⟩, rfl⟩⟩)) rfl rfl (fun _ => rfl)) ?_ rfl rfl; rintro _ _ ⟨_, rfl, _, rfl⟩); refine R_p rfl ?_ rfl rfl; refine R_p rfl ?_ rfl rfl; refine R_p rfl ?_ rfl rfl; refine R_p rfl ?_ rfl rfl; (refine R_eff0 (E_storew (cs := ntc none 0 0 none 0 0) (ds := ntc none 0 0 none 0 0) rfl rfl rfl rfl (ntc_one _ _ _ _ _ _) rfl) ?_ rfl; rintro _ _ rfl); (refine R_eff0 (E_storew (cs := pkc (0, 0, none, 0, [])) (ds := pkc (0, 0, none, 0, [])) rfl rfl rfl rfl (pkc_one _) rfl) ?_ rfl; rintro _ _ rfl); refine R_p rfl ?_ rfl rfl; refine R_nil ?_; refine S_seq rfl ?_; refine S_region rfl rfl ?_; refine R_p rfl ?_ rfl rfl; refine R_take (T_decF rfl (by omega)) ?_ rfl rfl; refine R_nil ?_; refine S_false rfl rfl ?_; refine S_skip rfl ?_; refine RS_blk ?_)
          exact hJ2 (331, ⟨A, n, c, W, P, A2, n2, c2', C⟩, ntc none 0 0 none 0 0) _ _ ⟨hok, .inr ⟨(show (331 : Int) ≠ 0 by decide), rfl⟩⟩ (Sub.cons rfl (Sub.cons rfl (Sub.cons rfl (Sub.cons rfl (Sub.cons rfl (Sub.cons rfl (Sub.cons rfl Sub.nil))))))) (fun w' hS => sub_st (H' := [pt b3 25 (ntc A n c A2 n2 c2'), pt b8 25 (ntc none 0 0 none 0 0), row 30 3 A n c (cellsL pkc P.1), dtB 5 (P.1.map pkd), row 73 2 A2 n2 c2' (cellsL ctc C), mpF Try.prog 59 kyv g (cntK W) none]) w' hS)
        focus (refine S_block rfl ?_; refine S_seq rfl ?_; refine S_region rfl rfl ?_; refine R_take (T_decF rfl (by omega)) ?_ rfl rfl; refine R_p rfl ?_ rfl rfl; refine R_nil ?_; refine S_false rfl rfl ?_; refine S_seq rfl ?_; refine S_region rfl rfl ?_; refine R_take (T_decT rfl (by omega)) ?_ rfl rfl; refine R_p rfl ?_ rfl rfl; refine R_nil ?_; refine S_true rfl rfl ?_; refine S_seq rfl ?_; refine S_region rfl rfl ?_; (refine R_eff (E_alloca rfl pk_zero) ?_ rfl rfl; rintro _ _ ⟨b9, rfl, rfl⟩); refine R_nil ?_; refine S_seq rfl ?_; refine S_region rfl rfl ?_; refine R_take (T_loads (ds := ntc A n c A2 n2 c2') rfl rfl rfl rfl rfl) ?_ rfl rfl; refine R_p rfl ?_ rfl rfl; refine R_take (T_load rfl rfl rfl rfl) ?_ rfl rfl; (refine R_eff (E_hvG (f := 10) ⟨_, Try.func10, rfl, by kernel_rfl⟩ (fun w hS => deliver_ok w A c n P.1 W ((pk_len P.2.1).trans hWn) P.2.1 ((Srd.row (A := A) (n := n) (c := c)).rd w hS) A2 c2' n2 C hk2 ((Srd.row (A := A2) (n := n2) (c := c2')).rd w hS) (by omega) (by omega) ((SDt.own (e := 5) (D := P.1.map pkd) (by simp)).rd w hS) (pk_txt P.2.1 hWt) hch q hq hpp) rfl rfl) ?_ rfl rfl; rintro _ _ ⟨⟨⟨⟨A7, c7⟩, P7, ⟨B7, d7⟩⟩, ⟨m9, hm9, hmc9⟩⟩, rfl, _, rfl⟩; dsimp only [List.cons_append, List.nil_append]); refine R_p rfl ?_ rfl rfl; refine R_p rfl ?_ rfl rfl; refine R_p rfl ?_ rfl rfl; refine R_p rfl ?_ rfl rfl; (refine R_eff0 (E_storew (cs := ntc none 0 0 none 0 0) (ds := ntc A7 (q + (n - (q + 1))) c7 B7 n2 d7) rfl rfl rfl rfl (ntc_one _ _ _ _ _ _) rfl) ?_ rfl; rintro _ _ rfl); (refine R_eff0 (E_storew (cs := pkc (0, 0, none, 0, [])) (ds := pkc m9) rfl rfl rfl rfl (pkc_one _) rfl) ?_ rfl; rintro _ _ rfl); refine R_p rfl ?_ rfl rfl; refine R_nil ?_; refine S_seq rfl ?_; refine S_region rfl rfl ?_; refine R_p rfl ?_ rfl rfl; refine R_take (T_decT rfl (by omega)) ?_ rfl rfl; refine R_nil ?_; refine S_true rfl rfl ?_; refine S_seq rfl ?_; refine S_seq rfl ?_; refine S_region rfl rfl ?_; refine R_p rfl ?_ rfl rfl; refine R_take (T_load rfl rfl rfl rfl) ?_ rfl rfl; refine R_p rfl ?_ rfl rfl; refine R_p rfl ?_ rfl rfl; refine R_nil ?_)
        rw [hWq] at hm9
        obtain ⟨f', t', D, cd, l'⟩ := m9
        have e1 : f = f' := (congrArg Prod.fst hm9).symm
        have e2 : t = t' := (congrArg (fun z : Pn => z.2.1) hm9).symm
        have e3 : [y] = l' := (congrArg (fun z : Pn => z.2.2) hm9).symm
        subst e1 e2 e3
        refine RS_mem (H' := row 5 1 D 1 cd [bv y] :: _) (fun w hS => sub_st (H' := [dtA 5 (pkd (f, t, D, cd, [y])), pt b9 30 (pkc (f, t, D, cd, [y])), pt b8 25 (ntc A7 (q + (n - (q + 1))) c7 B7 n2 d7), pt b3 25 (ntc A n c A2 n2 c2'), row 30 3 A7 (q + (n - (q + 1))) c7 (cellsL pkc P7.1), dtB 5 (P7.1.map pkd), row 73 2 B7 n2 d7 (cellsL ctc C), mpF Try.prog 59 kyv g (cntK W) none]) w hS) ?_
        refine RS_row D 1 cd (fun _ _ hD _ => ?_)
        have hD := hD (by omega)
        focus (refine S_false rfl rfl ?_; refine S_skip rfl ?_; refine S_seq rfl ?_)
        refine S_draw ([pt b9 30 (pkc (f, t, D, cd, [y])), row 5 1 D 1 cd [bv y]]) sub_st (by kernel_rfl) rfl (by kernel_rfl) (by kernel_rfl : _ = 11) ?_
        refine D_take 0 rfl (pev_ok rfl) ?_ rfl rfl (by kernel_rfl) (by kernel_rfl)
        refine D_take 1 rfl (T_load rfl rfl rfl rfl) ?_ rfl rfl (by kernel_rfl) (by kernel_rfl)
        refine D_take 2 rfl (pev_ok rfl) ?_ rfl rfl (by kernel_rfl) (by kernel_rfl)
        refine D_take 3 rfl (T_load rfl rfl rfl rfl) ?_ rfl rfl (by kernel_rfl) (by kernel_rfl)
        refine D_take 4 rfl (pev_ok rfl) ?_ rfl rfl (by kernel_rfl) (by kernel_rfl)
        refine D_take 5 rfl (T_load rfl rfl rfl rfl) ?_ rfl rfl (by kernel_rfl) (by kernel_rfl)
        refine D_take 6 rfl (T_ixM (sz := 1) (q := 0) rfl rfl rfl rfl rfl rfl hD (Nat.succ_pos _)) ?_ rfl rfl (by kernel_rfl) (by kernel_rfl)
        refine D_take 7 rfl (T_ldr (v := bv y) rfl rfl rfl (Srd.row (A := D) (n := 1) (c := cd)) (by omega) rfl) ?_ rfl rfl (by kernel_rfl) (by kernel_rfl)
        refine D_take 8 rfl (T_build3 rfl rfl rfl (ky_built3 _ _ _)) ?_ rfl rfl (by kernel_rfl) (by kernel_rfl)
        refine D_one 9 rfl (E_alloca rfl kz) ?_ rfl rfl (by kernel_rfl)
        rintro _ _ ⟨b10, rfl, rfl⟩
        refine Nx_same sub_st ?_
        refine D_one 10 rfl (E_storew (cs := [.int .i64 0, .int .i64 0, bv 0]) (ds := [.int .i64 f, .int .i64 t, bv y]) rfl rfl rfl rfl (by simp [bv, Value.oneCell']) rfl) ?_ rfl rfl (by kernel_rfl)
        rintro _ _ rfl
        refine Nx_pivot (by kernel_rfl) ?_
        refine D_done ?_ (by kernel_rfl)
        skip
        focus (refine S_seq rfl ?_)
        refine S_draw ([pt b10 59 ([.int .i64 f, .int .i64 t, bv y]), mpF Try.prog 59 kyv g (cntK W) none]) sub_st (by kernel_rfl) rfl (by kernel_rfl) (by kernel_rfl : _ = 7) ?_
        refine D_take 0 rfl (pev_ok rfl) ?_ rfl rfl (by kernel_rfl) (by kernel_rfl)
        refine D_take 1 rfl (T_loads (ds := [.int .i64 f, .int .i64 t, bv y]) rfl rfl rfl rfl rfl) ?_ rfl rfl (by kernel_rfl) (by kernel_rfl)
        refine D_take 2 rfl (T_lookF (v := (f, t, y)) (f := cntK W) (b := g) (s := none) key_law rfl rfl (key_of hb.1 hb.2) rfl rfl rfl rfl) ?_ rfl rfl (by kernel_rfl) (by kernel_rfl)
        (refine D_take 3 rfl (T_sum rfl rfl rfl (by unfold fits; omega)) ?_ rfl rfl (by kernel_rfl) (by kernel_rfl))
        refine D_one 4 rfl (E_mentF (v := (f, t, y)) (f := cntK W) (b := g) key_law kyv_inj rfl rfl (key_of hb.1 hb.2) rfl rfl rfl rfl) ?_ rfl rfl (by kernel_rfl)
        rintro _ _ ⟨st, rfl, rfl⟩
        refine Nx_same (wk_st (P := Try.prog) (kt := 59) (kv := kyv) g (cntK W) (some (st, (f, t, y)))) ?_
        refine D_take 5 rfl (pev_ok rfl) ?_ rfl rfl (by kernel_rfl) (by kernel_rfl)
        refine D_one 6 rfl (E_mstoF (kt := 59) (v := (f, t, y)) (f := cntK W) (b := g) kyv_inj rfl rfl rfl) ?_ rfl rfl (by kernel_rfl)
        rintro _ _ rfl
        refine Nx_pivot (by kernel_rfl) ?_
        refine D_done ?_ (by kernel_rfl)
        skip
        have he : (fun r : Ky => if r = (f, t, y) then cntK W (f, t, y) - 1 else cntK W r) = cntK (del W q) := by
          have h2 := cntK_del W q (by omega)
          rw [hWq] at h2
          exact h2
        rw [he]
        have hcd := cntK_le (del W q) (f, t, y)
        focus (refine S_seq rfl ?_; refine S_region rfl rfl ?_; refine R_p rfl ?_ rfl rfl; refine R_take (T_loads (ds := [.int .i64 f, .int .i64 t, bv y]) rfl rfl rfl rfl rfl) ?_ rfl rfl; refine R_take (T_lookF (v := (f, t, y)) (f := cntK (del W q)) (b := g) (s := none) key_law rfl rfl (key_of hb.1 hb.2) rfl rfl rfl rfl) ?_ rfl rfl; refine R_take (T_decF rfl (by omega)) ?_ rfl rfl; refine R_nil ?_; refine S_false rfl rfl ?_; refine S_skip rfl ?_; refine RS_blk ?_)
        refine hJ2 (0, ⟨A7, (q + (n - (q + 1))), c7, (del W q), P7, B7, n2, d7, C⟩, ntc A7 (q + (n - (q + 1))) c7 B7 n2 d7) _ _ ⟨⟨hdl, hk2, chk_del hch, fun p hp => h1 p ((del_sub W q).subset hp), h28⟩, .inl ⟨rfl, rfl⟩⟩ (Sub.cons rfl (Sub.cons rfl (Sub.cons rfl (Sub.cons rfl (Sub.cons rfl (Sub.cons rfl (Sub.cons rfl Sub.nil))))))) (fun w' hS => ?_)
        exact sub_st (H' := [pt b3 25 (ntc A n c A2 n2 c2'), pt b8 25 (ntc A7 (q + (n - (q + 1))) c7 B7 n2 d7), row 30 3 A7 (q + (n - (q + 1))) c7 (cellsL pkc P7.1), dtB 5 (P7.1.map pkd), row 73 2 B7 n2 d7 (cellsL ctc C), mpF Try.prog 59 kyv g (cntK (del W q)) none]) w' hS
      · by_cases hin : 0 ≤ a ∧ a < (n : Int); rotate_left
        · skip
          focus (refine S_block rfl ?_; refine S_seq rfl ?_; refine S_region rfl rfl ?_; refine R_take (T_decF rfl (by omega)) ?_ rfl rfl; refine R_p rfl ?_ rfl rfl; refine R_nil ?_; refine S_false rfl rfl ?_; refine S_seq rfl ?_; refine S_region rfl rfl ?_; refine R_take (T_decF rfl (by omega)) ?_ rfl rfl; refine R_p rfl ?_ rfl rfl; refine R_nil ?_; refine S_false rfl rfl ?_; refine S_seq rfl ?_; refine S_region rfl rfl ?_; refine R_take (T_decT rfl (by omega)) ?_ rfl rfl; refine R_p rfl ?_ rfl rfl; refine R_nil ?_; refine S_true rfl rfl ?_; refine S_seq rfl ?_; refine S_region rfl rfl ?_; refine R_take (T_loads (ds := ntc A n c A2 n2 c2') rfl rfl rfl rfl rfl) ?_ rfl rfl; refine R_p rfl ?_ rfl rfl; refine R_take (T_load rfl rfl rfl rfl) ?_ rfl rfl; (refine R_eff (E_hv0 (f := 12) ⟨_, Try.func12, rfl, by kernel_rfl⟩ (fun w hS => lose_bad w A c n P.1 W ((pk_len P.2.1).trans hWn) P.2.1 ((Srd.row (A := A) (n := n) (c := c)).rd w hS) A2 c2' n2 C hk2 ((Srd.row (A := A2) (n := n2) (c := c2')).rd w hS) (by omega) (by omega) a 2 (.inr ⟨hch, by omega, rfl⟩)) rfl rfl (fun _ => rfl)) ?_ rfl rfl; rintro _ _ ⟨_, rfl, _, rfl⟩); refine R_p rfl ?_ rfl rfl; refine R_p rfl ?_ rfl rfl; refine R_p rfl ?_ rfl rfl; (refine R_eff0 (E_storew (cs := ntc none 0 0 none 0 0) (ds := ntc none 0 0 none 0 0) rfl rfl rfl rfl (ntc_one _ _ _ _ _ _) rfl) ?_ rfl; rintro _ _ rfl); refine R_p rfl ?_ rfl rfl; refine R_nil ?_; refine S_seq rfl ?_; refine S_region rfl rfl ?_; refine R_p rfl ?_ rfl rfl; refine R_take (T_decF rfl (by omega)) ?_ rfl rfl; refine R_nil ?_; refine S_false rfl rfl ?_; refine S_skip rfl ?_; refine RS_blk ?_)
          exact hJ2 (2, ⟨A, n, c, W, P, A2, n2, c2', C⟩, ntc none 0 0 none 0 0) _ _ ⟨hok, .inr ⟨(show (2 : Int) ≠ 0 by decide), rfl⟩⟩ (Sub.cons rfl (Sub.cons rfl (Sub.cons rfl (Sub.cons rfl (Sub.cons rfl (Sub.cons rfl (Sub.cons rfl Sub.nil))))))) (fun w' hS => sub_st (H' := [pt b3 25 (ntc A n c A2 n2 c2'), pt b8 25 (ntc none 0 0 none 0 0), row 30 3 A n c (cellsL pkc P.1), dtB 5 (P.1.map pkd), row 73 2 A2 n2 c2' (cellsL ctc C), mpF Try.prog 59 kyv g (cntK W) none]) w' hS)
        obtain ⟨q, rfl⟩ : ∃ q : Nat, a = (q : Int) := ⟨a.toNat, by omega⟩
        have hq : q < n := by omega
        obtain ⟨f, t, y, hWq, hmem⟩ := at_of_W h1 (q := q) (by omega)
        have hpk := chk_at hch (q := q) (by omega)
        rw [hWq] at hpk
        have hb := pk_lo hpk
        have hcn := cntK_le W (f, t, y)
        have hcp : 1 ≤ cntK W (f, t, y) := cntK_pos hmem
        have hdl : (del W q).length = q + (n - (q + 1)) := (del_len (by omega)).trans (by rw [hWn])
        have hne := hneA (by omega)
        have hatq := cellsL_at (f := pkc) pkc_len P.1 default q (by rw [pk_len P.2.1]; omega)
        have hmq : P.1.getD q default ∈ P.1 := getD_mem (by rw [pk_len P.2.1]; omega)
        have hvq : pkv (P.1.getD q default) = (f, t, [y]) := by rw [← hWq, getW ((pk_len P.2.1).trans hWn) P.2.1 hq]
        generalize P.1.getD q default = mq at hatq hmq hvq
        obtain ⟨f', t', D, cd, l'⟩ := mq
        have e1 : f = f' := (congrArg Prod.fst hvq).symm
        have e2 : t = t' := (congrArg (fun z : Pn => z.2.1) hvq).symm
        have e3 : [y] = l' := (congrArg (fun z : Pn => z.2.2) hvq).symm
        subst e1 e2 e3
        have hdm : ((D, cd, [y]) : Dt) ∈ P.1.map pkd := List.mem_map.2 ⟨_, hmq, rfl⟩
        refine RS_fact (p := D ≠ none) (fun w hS => by have h9 := (SDt.own (e := 5) (D := P.1.map pkd) (by simp)).rd w hS (D, cd, [y]) hdm; obtain ⟨ad, h10, _⟩ := h9.2 (by show 0 < 1; omega); intro h11; rw [h11] at h10; cases h10) (fun hD => ?_)
        focus (refine S_block rfl ?_; refine S_seq rfl ?_; refine S_region rfl rfl ?_; refine R_take (T_decF rfl (by omega)) ?_ rfl rfl; refine R_p rfl ?_ rfl rfl; refine R_nil ?_; refine S_false rfl rfl ?_; refine S_seq rfl ?_; refine S_region rfl rfl ?_; refine R_take (T_decF rfl (by omega)) ?_ rfl rfl; refine R_p rfl ?_ rfl rfl; refine R_nil ?_; refine S_false rfl rfl ?_; refine S_seq rfl ?_; refine S_region rfl rfl ?_; refine R_take (T_decT rfl (by omega)) ?_ rfl rfl; refine R_p rfl ?_ rfl rfl; refine R_nil ?_; refine S_true rfl rfl ?_; refine S_seq rfl ?_; refine S_region rfl rfl ?_; refine R_take (T_loads (ds := ntc A n c A2 n2 c2') rfl rfl rfl rfl rfl) ?_ rfl rfl; refine R_p rfl ?_ rfl rfl; refine R_take (T_load rfl rfl rfl rfl) ?_ rfl rfl; (refine R_eff (E_hvG (f := 12) ⟨_, Try.func12, rfl, by kernel_rfl⟩ (fun w hS => lose_ok w A c n P.1 W ((pk_len P.2.1).trans hWn) P.2.1 ((Srd.row (A := A) (n := n) (c := c)).rd w hS) A2 c2' n2 C hk2 ((Srd.row (A := A2) (n := n2) (c := c2')).rd w hS) (by omega) (by omega) ((SDt.own (e := 5) (D := P.1.map pkd) (by simp)).rd w hS) (pk_txt P.2.1 hWt) hch q hq) rfl rfl) ?_ rfl rfl; rintro _ _ ⟨⟨⟨A7, c7⟩, P7, ⟨B7, d7⟩⟩, rfl, _, rfl⟩; dsimp only [List.cons_append, List.nil_append]); refine R_p rfl ?_ rfl rfl; refine R_p rfl ?_ rfl rfl; refine R_p rfl ?_ rfl rfl; (refine R_eff0 (E_storew (cs := ntc none 0 0 none 0 0) (ds := ntc A7 (q + (n - (q + 1))) c7 B7 n2 d7) rfl rfl rfl rfl (ntc_one _ _ _ _ _ _) rfl) ?_ rfl; rintro _ _ rfl); refine R_p rfl ?_ rfl rfl; refine R_nil ?_; refine S_seq rfl ?_; refine S_region rfl rfl ?_; refine R_p rfl ?_ rfl rfl; refine R_take (T_decT rfl (by omega)) ?_ rfl rfl; refine R_nil ?_; refine S_true rfl rfl ?_; refine S_seq rfl ?_; refine S_region rfl rfl ?_; refine R_p rfl ?_ rfl rfl; refine R_take (T_load rfl rfl rfl rfl) ?_ rfl rfl; refine R_p rfl ?_ rfl rfl; refine R_take (T_load rfl rfl rfl rfl) ?_ rfl rfl)
        focus (refine R_take (T_ixM (sz := 3) (q := q) rfl rfl rfl rfl rfl rfl hne hq) ?_ rfl rfl; refine R_take (T_lda (ds := pkc (f, t, D, cd, [y])) rfl rfl rfl (Srd.row (A := A) (n := n) (c := c)) rfl (by omega) hatq) ?_ rfl rfl; (refine R_eff (E_alloca rfl pk_zero) ?_ rfl rfl; rintro _ _ ⟨b11, rfl, rfl⟩); (refine R_eff0 (E_storew (cs := pkc (0, 0, none, 0, [])) (ds := pkc (f, t, D, cd, [y])) rfl rfl rfl rfl (pkc_one _) rfl) ?_ rfl; rintro _ _ rfl); refine R_nil ?_)
        refine S_draw ([pt b11 30 (pkc (f, t, D, cd, [y])), dtB 5 (P.1.map pkd), mpF Try.prog 59 kyv g (cntK W) none]) sub_st (by kernel_rfl) rfl (by kernel_rfl) (by kernel_rfl : _ = 15) ?_
        refine D_take 0 rfl (pev_ok rfl) ?_ rfl rfl (by kernel_rfl) (by kernel_rfl)
        refine D_take 1 rfl (pev_ok rfl) ?_ rfl rfl (by kernel_rfl) (by kernel_rfl)
        refine D_take 2 rfl (T_load rfl rfl rfl rfl) ?_ rfl rfl (by kernel_rfl) (by kernel_rfl)
        refine D_take 3 rfl (pev_ok rfl) ?_ rfl rfl (by kernel_rfl) (by kernel_rfl)
        refine D_take 4 rfl (T_load rfl rfl rfl rfl) ?_ rfl rfl (by kernel_rfl) (by kernel_rfl)
        refine D_take 5 rfl (pev_ok rfl) ?_ rfl rfl (by kernel_rfl) (by kernel_rfl)
        refine D_take 6 rfl (T_load rfl rfl rfl rfl) ?_ rfl rfl (by kernel_rfl) (by kernel_rfl)
        refine D_take 7 rfl (T_ixM (sz := 1) (q := 0) rfl rfl rfl rfl rfl rfl hD (Nat.succ_pos _)) ?_ rfl rfl (by kernel_rfl) (by kernel_rfl)
        (refine D_take 8 rfl (T_ldr (v := bv y) rfl rfl rfl ((SDt.own (e := 5) (D := P.1.map pkd) (by simp)).at_ hdm) (by show 0 < 1; omega) rfl) ?_ rfl rfl (by kernel_rfl) (by kernel_rfl))
        refine D_take 9 rfl (T_build3 rfl rfl rfl (ky_built3 _ _ _)) ?_ rfl rfl (by kernel_rfl) (by kernel_rfl)
        refine D_take 10 rfl (T_lookF (v := (f, t, y)) (f := cntK W) (b := g) (s := none) key_law rfl rfl (key_of hb.1 hb.2) rfl rfl rfl rfl) ?_ rfl rfl (by kernel_rfl) (by kernel_rfl)
        (refine D_take 11 rfl (T_sum rfl rfl rfl (by unfold fits; omega)) ?_ rfl rfl (by kernel_rfl) (by kernel_rfl))
        refine D_one 12 rfl (E_mentF (v := (f, t, y)) (f := cntK W) (b := g) key_law kyv_inj rfl rfl (key_of hb.1 hb.2) rfl rfl rfl rfl) ?_ rfl rfl (by kernel_rfl)
        rintro _ _ ⟨st, rfl, rfl⟩
        refine Nx_same (wk_st (P := Try.prog) (kt := 59) (kv := kyv) g (cntK W) (some (st, (f, t, y)))) ?_
        refine D_take 13 rfl (pev_ok rfl) ?_ rfl rfl (by kernel_rfl) (by kernel_rfl)
        refine D_one 14 rfl (E_mstoF (kt := 59) (v := (f, t, y)) (f := cntK W) (b := g) kyv_inj rfl rfl rfl) ?_ rfl rfl (by kernel_rfl)
        rintro _ _ rfl
        refine Nx_pivot (by kernel_rfl) ?_
        refine D_done ?_ (by kernel_rfl)
        skip
        focus (refine RS_blk ?_)
        have he : (fun r : Ky => if r = (f, t, y) then cntK W (f, t, y) - 1 else cntK W r) = cntK (del W q) := by
          have h2 := cntK_del W q (by omega)
          rw [hWq] at h2
          exact h2
        refine hJ2 (0, ⟨A7, (q + (n - (q + 1))), c7, (del W q), P7, B7, n2, d7, C⟩, ntc A7 (q + (n - (q + 1))) c7 B7 n2 d7) _ _ ⟨⟨hdl, hk2, chk_del hch, fun p hp => h1 p ((del_sub W q).subset hp), h28⟩, .inl ⟨rfl, rfl⟩⟩ (Sub.cons rfl (Sub.cons rfl (Sub.cons rfl (Sub.cons rfl (Sub.cons rfl (Sub.cons rfl (Sub.cons rfl Sub.nil))))))) (fun w' hS => ?_)
        rw [he] at hS
        exact sub_st (H' := [pt b3 25 (ntc A n c A2 n2 c2'), pt b8 25 (ntc A7 (q + (n - (q + 1))) c7 B7 n2 d7), row 30 3 A7 (q + (n - (q + 1))) c7 (cellsL pkc P7.1), dtB 5 (P7.1.map pkd), row 73 2 B7 n2 d7 (cellsL ctc C), mpF Try.prog 59 kyv g (cntK (del W q)) none]) w' hS
      · by_cases hin : 0 ≤ a ∧ a < (n : Int); rotate_left
        · skip
          focus (refine S_block rfl ?_; refine S_seq rfl ?_; refine S_region rfl rfl ?_; refine R_take (T_decF rfl (by omega)) ?_ rfl rfl; refine R_p rfl ?_ rfl rfl; refine R_nil ?_; refine S_false rfl rfl ?_; refine S_seq rfl ?_; refine S_region rfl rfl ?_; refine R_take (T_decF rfl (by omega)) ?_ rfl rfl; refine R_p rfl ?_ rfl rfl; refine R_nil ?_; refine S_false rfl rfl ?_; refine S_seq rfl ?_; refine S_region rfl rfl ?_; refine R_take (T_decF rfl (by omega)) ?_ rfl rfl; refine R_p rfl ?_ rfl rfl; refine R_nil ?_; refine S_false rfl rfl ?_; refine S_seq rfl ?_; refine S_region rfl rfl ?_; refine R_take (T_decT rfl (by omega)) ?_ rfl rfl; refine R_p rfl ?_ rfl rfl; refine R_nil ?_; refine S_true rfl rfl ?_; refine S_seq rfl ?_; refine S_region rfl rfl ?_; refine R_take (T_loads (ds := ntc A n c A2 n2 c2') rfl rfl rfl rfl rfl) ?_ rfl rfl; refine R_p rfl ?_ rfl rfl; refine R_take (T_load rfl rfl rfl rfl) ?_ rfl rfl; (refine R_eff (E_hv0 (f := 13) ⟨_, Try.func13, rfl, by kernel_rfl⟩ (fun w hS => double_bad w A c n P.1 W ((pk_len P.2.1).trans hWn) P.2.1 ((Srd.row (A := A) (n := n) (c := c)).rd w hS) A2 c2' n2 C hk2 ((Srd.row (A := A2) (n := n2) (c := c2')).rd w hS) (by omega) (by omega) a 2 (.inr ⟨hch, .inl ⟨by omega, rfl⟩⟩)) rfl rfl (fun _ => rfl)) ?_ rfl rfl; rintro _ _ ⟨_, rfl, _, rfl⟩); refine R_p rfl ?_ rfl rfl; refine R_p rfl ?_ rfl rfl; refine R_p rfl ?_ rfl rfl; (refine R_eff0 (E_storew (cs := ntc none 0 0 none 0 0) (ds := ntc none 0 0 none 0 0) rfl rfl rfl rfl (ntc_one _ _ _ _ _ _) rfl) ?_ rfl; rintro _ _ rfl); refine R_p rfl ?_ rfl rfl; refine R_nil ?_; refine S_seq rfl ?_; refine S_region rfl rfl ?_; refine R_p rfl ?_ rfl rfl; refine R_take (T_decF rfl (by omega)) ?_ rfl rfl; refine R_nil ?_; refine S_false rfl rfl ?_; refine S_skip rfl ?_; refine RS_blk ?_)
          exact hJ2 (2, ⟨A, n, c, W, P, A2, n2, c2', C⟩, ntc none 0 0 none 0 0) _ _ ⟨hok, .inr ⟨(show (2 : Int) ≠ 0 by decide), rfl⟩⟩ (Sub.cons rfl (Sub.cons rfl (Sub.cons rfl (Sub.cons rfl (Sub.cons rfl (Sub.cons rfl (Sub.cons rfl Sub.nil))))))) (fun w' hS => sub_st (H' := [pt b3 25 (ntc A n c A2 n2 c2'), pt b8 25 (ntc none 0 0 none 0 0), row 30 3 A n c (cellsL pkc P.1), dtB 5 (P.1.map pkd), row 73 2 A2 n2 c2' (cellsL ctc C), mpF Try.prog 59 kyv g (cntK W) none]) w' hS)
        obtain ⟨q, rfl⟩ : ∃ q : Nat, a = (q : Int) := ⟨a.toNat, by omega⟩
        have hq : q < n := by omega
        obtain ⟨f, t, y, hWq, hmem⟩ := at_of_W h1 (q := q) (by omega)
        have hpk := chk_at hch (q := q) (by omega)
        rw [hWq] at hpk
        have hb := pk_lo hpk
        have hcn := cntK_le W (f, t, y)
        have hcp : 1 ≤ cntK W (f, t, y) := cntK_pos hmem
        by_cases h8 : n < 80; rotate_left
        · skip
          focus (refine S_block rfl ?_; refine S_seq rfl ?_; refine S_region rfl rfl ?_; refine R_take (T_decF rfl (by omega)) ?_ rfl rfl; refine R_p rfl ?_ rfl rfl; refine R_nil ?_; refine S_false rfl rfl ?_; refine S_seq rfl ?_; refine S_region rfl rfl ?_; refine R_take (T_decF rfl (by omega)) ?_ rfl rfl; refine R_p rfl ?_ rfl rfl; refine R_nil ?_; refine S_false rfl rfl ?_; refine S_seq rfl ?_; refine S_region rfl rfl ?_; refine R_take (T_decF rfl (by omega)) ?_ rfl rfl; refine R_p rfl ?_ rfl rfl; refine R_nil ?_; refine S_false rfl rfl ?_; refine S_seq rfl ?_; refine S_region rfl rfl ?_; refine R_take (T_decT rfl (by omega)) ?_ rfl rfl; refine R_p rfl ?_ rfl rfl; refine R_nil ?_; refine S_true rfl rfl ?_; refine S_seq rfl ?_; refine S_region rfl rfl ?_; refine R_take (T_loads (ds := ntc A n c A2 n2 c2') rfl rfl rfl rfl rfl) ?_ rfl rfl; refine R_p rfl ?_ rfl rfl; refine R_take (T_load rfl rfl rfl rfl) ?_ rfl rfl; (refine R_eff (E_hv0 (f := 13) ⟨_, Try.func13, rfl, by kernel_rfl⟩ (fun w hS => double_bad w A c n P.1 W ((pk_len P.2.1).trans hWn) P.2.1 ((Srd.row (A := A) (n := n) (c := c)).rd w hS) A2 c2' n2 C hk2 ((Srd.row (A := A2) (n := n2) (c := c2')).rd w hS) (by omega) (by omega) (q : Int) 6 (.inr ⟨hch, .inr ⟨⟨q, rfl, hq⟩, by omega, rfl⟩⟩)) rfl rfl (fun _ => rfl)) ?_ rfl rfl; rintro _ _ ⟨_, rfl, _, rfl⟩); refine R_p rfl ?_ rfl rfl; refine R_p rfl ?_ rfl rfl; refine R_p rfl ?_ rfl rfl; (refine R_eff0 (E_storew (cs := ntc none 0 0 none 0 0) (ds := ntc none 0 0 none 0 0) rfl rfl rfl rfl (ntc_one _ _ _ _ _ _) rfl) ?_ rfl; rintro _ _ rfl); refine R_p rfl ?_ rfl rfl; refine R_nil ?_; refine S_seq rfl ?_; refine S_region rfl rfl ?_; refine R_p rfl ?_ rfl rfl; refine R_take (T_decF rfl (by omega)) ?_ rfl rfl; refine R_nil ?_; refine S_false rfl rfl ?_; refine S_skip rfl ?_; refine RS_blk ?_)
          exact hJ2 (6, ⟨A, n, c, W, P, A2, n2, c2', C⟩, ntc none 0 0 none 0 0) _ _ ⟨hok, .inr ⟨(show (6 : Int) ≠ 0 by decide), rfl⟩⟩ (Sub.cons rfl (Sub.cons rfl (Sub.cons rfl (Sub.cons rfl (Sub.cons rfl (Sub.cons rfl (Sub.cons rfl Sub.nil))))))) (fun w' hS => sub_st (H' := [pt b3 25 (ntc A n c A2 n2 c2'), pt b8 25 (ntc none 0 0 none 0 0), row 30 3 A n c (cellsL pkc P.1), dtB 5 (P.1.map pkd), row 73 2 A2 n2 c2' (cellsL ctc C), mpF Try.prog 59 kyv g (cntK W) none]) w' hS)
        have hne := hneA (by omega)
        have hatq := cellsL_at (f := pkc) pkc_len P.1 default q (by rw [pk_len P.2.1]; omega)
        have hmq : P.1.getD q default ∈ P.1 := getD_mem (by rw [pk_len P.2.1]; omega)
        have hvq : pkv (P.1.getD q default) = (f, t, [y]) := by rw [← hWq, getW ((pk_len P.2.1).trans hWn) P.2.1 hq]
        generalize P.1.getD q default = mq at hatq hmq hvq
        obtain ⟨f', t', D, cd, l'⟩ := mq
        have e1 : f = f' := (congrArg Prod.fst hvq).symm
        have e2 : t = t' := (congrArg (fun z : Pn => z.2.1) hvq).symm
        have e3 : [y] = l' := (congrArg (fun z : Pn => z.2.2) hvq).symm
        subst e1 e2 e3
        have hdm : ((D, cd, [y]) : Dt) ∈ P.1.map pkd := List.mem_map.2 ⟨_, hmq, rfl⟩
        refine RS_fact (p := D ≠ none) (fun w hS => by have h9 := (SDt.own (e := 5) (D := P.1.map pkd) (by simp)).rd w hS (D, cd, [y]) hdm; obtain ⟨ad, h10, _⟩ := h9.2 (by show 0 < 1; omega); intro h11; rw [h11] at h10; cases h10) (fun hD => ?_)
        focus (refine S_block rfl ?_; refine S_seq rfl ?_; refine S_region rfl rfl ?_; refine R_take (T_decF rfl (by omega)) ?_ rfl rfl; refine R_p rfl ?_ rfl rfl; refine R_nil ?_; refine S_false rfl rfl ?_; refine S_seq rfl ?_; refine S_region rfl rfl ?_; refine R_take (T_decF rfl (by omega)) ?_ rfl rfl; refine R_p rfl ?_ rfl rfl; refine R_nil ?_; refine S_false rfl rfl ?_; refine S_seq rfl ?_; refine S_region rfl rfl ?_; refine R_take (T_decF rfl (by omega)) ?_ rfl rfl; refine R_p rfl ?_ rfl rfl; refine R_nil ?_; refine S_false rfl rfl ?_; refine S_seq rfl ?_; refine S_region rfl rfl ?_; refine R_take (T_decT rfl (by omega)) ?_ rfl rfl; refine R_p rfl ?_ rfl rfl; refine R_nil ?_; refine S_true rfl rfl ?_; refine S_seq rfl ?_; refine S_region rfl rfl ?_; refine R_take (T_loads (ds := ntc A n c A2 n2 c2') rfl rfl rfl rfl rfl) ?_ rfl rfl; refine R_p rfl ?_ rfl rfl; refine R_take (T_load rfl rfl rfl rfl) ?_ rfl rfl; (refine R_eff (E_hvG (f := 13) ⟨_, Try.func13, rfl, by kernel_rfl⟩ (fun w hS => double_one w A c n P.1 W ((pk_len P.2.1).trans hWn) P.2.1 ((Srd.row (A := A) (n := n) (c := c)).rd w hS) A2 c2' n2 C hk2 ((Srd.row (A := A2) (n := n2) (c := c2')).rd w hS) (by omega) (by omega) ((SDt.own (e := 5) (D := P.1.map pkd) (by simp)).rd w hS) (pk_txt P.2.1 hWt) hch q hq h8 _ hWq) rfl rfl) ?_ rfl rfl; rintro _ _ ⟨⟨⟨A7, c7⟩, P7, ⟨B7, d7⟩⟩, rfl, _, rfl⟩; dsimp only [List.cons_append, List.nil_append]); refine R_p rfl ?_ rfl rfl; refine R_p rfl ?_ rfl rfl; refine R_p rfl ?_ rfl rfl; (refine R_eff0 (E_storew (cs := ntc none 0 0 none 0 0) (ds := ntc A7 (n + 1) c7 B7 n2 d7) rfl rfl rfl rfl (ntc_one _ _ _ _ _ _) rfl) ?_ rfl; rintro _ _ rfl); refine R_p rfl ?_ rfl rfl; refine R_nil ?_; refine S_seq rfl ?_; refine S_region rfl rfl ?_; refine R_p rfl ?_ rfl rfl; refine R_take (T_decT rfl (by omega)) ?_ rfl rfl; refine R_nil ?_; refine S_true rfl rfl ?_; refine S_seq rfl ?_; refine S_region rfl rfl ?_; refine R_p rfl ?_ rfl rfl; refine R_take (T_load rfl rfl rfl rfl) ?_ rfl rfl; refine R_p rfl ?_ rfl rfl; refine R_take (T_load rfl rfl rfl rfl) ?_ rfl rfl)
        focus (refine R_take (T_ixM (sz := 3) (q := q) rfl rfl rfl rfl rfl rfl hne hq) ?_ rfl rfl; refine R_take (T_lda (ds := pkc (f, t, D, cd, [y])) rfl rfl rfl (Srd.row (A := A) (n := n) (c := c)) rfl (by omega) hatq) ?_ rfl rfl; (refine R_eff (E_alloca rfl pk_zero) ?_ rfl rfl; rintro _ _ ⟨b12, rfl, rfl⟩); (refine R_eff0 (E_storew (cs := pkc (0, 0, none, 0, [])) (ds := pkc (f, t, D, cd, [y])) rfl rfl rfl rfl (pkc_one _) rfl) ?_ rfl; rintro _ _ rfl); refine R_nil ?_)
        refine S_draw ([pt b12 30 (pkc (f, t, D, cd, [y])), dtB 5 (P.1.map pkd), mpF Try.prog 59 kyv g (cntK W) none]) sub_st (by kernel_rfl) rfl (by kernel_rfl) (by kernel_rfl : _ = 15) ?_
        refine D_take 0 rfl (pev_ok rfl) ?_ rfl rfl (by kernel_rfl) (by kernel_rfl)
        refine D_take 1 rfl (pev_ok rfl) ?_ rfl rfl (by kernel_rfl) (by kernel_rfl)
        refine D_take 2 rfl (T_load rfl rfl rfl rfl) ?_ rfl rfl (by kernel_rfl) (by kernel_rfl)
        refine D_take 3 rfl (pev_ok rfl) ?_ rfl rfl (by kernel_rfl) (by kernel_rfl)
        refine D_take 4 rfl (T_load rfl rfl rfl rfl) ?_ rfl rfl (by kernel_rfl) (by kernel_rfl)
        refine D_take 5 rfl (pev_ok rfl) ?_ rfl rfl (by kernel_rfl) (by kernel_rfl)
        refine D_take 6 rfl (T_load rfl rfl rfl rfl) ?_ rfl rfl (by kernel_rfl) (by kernel_rfl)
        refine D_take 7 rfl (T_ixM (sz := 1) (q := 0) rfl rfl rfl rfl rfl rfl hD (Nat.succ_pos _)) ?_ rfl rfl (by kernel_rfl) (by kernel_rfl)
        (refine D_take 8 rfl (T_ldr (v := bv y) rfl rfl rfl ((SDt.own (e := 5) (D := P.1.map pkd) (by simp)).at_ hdm) (by show 0 < 1; omega) rfl) ?_ rfl rfl (by kernel_rfl) (by kernel_rfl))
        refine D_take 9 rfl (T_build3 rfl rfl rfl (ky_built3 _ _ _)) ?_ rfl rfl (by kernel_rfl) (by kernel_rfl)
        refine D_take 10 rfl (T_lookF (v := (f, t, y)) (f := cntK W) (b := g) (s := none) key_law rfl rfl (key_of hb.1 hb.2) rfl rfl rfl rfl) ?_ rfl rfl (by kernel_rfl) (by kernel_rfl)
        (refine D_take 11 rfl (T_sum rfl rfl rfl (by unfold fits; omega)) ?_ rfl rfl (by kernel_rfl) (by kernel_rfl))
        refine D_one 12 rfl (E_mentF (v := (f, t, y)) (f := cntK W) (b := g) key_law kyv_inj rfl rfl (key_of hb.1 hb.2) rfl rfl rfl rfl) ?_ rfl rfl (by kernel_rfl)
        rintro _ _ ⟨st, rfl, rfl⟩
        refine Nx_same (wk_st (P := Try.prog) (kt := 59) (kv := kyv) g (cntK W) (some (st, (f, t, y)))) ?_
        refine D_take 13 rfl (pev_ok rfl) ?_ rfl rfl (by kernel_rfl) (by kernel_rfl)
        refine D_one 14 rfl (E_mstoF (kt := 59) (v := (f, t, y)) (f := cntK W) (b := g) kyv_inj rfl rfl rfl) ?_ rfl rfl (by kernel_rfl)
        rintro _ _ rfl
        refine Nx_pivot (by kernel_rfl) ?_
        refine D_done ?_ (by kernel_rfl)
        skip
        focus (refine RS_blk ?_)
        have he : (fun r : Ky => if r = (f, t, y) then cntK W (f, t, y) + 1 else cntK W r) = cntK (W ++ [(f, t, [y])]) := cntK_add W (f, t, [y])
        refine hJ2 (0, ⟨A7, (n + 1), c7, (W ++ [(f, t, [y])]), P7, B7, n2, d7, C⟩, ntc A7 (n + 1) c7 B7 n2 d7) _ _ ⟨⟨by show (W ++ [(f, t, [y])]).length = n + 1; rw [List.length_append, hWn]; rfl, hk2, chk_app hch hpk (by omega), fun p hp => (List.mem_append.1 hp).elim (h1 p) fun h2 => by rw [List.mem_singleton.1 h2]; rfl, h28⟩, .inl ⟨rfl, rfl⟩⟩ (Sub.cons rfl (Sub.cons rfl (Sub.cons rfl (Sub.cons rfl (Sub.cons rfl (Sub.cons rfl (Sub.cons rfl Sub.nil))))))) (fun w' hS => ?_)
        rw [he] at hS
        exact sub_st (H' := [pt b3 25 (ntc A n c A2 n2 c2'), pt b8 25 (ntc A7 (n + 1) c7 B7 n2 d7), row 30 3 A7 (n + 1) c7 (cellsL pkc P7.1), dtB 5 (P7.1.map pkd), row 73 2 B7 n2 d7 (cellsL ctc C), mpF Try.prog 59 kyv g (cntK (W ++ [(f, t, [y])])) none]) w' hS
      · cases hpr : pairB a b
        · skip
          focus (refine S_block rfl ?_; refine S_seq rfl ?_; refine S_region rfl rfl ?_; refine R_take (T_decF rfl (by omega)) ?_ rfl rfl; refine R_p rfl ?_ rfl rfl; refine R_nil ?_; refine S_false rfl rfl ?_; refine S_seq rfl ?_; refine S_region rfl rfl ?_; refine R_take (T_decF rfl (by omega)) ?_ rfl rfl; refine R_p rfl ?_ rfl rfl; refine R_nil ?_; refine S_false rfl rfl ?_; refine S_seq rfl ?_; refine S_region rfl rfl ?_; refine R_take (T_decF rfl (by omega)) ?_ rfl rfl; refine R_p rfl ?_ rfl rfl; refine R_nil ?_; refine S_false rfl rfl ?_; refine S_seq rfl ?_; refine S_region rfl rfl ?_; refine R_take (T_decF rfl (by omega)) ?_ rfl rfl; refine R_p rfl ?_ rfl rfl; refine R_nil ?_; refine S_false rfl rfl ?_; refine S_seq rfl ?_; refine S_region rfl rfl ?_; refine R_take (T_decT rfl (by omega)) ?_ rfl rfl; refine R_p rfl ?_ rfl rfl; refine R_nil ?_; refine S_true rfl rfl ?_; refine S_region rfl rfl ?_; refine R_take (T_loads (ds := ntc A n c A2 n2 c2') rfl rfl rfl rfl rfl) ?_ rfl rfl; refine R_p rfl ?_ rfl rfl; refine R_take (T_load rfl rfl rfl rfl) ?_ rfl rfl; refine R_p rfl ?_ rfl rfl; refine R_take (T_load rfl rfl rfl rfl) ?_ rfl rfl; (refine R_eff (E_hv0 (f := 24) ⟨_, Try.func24, rfl, by kernel_rfl⟩ (fun w hS => part_bad w A c n P.1 W ((pk_len P.2.1).trans hWn) P.2.1 ((Srd.row (A := A) (n := n) (c := c)).rd w hS) A2 c2' n2 C hk2 ((Srd.row (A := A2) (n := n2) (c := c2')).rd w hS) (by omega) (by omega) a b 2 (.inr ⟨hch, by rw [hpr]; rfl, by decide⟩)) rfl rfl (fun _ => rfl)) ?_ rfl rfl; rintro _ _ ⟨_, rfl, _, rfl⟩); refine R_p rfl ?_ rfl rfl; refine R_p rfl ?_ rfl rfl; refine R_p rfl ?_ rfl rfl; (refine R_eff0 (E_storew (cs := ntc none 0 0 none 0 0) (ds := ntc none 0 0 none 0 0) rfl rfl rfl rfl (ntc_one _ _ _ _ _ _) rfl) ?_ rfl; rintro _ _ rfl); refine R_p rfl ?_ rfl rfl; refine R_nil ?_; refine RS_blk ?_)
          exact hJ2 (2, ⟨A, n, c, W, P, A2, n2, c2', C⟩, ntc none 0 0 none 0 0) _ _ ⟨hok, .inr ⟨(show (2 : Int) ≠ 0 by decide), rfl⟩⟩ (Sub.cons rfl (Sub.cons rfl (Sub.cons rfl (Sub.cons rfl (Sub.cons rfl (Sub.cons rfl (Sub.cons rfl Sub.nil))))))) (fun w' hS => sub_st (H' := [pt b3 25 (ntc A n c A2 n2 c2'), pt b8 25 (ntc none 0 0 none 0 0), row 30 3 A n c (cellsL pkc P.1), dtB 5 (P.1.map pkd), row 73 2 A2 n2 c2' (cellsL ctc C), mpF Try.prog 59 kyv g (cntK W) none]) w' hS)
        · cases hqp : partP C a b; rotate_left
          · skip
            focus (refine S_block rfl ?_; refine S_seq rfl ?_; refine S_region rfl rfl ?_; refine R_take (T_decF rfl (by omega)) ?_ rfl rfl; refine R_p rfl ?_ rfl rfl; refine R_nil ?_; refine S_false rfl rfl ?_; refine S_seq rfl ?_; refine S_region rfl rfl ?_; refine R_take (T_decF rfl (by omega)) ?_ rfl rfl; refine R_p rfl ?_ rfl rfl; refine R_nil ?_; refine S_false rfl rfl ?_; refine S_seq rfl ?_; refine S_region rfl rfl ?_; refine R_take (T_decF rfl (by omega)) ?_ rfl rfl; refine R_p rfl ?_ rfl rfl; refine R_nil ?_; refine S_false rfl rfl ?_; refine S_seq rfl ?_; refine S_region rfl rfl ?_; refine R_take (T_decF rfl (by omega)) ?_ rfl rfl; refine R_p rfl ?_ rfl rfl; refine R_nil ?_; refine S_false rfl rfl ?_; refine S_seq rfl ?_; refine S_region rfl rfl ?_; refine R_take (T_decT rfl (by omega)) ?_ rfl rfl; refine R_p rfl ?_ rfl rfl; refine R_nil ?_; refine S_true rfl rfl ?_; refine S_region rfl rfl ?_; refine R_take (T_loads (ds := ntc A n c A2 n2 c2') rfl rfl rfl rfl rfl) ?_ rfl rfl; refine R_p rfl ?_ rfl rfl; refine R_take (T_load rfl rfl rfl rfl) ?_ rfl rfl; refine R_p rfl ?_ rfl rfl; refine R_take (T_load rfl rfl rfl rfl) ?_ rfl rfl; (refine R_eff (E_hv0 (f := 24) ⟨_, Try.func24, rfl, by kernel_rfl⟩ (fun w hS => part_bad w A c n P.1 W ((pk_len P.2.1).trans hWn) P.2.1 ((Srd.row (A := A) (n := n) (c := c)).rd w hS) A2 c2' n2 C hk2 ((Srd.row (A := A2) (n := n2) (c := c2')).rd w hS) (by omega) (by omega) a b 5 (.inr ⟨hch, by rw [hpr, hqp]; rfl, by decide⟩)) rfl rfl (fun _ => rfl)) ?_ rfl rfl; rintro _ _ ⟨_, rfl, _, rfl⟩); refine R_p rfl ?_ rfl rfl; refine R_p rfl ?_ rfl rfl; refine R_p rfl ?_ rfl rfl; (refine R_eff0 (E_storew (cs := ntc none 0 0 none 0 0) (ds := ntc none 0 0 none 0 0) rfl rfl rfl rfl (ntc_one _ _ _ _ _ _) rfl) ?_ rfl; rintro _ _ rfl); refine R_p rfl ?_ rfl rfl; refine R_nil ?_; refine RS_blk ?_)
            exact hJ2 (5, ⟨A, n, c, W, P, A2, n2, c2', C⟩, ntc none 0 0 none 0 0) _ _ ⟨hok, .inr ⟨(show (5 : Int) ≠ 0 by decide), rfl⟩⟩ (Sub.cons rfl (Sub.cons rfl (Sub.cons rfl (Sub.cons rfl (Sub.cons rfl (Sub.cons rfl (Sub.cons rfl Sub.nil))))))) (fun w' hS => sub_st (H' := [pt b3 25 (ntc A n c A2 n2 c2'), pt b8 25 (ntc none 0 0 none 0 0), row 30 3 A n c (cellsL pkc P.1), dtB 5 (P.1.map pkd), row 73 2 A2 n2 c2' (cellsL ctc C), mpF Try.prog 59 kyv g (cntK W) none]) w' hS)
          · skip
            focus (refine S_block rfl ?_; refine S_seq rfl ?_; refine S_region rfl rfl ?_; refine R_take (T_decF rfl (by omega)) ?_ rfl rfl; refine R_p rfl ?_ rfl rfl; refine R_nil ?_; refine S_false rfl rfl ?_; refine S_seq rfl ?_; refine S_region rfl rfl ?_; refine R_take (T_decF rfl (by omega)) ?_ rfl rfl; refine R_p rfl ?_ rfl rfl; refine R_nil ?_; refine S_false rfl rfl ?_; refine S_seq rfl ?_; refine S_region rfl rfl ?_; refine R_take (T_decF rfl (by omega)) ?_ rfl rfl; refine R_p rfl ?_ rfl rfl; refine R_nil ?_; refine S_false rfl rfl ?_; refine S_seq rfl ?_; refine S_region rfl rfl ?_; refine R_take (T_decF rfl (by omega)) ?_ rfl rfl; refine R_p rfl ?_ rfl rfl; refine R_nil ?_; refine S_false rfl rfl ?_; refine S_seq rfl ?_; refine S_region rfl rfl ?_; refine R_take (T_decT rfl (by omega)) ?_ rfl rfl; refine R_p rfl ?_ rfl rfl; refine R_nil ?_; refine S_true rfl rfl ?_; refine S_region rfl rfl ?_; refine R_take (T_loads (ds := ntc A n c A2 n2 c2') rfl rfl rfl rfl rfl) ?_ rfl rfl; refine R_p rfl ?_ rfl rfl; refine R_take (T_load rfl rfl rfl rfl) ?_ rfl rfl; refine R_p rfl ?_ rfl rfl; refine R_take (T_load rfl rfl rfl rfl) ?_ rfl rfl; (refine R_eff (E_hvG (f := 24) ⟨_, Try.func24, rfl, by kernel_rfl⟩ (fun w hS => part_ok w A c n P.1 W ((pk_len P.2.1).trans hWn) P.2.1 ((Srd.row (A := A) (n := n) (c := c)).rd w hS) A2 c2' n2 C hk2 ((Srd.row (A := A2) (n := n2) (c := c2')).rd w hS) (by omega) (by omega) ((SDt.own (e := 5) (D := P.1.map pkd) (by simp)).rd w hS) (pk_txt P.2.1 hWt) hch a b hpr hqp) rfl rfl) ?_ rfl rfl; rintro _ _ ⟨⟨⟨A7, c7⟩, P7, ⟨B7, d7⟩⟩, rfl, _, rfl⟩; dsimp only [List.cons_append, List.nil_append]); refine R_p rfl ?_ rfl rfl; refine R_p rfl ?_ rfl rfl; refine R_p rfl ?_ rfl rfl; (refine R_eff0 (E_storew (cs := ntc none 0 0 none 0 0) (ds := ntc A7 n c7 B7 (cutD C a b true).length d7) rfl rfl rfl rfl (ntc_one _ _ _ _ _ _) rfl) ?_ rfl; rintro _ _ rfl); refine R_p rfl ?_ rfl rfl; refine R_nil ?_; refine RS_blk ?_)
            refine hJ2 (0, ⟨A7, n, c7, W, P7, B7, (cutD C a b true).length, d7, (cutD C a b true)⟩, ntc A7 n c7 B7 (cutD C a b true).length d7) _ _ ⟨⟨hWn, rfl, chk_cutD hch hpr, h1, cutD_le C a b true⟩, .inl ⟨rfl, rfl⟩⟩ (Sub.cons rfl (Sub.cons rfl (Sub.cons rfl (Sub.cons rfl (Sub.cons rfl (Sub.cons rfl (Sub.cons rfl Sub.nil))))))) (fun w' hS => ?_)
            exact sub_st (H' := [pt b3 25 (ntc A n c A2 n2 c2'), pt b8 25 (ntc A7 n c7 B7 (cutD C a b true).length d7), row 30 3 A7 n c7 (cellsL pkc P7.1), dtB 5 (P7.1.map pkd), row 73 2 B7 (cutD C a b true).length d7 (cellsL ctc (cutD C a b true)), mpF Try.prog 59 kyv g (cntK W) none]) w' hS
      · cases hpr : pairB a b
        · skip
          focus (refine S_block rfl ?_; refine S_seq rfl ?_; refine S_region rfl rfl ?_; refine R_take (T_decF rfl (by omega)) ?_ rfl rfl; refine R_p rfl ?_ rfl rfl; refine R_nil ?_; refine S_false rfl rfl ?_; refine S_seq rfl ?_; refine S_region rfl rfl ?_; refine R_take (T_decF rfl (by omega)) ?_ rfl rfl; refine R_p rfl ?_ rfl rfl; refine R_nil ?_; refine S_false rfl rfl ?_; refine S_seq rfl ?_; refine S_region rfl rfl ?_; refine R_take (T_decF rfl (by omega)) ?_ rfl rfl; refine R_p rfl ?_ rfl rfl; refine R_nil ?_; refine S_false rfl rfl ?_; refine S_seq rfl ?_; refine S_region rfl rfl ?_; refine R_take (T_decF rfl (by omega)) ?_ rfl rfl; refine R_p rfl ?_ rfl rfl; refine R_nil ?_; refine S_false rfl rfl ?_; refine S_seq rfl ?_; refine S_region rfl rfl ?_; refine R_take (T_decF rfl (by omega)) ?_ rfl rfl; refine R_p rfl ?_ rfl rfl; refine R_nil ?_; refine S_false rfl rfl ?_; refine S_seq rfl ?_; refine S_region rfl rfl ?_; refine R_take (T_decT rfl (by omega)) ?_ rfl rfl; refine R_p rfl ?_ rfl rfl; refine R_nil ?_; refine S_true rfl rfl ?_; refine S_region rfl rfl ?_; refine R_take (T_loads (ds := ntc A n c A2 n2 c2') rfl rfl rfl rfl rfl) ?_ rfl rfl; refine R_p rfl ?_ rfl rfl; refine R_take (T_load rfl rfl rfl rfl) ?_ rfl rfl; refine R_p rfl ?_ rfl rfl; refine R_take (T_load rfl rfl rfl rfl) ?_ rfl rfl; (refine R_eff (E_hv0 (f := 25) ⟨_, Try.func25, rfl, by kernel_rfl⟩ (fun w hS => mend_bad w A c n P.1 W ((pk_len P.2.1).trans hWn) P.2.1 ((Srd.row (A := A) (n := n) (c := c)).rd w hS) A2 c2' n2 C hk2 ((Srd.row (A := A2) (n := n2) (c := c2')).rd w hS) (by omega) (by omega) a b 2 (.inr ⟨hch, by rw [hpr]; rfl, by decide⟩)) rfl rfl (fun _ => rfl)) ?_ rfl rfl; rintro _ _ ⟨_, rfl, _, rfl⟩); refine R_p rfl ?_ rfl rfl; refine R_p rfl ?_ rfl rfl; refine R_p rfl ?_ rfl rfl; (refine R_eff0 (E_storew (cs := ntc none 0 0 none 0 0) (ds := ntc none 0 0 none 0 0) rfl rfl rfl rfl (ntc_one _ _ _ _ _ _) rfl) ?_ rfl; rintro _ _ rfl); refine R_p rfl ?_ rfl rfl; refine R_nil ?_; refine RS_blk ?_)
          exact hJ2 (2, ⟨A, n, c, W, P, A2, n2, c2', C⟩, ntc none 0 0 none 0 0) _ _ ⟨hok, .inr ⟨(show (2 : Int) ≠ 0 by decide), rfl⟩⟩ (Sub.cons rfl (Sub.cons rfl (Sub.cons rfl (Sub.cons rfl (Sub.cons rfl (Sub.cons rfl (Sub.cons rfl Sub.nil))))))) (fun w' hS => sub_st (H' := [pt b3 25 (ntc A n c A2 n2 c2'), pt b8 25 (ntc none 0 0 none 0 0), row 30 3 A n c (cellsL pkc P.1), dtB 5 (P.1.map pkd), row 73 2 A2 n2 c2' (cellsL ctc C), mpF Try.prog 59 kyv g (cntK W) none]) w' hS)
        · cases hqp : partP C a b
          · skip
            focus (refine S_block rfl ?_; refine S_seq rfl ?_; refine S_region rfl rfl ?_; refine R_take (T_decF rfl (by omega)) ?_ rfl rfl; refine R_p rfl ?_ rfl rfl; refine R_nil ?_; refine S_false rfl rfl ?_; refine S_seq rfl ?_; refine S_region rfl rfl ?_; refine R_take (T_decF rfl (by omega)) ?_ rfl rfl; refine R_p rfl ?_ rfl rfl; refine R_nil ?_; refine S_false rfl rfl ?_; refine S_seq rfl ?_; refine S_region rfl rfl ?_; refine R_take (T_decF rfl (by omega)) ?_ rfl rfl; refine R_p rfl ?_ rfl rfl; refine R_nil ?_; refine S_false rfl rfl ?_; refine S_seq rfl ?_; refine S_region rfl rfl ?_; refine R_take (T_decF rfl (by omega)) ?_ rfl rfl; refine R_p rfl ?_ rfl rfl; refine R_nil ?_; refine S_false rfl rfl ?_; refine S_seq rfl ?_; refine S_region rfl rfl ?_; refine R_take (T_decF rfl (by omega)) ?_ rfl rfl; refine R_p rfl ?_ rfl rfl; refine R_nil ?_; refine S_false rfl rfl ?_; refine S_seq rfl ?_; refine S_region rfl rfl ?_; refine R_take (T_decT rfl (by omega)) ?_ rfl rfl; refine R_p rfl ?_ rfl rfl; refine R_nil ?_; refine S_true rfl rfl ?_; refine S_region rfl rfl ?_; refine R_take (T_loads (ds := ntc A n c A2 n2 c2') rfl rfl rfl rfl rfl) ?_ rfl rfl; refine R_p rfl ?_ rfl rfl; refine R_take (T_load rfl rfl rfl rfl) ?_ rfl rfl; refine R_p rfl ?_ rfl rfl; refine R_take (T_load rfl rfl rfl rfl) ?_ rfl rfl; (refine R_eff (E_hv0 (f := 25) ⟨_, Try.func25, rfl, by kernel_rfl⟩ (fun w hS => mend_bad w A c n P.1 W ((pk_len P.2.1).trans hWn) P.2.1 ((Srd.row (A := A) (n := n) (c := c)).rd w hS) A2 c2' n2 C hk2 ((Srd.row (A := A2) (n := n2) (c := c2')).rd w hS) (by omega) (by omega) a b 4 (.inr ⟨hch, by rw [hpr, hqp]; rfl, by decide⟩)) rfl rfl (fun _ => rfl)) ?_ rfl rfl; rintro _ _ ⟨_, rfl, _, rfl⟩); refine R_p rfl ?_ rfl rfl; refine R_p rfl ?_ rfl rfl; refine R_p rfl ?_ rfl rfl; (refine R_eff0 (E_storew (cs := ntc none 0 0 none 0 0) (ds := ntc none 0 0 none 0 0) rfl rfl rfl rfl (ntc_one _ _ _ _ _ _) rfl) ?_ rfl; rintro _ _ rfl); refine R_p rfl ?_ rfl rfl; refine R_nil ?_; refine RS_blk ?_)
            exact hJ2 (4, ⟨A, n, c, W, P, A2, n2, c2', C⟩, ntc none 0 0 none 0 0) _ _ ⟨hok, .inr ⟨(show (4 : Int) ≠ 0 by decide), rfl⟩⟩ (Sub.cons rfl (Sub.cons rfl (Sub.cons rfl (Sub.cons rfl (Sub.cons rfl (Sub.cons rfl (Sub.cons rfl Sub.nil))))))) (fun w' hS => sub_st (H' := [pt b3 25 (ntc A n c A2 n2 c2'), pt b8 25 (ntc none 0 0 none 0 0), row 30 3 A n c (cellsL pkc P.1), dtB 5 (P.1.map pkd), row 73 2 A2 n2 c2' (cellsL ctc C), mpF Try.prog 59 kyv g (cntK W) none]) w' hS)
          · skip
            focus (refine S_block rfl ?_; refine S_seq rfl ?_; refine S_region rfl rfl ?_; refine R_take (T_decF rfl (by omega)) ?_ rfl rfl; refine R_p rfl ?_ rfl rfl; refine R_nil ?_; refine S_false rfl rfl ?_; refine S_seq rfl ?_; refine S_region rfl rfl ?_; refine R_take (T_decF rfl (by omega)) ?_ rfl rfl; refine R_p rfl ?_ rfl rfl; refine R_nil ?_; refine S_false rfl rfl ?_; refine S_seq rfl ?_; refine S_region rfl rfl ?_; refine R_take (T_decF rfl (by omega)) ?_ rfl rfl; refine R_p rfl ?_ rfl rfl; refine R_nil ?_; refine S_false rfl rfl ?_; refine S_seq rfl ?_; refine S_region rfl rfl ?_; refine R_take (T_decF rfl (by omega)) ?_ rfl rfl; refine R_p rfl ?_ rfl rfl; refine R_nil ?_; refine S_false rfl rfl ?_; refine S_seq rfl ?_; refine S_region rfl rfl ?_; refine R_take (T_decF rfl (by omega)) ?_ rfl rfl; refine R_p rfl ?_ rfl rfl; refine R_nil ?_; refine S_false rfl rfl ?_; refine S_seq rfl ?_; refine S_region rfl rfl ?_; refine R_take (T_decT rfl (by omega)) ?_ rfl rfl; refine R_p rfl ?_ rfl rfl; refine R_nil ?_; refine S_true rfl rfl ?_; refine S_region rfl rfl ?_; refine R_take (T_loads (ds := ntc A n c A2 n2 c2') rfl rfl rfl rfl rfl) ?_ rfl rfl; refine R_p rfl ?_ rfl rfl; refine R_take (T_load rfl rfl rfl rfl) ?_ rfl rfl; refine R_p rfl ?_ rfl rfl; refine R_take (T_load rfl rfl rfl rfl) ?_ rfl rfl; (refine R_eff (E_hvG (f := 25) ⟨_, Try.func25, rfl, by kernel_rfl⟩ (fun w hS => mend_ok w A c n P.1 W ((pk_len P.2.1).trans hWn) P.2.1 ((Srd.row (A := A) (n := n) (c := c)).rd w hS) A2 c2' n2 C hk2 ((Srd.row (A := A2) (n := n2) (c := c2')).rd w hS) (by omega) (by omega) ((SDt.own (e := 5) (D := P.1.map pkd) (by simp)).rd w hS) (pk_txt P.2.1 hWt) hch a b hpr hqp) rfl rfl) ?_ rfl rfl; rintro _ _ ⟨⟨⟨A7, c7⟩, P7, ⟨B7, d7⟩⟩, rfl, _, rfl⟩; dsimp only [List.cons_append, List.nil_append]); refine R_p rfl ?_ rfl rfl; refine R_p rfl ?_ rfl rfl; refine R_p rfl ?_ rfl rfl; (refine R_eff0 (E_storew (cs := ntc none 0 0 none 0 0) (ds := ntc A7 n c7 B7 (cutD C a b false).length d7) rfl rfl rfl rfl (ntc_one _ _ _ _ _ _) rfl) ?_ rfl; rintro _ _ rfl); refine R_p rfl ?_ rfl rfl; refine R_nil ?_; refine RS_blk ?_)
            refine hJ2 (0, ⟨A7, n, c7, W, P7, B7, (cutD C a b false).length, d7, (cutD C a b false)⟩, ntc A7 n c7 B7 (cutD C a b false).length d7) _ _ ⟨⟨hWn, rfl, chk_cutD hch hpr, h1, cutD_le C a b false⟩, .inl ⟨rfl, rfl⟩⟩ (Sub.cons rfl (Sub.cons rfl (Sub.cons rfl (Sub.cons rfl (Sub.cons rfl (Sub.cons rfl (Sub.cons rfl Sub.nil))))))) (fun w' hS => ?_)
            exact sub_st (H' := [pt b3 25 (ntc A n c A2 n2 c2'), pt b8 25 (ntc A7 n c7 B7 (cutD C a b false).length d7), row 30 3 A7 n c7 (cellsL pkc P7.1), dtB 5 (P7.1.map pkd), row 73 2 B7 (cutD C a b false).length d7 (cellsL ctc (cutD C a b false)), mpF Try.prog 59 kyv g (cntK W) none]) w' hS
    obtain ⟨e, ⟨Az, nz, cz, Wz, Pz, Bz, mz, dz, Cz⟩, N8⟩ := y
    obtain ⟨hok, hy⟩ := hy
    dsimp only at hok hy ⊢
    have hWn : Wz.length = nz := hok.hW
    have hk2 : Cz.length = mz := hok.hC
    have hch : chkB Wz Cz = true := hok.ch
    have h28 : mz ≤ 28 := hok.h28
    have h80 : nz ≤ 80 := hWn ▸ (chk_pk hch).1
    have hcs : (⟨Az, nz, cz, Wz, Pz, Bz, mz, dz, Cz⟩ : Nd).cs = ntc Az nz cz Bz mz dz := rfl
    rw [hcs] at hy
    focus (refine S_seq rfl ?_; refine S_seq rfl ?_; refine S_region rfl rfl ?_; refine R_p rfl ?_ rfl rfl; refine R_p rfl ?_ rfl rfl; refine R_nil ?_)
    refine S_cut (X := Unit) (fun _ => [(3, .pointer (some ⟨b3, 0, none⟩)), (4, .map (some g)), (19, .slice SA k sc), (20, .int .i64 (k : Int)), (21, .int .i64 (j : Int))]) (fun _ => [pt b3 25 (ntc Az nz cz Bz mz dz), row 30 3 Az nz cz (cellsL pkc Pz.1), dtB 5 (Pz.1.map pkd), row 73 2 Bz mz dz (cellsL ctc Cz), mpF Try.prog 59 kyv g (cntK Wz) none]) (fun _ => True) (fun J2 hJ2 => ?_) (fun _ _ => ?_)
    · rcases hy with ⟨rfl, rfl⟩ | ⟨he, hN⟩
      · skip
        focus (refine S_true rfl rfl ?_; refine S_region rfl rfl ?_; refine R_take (T_loads (ds := ntc Az nz cz Bz mz dz) rfl rfl rfl rfl rfl) ?_ rfl rfl; (refine R_eff0 (E_storew (cs := ntc A n c A2 n2 c2') (ds := ntc Az nz cz Bz mz dz) rfl rfl rfl rfl (ntc_one _ _ _ _ _ _) rfl) ?_ rfl; rintro _ _ rfl); refine R_nil ?_)
        exact hJ2 () _ _ trivial (Sub.cons rfl (Sub.cons rfl (Sub.cons rfl (Sub.cons rfl (Sub.cons rfl Sub.nil))))) (fun w' hS => sub_st w' hS)
      · rw [hN, decide_eq_false he]
        focus (refine S_false rfl rfl ?_; refine S_skip rfl ?_)
        exact hJ2 () _ _ trivial (Sub.cons rfl (Sub.cons rfl (Sub.cons rfl (Sub.cons rfl (Sub.cons rfl Sub.nil))))) (fun w' hS => sub_st w' hS)
    focus (refine S_seq rfl ?_; refine S_region rfl rfl ?_; refine R_p rfl ?_ rfl rfl; refine R_nil ?_; refine S_seq rfl ?_; refine S_seq rfl ?_; refine S_region rfl rfl ?_; refine R_p rfl ?_ rfl rfl; (refine R_eff (E_rangeF (kt := 59) (kv := kyv) (b := g) (f := cntK Wz) rfl rfl rfl) ?_ rfl rfl; rintro _ _ ⟨r, es, clock, rfl, hT, rfl⟩); refine R_nil ?_; refine S_block rfl ?_)
    obtain ⟨st1, st2, st3⟩ := (MapKept.stamped_iff es clock).1 hT.st
    have hsum := tal_sum hT
    have hnn := tal_nn hT
    refine S_loop (X := Array Nat) (fun x => [(3, .pointer (some ⟨b3, 0, none⟩)), (4, .map (some g)), (19, .slice SA k sc), (20, .int .i64 (k : Int)), (21, .int .i64 (j : Int)), (195, .pointer (some ⟨r, 0, none⟩)), (13, .int .i64 (seenSum es.toList x))]) (fun x => [itM r g clock x, mpE g es clock, pt b3 25 (ntc Az nz cz Bz mz dz), row 30 3 Az nz cz (cellsL pkc Pz.1), dtB 5 (Pz.1.map pkd), row 73 2 Bz mz dz (cellsL ctc Cz)]) (fun _ => True) (fun x => (leftOf es x).size) rfl #[] trivial (by rw [seenSum_none]; exact (Sub.cons rfl (Sub.cons rfl (Sub.cons rfl (Sub.cons rfl (Sub.cons rfl (Sub.cons rfl (Sub.cons rfl Sub.nil)))))))) sub_st ?_
    intro seen _ J3 hJ3
    obtain ⟨hs0, hs1⟩ := seen_bd seen es.toList hnn
    rw [hsum, hWn] at hs1
    have hbd : ∀ z, 0 ≤ seenSum es.toList z ∧ seenSum es.toList z ≤ (nz : Int) := fun z => by have h9 := seen_bd z es.toList hnn; rw [hsum, hWn] at h9; exact h9
    have hb0 := hbd seen
    have hvv : ∀ e ∈ es.toList, ∃ v, e.val = .int .i64 v := fun e he => by obtain ⟨ky, hky, _⟩ := hT.keys e he; exact ⟨_, hT.vals e he ky hky⟩
    focus (refine S_seq rfl ?_; refine S_region rfl rfl ?_; (refine R_eff (E_nextT (b := g) (r := r) (clock := clock) (es := es) (seen := seen) (N := nz) rfl st2 st1 hvv (by rw [hsum, hWn]) (by simp)) ?_ rfl rfl; rintro _ _ (⟨hse, rfl, rfl⟩ | ⟨key, v, born, hmm, hls, hps, rfl, rfl⟩); rotate_left; have hb1 := hbd (seen.push born); rotate_left); refine R_p rfl ?_ rfl rfl; refine R_nil ?_; refine S_seq rfl ?_; refine S_false rfl rfl ?_; refine S_exit rfl rfl ?_; refine S_seq rfl ?_; refine S_region rfl rfl ?_; refine R_take (T_loads (ds := ntc Az nz cz Bz mz dz) rfl rfl rfl rfl rfl) ?_ rfl rfl; (refine R_eff (E_hv0 (f := 22) ⟨_, Try.func22, rfl, by kernel_rfl⟩ (fun w hS => check_k w Az cz nz Pz.1 Wz ((pk_len Pz.2.1).trans hWn) Pz.2.1 ((Srd.row (A := Az) (n := nz) (c := cz)).rd w hS) Bz dz mz Cz hk2 ((Srd.row (A := Bz) (n := mz) (c := dz)).rd w hS) (by omega) (by omega) 0 (by rw [hch]; rfl)) rfl rfl (fun _ => rfl)) ?_ rfl rfl; rintro _ _ ⟨_, rfl, _, rfl⟩); refine R_take (T_decF rfl (by omega)) ?_ rfl rfl; refine R_p rfl ?_ rfl rfl; refine R_p rfl ?_ rfl rfl; refine R_p rfl ?_ rfl rfl; refine R_take (T_load rfl rfl rfl rfl) ?_ rfl rfl; refine R_p rfl ?_ rfl rfl; refine R_take (T_decF rfl (by omega)) ?_ rfl rfl; refine R_p rfl ?_ rfl rfl; refine R_nil ?_; refine S_false rfl rfl ?_; refine S_skip rfl ?_; refine RS_blk ?_; refine S_region rfl rfl ?_; refine R_take (T_addN rfl rfl (by unfold fits; omega)) ?_ rfl rfl; refine R_p rfl ?_ rfl rfl; refine R_nil ?_; rotate_left; refine R_p rfl ?_ rfl rfl; refine R_nil ?_; refine S_seq rfl ?_; refine S_true rfl rfl ?_; refine S_skip rfl ?_; refine S_block rfl ?_; refine S_seq rfl ?_; refine S_region rfl rfl ?_; refine R_take (T_entryT (b := g) (r := r) (clock := clock) (es := es) (seen := seen) (key := key) (v := v) (born := born) rfl hmm st2 (by simp)) ?_ rfl rfl; refine R_p rfl ?_ rfl rfl; refine R_p rfl ?_ rfl rfl; refine R_nil ?_; refine S_region rfl rfl ?_; refine R_p rfl ?_ rfl rfl; refine R_p rfl ?_ rfl rfl; refine R_take (T_sum (op := .add) (z := seenSum es.toList seen + v) rfl rfl rfl (by rw [← hps]; unfold fits; omega)) ?_ rfl rfl; refine R_p rfl ?_ rfl rfl; refine R_nil ?_; refine RS_blk ?_; rotate_left)
    · exact hJ (j + 1, ⟨Az, nz, cz, Wz, Pz, Bz, mz, dz, Cz⟩) _ _ ⟨by show j + 1 ≤ k; omega, by show j + 1 ≤ 100; omega, hok⟩ (Sub.cons rfl (Sub.cons rfl (Sub.cons rfl (Sub.cons rfl (Sub.cons rfl Sub.nil))))) (telF_st (P := Try.prog) (kt := 59) (kv := kyv) g es clock (cntK Wz) hT (C := [pt b3 25 (ntc Az nz cz Bz mz dz), row 30 3 Az nz cz (cellsL pkc Pz.1), dtB 5 (Pz.1.map pkd), row 73 2 Bz mz dz (cellsL ctc Cz), mpF Try.prog 59 kyv g (cntK Wz) none])) (by show k - (j + 1) < k - j; omega)
    · exact hJ3 (seen.push born) _ _ trivial (by rw [hps]; exact (Sub.cons rfl (Sub.cons rfl (Sub.cons rfl (Sub.cons rfl (Sub.cons rfl (Sub.cons rfl (Sub.cons rfl Sub.nil)))))))) (fun w' hS => sub_st w' hS) hls
  focus (refine S_seq rfl ?_; refine S_region rfl rfl ?_; refine R_take (T_decF rfl (by omega)) ?_ rfl rfl; refine R_nil ?_; refine S_seq rfl ?_; refine S_false rfl rfl ?_; refine S_exit rfl rfl ?_; refine S_seq rfl ?_; refine S_region rfl rfl ?_; refine R_p rfl ?_ rfl rfl; refine R_nil ?_)
  exact hB _ _ _ _ _ rfl rfl fun w' hS => ⟨(), rfl, trivial, hS.sublist (List.nil_sublist _)⟩
section
variable {H : Type} {enc : TypeId × Value → H} {W : World}
set_option maxRecDepth 100000 in
theorem op_act {cs : List Value} (h : Op_ enc Try.prog W 57 cs) : ∃ s : Ac, cs = acc s ∧ True := by
  obtain ⟨hl, hf⟩ := h.struct Try.underlying57
  have c0 : Try.prog.cellsOf 57 = 4 := by kernel_rfl
  have c2 : Try.prog.cellsOf 3 = 1 := by kernel_rfl
  have c3 : Try.prog.cellsOf 5 = 1 := by kernel_rfl
  rw [c0] at hl
  have g0 : Op_ enc Try.prog W 3 ((cs.drop 0).take (Try.prog.cellsOf 3)) := hf 0 _ rfl
  have g1 : Op_ enc Try.prog W 3 ((cs.drop 1).take (Try.prog.cellsOf 3)) := hf 1 _ rfl
  have g2 : Op_ enc Try.prog W 3 ((cs.drop 2).take (Try.prog.cellsOf 3)) := hf 2 _ rfl
  have g3 : Op_ enc Try.prog W 5 ((cs.drop 3).take (Try.prog.cellsOf 5)) := hf 3 _ rfl
  rw [c2] at g0 g1 g2
  rw [c3] at g3
  obtain ⟨a0, e0, _⟩ := Op_.int Try.underlying3 g0
  obtain ⟨a1, e1, _⟩ := Op_.int Try.underlying3 g1
  obtain ⟨a2, e2, _⟩ := Op_.int Try.underlying3 g2
  obtain ⟨a3, e3, h3⟩ := Op_.int Try.underlying5 g3
  match cs, hl with
  | [u, v, x, y], _ =>
    simp at e0 e1 e2 e3
    have h4 := wf_u8 h3
    have h5 : Value.int .u8 a3 = bv (UInt8.ofNat a3.toNat) := by simp [bv]; omega
    exact ⟨(a0, a1, a2, UInt8.ofNat a3.toNat), by rw [e0, e1, e2, e3, h5]; rfl, trivial⟩
end
set_option maxRecDepth 100000 in
theorem NetBrings_open {H : Type} {enc : TypeId × Value → H} (W : World) {r : Reach} (base : Nat) (v0 : Value) {d0 : DataW H} {p0 : List MemPlace}
    (hv0 : Value.okWide Try.prog W r base 54 v0)
    (h0 : DataW.Trod enc Try.prog W 0 (fun _ => true) true 54 v0 d0 p0) :
    Calls Try.prog 6 #[v0] W fun e w' => e = .returned (.bool true) ∧ Kp All W w' := by
  obtain ⟨a0, len0, cap0, rfl⟩ := okWide_slice Try.underlying54 hv0
  obtain ⟨A, n, c, xs, hcs, h1, h2, h3, h4⟩ := (Op_.of_trod h0).slice Try.underlying54 (size := 4) (by kernel_rfl)
  obtain ⟨S, hS, rfl, hall⟩ := rows_of (n := 0) (size := 4) (f := acc) acc_len (fun _ : Ac => True) _ _ h3.1 fun i hi => op_act (h4 i hi)
  have hcs : [Value.slice a0 len0 cap0] = [.slice A n c] := hcs
  injection hcs with hcs _
  rw [hcs]
  exact (brings_any W A c n S hS h3 (by omega)).pure12
end Go.Proofs.Ytclmaoagdkhboaa
