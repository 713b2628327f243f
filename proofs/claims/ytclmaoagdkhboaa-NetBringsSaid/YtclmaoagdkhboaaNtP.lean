/- Nets: plain laws of a tally of packets. -/
import Derived.Test.YtclmaoagdkhboaaNtO
import Derived.Test.YtclmaoagdkhboaaRkM
namespace Go.Proofs.Ytclmaoagdkhboaa
open Go.RowKit Go.ChangeShapes Go.WideShapes Go.ChangeAt
open Asn (pt row rb)
set_option linter.unusedVariables false
set_option linter.unusedSimpArgs false
--@use N

/-- from whom, to whom, which byte -/
abbrev Ky := Int × Int × UInt8
def kyv (k : Ky) : Value := .agg #[.int .i64 k.1, .int .i64 k.2.1, bv k.2.2]
def kyp (p : Pn) : Ky := (p.1, p.2.1, p.2.2.headD 0)
/-- how many packets say that -/
def cntK (W : List Pn) (k : Ky) : Int := ((W.map kyp).count k : Nat)
theorem kyv_inj : ∀ a b : Ky, kyv a = kyv b → a = b := fun a b h => by
  obtain ⟨a1, a2, a3⟩ := a
  obtain ⟨b1, b2, b3⟩ := b
  unfold kyv bv at h
  simp only [Value.agg.injEq, Array.mk.injEq, List.cons.injEq, Value.int.injEq, true_and, and_true] at h
  obtain ⟨h1, h2, h3⟩ := h
  have h4 : a3 = b3 := UInt8.toNat_inj.1 (by omega)
  rw [h1, h2, h4]
theorem cntK_nil : cntK [] = fun _ => 0 := rfl
theorem cntK_add (W : List Pn) (p : Pn) : (fun r => if r = kyp p then cntK W (kyp p) + 1 else cntK W r) = cntK (W ++ [p]) := by
  funext r
  unfold cntK
  rw [List.map_append, List.count_append, List.map_singleton, List.count_singleton]
  by_cases h : r = kyp p
  · rw [if_pos h, h]
    simp
  · rw [if_neg h]
    have : ¬ kyp p = r := fun e => h e.symm
    simp [this]
theorem cntK_del (W : List Pn) (q : Nat) (hq : q < W.length) : (fun r => if r = kyp (W.getD q default) then cntK W (kyp (W.getD q default)) - 1 else cntK W r) = cntK (del W q) := by
  have hW : W = W.take q ++ W.getD q default :: W.drop (q + 1) := by
    have e : W.getD q default = W[q] := by simp [List.getD, hq]
    rw [e, ← List.drop_eq_getElem_cons hq, List.take_append_drop]
  funext r
  unfold cntK del
  generalize W.getD q default = p at *
  generalize hA : W.take q = A at *
  generalize hB : W.drop (q + 1) = B at *
  rw [hW, List.map_append, List.map_append, List.count_append, List.count_append, List.count_append, List.map_cons, List.count_cons, List.count_cons]
  by_cases h : r = kyp p
  · rw [if_pos h, h]
    simp
    omega
  · rw [if_neg h]
    have : ¬ kyp p = r := fun e => h e.symm
    simp [this]
theorem cntK_pos {W : List Pn} {p : Pn} (h : p ∈ W) : 1 ≤ cntK W (kyp p) := by
  unfold cntK
  have := List.count_pos_iff.2 (List.mem_map.2 ⟨p, h, rfl⟩ : kyp p ∈ W.map kyp)
  omega
theorem one_sum {κ : Type} [DecidableEq κ] (x : κ) : ∀ ks : List κ, ks.Nodup → x ∈ ks → (ks.map fun k => if x = k then (1 : Int) else 0).sum = 1 := by
  intro ks
  induction ks with
  | nil => intro _ h; exact absurd h (by simp)
  | cons k ks ih =>
    intro hn hx
    rw [List.nodup_cons] at hn
    rw [List.map_cons, List.sum_cons]
    by_cases h : x = k
    · have h0 : (ks.map fun k => if x = k then (1 : Int) else 0).sum = 0 := by
        have : ∀ l : List κ, x ∉ l → (l.map fun k => if x = k then (1 : Int) else 0).sum = 0 := by
          intro l
          induction l with
          | nil => intro _; rfl
          | cons a l ih2 =>
            intro hl
            rw [List.mem_cons, not_or] at hl
            rw [List.map_cons, List.sum_cons, if_neg hl.1, ih2 hl.2]
            rfl
        exact this ks (by rw [h]; exact hn.1)
      rw [if_pos h, h0]
      rfl
    · rw [if_neg h, ih hn.2 ((List.mem_cons.1 hx).resolve_left h)]
      rfl
theorem sum_add {κ : Type} (f h : κ → Int) : ∀ ks : List κ, (ks.map fun k => f k + h k).sum = (ks.map f).sum + (ks.map h).sum := by
  intro ks
  induction ks with
  | nil => rfl
  | cons k ks ih => rw [List.map_cons, List.sum_cons, List.map_cons, List.sum_cons, List.map_cons, List.sum_cons, ih]; omega
theorem count_sum {κ : Type} [DecidableEq κ] [BEq κ] [LawfulBEq κ] (ks : List κ) (hn : ks.Nodup) : ∀ X : List κ, (∀ x ∈ X, x ∈ ks) → (ks.map fun k => ((X.count k : Nat) : Int)).sum = X.length := by
  intro X
  induction X with
  | nil =>
    intro _
    have : ∀ l : List κ, (l.map fun k => ((([] : List κ).count k : Nat) : Int)).sum = 0 := by
      intro l
      induction l with
      | nil => rfl
      | cons a l ih => rw [List.map_cons, List.sum_cons, ih]; rfl
    rw [this]
    rfl
  | cons x X ih =>
    intro h
    have e : (fun k => (((x :: X).count k : Nat) : Int)) = fun k => ((X.count k : Nat) : Int) + if x = k then (1 : Int) else 0 := by
      funext k
      rw [List.count_cons]
      by_cases hx : x = k
      · simp [hx]
      · simp [hx]
    rw [e, sum_add, ih (fun y hy => h y (List.mem_cons_of_mem _ hy)), one_sum x ks hn (h x (List.mem_cons_self ..)), List.length_cons]
    omega
theorem keys_of {P : Program} {kt : TypeId} {κ : Type} {kv : κ → Value} : ∀ l : List MapEntry, (∀ e ∈ l, ∃ k, e.key = kv k ∧ ∃ t, keyOf P kt (kv k) = some t) → ∃ ks : List κ, l.map (·.key) = ks.map kv := by
  intro l
  induction l with
  | nil => intro _; exact ⟨[], rfl⟩
  | cons e l ih =>
    intro h
    obtain ⟨k, hk, _⟩ := h e (List.mem_cons_self ..)
    obtain ⟨ks, hks⟩ := ih fun e he => h e (List.mem_cons_of_mem _ he)
    exact ⟨k :: ks, by rw [List.map_cons, List.map_cons, hk, hks]⟩
/-- the tally adds up to the packets -/
theorem tal_sum {P : Program} {kt : TypeId} {es : Array MapEntry} {clock : Nat} {W : List Pn} (hT : Tal P kt kyv es clock (cntK W)) : (es.toList.map fun e => valOf e.val).sum = W.length := by
  obtain ⟨ks, hks⟩ := keys_of es.toList hT.keys
  have hl : es.toList.length = ks.length := by have := congrArg List.length hks; simpa using this
  have hv : (es.toList.map fun e => valOf e.val) = ks.map (cntK W) := by
    refine List.ext_getElem (by simpa using hl) fun i h1 h2 => ?_
    rw [List.getElem_map, List.getElem_map]
    have hi : i < es.toList.length := by simpa using h1
    have hk : (es.toList[i]).key = kyv (ks[i]'(by omega)) := by
      have h3 : (es.toList.map (·.key))[i]? = (ks.map kyv)[i]? := by rw [hks]
      rw [List.getElem?_map, List.getElem?_map, List.getElem?_eq_getElem hi, List.getElem?_eq_getElem (by omega)] at h3
      exact Option.some.inj h3
    rw [hT.vals _ (List.getElem_mem hi) _ hk]
    rfl
  have hn : ks.Nodup := by
    obtain ⟨_, _, s3⟩ := (MapKept.stamped_iff es clock).1 hT.st
    have h1 : (es.toList.map (·.key)).Nodup := by rw [List.Nodup, List.pairwise_map]; exact s3
    rw [hks, List.Nodup, List.pairwise_map] at h1
    exact h1.imp fun h e => h (by rw [e])
  rw [hv]
  have h2 : ∀ x ∈ W.map kyp, x ∈ ks := fun x hx => by
    obtain ⟨p, hp, rfl⟩ := List.mem_map.1 hx
    apply Classical.byContradiction
    intro h3
    have h4 := hT.none (kyp p) fun e he h5 => by
      have h6 : e.key ∈ ks.map kyv := by rw [← hks]; exact List.mem_map.2 ⟨e, he, rfl⟩
      obtain ⟨k, hk, hke⟩ := List.mem_map.1 h6
      rw [h5] at hke
      rw [kyv_inj _ _ hke] at hk
      exact h3 hk
    have := cntK_pos hp
    omega
  have h3 := count_sum ks hn (W.map kyp) h2
  rw [List.length_map] at h3
  exact h3
theorem seen_bd (seen : Array Nat) : ∀ es : List MapEntry, (∀ e ∈ es, 0 ≤ valOf e.val) → 0 ≤ seenSum es seen ∧ seenSum es seen ≤ (es.map fun e => valOf e.val).sum := by
  intro es
  induction es with
  | nil => intro _; exact ⟨Int.le_refl _, Int.le_refl _⟩
  | cons e es ih =>
    intro h
    obtain ⟨h1, h2⟩ := ih fun x hx => h x (List.mem_cons_of_mem _ hx)
    have h3 := h e (List.mem_cons_self ..)
    rw [List.map_cons, List.sum_cons]
    unfold seenSum
    split <;> omega
theorem tal_nn {P : Program} {kt : TypeId} {es : Array MapEntry} {clock : Nat} {W : List Pn} (hT : Tal P kt kyv es clock (cntK W)) : ∀ e ∈ es.toList, 0 ≤ valOf e.val := fun e he => by
  obtain ⟨k, hk, _⟩ := hT.keys e he
  rw [hT.vals e he k hk]
  show (0 : Int) ≤ cntK W k
  unfold cntK
  omega
theorem key_law : WideMaps.KeyLaw Try.prog 59 := deep_law (m := 2) (by omega) (by kernel_rfl) (by kernel_rfl) (by kernel_rfl)
theorem wf_i64 {a : Int} (h : 1 ≤ a ∧ a ≤ 8) : (Lit.int .i64 a).wf = true := by
  obtain ⟨n, rfl⟩ : ∃ n : Nat, a = (n : Int) := ⟨a.toNat, by omega⟩
  have h2 : n ∈ List.range 9 := List.mem_range.2 (by omega)
  exact (by decide +kernel : ∀ n ∈ List.range 9, (Lit.int .i64 ((n : Nat) : Int)).wf = true) n h2
theorem wfK_u8 (b : UInt8) : (Lit.int .u8 (b.toNat : Int)).wf = true :=
  (by decide +kernel : ∀ n ∈ List.range 256, (Lit.int .u8 ((n : Nat) : Int)).wf = true) b.toNat (List.mem_range.2 (UInt8.toNat_lt b))
theorem lits_i64 {d : Nat} {a : Int} (h : (Lit.int .i64 a).wf = true) : Try.prog.keyLits (d + 1) 3 [.int .i64 a] = some [.int .i64 a] := by
  simp [Program.keyLits, Try.underlying3, h]
theorem lits_u8 {d : Nat} {a : Int} (h : (Lit.int .u8 a).wf = true) : Try.prog.keyLits (d + 1) 5 [.int .u8 a] = some [.int .u8 a] := by
  simp [Program.keyLits, Try.underlying5, h]
set_option maxRecDepth 100000 in
theorem key_of {k : Ky} (h1 : 1 ≤ k.1 ∧ k.1 ≤ 8) (h2 : 1 ≤ k.2.1 ∧ k.2.1 ≤ 8) : ∃ l, keyOf Try.prog 59 (kyv k) = some l := by
  obtain ⟨a, b, c⟩ := k
  have hu := Try.underlying59
  have c0 : Try.prog.cellsOf 59 = 3 := by kernel_rfl
  have c1 : Try.prog.cellsOf 3 = 1 := by kernel_rfl
  have c2 : Try.prog.cellsOf 5 = 1 := by kernel_rfl
  obtain ⟨d, hd⟩ : ∃ d, Try.prog.types.size = d + 1 := ⟨Try.prog.types.size - 1, by have := of_decide_eq_true (by kernel_rfl : decide (0 < Try.prog.types.size) = true); omega⟩
  have hk : Try.prog.keyType 59 = true := by kernel_rfl
  have hf : (kyv (a, b, c)).formed Try.prog 59 = true := by simp [kyv, Value.formed, hu, c0]
  have hl : Try.prog.keyLits (Try.prog.types.size + 1) 59 (kyv (a, b, c)).cells.toList = some [.int .i64 a, .int .i64 b, .int .u8 (c.toNat : Int)] := by
    rw [hd]
    have e1 := lits_i64 (d := d) (wf_i64 h1)
    have e2 := lits_i64 (d := d) (wf_i64 h2)
    have e3 := lits_u8 (d := d) (wfK_u8 c)
    simp only at e1 e2
    unfold Program.keyLits
    simp [hu, kyv, bv, Value.cells, c0, c1, c2, e1, e2, e3]
  refine ⟨.string (keyBytes [.int .i64 a, .int .i64 b, .int .u8 (c.toNat : Int)]), ?_⟩
  unfold keyOf
  rw [hu]
  simp only [hk, hf, Bool.and_self, if_true, hl, Option.map_some]
end Go.Proofs.Ytclmaoagdkhboaa
