/- The calculus: operations that only reckon, by one function. -/
import Derived.Test.YtdbehejbeioboaaDoorRk5
namespace Go.Proofs.YtdbehejbeioboaaDoor
open Go.RowKit
open Asn (pt row rb)
set_option linter.unusedVariables false
set_option linter.unusedSimpArgs false

def ikB : IntKind → IntKind → Bool
  | .i8, .i8 => true
  | .i16, .i16 => true
  | .i32, .i32 => true
  | .i64, .i64 => true
  | .u8, .u8 => true
  | .u16, .u16 => true
  | .u32, .u32 => true
  | .u64, .u64 => true
  | _, _ => false
theorem ikB_eq {a b : IntKind} (h : ikB a b = true) : a = b := by cases a <;> cases b <;> first | rfl | cases h
def cmpv : BinOp → Int → Int → Option Value
  | .eql, i, j => some (.bool (decide (i = j)))
  | .neq, i, j => some (.bool (decide (¬ i = j)))
  | .lss, i, j => some (.bool (decide (i < j)))
  | .leq, i, j => some (.bool (decide (i ≤ j)))
  | .gtr, i, j => some (.bool (decide (j < i)))
  | .geq, i, j => some (.bool (decide (j ≤ i)))
  | _, _, _ => none
def scmpv (op : BinOp) (x y : List UInt8) : Option Value :=
  match scmp op x y with
  | some b => some (.bool b)
  | none => none
def binv : BinOp → Option Value → Option Value → Option Value
  | op, some (.int k i), some (.int k' j) => bif ikB k k' then cmpv op i j else none
  | op, some (.string r), some (.string s) => scmpv op (bl r) (bl s)
  | _, _, _ => none
def pickv : Option Value → Option Value → Option Value → Option Value
  | some (.bool true), x, _ => x
  | some (.bool false), _, y => y
  | _, _, _ => none
def extv : Option Value → Nat → Option Value
  | some (.tuple vs), j => nth vs.toList j
  | _, _ => none
def lenv : Option Ti → Option Value → Option Value
  | some ⟨.slice _, _, _, _, _⟩, some (.slice _ m _) => some (.int .i64 (m : Int))
  | some ⟨.string, _, _, _, _⟩, some (.string r) => some (.int .i64 (r.size : Int))
  | _, _ => none
def fav (P : Program) [HasTab P] : Option Ti → Option Value → Nat → Option Value
  | some i, some (.pointer (some ⟨gb, off, none⟩)), j =>
    match nth i.fs j with
    | some (o, ft) =>
      match ty P ft with
      | some fi => bif Nat.beq fi.size 0 then none else some (.pointer (some ⟨gb, off + o, none⟩))
      | none => none
    | none => none
  | _, _, _ => none
def callv (P : Program) [HasTab P] (T : Slots) : Call → Option Value
  | ⟨.builtin .len, ⟨[x]⟩, ⟨[s]⟩⟩ => lenv (ty P s) (oget T x)
  | _ => none
def pev (P : Program) [HasTab P] (T : Slots) : Op → Option Value
  | .move x => oget T x
  | .assign x => oget T x
  | .pick c a b => pickv (oget T c) (oget T a) (oget T b)
  | .binOp op _ x y _ => binv op (oget T x) (oget T y)
  | .extract x j => extv (oget T x) j
  | .fieldAddr s x j => fav P (ty P s) (oget T x) j
  | .call c => callv P T c
  | _ => none
section
variable {P : Program} [HasTab P] {ro : Option Nat} {ds : List Deferred} {B : Bk ro ds} {n : Nat} {w0 : World} {M : Nat → Prop} {k : List It} {T : Slots} {H : List Asn} {dd : Option Tmp} {d : Tmp} {tt : TypeId} {pos : String} {af : Array Edge} {g : Option (Nat × Bool)} {l σ : List Oper}
theorem pev_ok {o : Op} {v : Value} (h : pev P T o = some v) : Tk P n w0 M T H ⟨dd, o, tt, pos, af, g⟩ v := by
  cases o <;> simp only [pev] at h <;> try (cases h; done)
  case move x => exact T_move h
  case assign x => exact T_assign h
  case pick c a b =>
    unfold pickv at h
    split at h
    · exact T_pick1 (by assumption) h
    · exact T_pick0 (by assumption) h
    · cases h
  case binOp op t x y u =>
    cases op <;> unfold binv at h <;> split at h <;> try (cases h; done)
    all_goals first
      | (rename_i hx hy
         unfold scmpv at h
         split at h
         · injection h with h
           subst h
           exact T_scmp (by assumption) (by assumption) (by assumption)
         · cases h
         done)
      | (rename_i k i k' j hx hy
         cases hk : ikB k k' with
         | false => rw [hk] at h; cases h
         | true =>
           rw [hk] at h
           obtain rfl := ikB_eq hk
           simp only [cmpv, cond_true] at h
           first
             | (cases h; done)
             | (injection h with h; subst h; first | exact T_eq (by assumption) (by assumption) | exact T_ne (by assumption) (by assumption) | exact T_lt (by assumption) (by assumption) | exact T_le (by assumption) (by assumption) | exact T_gt (by assumption) (by assumption) | exact T_ge (by assumption) (by assumption)))
  case extract x j =>
    unfold extv at h
    split at h
    · exact T_extract (by assumption) (by rw [nth_eq] at h; simpa using h)
    · cases h
  case fieldAddr s x j =>
    unfold fav at h
    split at h
    · rename_i i gb off hs hx
      split at h
      · rename_i o ft hf
        split at h
        · rename_i fi hft
          cases hz : Nat.beq fi.size 0 with
          | true => rw [hz] at h; cases h
          | false =>
            rw [hz] at h
            injection h with h
            subst h
            exact T_fa hx hs hf hft hz
        · cases h
      · cases h
    · cases h
  case call c =>
    unfold callv at h
    split at h
    · rename_i x s
      unfold lenv at h
      split at h
      · injection h with h
        subst h
        exact T_len_slice (by assumption) (by assumption) rfl
      · injection h with h
        subst h
        exact T_len_string (by assumption) (by assumption) rfl
      · cases h
    · cases h
theorem R_p {op : Op} {v : Value} (hr : pev P T op = some v) (h : RG P B n w0 M l k σ ((d, v) :: T) H)
    (hw : wants l T g = some true) (hd : dok n (some d) = true) : RG P B n w0 M l k (⟨some d, op, tt, pos, af, g⟩ :: σ) T H := R_take (pev_ok hr) h hw hd
end
/-! code, told by where it stands: so that no goal bears it written out -/
def cbody (fn : Func) : Code :=
  match fn.body with
  | some c => c
  | none => .skip
def c1 : Code → Code
  | .seq a _ => a
  | .cond _ a _ => a
  | .block _ b => b
  | .loop b => b
  | .scope b => b
  | .rangeFunc _ _ a _ => a
  | c => c
def c2 : Code → Code
  | .seq _ b => b
  | .cond _ _ b => b
  | .rangeFunc _ _ _ b => b
  | c => c
inductive Kind where
  | seq | cond (c : Operand) | block (id : Nat) | loop | scope | region (d : Bool) | exit (id : Nat) | ret | skip | label | range (g : Operand) (ps : Array Tmp) | other
def kind : Code → Kind
  | .seq _ _ => .seq
  | .cond c _ _ => .cond c
  | .block id _ => .block id
  | .loop _ => .loop
  | .scope _ => .scope
  | .region _ _ d => .region d
  | .exit id => .exit id
  | .ret => .ret
  | .skip => .skip
  | .label _ => .label
  | .rangeFunc g ps _ _ => .range g ps
  | _ => .other
def regL : Code → List Oper
  | .region _ ⟨l⟩ _ => l
  | _ => []
section
variable {P : Program} {ro : Option Nat} {ds : List Deferred} {B : Bk ro ds} {n : Nat} {w0 : World} {M : Nat → Prop} {k : List It} {T : Slots} {H : List Asn} {c : Code}
theorem S_seq (hk : kind c = .seq) (h : RS P B n w0 M (.code (c1 c) :: .code (c2 c) :: k) T H) : RS P B n w0 M (.code c :: k) T H := by
  cases c <;> first | (cases hk; done) | exact RS_seq h
theorem S_block {id : Nat} (hk : kind c = .block id) (h : RS P B n w0 M (.code (c1 c) :: .blk id :: k) T H) : RS P B n w0 M (.code c :: k) T H := by
  cases c <;> first | (cases hk; done) | (injection hk with hk; subst hk; exact RS_block h)
theorem S_skip (hk : kind c = .skip) (h : RS P B n w0 M k T H) : RS P B n w0 M (.code c :: k) T H := by
  cases c <;> first | (cases hk; done) | exact RS_skip h
theorem S_exit {id : Nat} {k' : List It} (hk : kind c = .exit id) (hp : popTo id k = some k') (h : RS P B n w0 M k' T H) : RS P B n w0 M (.code c :: k) T H := by
  cases c <;> first | (cases hk; done) | (injection hk with hk; subst hk; exact RS_exit hp h)
theorem S_true {x : Operand} (hk : kind c = .cond x) (hc : oget T x = some (.bool true)) (h : RS P B n w0 M (.code (c1 c) :: k) T H) : RS P B n w0 M (.code c :: k) T H := by
  cases c <;> first | (cases hk; done) | (injection hk with hk; subst hk; exact RS_true hc h)
theorem S_false {x : Operand} (hk : kind c = .cond x) (hc : oget T x = some (.bool false)) (h : RS P B n w0 M (.code (c2 c) :: k) T H) : RS P B n w0 M (.code c :: k) T H := by
  cases c <;> first | (cases hk; done) | (injection hk with hk; subst hk; exact RS_false hc h)
theorem S_if {x : Operand} {p : Prop} {i : Decidable p} (hk : kind c = .cond x) (hc : oget T x = some (.bool (@decide p i))) (h1 : p → RS P B n w0 M (.code (c1 c) :: k) T H) (h2 : ¬ p → RS P B n w0 M (.code (c2 c) :: k) T H) : RS P B n w0 M (.code c :: k) T H := by
  cases c <;> first | (cases hk; done) | (injection hk with hk; subst hk; exact RS_if hc h1 h2)
theorem S_region {l : List Oper} (hk : kind c = .region false) (hl : regL c = l) (h : RG P B n w0 M (regL c) k l T H) : RS P B n w0 M (.code c :: k) T H := by
  subst hl
  cases c <;> first | (cases hk; done) | (rename_i id ops d; injection hk with hk; subst hk; cases ops; exact RS_region h)
theorem S_draw {B : Bk none ds} (C : List Asn) {m : Nat} (hC : ∀ w, St w0 M H w → St w0 M C w) (hm : P.follows .mixedOrders = true) (hk : kind c = .region true) (hsel : Region.noSelect (regL c).toArray = true) (hn : (regL c).length = m) (h : RD P B n w0 M (regL c) k (Array.replicate m false) C T H) : RS P B n w0 M (.code c :: k) T H := by
  subst hn
  cases c <;> first | (cases hk; done) | (rename_i id ops d; injection hk with hk; subst hk; cases ops; exact RS_draw C hC hm hsel (.inl rfl) h)
theorem S_ret {rs : List ResultVar} {R : Ending → World → Prop} {vs : List Value} (hB : Ends P B n w0 M rs R) (hk : kind c = .ret) (hr : rets rs T = some vs) (h : ∀ w, St w0 M H w → R (.returned (retv vs)) w) : RS P B n w0 M (.code c :: k) T H := by
  cases c <;> first | (cases hk; done) | exact RS_ret hB hr h
/-- where ways meet -/
theorem S_cut {X : Type} (T' : X → Slots) (H' : X → List Asn) (I : X → Prop)
    (h1 : ∀ J, (∀ y T1 H1, I y → Sub (T' y) T1 → (∀ w, St w0 M H1 w → St w0 M (H' y) w) → RS P B n w0 M (.back J :: k) T1 H1) → RS P B n w0 M (.code c :: .back J :: k) T H)
    (h2 : ∀ y, I y → RS P B n w0 M k (T' y) (H' y)) : RS P B n w0 M (.code c :: k) T H := RS_cut T' H' I h1 h2
theorem S_loop {X : Type} (T' : X → Slots) (H' : X → List Asn) (I : X → Prop) (μ : X → Nat) (hk : kind c = .loop)
    (x0 : X) (h0 : I x0) (hT : Sub (T' x0) T) (hH : ∀ w, St w0 M H w → St w0 M (H' x0) w)
    (round : ∀ x, I x → ∀ J, (∀ y T1 H1, I y → Sub (T' y) T1 → (∀ w, St w0 M H1 w → St w0 M (H' y) w) → μ y < μ x → RS P B n w0 M (.back J :: k) T1 H1) → RS P B n w0 M (.code (c1 c) :: .back J :: k) (T' x) (H' x)) :
    RS P B n w0 M (.code c :: k) T H := by
  cases c <;> first | (cases hk; done) | exact RS_loop T' H' I μ x0 h0 hT hH round
end
/-- a function that reads and makes, opened: hB is its end -/
theorem gives_S {P : Program} {f : FuncId} {fn : Func} {vs : List Value} {rs : List ResultVar} {w : World} {n : Nat} {As : List Asn} {X : Type} {V : X → Value} {I : X → Prop} {A : X → List Asn} (hf : P.funcs[f]? = some fn) (hb : fn.body.isSome = true) (hn : fn.ntmps = n) (hr : fn.results = rs.toArray)
    (hv : vs.length ≤ n) (hS : St w (owns As) As w) (h : ∀ B : Bk none [], (∀ (c : Code) (k : List It) (T : Slots) (H : List Asn) (us : List Value), kind c = .ret → rets rs T = some us → (∀ w', St w (owns As) H w' → ∃ x, retv us = V x ∧ I x ∧ St w (owns As) (A x) w') → RS P B n w (owns As) (.code c :: k) T H) → RS P B n w (owns As) [.code (cbody fn)] (targs 0 vs) As) :
    Gives P f vs As w V I A := by
  obtain ⟨c, hc⟩ := Option.isSome_iff_exists.1 hb
  refine calls_RS hf hc hn hr hv hS fun B hB => ?_
  have h2 := h B fun c k T H us hk hus hw' => S_ret hB hk hus fun w' hS' => by
    obtain ⟨x, hx, hI, hA⟩ := hw' w' hS'
    exact ⟨x, by rw [hx], hI, hA⟩
  have e : cbody fn = c := by unfold cbody; rw [hc]
  rwa [e] at h2
end Go.Proofs.YtdbehejbeioboaaDoor
