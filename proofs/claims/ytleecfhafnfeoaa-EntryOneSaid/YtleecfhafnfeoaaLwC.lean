/- The document and the layer, called in the calculus. -/
import Derived.Test.YtleecfhafnfeoaaRdW
import Derived.Test.YtleecfhafnfeoaaDeL
import Derived.Test.YtleecfhafnfeoaaBy
import Derived.Test.YtleecfhafnfeoaaEnc2
import Derived.Test.YtleecfhafnfeoaaCmd2
namespace Go.Proofs.Ytleecfhafnfeoaa
open Go.RowKit
open Asn (pt row rb)
set_option linter.unusedVariables false
set_option linter.unusedSimpArgs false

theorem right_small {k c : Int} {s : Nat} {br old new : List UInt8} {n : Nat} (h : rightB k c s br old new n = true) : br.length ≤ 24 ∧ n ≤ 800 := by
  simp only [rightB, restB, Bool.and_eq_true] at h
  obtain ⟨_, h⟩ := h
  split at h
  · simp at h
    obtain ⟨⟨rfl, _⟩, h⟩ := h
    exact ⟨by simp, h⟩
  · simp [nameB] at h
    omega
/-- what Encode hands back -/
def encR (k c : Int) (s : Nat) (br old new d : List UInt8) (n : Nat) : List UInt8 := if rightB k c s br old new n then encB k c s br old new d else []
section
variable {n : Nat} {w0 : World} {M : Nat → Prop} {T : Slots} {H Hr : List Asn} {dd : Option Tmp} {tt : TypeId} {pos : String} {af : Array Edge} {g : Option (Nat × Bool)} {x y : Operand} {ts : Array TypeId}
variable {k c : Int} {s : Nat} {br : ByteArray} {old new d : List UInt8} {A : Option Addr} {m cp : Nat}
theorem E_enc (hx : oget T x = some (.agg (cmdL k c s br old new A m cp).toArray)) (lo : old.length = 32) (ln : new.length = 32) (hb : br.size ≤ maxLen) (hd : Src w0 M H A m cp d) (hm : m ≤ maxLen) (hs : s < 4294967296) :
    Ef Try.prog n w0 M T H ⟨dd, .call ⟨.value (.func 9), #[x], ts⟩, tt, pos, af, g⟩ (fun u H' => ∃ A' n' c', n' = (encR k c s (bl br) old new d m).length ∧ (0 < n' → A' ≠ none) ∧ u = .tuple #[.slice A' n' c', .int .i64 (if rightB k c s (bl br) old new m then 0 else 210)] ∧ H' = row 5 1 A' n' c' ((encR k c s (bl br) old new d m).map bv) :: H) := .mk fun a w ha hS => by
  unfold Oper.wp
  rw [call_run (f := 9) ⟨_, Try.func9, rfl, by kernel_rfl⟩ (vs := [.agg (cmdL k c s br old new A m cp).toArray]) (by simp [ogets, hx]) ha w]
  have hcd := cmd_cd (k := k) (c := c) (s := s) (A := A) (n := m) (cp := cp) lo ln hb hm
  by_cases hR : rightB k c s (bl br) old new m = true
  · refine (enc_any w _ k c s br old new d A m cp All hcd (hd.bs w hS) hs hR).mono fun e w' ⟨A', n', c', he, ho, hk⟩ => ?_
    subst he
    have hn : n' = (encB k c s (bl br) old new d).length := ho.bs.len
    simp only [encR, hR, if_true]
    exact ⟨_, _, ⟨A', n', c', hn, fun h => (by obtain ⟨ad, e, _⟩ := ho.bs.rd.2 h; rw [e]; simp), rfl, rfl⟩, rfl, hS.add hk (own_base ho (Nat.zero_le _)) (own_block ho)⟩
  · rw [Bool.not_eq_true] at hR
    refine (enc_no w _ k c s br old new A m cp hcd hR).mono fun e w' ⟨he, hk⟩ => ?_
    subst he
    simp only [encR, hR, Bool.false_eq_true, if_false]
    exact ⟨_, _, ⟨none, 0, 0, rfl, fun h => absurd h (Nat.lt_irrefl _), rfl, rfl⟩, rfl, (hS.step hk).nilrow _ _⟩
theorem E_bytes (hx : oget T x = some (.agg (cmdL k c s br old new A m cp).toArray)) (lo : old.length = 32) (ln : new.length = 32) (hd : Src w0 M H A m cp d) (hs : s < 4294967296) (hR : rightB k c s (bl br) old new m = true) :
    Ef Try.prog n w0 M T H ⟨dd, .call ⟨.value (.func 13), #[x], ts⟩, tt, pos, af, g⟩ (fun u H' => ∃ A' n' c', n' = (encB k c s (bl br) old new d).length ∧ u = .slice A' n' c' ∧ H' = row 5 1 A' n' c' ((encB k c s (bl br) old new d).map bv) :: H) := by
  have hq := right_small hR
  have hz : br.size = (bl br).length := by simp [bl]
  refine (E_gv ⟨_, Try.func13, rfl, by kernel_rfl⟩ (vs := [.agg (cmdL k c s br old new A m cp).toArray]) (by simp [ogets, hx]) fun w hS => ref_bytes w k c s br old new d A m cp lo ln (by omega) (by omega) All (hd.bs w hS) hs).mono ?_
  rintro v H' ⟨⟨A', n', c'⟩, rfl, hn, rfl⟩ w hS
  exact ⟨_, _, rfl, ⟨A', n', c', hn, rfl, rfl⟩, hS⟩
variable {k2 c2 : Int} {s2 : Nat} {br2 : ByteArray} {old2 new2 d2 : List UInt8} {A2 : Option Addr} {m2 cp2 : Nat}
theorem E_esame (hx : oget T x = some (.agg (cmdL k c s br old new A m cp).toArray)) (lo : old.length = 32) (ln : new.length = 32) (hb : br.size ≤ maxLen) (hd : Src w0 M H A m cp d) (hm : m ≤ maxLen)
    (hx2 : oget T y = some (.agg (cmdL k2 c2 s2 br2 old2 new2 A2 m2 cp2).toArray)) (lo2 : old2.length = 32) (ln2 : new2.length = 32) (hb2 : br2.size ≤ maxLen) (hd2 : Src w0 M H A2 m2 cp2 d2) (hm2 : m2 ≤ maxLen) :
    Ef Try.prog n w0 M T H ⟨dd, .call ⟨.value (.func 8), #[x, y], ts⟩, tt, pos, af, g⟩ (fun u H' => u = .bool (sameB k c s (bl br) old new d k2 c2 s2 (bl br2) old2 new2 d2) ∧ H' = H) :=
  E_g0 ⟨_, Try.func8, rfl, by kernel_rfl⟩ (vs := [.agg (cmdL k c s br old new A m cp).toArray, .agg (cmdL k2 c2 s2 br2 old2 new2 A2 m2 cp2).toArray]) (by simp [ogets, hx, hx2]) fun w hS => esame w _ _ k c s br old new A m cp d All (cmd_cd lo ln hb hm) (hd.bs w hS) k2 c2 s2 br2 old2 new2 A2 m2 cp2 d2 All (cmd_cd lo2 ln2 hb2 hm2) (hd2.bs w hS)
theorem E_rsame (hx : oget T x = some (.agg (cmdL k c s br old new A m cp).toArray)) (lo : old.length = 32) (ln : new.length = 32) (hb : br.size ≤ maxLen) (hd : Src w0 M H A m cp d) (hm : m ≤ maxLen)
    (hx2 : oget T y = some (.agg (cmdL k2 c2 s2 br2 old2 new2 A2 m2 cp2).toArray)) (lo2 : old2.length = 32) (ln2 : new2.length = 32) (hb2 : br2.size ≤ maxLen) (hd2 : Src w0 M H A2 m2 cp2 d2) (hm2 : m2 ≤ maxLen) :
    Ef Try.prog n w0 M T H ⟨dd, .call ⟨.value (.func 16), #[x, y], ts⟩, tt, pos, af, g⟩ (fun u H' => u = .bool (sameB k c s (bl br) old new d k2 c2 s2 (bl br2) old2 new2 d2) ∧ H' = H) :=
  E_g0 ⟨_, Try.func16, rfl, by kernel_rfl⟩ (vs := [.agg (cmdL k c s br old new A m cp).toArray, .agg (cmdL k2 c2 s2 br2 old2 new2 A2 m2 cp2).toArray]) (by simp [ogets, hx, hx2]) fun w hS => rsame w _ _ k c s br old new A m cp d All (cmd_cd lo ln hb hm) (hd.bs w hS) k2 c2 s2 br2 old2 new2 A2 m2 cp2 d2 All (cmd_cd lo2 ln2 hb2 hm2) (hd2.bs w hS)
variable {l : List UInt8} {cc : Nat}
theorem E_dec (hx : oget T x = some (.slice A m cc)) (hs : Src w0 M H A m cc l) (hm : m ≤ 140737488355328) :
    Ef Try.prog n w0 M T H ⟨dd, .call ⟨.value (.func 14), #[x], ts⟩, tt, pos, af, g⟩ (fun u H' => ∃ x : Dx, DecP l x ∧ u = x.V ∧ H' = row 5 1 x.A x.n x.cp (x.v.d.map bv) :: H) := by
  refine (E_gv ⟨_, Try.func14, rfl, by kernel_rfl⟩ (vs := [.slice A m cc]) (by simp [ogets, hx]) fun w hS => dec_any w A m cc l All (hs.bs w hS) hm).mono ?_
  rintro v H' ⟨x, rfl, hI, rfl⟩ w hS
  exact ⟨_, _, rfl, ⟨x, decP_of hI, rfl, rfl⟩, hS⟩
theorem E_decR (hx : oget T x = some (.slice A m cc)) (hs : Src w0 M H A m cc l) (hm : m ≤ 140737488355328) :
    Ef Try.prog n w0 M T H ⟨dd, .call ⟨.value (.func 15), #[x], ts⟩, tt, pos, af, g⟩ (fun u H' => ∃ x : Dx, DecP l x ∧ RefAt A cc l x ∧ u = x.V ∧ H' = H) := by
  refine (E_gv ⟨_, Try.func15, rfl, by kernel_rfl⟩ (vs := [.slice A m cc]) (by simp [ogets, hx]) fun w hS => ref_dec w A m cc l All (hs.bs w hS) hm).mono ?_
  rintro v H' ⟨x, rfl, ⟨hI, hr⟩, rfl⟩ w hS
  exact ⟨_, _, rfl, ⟨x, hI, hr, rfl, rfl⟩, hS⟩
/-- the document's digest, read where the bytes are read -/
theorem RefAt.src {x : Dx} (h : RefAt A cc l x) (hs : Src w0 M H A m cc l) : Src w0 M H x.A x.n x.cp x.v.d := ⟨fun w hS => by
  have hA := hs.bs w hS
  have hl := hA.len
  rcases h with ⟨h1, h2, h3, h4⟩ | ⟨h1, h2, h3, h4, h5⟩
  · rw [h1, h2, h3, h4]
    exact Bs.nil _ _
  · have h6 := hA.part (q := 73 + bOf l) (r := 73 + bOf l + mOf l) (by omega) (by omega)
    rw [h1, h2, h3, h4]
    rwa [Nat.add_sub_cancel_left] at h6⟩
end
/-- what any Decode hands back is well made -/
theorem DecP.ok {l : List UInt8} {x : Dx} (h : DecP l x) : x.v.old.length = 32 ∧ x.v.new.length = 32 ∧ x.v.br.size ≤ 255 ∧ x.n ≤ 65535 ∧ x.v.s < 4294967296 ∧ x.n = x.v.d.length := by
  rcases h with ⟨_, rfl⟩ | ⟨_, _, rfl⟩ | ⟨hs, h1, h2, h3, h4, h5⟩
  · exact ⟨rfl, rfl, by decide, by decide, by decide, rfl⟩
  · exact ⟨rfl, rfl, by decide, by decide, by decide, rfl⟩
  · unfold short at hs
    have hb := bOf_lt l
    have hm := mOf_lt l
    rw [h4, h5]
    have e : (decV l).br.size = ((l.drop 7).take (bOf l)).length := rfl
    refine ⟨?_, ?_, ?_, by omega, ?_, ?_⟩
    · simp only [decV, List.length_take, List.length_drop]; omega
    · simp only [decV, List.length_take, List.length_drop]; omega
    · rw [e, List.length_take]; omega
    · exact num_le _ 4 (by rw [List.length_take]; omega)
    · simp only [decV, List.length_take, List.length_drop]; omega
end Go.Proofs.Ytleecfhafnfeoaa
