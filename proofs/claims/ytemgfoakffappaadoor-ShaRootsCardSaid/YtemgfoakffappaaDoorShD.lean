/- Digests: the calls; the layer does something. -/
import Derived.Test.YtemgfoakffappaaDoorShC
namespace Go.Proofs.YtemgfoakffappaaDoor
open Go.RowKit
open Asn (pt row rb)
set_option linter.unusedVariables false
set_option linter.unusedSimpArgs false
--@use N
section
variable {n : Nat} {w0 : World} {M : Nat → Prop} {T : Slots} {H Hr : List Asn} {dd : Option Tmp} {tt : TypeId} {pos : String} {af : Array Edge} {g : Option (Nat × Bool)} {x y z : Operand} {ts : Array TypeId}
theorem E_sum {A : Option Addr} {m c : Nat} {l : List UInt8} (hx : oget T x = some (.slice A m c)) (hs : Src w0 M H A m c l) (hm : m ≤ 100000) (hr : Roots w0) (hM : ¬ M 0) :
    Ef Tryd.prog n w0 M T H ⟨dd, .call ⟨.value (.func 21), #[x], ts⟩, tt, pos, af, g⟩ (fun u H' => u = .agg ((sumL l).map bv).toArray ∧ H' = H) := by
  refine (E_gv ⟨_, Tryd.func21, rfl, by kernel_rfl⟩ (vs := [.slice A m c]) (by simp [ogets, hx]) fun w hS => sum_any w A m c l All (hs.bs w hS) hm (hr.kp hS.kp hM)).mono ?_
  rintro v H' ⟨_, rfl, _, rfl⟩ w hS
  exact ⟨_, _, rfl, ⟨rfl, rfl⟩, hS⟩
theorem E_block {h : List UInt32} {l : List UInt8} (hx : oget T x = some (.agg (h.map w32).toArray)) (hy : oget T y = some (.agg (l.map bv).toArray)) (lh : h.length = 8) (hl : l.length = 64) (hr : Roots w0) (hM : ¬ M 0) :
    Ef Tryd.prog n w0 M T H ⟨dd, .call ⟨.value (.func 11), #[x, y], ts⟩, tt, pos, af, g⟩ (fun u H' => u = .agg ((blockW h l).map w32).toArray ∧ H' = H) := by
  refine (E_gv ⟨_, Tryd.func11, rfl, by kernel_rfl⟩ (vs := [.agg (h.map w32).toArray, .agg (l.map bv).toArray]) (by simp [ogets, hx, hy]) fun w hS => block_any w h lh l hl (hr.kp hS.kp hM)).mono ?_
  rintro v H' ⟨_, rfl, _, rfl⟩ w hS
  exact ⟨_, _, rfl, ⟨rfl, rfl⟩, hS⟩
theorem E_refsum {A : Option Addr} {m c : Nat} {l : List UInt8} (hx : oget T x = some (.slice A m c)) (hs : Src w0 M H A m c l) (hm : m ≤ 100000) :
    Ef Tryd.prog n w0 M T H ⟨dd, .call ⟨.value (.func 22), #[x], ts⟩, tt, pos, af, g⟩ (fun u H' => u = .agg ((sumL l).map bv).toArray ∧ H' = H) := by
  refine (E_gv ⟨_, Tryd.func22, rfl, by kernel_rfl⟩ (vs := [.slice A m c]) (by simp [ogets, hx]) fun w hS => refsum_any w A m c l All (hs.bs w hS) hm).mono ?_
  rintro v H' ⟨_, rfl, _, rfl⟩ w hS
  exact ⟨_, _, rfl, ⟨rfl, rfl⟩, hS⟩
theorem E_text {l : List UInt8} (hx : oget T x = some (.agg (l.map bv).toArray)) (hl : l.length = 32) :
    Ef Tryd.prog n w0 M T H ⟨dd, .call ⟨.value (.func 16), #[x], ts⟩, tt, pos, af, g⟩ (fun u H' => u = .string ⟨(textL l).toArray⟩ ∧ H' = H) := by
  refine (E_gv ⟨_, Tryd.func16, rfl, by kernel_rfl⟩ (vs := [.agg (l.map bv).toArray]) (by simp [ogets, hx]) fun w hS => text_any w l hl).mono ?_
  rintro v H' ⟨_, rfl, _, rfl⟩ w hS
  exact ⟨_, _, rfl, ⟨rfl, rfl⟩, hS⟩
theorem E_reftext {l : List UInt8} (hx : oget T x = some (.agg (l.map bv).toArray)) (hl : l.length = 32) :
    Ef Tryd.prog n w0 M T H ⟨dd, .call ⟨.value (.func 17), #[x], ts⟩, tt, pos, af, g⟩ (fun u H' => u = .string ⟨(textL l).toArray⟩ ∧ H' = H) := by
  refine (E_gv ⟨_, Tryd.func17, rfl, by kernel_rfl⟩ (vs := [.agg (l.map bv).toArray]) (by simp [ogets, hx]) fun w hS => reftext_any w l hl).mono ?_
  rintro v H' ⟨_, rfl, _, rfl⟩ w hS
  exact ⟨_, _, rfl, ⟨rfl, rfl⟩, hS⟩
theorem E_parse {s : ByteArray} (hx : oget T x = some (.string s)) (hl : s.size ≤ 100000) :
    Ef Tryd.prog n w0 M T H ⟨dd, .call ⟨.value (.func 14), #[x], ts⟩, tt, pos, af, g⟩ (fun u H' => u = .tuple #[.agg (((parseL (bl s)).getD noId).map bv).toArray, .int .i64 (if okL (bl s) then 0 else 130)] ∧ H' = H) := by
  refine (E_gv ⟨_, Tryd.func14, rfl, by kernel_rfl⟩ (vs := [.string s]) (by simp [ogets, hx]) fun w hS => parse_any w s hl).mono ?_
  rintro v H' ⟨_, rfl, _, rfl⟩ w hS
  exact ⟨_, _, rfl, ⟨rfl, rfl⟩, hS⟩
theorem E_refparse {s : ByteArray} (hx : oget T x = some (.string s)) (hl : s.size ≤ 100000) :
    Ef Tryd.prog n w0 M T H ⟨dd, .call ⟨.value (.func 15), #[x], ts⟩, tt, pos, af, g⟩ (fun u H' => u = .tuple #[.agg (((parseL (bl s)).getD noId).map bv).toArray, .bool (okL (bl s))] ∧ H' = H) := by
  refine (E_gv ⟨_, Tryd.func15, rfl, by kernel_rfl⟩ (vs := [.string s]) (by simp [ogets, hx]) fun w hS => refparse_any w s hl).mono ?_
  rintro v H' ⟨_, rfl, _, rfl⟩ w hS
  exact ⟨_, _, rfl, ⟨rfl, rfl⟩, hS⟩
theorem E_less {a b : List UInt8} (hx : oget T x = some (.agg (a.map bv).toArray)) (hy : oget T y = some (.agg (b.map bv).toArray)) (la : a.length = 32) (lb : b.length = 32) :
    Ef Tryd.prog n w0 M T H ⟨dd, .call ⟨.value (.func 18), #[x, y], ts⟩, tt, pos, af, g⟩ (fun u H' => u = .bool (Op.bytesLess a b) ∧ H' = H) := by
  refine (E_gv ⟨_, Tryd.func18, rfl, by kernel_rfl⟩ (vs := [.agg (a.map bv).toArray, .agg (b.map bv).toArray]) (by simp [ogets, hx, hy]) fun w hS => less_any w a b la lb).mono ?_
  rintro v H' ⟨_, rfl, _, rfl⟩ w hS
  exact ⟨_, _, rfl, ⟨rfl, rfl⟩, hS⟩
end
section
variable {P : Program} {n : Nat} {w0 : World} {M : Nat → Prop} {T : Slots} {H Hr : List Asn} {dd : Option Tmp} {tt : TypeId} {pos : String} {af : Array Edge} {g : Option (Nat × Bool)} {x : Operand}
/-- bytes of a constant text -/
theorem E_mark [HasTab P] {t e : TypeId} {gb m c : Nat} {l : List UInt8} {i ei : Ti} (hx : oget T x = some (.slice (some ⟨gb, 0, none⟩) m c)) (hs : ty P t = some i) (hi : i.desc = .slice e) (he : ty P e = some ei) (hei : ei.desc = .int .u8) [hm : RemC H (pt gb e (l.map bv)) Hr] (hl : l.length = m) (hmc : m ≤ c) (hc : c ≤ maxLen) :
    Ef P n w0 M T H ⟨dd, .convert t t x, tt, pos, af, g⟩ (fun u H' => u = .slice (some ⟨gb, 0, none⟩) m c ∧ H' = rb (some ⟨gb, 0, none⟩) m c l :: Hr) := .mk fun a w ha hS => by
  have hS1 := hS.perm hm.perm
  have hb : Blk w gb e (l.map bv).toArray := hS1.at_ (A := pt gb e (l.map bv)) (by simp)
  have hb' : w.heap[gb]? = some (.cells (l.map bv).toArray e (0, 0)) := hb
  have hsh : w.shape? gb = some (e, (l.map bv).toArray.size) := by unfold World.shape?; rw [hb']
  have hrun : (convert t t (.slice (some ⟨gb, 0, none⟩) m c)).run P w = .ok (.slice (some ⟨gb, 0, none⟩) m c) (w.freeze ⟨gb, (l.map bv).toArray.size, none⟩ 1) := by
    simp [convert, run_underlying (hi ▸ ty_ok hs), run_underlying (hei ▸ ty_ok he), markStringish, hsh]
  unfold Oper.wp execOp
  simp only [ha.eval hx, Sem.run_bind, hrun, Result.andThen_ok, Sem.run_pure]
  have hblk : (w.freeze ⟨gb, (l.map bv).toArray.size, none⟩ 1).heap[gb]? = some (.cells (l.map bv).toArray e ((l.map bv).toArray.size, (l.map bv).toArray.size + 1)) := by
    unfold World.freeze
    rw [if_neg (by decide)]
    simp [Array.getElem?_modify, hb']
  have hk : Kp (fun k => ¬ k = gb) w (w.freeze ⟨gb, (l.map bv).toArray.size, none⟩ 1) := by
    unfold World.freeze
    rw [if_neg (by decide)]
    exact ⟨rfl, rfl, rfl, by simp, fun k hk _ => by simp [Array.getElem?_modify, Ne.symm hk]⟩
  refine ⟨_, _, ⟨rfl, rfl⟩, rfl, hS1.upd .here hk ?_ (fun k hk => ?_)⟩
  · refine ⟨hl.symm, hmc, hc, by simp [hl], fun _ => ⟨_, rfl, ⟨_, rfl, rfl⟩, fun j u hu => ?_⟩⟩
    rw [add_plain, Nat.zero_add, cell_of_row _ gb j _ _ _ hblk]
    simpa using hu
  · obtain ⟨ad, h1, h2⟩ := hk
    injection h1 with h1
    subst h1
    exact h2
end
/-- the digest of 'abc' -/
def abcL : List UInt8 := [0xba,0x78,0x16,0xbf,0x8f,0x01,0xcf,0xea,0x41,0x41,0x40,0xde,0x5d,0xae,0x22,0x23,0xb0,0x03,0x61,0xa3,0x96,0x17,0x7a,0x9c,0xb4,0x10,0xff,0x61,0xf2,0x00,0x15,0xad]
def abcT : List UInt8 := [98, 97, 55, 56, 49, 54, 98, 102, 56, 102, 48, 49, 99, 102, 101, 97, 52, 49, 52, 49, 52, 48, 100, 101, 53, 100, 97, 101, 50, 50, 50, 51, 98, 48, 48, 51, 54, 49, 97, 51, 57, 54, 49, 55, 55, 97, 57, 99, 98, 52, 49, 48, 102, 102, 54, 49, 102, 50, 48, 48, 49, 53, 97, 100]
theorem abc_sum : sumL [97, 98, 99] = abcL := by decide +kernel
theorem abc_ok : okL (bl ⟨abcT.toArray⟩) = true := by decide +kernel
theorem abc_parse : (parseL (bl ⟨abcT.toArray⟩)).getD noId = abcL := by decide +kernel
theorem ab_ok : okL (bl ⟨#[97, 98]⟩) = false := by decide +kernel
theorem ab_parse : (parseL (bl ⟨#[97, 98]⟩)).getD noId = noId := by decide +kernel
theorem abc_less : Op.bytesLess noId abcL = true := by decide +kernel

set_option maxRecDepth 100000 in
set_option maxHeartbeats 4000000 in
theorem wakes03 (w : World) (hr : Roots w) : Gives Tryd.prog 10 [] [] w (X := Unit) (fun _ => .bool true) (fun _ => True) (fun _ => []) := by
  refine gives_S Tryd.func10 rfl Tryd.ntmps10 Tryd.results10 (by simp) (St.enter w) (fun B hB => ?_)
  focus (refine S_seq rfl ?_; refine S_region rfl rfl ?_; refine R_p rfl ?_ rfl rfl; refine R_nil ?_; refine S_seq rfl ?_; refine S_region rfl rfl ?_; (refine R_eff (E_lit1 (vs := ([97, 98, 99] : List UInt8).map bv) rfl rfl rfl rfl rfl rfl rfl (by simp [bv, Value.oneCell']) (by decide)) ?_ rfl rfl; rintro _ _ ⟨bl1, rfl, rfl⟩); (refine R_eff (E_mark (l := [97, 98, 99]) rfl rfl rfl rfl rfl rfl (by decide) (by decide)) ?_ rfl rfl; rintro _ _ ⟨rfl, rfl⟩); (refine R_eff (E_sum (l := [97, 98, 99]) rfl (Src.rb (c := 3) (by simp)) (by decide) hr (noOwns 0)) ?_ rfl rfl; rintro _ _ ⟨rfl, rfl⟩; rw [abc_sum]); (refine R_eff (E_alloca rfl noId_alloc) ?_ rfl rfl; rintro _ _ ⟨_, rfl, rfl⟩); (refine R_eff0 (E_storew (ds := abcL.map bv) (cs := noId.map bv) rfl rfl rfl rfl (bv_one _) rfl) ?_ rfl; rintro _ _ rfl); refine R_nil ?_; refine S_seq rfl ?_; refine S_region rfl rfl ?_; (refine R_eff (E_parse (s := ⟨abcT.toArray⟩) rfl (by decide)) ?_ rfl rfl; rintro _ _ ⟨rfl, rfl⟩; rw [abc_ok, abc_parse]); refine R_p rfl ?_ rfl rfl; refine R_p rfl ?_ rfl rfl; refine R_p rfl ?_ rfl rfl; (refine R_eff (E_alloca rfl noId_alloc) ?_ rfl rfl; rintro _ _ ⟨_, rfl, rfl⟩); (refine R_eff0 (E_storew (ds := abcL.map bv) (cs := noId.map bv) rfl rfl rfl rfl (bv_one _) rfl) ?_ rfl; rintro _ _ rfl); refine R_p rfl ?_ rfl rfl; refine R_nil ?_; refine S_seq rfl ?_; refine S_region rfl rfl ?_; (refine R_eff (E_parse (s := ⟨#[97, 98]⟩) rfl (by decide)) ?_ rfl rfl; rintro _ _ ⟨rfl, rfl⟩; rw [ab_ok, ab_parse]); refine R_p rfl ?_ rfl rfl; refine R_p rfl ?_ rfl rfl; refine R_p rfl ?_ rfl rfl; (refine R_eff (E_alloca rfl noId_alloc) ?_ rfl rfl; rintro _ _ ⟨_, rfl, rfl⟩); (refine R_eff0 (E_storew (ds := noId.map bv) (cs := noId.map bv) rfl rfl rfl rfl (bv_one _) rfl) ?_ rfl; rintro _ _ rfl); refine R_p rfl ?_ rfl rfl; refine R_nil ?_; refine S_seq rfl ?_; refine S_region rfl rfl ?_; refine R_p rfl ?_ rfl rfl; refine R_p rfl ?_ rfl rfl; refine R_p rfl ?_ rfl rfl; refine R_take (T_loada (ds := abcL.map bv) rfl rfl rfl rfl (fun q v hq => by rw [Nat.zero_add]; exact hq)) ?_ rfl rfl; refine R_take (T_loada (ds := abcL.map bv) rfl rfl rfl rfl (fun q v hq => by rw [Nat.zero_add]; exact hq)) ?_ rfl rfl; refine R_take (T_eqbs rfl rfl rfl rfl rfl rfl rfl (by kernel_rfl) rfl rfl) ?_ rfl rfl; refine R_p rfl ?_ rfl rfl; refine R_p rfl ?_ rfl rfl; refine R_p rfl ?_ rfl rfl; refine R_p rfl ?_ rfl rfl; refine R_p rfl ?_ rfl rfl; refine R_p rfl ?_ rfl rfl; (refine R_eff (E_pad (l := []) rfl Src.nil (by decide)) ?_ rfl rfl; rintro _ _ ⟨Ap, cp, _, rfl, rfl⟩); refine R_p rfl ?_ rfl rfl; refine R_p rfl ?_ rfl rfl; refine R_p rfl ?_ rfl rfl; refine R_p rfl ?_ rfl rfl; refine R_take (T_build0 noId_built) ?_ rfl rfl; refine R_take (T_loada (ds := abcL.map bv) rfl rfl rfl rfl (fun q v hq => by rw [Nat.zero_add]; exact hq)) ?_ rfl rfl; (refine R_eff (E_less (a := noId) (b := abcL) rfl rfl rfl rfl) ?_ rfl rfl; rintro _ _ ⟨rfl, rfl⟩; rw [abc_less]); refine R_p rfl ?_ rfl rfl; refine R_p rfl ?_ rfl rfl; refine R_take (T_loada (ds := abcL.map bv) rfl rfl rfl rfl (fun q v hq => by rw [Nat.zero_add]; exact hq)) ?_ rfl rfl; refine R_take (T_loada (ds := abcL.map bv) rfl rfl rfl rfl (fun q v hq => by rw [Nat.zero_add]; exact hq)) ?_ rfl rfl; (refine R_eff (E_less (a := abcL) (b := abcL) rfl rfl rfl rfl) ?_ rfl rfl; rintro _ _ ⟨rfl, rfl⟩; rw [bytesLess_refl]); refine R_take (T_not rfl) ?_ rfl rfl; refine R_p rfl ?_ rfl rfl; refine R_p rfl ?_ rfl rfl; refine R_nil ?_)
  exact hB _ _ _ _ _ rfl rfl fun w' hS => ⟨(), rfl, trivial, hS.sublist (List.nil_sublist _)⟩
end Go.Proofs.YtemgfoakffappaaDoor
