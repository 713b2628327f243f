/- entry.Encode. -/
import Derived.Test.YtleecfhafnfeoaaCmd
import Derived.Test.YtleecfhafnfeoaaApp
import Derived.Test.YtleecfhafnfeoaaOct6
import Derived.Deep.DeepFit
namespace Go.Proofs.Ytleecfhafnfeoaa
open Go.RowKit
open Go.Lib (hid)

/-- the byte of a number -/
def kb (k : Int) : UInt8 := UInt8.ofNat (k % 256).toNat
theorem kb_bv (k : Int) : Value.int .u8 (k % 256) = bv (kb k) := bv_mod k
/-- a command's bytes -/
def encB (k c : Int) (s : Nat) (br old new d : List UInt8) : List UInt8 :=
  [kb k, kb c] ++ be 4 s ++ [kb br.length] ++ br ++ old ++ new ++ be 2 d.length ++ d
theorem encB_len (k c : Int) (s : Nat) (br old new d : List UInt8) (h1 : old.length = 32) (h2 : new.length = 32) : (encB k c s br old new d).length = 73 + br.length + d.length := by
  simp [encB, be_len, h1, h2]
  omega
theorem cmd_cells : (Try.prog.info? 27).map (·.size) = some 69 := by kernel_rfl
theorem range_whole {w : World} {g : Nat} {t : TypeId} {C : Array Value} (hB : Blk w g t C) : w.rangeAt g 0 C.toList := fun j v hv => by
  rw [hB.cell, Nat.zero_add]
  simpa using hv
section
variable {w : World} {ops : Array Oper} {rest : List Oper} {o : Oper} {a : Act} {Q : Exit → Act → World → Prop}
/-- a whole command is read -/
theorem ld_cmd (hw : Region.wanted o (yielded ops a.tmps) = true) (x : Operand) (ho : o.op = .load 27 x) (g : Nat) (hx : a.eval x = .pointer (some ⟨g, 0, none⟩)) (C : Array Value) (hC : C.size = 69) (hB : Blk w g 27 C)
    (h : wpList Try.prog ops Q rest (a.put o.dst (.agg C)) w) : wpList Try.prog ops Q (o :: rest) a w :=
  wpList_wanted hw fun _ hK => wp_load_mid _ x ho g 0 hx C.toList _ (range_whole hB) Try.underlying27 rfl (by rw [cmd_cells, Array.length_toList, hC]) (hK _ _ (by simpa using h))
end

theorem Ob.off {w : World} {base n c g : Nat} {A : Option Addr} {l : List UInt8} (h : Ob w base A n c l) (hg : g < base) : some g ≠ (Value.slice A n c).ownBlock := fun e => by have := h.lt g e.symm; omega

set_option maxRecDepth 100000 in
set_option maxHeartbeats 2000000 in
theorem enc_any (w : World) (C : Array Value) (k c : Int) (s : Nat) (br : ByteArray) (old new d : List UInt8) (A : Option Addr) (n cp : Nat) (F : Nat → Prop) (h : Cd C k c s br old new A n cp) (hd : Bs w F A n cp d) (hs : s < 4294967296)
    (hR : rightB k c s br.data.toList old new n = true) :
    Calls Try.prog 9 #[.agg C] w fun e w' => ∃ A' n' c', e = .returned (.tuple #[.slice A' n' c', .int .i64 0]) ∧ Ob w' w.heap.size A' n' c' (encB k c s br.data.toList old new d) ∧ Kp All w w' := by
  have h0 := h.c0
  have h1 := h.c1
  have h2 := h.c2
  have h3 := h.c3
  have h68 := h.c68
  have lo := h.lo
  have ln := h.ln
  have hsz := h.size
  have ho := hid h.old
  have hn := hid h.new
  have hb24 : br.size ≤ 24 ∧ n ≤ 800 := by
    unfold rightB restB at hR
    by_cases k4 : k = 4
    · simp [k4] at hR
      have : br.size = 0 := by
        have := hR.2.1
        have h2 : br.data.toList.length = 0 := by simp [this]
        simpa using h2
      omega
    · simp [k4, nameB] at hR
      have := hR.2
      omega
  obtain ⟨hb24, hn800⟩ := hb24
  have chk := hid (check_any (w := w.alloc (.cells C 27)) C k c s br old new A n cp h)
  rw [hR, if_pos rfl] at chk
  clear h hR
  have hdl := hid hd.len
  go_enter Try.func9, Try.ntmps9
  go_wp2_with (first | (refine ld_cmd rfl (.tmp 1) rfl _ rfl C hsz (Blk.new w _ C) ?_) | (go_at_call 11; refine chk.out.mono ?_; rintro e w1 ⟨rfl, k1⟩; have hB := (Blk.new w 27 C).kp k1 trivial; have kk := (Kp.alloc w (.cells C 27)).trans k1; have q0 := (hB.cell 0).trans h0; have q1 := (hB.cell 1).trans h1; have q2 : ∀ o, (w1.alloc o).cell? ⟨w.heap.size, 2, none⟩ = some (.int .u32 s) := fun o => ((hB.alloc o).cell 2).trans h2) | (go_at_call 18; refine (put_32 _ _ 2 2 [kb k, kb c] s _ (Bs.lit w1 _ _ 2 _ (by first | rfl | simp) (by rw [kb_bv, kb_bv]; rfl) rfl (by simp [maxLen])) (by omega) (by omega)).mono ?_; rintro e w2 ⟨A2, c2, rfl, o2, k2⟩))
  have hB2 := hB.kp ((Kp.alloc w1 _).trans k2) trivial
  have kk2 := kk.trans ((Kp.alloc w1 _).trans k2)
  have q3 := (hB2.cell 3).trans h3
  have q68 := (hB2.cell 68).trans h68
  obtain ⟨B, hBB⟩ : ∃ B, B = w2.heap.size := ⟨_, rfl⟩
  have z2 := kk2.size
  have zlt := hB.lt
  have o2' := o2.base (base' := w.heap.size + 1) (by simp; omega)
  have L1 := Bs.lit w2.drew w2.heap.size [kb br.size] 1 #[.int .u8 ((br.size : Int) % 256)] rfl (by rw [kb_bv]; rfl) rfl (by simp [maxLen])
  have O1 := o2'.all ((Kp.drew w2).trans (Kp.alloc w2.drew (.cells #[.int .u8 ((br.size : Int) % 256)] 5)))
  have S1 : w.heap.size + 1 ≤ (w2.drew.alloc (.cells #[.int .u8 ((br.size : Int) % 256)] 5)).heap.size := by simp; omega
  have q3d : Hid (∀ o, (w2.drew.alloc o).cell? ⟨w.heap.size, 3, none⟩ = some (.string br)) := hid fun o => (((hB2.kp (Kp.drew (F := All) w2) trivial).alloc o).cell 3).trans h3
  have L1 := hid L1
  have O1 := hid O1
  have S1 := hid S1
  have hB2 := hid hB2
  have kk2 := hid kk2
  go_upto_region 5 with fail
  go_cut [5] (fun s5 wx => ∃ A5 c5, s5 = .slice A5 (7 + br.size) c5 ∧ Ob wx (w.heap.size + 1) A5 (7 + br.size) c5 ([kb k, kb c] ++ be 4 s ++ [kb br.size] ++ br.data.toList) ∧ Kp All w wx ∧ Blk wx w.heap.size 27 C)
  case first =>
    go_region_held3 (fun w' => w'.cell? ⟨w.heap.size, 3, none⟩ = some (.string br)) (first | assumption | (simp only [World.cell?_drew]; assumption) | go_keep)
      (first
        | (refine step_b _ (by rfl) _ _ (by rfl) (w.heap.size + 1) A2 6 c2 ([kb k, kb c] ++ be 4 s) (by rfl) O1.out _ _ 1 1 [kb br.size] (by rfl) L1.out (by omega) S1.out ?_; intro A3 c3 w3 o3 k3; have q3a := O1.out.off (g := w.heap.size) (by omega); have q3' : w3.cell? ⟨w.heap.size, 3, none⟩ = some (.string br) := by refine k3.cell (p := ⟨w.heap.size, 3, none⟩) ?_ ?_; exact q3a; exact q3d.out _)
        | (refine step_s _ (by rfl) _ _ (by rfl) (w.heap.size + 1) A3 7 c3 ([kb k, kb c] ++ be 4 s ++ [kb br.size]) (by rfl) o3 br (by rfl) (by omega) (by have z := k3.size; simp at z; omega) ?_; intro A4 c4 w4 o4 k4; have q4a := o3.off (g := w.heap.size) (by omega); have q4' : w4.cell? ⟨w.heap.size, 3, none⟩ = some (.string br) := by refine k4.cell (p := ⟨w.heap.size, 3, none⟩) ?_ ?_; exact q4a; exact q3'))
    have hk : Kp All w w4 ∧ Blk w4 w.heap.size 27 C := ⟨o3.old (by omega) (O1.out.old (by omega) (kk2.out.trans ((Kp.drew w2).trans (Kp.alloc _ _))) k3) k4, (((hB2.out.kp (Kp.drew (F := All) w2) trivial).alloc _).kp k3 q3a).kp k4 q4a⟩
    go_wp2_with fail
    go_meet
    exact ⟨A4, c4, rfl, o4, hk⟩
  obtain ⟨A5, c5, rfl, o5, kk5, hB5⟩ := hcut
  obtain ⟨w5, rfl⟩ : ∃ w5 : World, w5 = wc := ⟨_, rfl⟩
  clear hB2 kk2 q3 q68 q0 q1 q2 k1 k2 o2 o2' L1 O1 S1 q3d
  have hB5d := hid (hB5.kp (Kp.drew (F := All) w5) trivial)
  have q68 := (hB5.cell 68).trans h68
  have z5 := hB5.lt
  have O5 := hid (o5.all (Kp.drew w5))
  have R1 := hid (Bs.of_range (range_of_blk hB5d.out 4 _ ho.out) 32 lo (by simp [maxLen]))
  have KK5 := hid (kk5.trans (Kp.drew w5))
  have S5 := hid (show w.heap.size + 1 ≤ w5.drew.heap.size by simp; omega)
  have e1 : IntKind.u16.wrap (n : Int) = (n : Int) := by rw [IntKind.wrap_u16]; omega
  have e2 : (n : Int) % 65536 = (n : Int) := by omega
  obtain ⟨l5, hl5⟩ : ∃ l5, l5 = [kb k, kb c] ++ be 4 s ++ [kb br.size] ++ br.data.toList := ⟨_, rfl⟩
  rw [← hl5] at O5
  have Hl5 := hid hl5
  clear hl5 o5 hB5 kk5
  go_upto_region 6 with fail
  go_cut [5] (fun s5 wx => ∃ A9 c9, s5 = .slice A9 (7 + br.size + 32 + 32 + 2) c9 ∧ Ob wx (w.heap.size + 1) A9 (7 + br.size + 32 + 32 + 2) c9 (l5 ++ old ++ new ++ be 2 n) ∧ Kp All w wx ∧ Blk wx w.heap.size 27 C)
  case first =>
    go_region_held3 (fun w' => w'.cell? ⟨w.heap.size, 68, none⟩ = some (.slice A n cp)) (first | assumption | (simp only [World.cell?_drew]; assumption) | go_keep)
      (first
        | (refine step_b _ (by rfl) _ _ (by rfl) (w.heap.size + 1) A5 (7 + br.size) c5 l5 (by rfl) O5.out _ _ 32 32 old (by rfl) R1.out (by omega) S5.out ?_; intro A6 c6 w6 o6 k6; have q6a := O5.out.off (g := w.heap.size) (by omega); have hB6 := hB5d.out.kp k6 q6a; have q6' := (hB6.cell 68).trans h68; have R2 := Bs.of_range (range_of_blk hB6 36 _ hn.out) 32 ln (by simp [maxLen]); have K6 := O5.out.old (by omega) KK5.out k6; have z6 := k6.size)
        | (refine step_b _ (by rfl) _ _ (by rfl) (w.heap.size + 1) A6 (7 + br.size + 32) c6 (l5 ++ old) (by rfl) o6 _ _ 32 32 new (by rfl) R2 (by omega) (by have := S5.out; omega) ?_; intro A7 c7 w7 o7 k7; have q7a := o6.off (g := w.heap.size) (by omega); have hB7 := hB6.kp k7 q7a; have q7' := (hB7.cell 68).trans h68; have K7 := o6.old (by omega) K6 k7; have z7 := k7.size)
        | (go_at_call 19; refine (put_16 _ _ (7 + br.size + 32 + 32) c7 (l5 ++ old ++ new) n _ o7.bs (by omega) (by omega)).mono ?_; rintro e w8 ⟨A8, c8, rfl, o8, k8⟩; have q8' := k8.cell trivial q7'; have K8 := K7.trans k8; have hB8 := hB7.kp k8 trivial))
    have hk : Ob w8 (w.heap.size + 1) A8 (7 + br.size + 32 + 32 + 2) c8 (l5 ++ old ++ new ++ be 2 n) ∧ Kp All w w8 ∧ Blk w8 w.heap.size 27 C := ⟨o8.base (by have := hB7.lt; omega), K8, hB8⟩
    go_wp2_with fail
    go_meet
    exact ⟨A8, c8, rfl, hk⟩
  obtain ⟨A9, c9, rfl, o9, kk9, hB9⟩ := hcut
  obtain ⟨w9, rfl⟩ : ∃ w9 : World, w9 = wc := ⟨_, rfl⟩
  have q68b := (hB9.cell 68).trans h68
  have hd9 := hd.keep kk9.all
  have z9 := hB9.lt
  go_wp2_with (at_builtin; refine app_b _ rfl (.tmp 43) (.tmp 45) rfl (w.heap.size + 1) A9 (7 + br.size + 32 + 32 + 2) c9 _ rfl o9 F A n cp d rfl hd9 (by omega) (by omega) ?_; intro A10 c10 w10 o10 k10 _)
  go_ret2
  refine ⟨A10, _, c10, rfl, ?_, o9.old (by omega) kk9 k10⟩
  have e : encB k c s br.data.toList old new d = l5 ++ old ++ new ++ be 2 n ++ d := by
    rw [Hl5.out, hdl.out]
    simp [encB]
  rw [e]
  exact o10.base (by omega)
end Go.Proofs.Ytleecfhafnfeoaa
