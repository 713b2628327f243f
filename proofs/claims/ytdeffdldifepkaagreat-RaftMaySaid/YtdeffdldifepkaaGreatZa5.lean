/- Lemmas of the proof, part 5. -/
import Derived.Laws.Pointers
import Derived.Test.YtdeffdldifepkaaGreatZa4
namespace Go.Proofs.YtdeffdldifepkaaGreat
open Go.RowKit
open Asn (pt row rb)
set_option linter.unusedVariables false
set_option linter.unusedSimpArgs false
--@use N

def sameL (x y : Rs) : List Bool := [decide (x.me = y.me), decide (x.term = y.term), decide (x.vote = y.vote), decide (x.commit = y.commit), decide (x.role = y.role), decide (x.leader = y.leader), decide (x.clock = y.clock), decide (x.limit = y.limit), decide (x.base = y.base) && decide (x.es = y.es), decide (x.cf = y.cf), decide (x.votes = y.votes), decide (x.peers = y.peers)]
theorem sameL_eq (x y : Rs) : sameL x y = [decide (x.me = y.me), decide (x.term = y.term), decide (x.vote = y.vote), decide (x.commit = y.commit), decide (x.role = y.role), decide (x.leader = y.leader), decide (x.clock = y.clock), decide (x.limit = y.limit), decide (x.base = y.base) && decide (x.es = y.es), decide (x.cf = y.cf), decide (x.votes = y.votes), decide (x.peers = y.peers)] := rfl
theorem same_iff (x y : Rs) : (sameL x y).all id = true ↔ x = y := by
  obtain ⟨x1, x2, x3, x4, x5, x6, x7, x8, x9, x10, x11, x12, x13⟩ := x
  obtain ⟨y1, y2, y3, y4, y5, y6, y7, y8, y9, y10, y11, y12, y13⟩ := y
  simp only [sameL, List.all_cons, List.all_nil, Bool.and_eq_true, decide_eq_true_eq, id, Bool.and_true, Rs.mk.injEq]
  constructor
  · rintro ⟨h1, h2, h3, h4, h5, h6, h7, h8, ⟨h9, h10⟩, h11, h12, h13⟩
    exact ⟨h1, h2, h3, h9, h10, h11, h4, h5, h6, h7, h8, h12, h13⟩
  · rintro ⟨h1, h2, h3, h9, h10, h11, h4, h5, h6, h7, h8, h12, h13⟩
    exact ⟨h1, h2, h3, h4, h5, h6, h7, h8, ⟨h9, h10⟩, h11, h12, h13⟩
def restB (x y : Rs) : Bool := decide (x.me = y.me) && decide (x.vote = y.vote) && decide (x.role = y.role) && decide (x.leader = y.leader) && decide (x.clock = y.clock) && decide (x.limit = y.limit) && decide (x.term = y.term) && decide (x.commit = y.commit)
theorem sameB_eq (x y : Rs) : (sameL x y).all id = (restB x y && (decide (x.base = y.base) && decide (x.es = y.es)) && decide (x.cf = y.cf) && decide (x.votes = y.votes) && decide (x.peers = y.peers)) := by
  rw [Bool.eq_iff_iff]
  simp only [sameL, restB, List.all_cons, List.all_nil, Bool.and_eq_true, id, Bool.and_true]
  constructor
  · rintro ⟨h1, h2, h3, h4, h5, h6, h7, h8, h9, h11, h12, h13⟩
    exact ⟨⟨⟨⟨⟨⟨⟨⟨⟨⟨⟨h1, h3⟩, h5⟩, h6⟩, h7⟩, h8⟩, h2⟩, h4⟩, h9⟩, h11⟩, h12⟩, h13⟩
  · rintro ⟨⟨⟨⟨⟨⟨⟨⟨⟨⟨⟨h1, h3⟩, h5⟩, h6⟩, h7⟩, h8⟩, h2⟩, h4⟩, h9⟩, h11⟩, h12⟩, h13⟩
    exact ⟨h1, h2, h3, h4, h5, h6, h7, h8, h9, h11, h12, h13⟩
def rsc (x : Rs) : List Value := [.int .i64 x.me, .int .i64 x.vote, .int .i64 x.role, .int .i64 x.leader, .int .i64 x.clock, .int .i64 x.limit, .int .u64 (x.term : Int), .int .u64 (x.commit : Int)]
theorem rsc_one (x : Rs) : ∀ u ∈ rsc x, u.oneCell' = true := by simp [rsc, Value.oneCell']
theorem rs_zero : ti138.zero = .agg (rsc rs0).toArray := by kernel_rfl
theorem rs_built (a b c d e f : Int) (g k : Nat) : Tryz.prog.built 138 [(0, .int .i64 a), (1, .int .i64 b), (2, .int .i64 c), (3, .int .i64 d), (4, .int .i64 e), (5, .int .i64 f), (6, .int .u64 (g : Int)), (7, .int .u64 (k : Int))] = some #[.int .i64 a, .int .i64 b, .int .i64 c, .int .i64 d, .int .i64 e, .int .i64 f, .int .u64 (g : Int), .int .u64 (k : Int)] := by kernel_rfl
section
variable {n : Nat} {w0 : World} {M : Nat → Prop} {T : Slots} {H : List Asn} {dd : Option Tmp} {tt : TypeId} {pos : String} {af : Array Edge} {g : Option (Nat × Bool)} {x y : Operand}
theorem T_eqRest {u : TypeId} {a b : Rs} {r : Bool} (hx : oget T x = some (.agg (rsc a).toArray)) (hy : oget T y = some (.agg (rsc b).toArray)) (hr : restB a b = r) :
    Tk Tryz.prog n w0 M T H ⟨dd, .binOp .eql 138 x y u, tt, pos, af, g⟩ (.bool (r)) := by
  refine T_eqS (r := r) hx hy (s := 138) (i := ti138) rfl rfl (by kernel_rfl) (by kernel_rfl) rfl ?_
  subst hr
  show (a.me == b.me && (a.vote == b.vote && (a.role == b.role && (a.leader == b.leader && (a.clock == b.clock && (a.limit == b.limit && ((a.term : Int) == (b.term : Int) && ((a.commit : Int) == (b.commit : Int) && true)))))))) = _
  rw [Bool.and_true, Bool.eq_iff_iff]
  simp only [restB, Bool.and_eq_true, beq_iff_eq, decide_eq_true_eq]
  constructor
  · rintro ⟨h1, h2, h3, h4, h5, h6, h7, h8⟩
    exact ⟨⟨⟨⟨⟨⟨⟨h1, h2⟩, h3⟩, h4⟩, h5⟩, h6⟩, by omega⟩, by omega⟩
  · rintro ⟨⟨⟨⟨⟨⟨⟨h1, h2⟩, h3⟩, h4⟩, h5⟩, h6⟩, h7⟩, h8⟩
    exact ⟨h1, h2, h3, h4, h5, h6, by omega, by omega⟩
theorem T_nePe {u : TypeId} {a b : Pe} {r : Bool} (hx : oget T x = some (.agg (pec a).toArray)) (hy : oget T y = some (.agg (pec b).toArray)) (hr : decide (a = b) = r) :
    Tk Tryz.prog n w0 M T H ⟨dd, .binOp .neq 112 x y u, tt, pos, af, g⟩ (.bool (!r)) := by
  refine T_neS (r := r) hx hy (s := 112) (i := ti112) rfl rfl (by kernel_rfl) (by kernel_rfl) rfl ?_
  subst hr
  obtain ⟨a1, a2, a3⟩ := a
  obtain ⟨b1, b2, b3⟩ := b
  show (a1 == b1 && ((a2 : Int) == (b2 : Int) && ((a3 : Int) == (b3 : Int) && true))) = _
  rw [Bool.and_true, Bool.eq_iff_iff]
  simp
  omega
theorem T_build8 {s : TypeId} {j1 j2 j3 j4 j5 j6 j7 j8 : Nat} {x1 x2 x3 x4 x5 x6 x7 x8 : Operand} {u1 u2 u3 u4 u5 u6 u7 u8 : Value} {cs : Array Value} {P : Program} (h1 : oget T x1 = some u1) (h2 : oget T x2 = some u2) (h3 : oget T x3 = some u3) (h4 : oget T x4 = some u4) (h5 : oget T x5 = some u5) (h6 : oget T x6 = some u6) (h7 : oget T x7 = some u7) (h8 : oget T x8 = some u8) (hb : P.built s [(j1, u1), (j2, u2), (j3, u3), (j4, u4), (j5, u5), (j6, u6), (j7, u7), (j8, u8)] = some cs) :
    Tk P n w0 M T H ⟨dd, .build s #[(j1, x1), (j2, x2), (j3, x3), (j4, x4), (j5, x5), (j6, x6), (j7, x7), (j8, x8)], tt, pos, af, g⟩ (.agg cs) := .mk fun a w ha hS => by
  have hr := run_build (P := P) w s #[(j1, u1), (j2, u2), (j3, u3), (j4, u4), (j5, u5), (j6, u6), (j7, u7), (j8, u8)] cs (by simpa using hb)
  simp only [execOp, List.map_toArray, List.map_cons, List.map_nil, ha.eval h1, ha.eval h2, ha.eval h3, ha.eval h4, ha.eval h5, ha.eval h6, ha.eval h7, ha.eval h8, Sem.run_bind, hr, Result.andThen_ok, Sem.run_pure]
end
set_option maxRecDepth 100000 in
set_option maxHeartbeats 4000000 in
theorem rest_any (w : World) (x : Rs) (p : Rp) :
    Gives Tryz.prog 88 [.agg (rfc x p).toArray] [] w (X := Unit) (fun _ => .agg (rsc x).toArray) (fun _ => True) (fun _ => []) := by
  refine gives_C Tryz.func88 rfl Tryz.ntmps88 Tryz.results88 (by simp) (St.enter w) (fun B hB => ?_)
  focus (refine qs ?_; (refine qe (E_boxa (cs := rfc x p) rfl) ?_; rintro _ _ ⟨b1, rfl, rfl⟩); (refine qe (E_alloca rfl rs_zero) ?_; rintro _ _ ⟨b2, rfl, rfl⟩); refine qn ?_; (iterate 8 refine qp ?_; refine qt (T_load rfl rfl rfl rfl) ?_); refine qt (T_build8 rfl rfl rfl rfl rfl rfl rfl rfl (rs_built _ _ _ _ _ _ _ _)) ?_; (refine qw (E_storew (cs := rsc rs0) (ds := rsc x) rfl rfl rfl rfl (rsc_one _) rfl) ?_; rintro _ _ rfl); refine qz ?_)
  exact hB _ _ _ _ _ rfl (.cell rfl rfl rfl inferInstance rfl .nil) fun w' hS => ⟨(), rfl, trivial, hS.sublist (List.nil_sublist _)⟩
theorem pe_eq {L M : List Pe} (hl : L.length = M.length) (h : ∀ i, i < L.length → L.getD i default = M.getD i default) : L = M := by
  refine List.ext_getElem hl fun i h1 h2 => ?_
  have := h i h1
  simpa [List.getD, h1, h2] using this
set_option maxRecDepth 100000 in
set_option maxHeartbeats 4000000 in
theorem eqP_k (w : World) (A A2 : Option Addr) (n c n2 c2 : Nat) (L M : List Pe) (h : Rd w All 3 A n (cellsL pec L)) (h2 : Rd w All 3 A2 n2 (cellsL pec M)) (hn : n ≤ 100000) (hn2 : n2 ≤ 100000) (r : Bool) (hr : decide (L = M) = r) :
    Gives Tryz.prog 91 [.slice A n c, .slice A2 n2 c2] [] w (X := Unit) (fun _ => .bool r) (fun _ => True) (fun _ => []) := by
  refine gives_S Tryz.func91 rfl Tryz.ntmps91 Tryz.results91 (by simp) (St.enter w) (fun B hB => ?_)
  have hl : L.length = n := by have := h.1; rw [cellsL_len pec_len] at this; omega
  have hl2 : M.length = n2 := by have := h2.1; rw [cellsL_len pec_len] at this; omega
  have hne : 0 < n → A ≠ none := fun h0 => by obtain ⟨ad, rfl, _⟩ := h.2 h0; simp
  have hne2 : 0 < n2 → A2 ≠ none := fun h0 => by obtain ⟨ad, rfl, _⟩ := h2.2 h0; simp
  subst hl hl2
  by_cases hlen : L.length = M.length
  · skip
    focus (refine qs ?_; refine qp ?_; refine qz ?_; refine qq ?_; refine qs ?_; (iterate 4 refine qp ?_); refine qf ?_; refine qz ?_; refine qF ?_; refine qx ?_; refine qq ?_; refine qs ?_; (iterate 3 refine qp ?_); refine qz ?_; refine qb ?_)
    refine S_loop (X := Nat) (fun j => [(0, .slice A L.length c), (1, .slice A2 M.length c2), (12, .int .i64 (L.length : Int)), (13, .int .i64 (j : Int))]) (fun _ => []) (fun j => j ≤ L.length ∧ ∀ i, i < j → L.getD i default = M.getD i default) (fun j => L.length - j) rfl 0 ⟨Nat.zero_le _, fun i hi => by omega⟩ (Sub.cons rfl (Sub.cons rfl (Sub.cons rfl (Sub.cons rfl Sub.nil)))) (fun _ h => h.sublist (List.nil_sublist _)) ?_
    rintro j ⟨hj, hok⟩ J hJ
    rcases Nat.lt_or_ge j L.length with hjl | hjl
    · have hne := hne (by omega)
      have hne2 := hne2 (by omega)
      have hat := cellsL_at (f := pec) pec_len L default j (by omega)
      have hat2 := cellsL_at (f := pec) pec_len M default j (by omega)
      have hne3 : L.getD j default ≠ M.getD j default → r = false := fun e => by rw [← hr]; exact decide_eq_false fun e2 => e (by rw [e2])
      have hnx : L.getD j default = M.getD j default → ∀ i, i < j + 1 → L.getD i default = M.getD i default := fun e i hi => by
        rcases Nat.lt_or_ge i j with h3 | h3
        · exact hok i h3
        · rw [show i = j by omega]; exact e
      obtain ⟨u, hu⟩ : ∃ u, L.getD j default = u := ⟨_, rfl⟩
      obtain ⟨v, hv⟩ : ∃ u, M.getD j default = u := ⟨_, rfl⟩
      rw [hu] at hat hne3 hnx
      rw [hv] at hat2 hne3 hnx
      cases huv : decide (u = v)
      · obtain rfl : r = false := hne3 (of_decide_eq_false huv)
        focus (refine qs ?_; refine qd ?_; refine qz ?_; refine qq ?_; refine qT ?_; refine qx ?_; refine qq ?_; refine qb ?_; refine qs ?_; refine qp ?_; refine qp ?_; refine qz ?_; refine qq ?_; (refine S_draw _ (fun _ h => h) (by kernel_rfl) rfl (by kernel_rfl) (rfl : _ = 9) ?_; (refine dt 0 rfl (pev_ok rfl) ?_); (refine dt 1 rfl (pev_ok rfl) ?_); (refine dt 2 rfl (T_ixM (sz := 3) rfl rfl rfl rfl rfl rfl hne (by omega)) ?_); (refine dt 3 rfl (T_lda (ds := pec u) rfl rfl rfl (Srd.old h (fun k _ => noOwns k)) rfl (by omega) hat) ?_); (refine dt 4 rfl (pev_ok rfl) ?_); (refine dt 5 rfl (pev_ok rfl) ?_); (refine dt 6 rfl (T_ixM (sz := 3) rfl rfl rfl rfl rfl rfl hne2 (by omega)) ?_); (refine dt 7 rfl (T_lda (ds := pec v) rfl rfl rfl (Srd.old h2 (fun k _ => noOwns k)) rfl (by omega) hat2) ?_); (refine dt 8 rfl (T_nePe (a := u) (b := v) rfl rfl huv) ?_); refine D_done ?_ (by kernel_rfl)); refine qT ?_; refine qs ?_; refine qp ?_; refine qz ?_)
        exact hB _ _ _ _ _ rfl rfl fun w' hS => ⟨(), rfl, trivial, hS.sublist (List.nil_sublist _)⟩
      · focus (refine qs ?_; refine qd ?_; refine qz ?_; refine qq ?_; refine qT ?_; refine qx ?_; refine qq ?_; refine qb ?_; refine qs ?_; refine qp ?_; refine qp ?_; refine qz ?_; refine qq ?_; (refine S_draw _ (fun _ h => h) (by kernel_rfl) rfl (by kernel_rfl) (rfl : _ = 9) ?_; (refine dt 0 rfl (pev_ok rfl) ?_); (refine dt 1 rfl (pev_ok rfl) ?_); (refine dt 2 rfl (T_ixM (sz := 3) rfl rfl rfl rfl rfl rfl hne (by omega)) ?_); (refine dt 3 rfl (T_lda (ds := pec u) rfl rfl rfl (Srd.old h (fun k _ => noOwns k)) rfl (by omega) hat) ?_); (refine dt 4 rfl (pev_ok rfl) ?_); (refine dt 5 rfl (pev_ok rfl) ?_); (refine dt 6 rfl (T_ixM (sz := 3) rfl rfl rfl rfl rfl rfl hne2 (by omega)) ?_); (refine dt 7 rfl (T_lda (ds := pec v) rfl rfl rfl (Srd.old h2 (fun k _ => noOwns k)) rfl (by omega) hat2) ?_); (refine dt 8 rfl (T_nePe (a := u) (b := v) rfl rfl huv) ?_); refine D_done ?_ (by kernel_rfl)); refine qF ?_; refine qx ?_; refine RS_blk ?_; refine qr ?_; refine qt (T_addN rfl rfl (by unfold fits; omega)) ?_; refine qp ?_; refine qz ?_)
        exact hJ (j + 1) _ _ ⟨by omega, hnx (of_decide_eq_true huv)⟩ (Sub.cons rfl (Sub.cons rfl (Sub.cons rfl (Sub.cons rfl Sub.nil)))) (fun _ h => h.sublist (List.nil_sublist _)) (by omega)
    have hjn : j = L.length := by omega
    subst hjn
    obtain rfl : r = true := by rw [← hr]; exact decide_eq_true (pe_eq hlen hok)
    focus (refine qs ?_; refine qf ?_; refine qz ?_; refine qq ?_; refine qF ?_; refine S_exit rfl rfl ?_; refine qs ?_; refine qp ?_; refine qz ?_)
    exact hB _ _ _ _ _ rfl rfl fun w' hS => ⟨(), rfl, trivial, hS.sublist (List.nil_sublist _)⟩
  · obtain rfl : r = false := by rw [← hr]; exact decide_eq_false fun e => hlen (by rw [e])
    focus (refine qs ?_; refine qp ?_; refine qz ?_; refine qq ?_; refine qs ?_; (iterate 4 refine qp ?_); refine qd ?_; refine qz ?_; refine qT ?_; refine qs ?_; refine qp ?_; refine qz ?_)
    exact hB _ _ _ _ _ rfl rfl fun w' hS => ⟨(), rfl, trivial, hS.sublist (List.nil_sublist _)⟩
theorem eqlI_k (w : World) (A A2 : Option Addr) (n c n2 c2 : Nat) (ms ks : List Int) (h : Rd w All 1 A n (ms.map zv)) (h2 : Rd w All 1 A2 n2 (ks.map zv)) (hn : n ≤ 1000) (hn2 : n2 ≤ 1000) (r : Bool) (hr : decide (ms = ks) = r) :
    Gives Tryz.prog 90 [.slice A n c, .slice A2 n2 c2] [] w (X := Unit) (fun _ => .bool r) (fun _ => True) (fun _ => []) := hr ▸ eql_any w A A2 n c n2 c2 ms ks h h2 hn hn2
theorem cos_k (w : World) (A A2 : Option Addr) (n c n2 c2 : Nat) (ms ks : List Int) (h : Rd w All 1 A n (ms.map zv)) (h2 : Rd w All 1 A2 n2 (ks.map zv)) (hn : n ≤ 1000) (hn2 : n2 ≤ 1000) (r : Bool) (hr : decide (ms = ks) = r) :
    Gives Tryz.prog 89 [C.cfv A n c, C.cfv A2 n2 c2] [] w (X := Unit) (fun _ => .bool r) (fun _ => True) (fun _ => []) := hr ▸ C.cosame_any w A A2 n c n2 c2 ms ks h h2 hn hn2
theorem cosD_k (w : World) (A A2 : Option Addr) (n c n2 c2 : Nat) (ms ks : List Int) (h : Rd w All 1 A n (ms.map zv)) (h2 : Rd w All 1 A2 n2 (ks.map zv)) (hn : n ≤ 1000) (hn2 : n2 ≤ 1000) (r : Bool) (hr : decide (ms = ks) = r) :
    Gives Tryz.prog 31 [C.cfv A n c, C.cfv A2 n2 c2] [] w (X := Unit) (fun _ => .bool r) (fun _ => True) (fun _ => []) := hr ▸ C.rsame_any w A A2 n c n2 c2 ms ks h h2 hn hn2
theorem sameLg_kb (w : World) (A A2 : Option Addr) (c c2' k k2 : Nat) (Q M : List Em) (a b : At) (l l2 : List En) (hk : Q.length = k) (hk2 : M.length = k2) (hl : Q.map emv = l) (hl2 : M.map emv = l2) (h : Rd w All 3 A k (cellsL emc Q)) (h2 : Rd w All 3 A2 k2 (cellsL emc M)) (hq : ∀ m ∈ Q, BsM w m) (hm : ∀ m ∈ M, BsM w m) (hn : k ≤ 100000) (hn2 : k2 ≤ 100000) (r : Bool) (hr : (decide (a = b) && decide (l = l2)) = r) :
    Gives Tryz.prog 61 [.agg (lgc a A k c).toArray, .agg (lgc b A2 k2 c2').toArray] [] w (X := Unit) (fun _ => .bool r) (fun _ => True) (fun _ => []) := by
  subst hk
  subst hk2
  subst hl
  subst hl2
  subst hr
  exact same_any w a b A A2 c c2' Q M h h2 hq hm hn hn2
theorem sameDL_k (w : World) (A A2 : Option Addr) (c c2' k k2 : Nat) (Q M : List Em) (a b : At) (l l2 : List En) (hk : Q.length = k) (hk2 : M.length = k2) (hl : Q.map emv = l) (hl2 : M.map emv = l2) (h : Rd w All 3 A k (cellsL emc Q)) (h2 : Rd w All 3 A2 k2 (cellsL emc M)) (hq : ∀ m ∈ Q, BsM w m) (hm : ∀ m ∈ M, BsM w m) (hn : k ≤ 100000) (hn2 : k2 ≤ 100000) (r : Bool) (hr : (decide (a = b) && decide (l = l2)) = r) :
    Gives Tryz.prog 69 [.agg (lgc a A k c).toArray, .agg (lgc b A2 k2 c2').toArray] [] w (X := Unit) (fun _ => .bool r) (fun _ => True) (fun _ => []) := by
  subst hk
  subst hk2
  subst hl
  subst hl2
  subst hr
  exact sameD_any w a b A A2 c c2' Q M h h2 hq hm hn hn2
set_option maxRecDepth 100000 in
set_option maxHeartbeats 4000000 in
theorem rsame_k (w : World) (x y : Rs) (p q : Rp) (h : RfR w x p) (h2 : RfR w y q) (r : Bool) (hr : (sameL x y).all id = r) :
    Gives Tryz.prog 28 [.agg (rfc x p).toArray, .agg (rfc y q).toArray] [] w (X := Unit) (fun _ => .bool r) (fun _ => True) (fun _ => []) := by
  refine gives_S Tryz.func28 rfl Tryz.ntmps28 Tryz.results28 (by simp) (St.enter w) (fun B hB => ?_)
  have z0 := h.hvn
  have z1 := h.hvm
  have z2 := h.hpn
  have z3 := h.hpm
  have z4 := h.lg.hcm
  have z5 := h.lg.hm
  have z6 := h2.hvn
  have z7 := h2.hvm
  have z8 := h2.hpn
  have z9 := h2.hpm
  have z10 := h2.lg.hcm
  have z11 := h2.lg.hm
  cases e0 : restB x y
  · obtain rfl : r = false := by rw [← hr, sameB_eq, e0]; simp
    focus (refine qs ?_; (refine qe (E_boxa (cs := rfc x p) rfl) ?_; rintro _ _ ⟨b2, rfl, rfl⟩); (refine qe (E_boxa (cs := rfc y q) rfl) ?_; rintro _ _ ⟨b3, rfl, rfl⟩); refine qp ?_; refine qn ?_; refine qp ?_; refine qz ?_; refine qq ?_)
    refine S_draw ([pt b3 42 (rfc y q), pt b2 42 (rfc x p)]) sub_st (by kernel_rfl) rfl (by kernel_rfl) (by kernel_rfl : _ = 36) ?_
    refine dt 0 rfl (pev_ok rfl) ?_
    refine dt 1 rfl (T_loads (ds := rfc x p) rfl rfl rfl rfl rfl) ?_
    refine dt 3 rfl (pev_ok rfl) ?_
    refine dt 4 rfl (T_loads (ds := rfc y q) rfl rfl rfl rfl rfl) ?_
    refine D_one 2 rfl (E_cloA (cap := []) rfl (E_hv0 (f := 88) ⟨_, Tryz.func88, rfl, by kernel_rfl⟩ (fun w hS => rest_any w x p) rfl rfl (fun _ => rfl))) ?_ rfl rfl (by kernel_rfl)
    rintro _ _ ⟨_, rfl, _, rfl⟩
    refine Nx_same sub_st ?_
    refine D_one 5 rfl (E_cloA (cap := []) rfl (E_hv0 (f := 88) ⟨_, Tryz.func88, rfl, by kernel_rfl⟩ (fun w hS => rest_any w y q) rfl rfl (fun _ => rfl))) ?_ rfl rfl (by kernel_rfl)
    rintro _ _ ⟨_, rfl, _, rfl⟩
    refine Nx_same sub_st ?_
    refine dt 6 rfl (T_eqRest (a := x) (b := y) rfl rfl e0) ?_
    refine dt 7 rfl (pev_ok rfl) ?_
    refine D_skip 8 rfl ?_ rfl rfl (by kernel_rfl) (by kernel_rfl)
    refine D_skip 9 rfl ?_ rfl rfl (by kernel_rfl) (by kernel_rfl)
    refine D_skip 10 rfl ?_ rfl rfl (by kernel_rfl) (by kernel_rfl)
    refine D_skip 11 rfl ?_ rfl rfl (by kernel_rfl) (by kernel_rfl)
    refine D_skip 12 rfl ?_ rfl rfl (by kernel_rfl) (by kernel_rfl)
    refine dt 13 rfl (pev_ok rfl) ?_
    refine dt 14 rfl (pev_ok rfl) ?_
    refine D_skip 15 rfl ?_ rfl rfl (by kernel_rfl) (by kernel_rfl)
    refine D_skip 16 rfl ?_ rfl rfl (by kernel_rfl) (by kernel_rfl)
    refine D_skip 17 rfl ?_ rfl rfl (by kernel_rfl) (by kernel_rfl)
    refine D_skip 18 rfl ?_ rfl rfl (by kernel_rfl) (by kernel_rfl)
    refine D_skip 19 rfl ?_ rfl rfl (by kernel_rfl) (by kernel_rfl)
    refine dt 20 rfl (pev_ok rfl) ?_
    refine dt 21 rfl (pev_ok rfl) ?_
    refine D_skip 22 rfl ?_ rfl rfl (by kernel_rfl) (by kernel_rfl)
    refine D_skip 23 rfl ?_ rfl rfl (by kernel_rfl) (by kernel_rfl)
    refine D_skip 24 rfl ?_ rfl rfl (by kernel_rfl) (by kernel_rfl)
    refine D_skip 25 rfl ?_ rfl rfl (by kernel_rfl) (by kernel_rfl)
    refine D_skip 26 rfl ?_ rfl rfl (by kernel_rfl) (by kernel_rfl)
    refine dt 27 rfl (pev_ok rfl) ?_
    refine dt 28 rfl (pev_ok rfl) ?_
    refine D_skip 29 rfl ?_ rfl rfl (by kernel_rfl) (by kernel_rfl)
    refine D_skip 30 rfl ?_ rfl rfl (by kernel_rfl) (by kernel_rfl)
    refine D_skip 31 rfl ?_ rfl rfl (by kernel_rfl) (by kernel_rfl)
    refine D_skip 32 rfl ?_ rfl rfl (by kernel_rfl) (by kernel_rfl)
    refine D_skip 33 rfl ?_ rfl rfl (by kernel_rfl) (by kernel_rfl)
    refine dt 34 rfl (pev_ok rfl) ?_
    refine dt 35 rfl (pev_ok rfl) ?_
    refine D_done ?_ (by kernel_rfl)
    skip
    skip
    exact hB _ _ _ _ _ rfl rfl fun w' hS => ⟨(), rfl, trivial, hS.sublist (List.nil_sublist _)⟩
  cases e8 : decide (x.base = y.base) && decide (x.es = y.es)
  · obtain rfl : r = false := by rw [← hr, sameB_eq, e0, e8]; simp
    focus (refine qs ?_; (refine qe (E_boxa (cs := rfc x p) rfl) ?_; rintro _ _ ⟨b2, rfl, rfl⟩); (refine qe (E_boxa (cs := rfc y q) rfl) ?_; rintro _ _ ⟨b3, rfl, rfl⟩); refine qp ?_; refine qn ?_; refine qp ?_; refine qz ?_; refine qq ?_)
    refine S_draw ([pt b3 42 (rfc y q), pt b2 42 (rfc x p)]) sub_st (by kernel_rfl) rfl (by kernel_rfl) (by kernel_rfl : _ = 36) ?_
    refine dt 0 rfl (pev_ok rfl) ?_
    refine dt 1 rfl (T_loads (ds := rfc x p) rfl rfl rfl rfl rfl) ?_
    refine dt 3 rfl (pev_ok rfl) ?_
    refine dt 4 rfl (T_loads (ds := rfc y q) rfl rfl rfl rfl rfl) ?_
    refine D_one 2 rfl (E_cloA (cap := []) rfl (E_hv0 (f := 88) ⟨_, Tryz.func88, rfl, by kernel_rfl⟩ (fun w hS => rest_any w x p) rfl rfl (fun _ => rfl))) ?_ rfl rfl (by kernel_rfl)
    rintro _ _ ⟨_, rfl, _, rfl⟩
    refine Nx_same sub_st ?_
    refine D_one 5 rfl (E_cloA (cap := []) rfl (E_hv0 (f := 88) ⟨_, Tryz.func88, rfl, by kernel_rfl⟩ (fun w hS => rest_any w y q) rfl rfl (fun _ => rfl))) ?_ rfl rfl (by kernel_rfl)
    rintro _ _ ⟨_, rfl, _, rfl⟩
    refine Nx_same sub_st ?_
    refine dt 6 rfl (T_eqRest (a := x) (b := y) rfl rfl e0) ?_
    refine dt 7 rfl (pev_ok rfl) ?_
    refine dt 8 rfl (pev_ok rfl) ?_
    refine dt 9 rfl (T_loads (ds := lgc x.base p.A p.n p.c) rfl rfl rfl rfl rfl) ?_
    refine dt 10 rfl (pev_ok rfl) ?_
    refine dt 11 rfl (T_loads (ds := lgc y.base q.A q.n q.c) rfl rfl rfl rfl rfl) ?_
    refine D_one 12 rfl (E_hv0 (f := 61) ⟨_, Tryz.func61, rfl, by kernel_rfl⟩ (fun w hS => sameLg_kb w p.A q.A p.c q.c p.n q.n p.Q q.Q x.base y.base x.es y.es h.lg.hn h2.lg.hn h.lg.hQ h2.lg.hQ (h.keep hS.kpO).lg.rq (h2.keep hS.kpO).lg.rq (h.keep hS.kpO).lg.bq (h2.keep hS.kpO).lg.bq (by omega) (by omega) _ e8) rfl rfl (fun _ => rfl)) ?_ rfl rfl (by kernel_rfl)
    rintro _ _ ⟨_, rfl, _, rfl⟩
    refine Nx_same sub_st ?_
    refine dt 13 rfl (pev_ok rfl) ?_
    refine dt 14 rfl (pev_ok rfl) ?_
    refine D_skip 15 rfl ?_ rfl rfl (by kernel_rfl) (by kernel_rfl)
    refine D_skip 16 rfl ?_ rfl rfl (by kernel_rfl) (by kernel_rfl)
    refine D_skip 17 rfl ?_ rfl rfl (by kernel_rfl) (by kernel_rfl)
    refine D_skip 18 rfl ?_ rfl rfl (by kernel_rfl) (by kernel_rfl)
    refine D_skip 19 rfl ?_ rfl rfl (by kernel_rfl) (by kernel_rfl)
    refine dt 20 rfl (pev_ok rfl) ?_
    refine dt 21 rfl (pev_ok rfl) ?_
    refine D_skip 22 rfl ?_ rfl rfl (by kernel_rfl) (by kernel_rfl)
    refine D_skip 23 rfl ?_ rfl rfl (by kernel_rfl) (by kernel_rfl)
    refine D_skip 24 rfl ?_ rfl rfl (by kernel_rfl) (by kernel_rfl)
    refine D_skip 25 rfl ?_ rfl rfl (by kernel_rfl) (by kernel_rfl)
    refine D_skip 26 rfl ?_ rfl rfl (by kernel_rfl) (by kernel_rfl)
    refine dt 27 rfl (pev_ok rfl) ?_
    refine dt 28 rfl (pev_ok rfl) ?_
    refine D_skip 29 rfl ?_ rfl rfl (by kernel_rfl) (by kernel_rfl)
    refine D_skip 30 rfl ?_ rfl rfl (by kernel_rfl) (by kernel_rfl)
    refine D_skip 31 rfl ?_ rfl rfl (by kernel_rfl) (by kernel_rfl)
    refine D_skip 32 rfl ?_ rfl rfl (by kernel_rfl) (by kernel_rfl)
    refine D_skip 33 rfl ?_ rfl rfl (by kernel_rfl) (by kernel_rfl)
    refine dt 34 rfl (pev_ok rfl) ?_
    refine dt 35 rfl (pev_ok rfl) ?_
    refine D_done ?_ (by kernel_rfl)
    skip
    skip
    exact hB _ _ _ _ _ rfl rfl fun w' hS => ⟨(), rfl, trivial, hS.sublist (List.nil_sublist _)⟩
  cases e9 : decide (x.cf = y.cf)
  · obtain rfl : r = false := by rw [← hr, sameB_eq, e0, e8, e9]; simp
    focus (refine qs ?_; (refine qe (E_boxa (cs := rfc x p) rfl) ?_; rintro _ _ ⟨b2, rfl, rfl⟩); (refine qe (E_boxa (cs := rfc y q) rfl) ?_; rintro _ _ ⟨b3, rfl, rfl⟩); refine qp ?_; refine qn ?_; refine qp ?_; refine qz ?_; refine qq ?_)
    refine S_draw ([pt b3 42 (rfc y q), pt b2 42 (rfc x p)]) sub_st (by kernel_rfl) rfl (by kernel_rfl) (by kernel_rfl : _ = 36) ?_
    refine dt 0 rfl (pev_ok rfl) ?_
    refine dt 1 rfl (T_loads (ds := rfc x p) rfl rfl rfl rfl rfl) ?_
    refine dt 3 rfl (pev_ok rfl) ?_
    refine dt 4 rfl (T_loads (ds := rfc y q) rfl rfl rfl rfl rfl) ?_
    refine D_one 2 rfl (E_cloA (cap := []) rfl (E_hv0 (f := 88) ⟨_, Tryz.func88, rfl, by kernel_rfl⟩ (fun w hS => rest_any w x p) rfl rfl (fun _ => rfl))) ?_ rfl rfl (by kernel_rfl)
    rintro _ _ ⟨_, rfl, _, rfl⟩
    refine Nx_same sub_st ?_
    refine D_one 5 rfl (E_cloA (cap := []) rfl (E_hv0 (f := 88) ⟨_, Tryz.func88, rfl, by kernel_rfl⟩ (fun w hS => rest_any w y q) rfl rfl (fun _ => rfl))) ?_ rfl rfl (by kernel_rfl)
    rintro _ _ ⟨_, rfl, _, rfl⟩
    refine Nx_same sub_st ?_
    refine dt 6 rfl (T_eqRest (a := x) (b := y) rfl rfl e0) ?_
    refine dt 7 rfl (pev_ok rfl) ?_
    refine dt 8 rfl (pev_ok rfl) ?_
    refine dt 9 rfl (T_loads (ds := lgc x.base p.A p.n p.c) rfl rfl rfl rfl rfl) ?_
    refine dt 10 rfl (pev_ok rfl) ?_
    refine dt 11 rfl (T_loads (ds := lgc y.base q.A q.n q.c) rfl rfl rfl rfl rfl) ?_
    refine D_one 12 rfl (E_hv0 (f := 61) ⟨_, Tryz.func61, rfl, by kernel_rfl⟩ (fun w hS => sameLg_kb w p.A q.A p.c q.c p.n q.n p.Q q.Q x.base y.base x.es y.es h.lg.hn h2.lg.hn h.lg.hQ h2.lg.hQ (h.keep hS.kpO).lg.rq (h2.keep hS.kpO).lg.rq (h.keep hS.kpO).lg.bq (h2.keep hS.kpO).lg.bq (by omega) (by omega) _ e8) rfl rfl (fun _ => rfl)) ?_ rfl rfl (by kernel_rfl)
    rintro _ _ ⟨_, rfl, _, rfl⟩
    refine Nx_same sub_st ?_
    refine dt 13 rfl (pev_ok rfl) ?_
    refine dt 14 rfl (pev_ok rfl) ?_
    refine dt 15 rfl (pev_ok rfl) ?_
    refine dt 16 rfl (T_loads (ds := [.slice p.cA p.cn p.cc]) rfl rfl rfl rfl rfl) ?_
    refine dt 17 rfl (pev_ok rfl) ?_
    refine dt 18 rfl (T_loads (ds := [.slice q.cA q.cn q.cc]) rfl rfl rfl rfl rfl) ?_
    refine D_one 19 rfl (E_hv0 (f := 89) ⟨_, Tryz.func89, rfl, by kernel_rfl⟩ (fun w hS => cos_k w p.cA q.cA p.cn p.cc q.cn q.cc x.cf y.cf (h.keep hS.kpO).lg.rc (h2.keep hS.kpO).lg.rc (by omega) (by omega) _ e9) rfl rfl (fun _ => rfl)) ?_ rfl rfl (by kernel_rfl)
    rintro _ _ ⟨_, rfl, _, rfl⟩
    refine Nx_same sub_st ?_
    refine dt 20 rfl (pev_ok rfl) ?_
    refine dt 21 rfl (pev_ok rfl) ?_
    refine D_skip 22 rfl ?_ rfl rfl (by kernel_rfl) (by kernel_rfl)
    refine D_skip 23 rfl ?_ rfl rfl (by kernel_rfl) (by kernel_rfl)
    refine D_skip 24 rfl ?_ rfl rfl (by kernel_rfl) (by kernel_rfl)
    refine D_skip 25 rfl ?_ rfl rfl (by kernel_rfl) (by kernel_rfl)
    refine D_skip 26 rfl ?_ rfl rfl (by kernel_rfl) (by kernel_rfl)
    refine dt 27 rfl (pev_ok rfl) ?_
    refine dt 28 rfl (pev_ok rfl) ?_
    refine D_skip 29 rfl ?_ rfl rfl (by kernel_rfl) (by kernel_rfl)
    refine D_skip 30 rfl ?_ rfl rfl (by kernel_rfl) (by kernel_rfl)
    refine D_skip 31 rfl ?_ rfl rfl (by kernel_rfl) (by kernel_rfl)
    refine D_skip 32 rfl ?_ rfl rfl (by kernel_rfl) (by kernel_rfl)
    refine D_skip 33 rfl ?_ rfl rfl (by kernel_rfl) (by kernel_rfl)
    refine dt 34 rfl (pev_ok rfl) ?_
    refine dt 35 rfl (pev_ok rfl) ?_
    refine D_done ?_ (by kernel_rfl)
    skip
    skip
    exact hB _ _ _ _ _ rfl rfl fun w' hS => ⟨(), rfl, trivial, hS.sublist (List.nil_sublist _)⟩
  cases e10 : decide (x.votes = y.votes)
  · obtain rfl : r = false := by rw [← hr, sameB_eq, e0, e8, e9, e10]; simp
    focus (refine qs ?_; (refine qe (E_boxa (cs := rfc x p) rfl) ?_; rintro _ _ ⟨b2, rfl, rfl⟩); (refine qe (E_boxa (cs := rfc y q) rfl) ?_; rintro _ _ ⟨b3, rfl, rfl⟩); refine qp ?_; refine qn ?_; refine qp ?_; refine qz ?_; refine qq ?_)
    refine S_draw ([pt b3 42 (rfc y q), pt b2 42 (rfc x p)]) sub_st (by kernel_rfl) rfl (by kernel_rfl) (by kernel_rfl : _ = 36) ?_
    refine dt 0 rfl (pev_ok rfl) ?_
    refine dt 1 rfl (T_loads (ds := rfc x p) rfl rfl rfl rfl rfl) ?_
    refine dt 3 rfl (pev_ok rfl) ?_
    refine dt 4 rfl (T_loads (ds := rfc y q) rfl rfl rfl rfl rfl) ?_
    refine D_one 2 rfl (E_cloA (cap := []) rfl (E_hv0 (f := 88) ⟨_, Tryz.func88, rfl, by kernel_rfl⟩ (fun w hS => rest_any w x p) rfl rfl (fun _ => rfl))) ?_ rfl rfl (by kernel_rfl)
    rintro _ _ ⟨_, rfl, _, rfl⟩
    refine Nx_same sub_st ?_
    refine D_one 5 rfl (E_cloA (cap := []) rfl (E_hv0 (f := 88) ⟨_, Tryz.func88, rfl, by kernel_rfl⟩ (fun w hS => rest_any w y q) rfl rfl (fun _ => rfl))) ?_ rfl rfl (by kernel_rfl)
    rintro _ _ ⟨_, rfl, _, rfl⟩
    refine Nx_same sub_st ?_
    refine dt 6 rfl (T_eqRest (a := x) (b := y) rfl rfl e0) ?_
    refine dt 7 rfl (pev_ok rfl) ?_
    refine dt 8 rfl (pev_ok rfl) ?_
    refine dt 9 rfl (T_loads (ds := lgc x.base p.A p.n p.c) rfl rfl rfl rfl rfl) ?_
    refine dt 10 rfl (pev_ok rfl) ?_
    refine dt 11 rfl (T_loads (ds := lgc y.base q.A q.n q.c) rfl rfl rfl rfl rfl) ?_
    refine D_one 12 rfl (E_hv0 (f := 61) ⟨_, Tryz.func61, rfl, by kernel_rfl⟩ (fun w hS => sameLg_kb w p.A q.A p.c q.c p.n q.n p.Q q.Q x.base y.base x.es y.es h.lg.hn h2.lg.hn h.lg.hQ h2.lg.hQ (h.keep hS.kpO).lg.rq (h2.keep hS.kpO).lg.rq (h.keep hS.kpO).lg.bq (h2.keep hS.kpO).lg.bq (by omega) (by omega) _ e8) rfl rfl (fun _ => rfl)) ?_ rfl rfl (by kernel_rfl)
    rintro _ _ ⟨_, rfl, _, rfl⟩
    refine Nx_same sub_st ?_
    refine dt 13 rfl (pev_ok rfl) ?_
    refine dt 14 rfl (pev_ok rfl) ?_
    refine dt 15 rfl (pev_ok rfl) ?_
    refine dt 16 rfl (T_loads (ds := [.slice p.cA p.cn p.cc]) rfl rfl rfl rfl rfl) ?_
    refine dt 17 rfl (pev_ok rfl) ?_
    refine dt 18 rfl (T_loads (ds := [.slice q.cA q.cn q.cc]) rfl rfl rfl rfl rfl) ?_
    refine D_one 19 rfl (E_hv0 (f := 89) ⟨_, Tryz.func89, rfl, by kernel_rfl⟩ (fun w hS => cos_k w p.cA q.cA p.cn p.cc q.cn q.cc x.cf y.cf (h.keep hS.kpO).lg.rc (h2.keep hS.kpO).lg.rc (by omega) (by omega) _ e9) rfl rfl (fun _ => rfl)) ?_ rfl rfl (by kernel_rfl)
    rintro _ _ ⟨_, rfl, _, rfl⟩
    refine Nx_same sub_st ?_
    refine dt 20 rfl (pev_ok rfl) ?_
    refine dt 21 rfl (pev_ok rfl) ?_
    refine dt 22 rfl (pev_ok rfl) ?_
    refine dt 23 rfl (T_load rfl rfl rfl rfl) ?_
    refine dt 24 rfl (pev_ok rfl) ?_
    refine dt 25 rfl (T_load rfl rfl rfl rfl) ?_
    refine D_one 26 rfl (E_hv0 (f := 90) ⟨_, Tryz.func90, rfl, by kernel_rfl⟩ (fun w hS => eqlI_k w p.vA q.vA p.vn p.vc q.vn q.vc x.votes y.votes (h.keep hS.kpO).rv (h2.keep hS.kpO).rv (by omega) (by omega) _ e10) rfl rfl (fun _ => rfl)) ?_ rfl rfl (by kernel_rfl)
    rintro _ _ ⟨_, rfl, _, rfl⟩
    refine Nx_same sub_st ?_
    refine dt 27 rfl (pev_ok rfl) ?_
    refine dt 28 rfl (pev_ok rfl) ?_
    refine D_skip 29 rfl ?_ rfl rfl (by kernel_rfl) (by kernel_rfl)
    refine D_skip 30 rfl ?_ rfl rfl (by kernel_rfl) (by kernel_rfl)
    refine D_skip 31 rfl ?_ rfl rfl (by kernel_rfl) (by kernel_rfl)
    refine D_skip 32 rfl ?_ rfl rfl (by kernel_rfl) (by kernel_rfl)
    refine D_skip 33 rfl ?_ rfl rfl (by kernel_rfl) (by kernel_rfl)
    refine dt 34 rfl (pev_ok rfl) ?_
    refine dt 35 rfl (pev_ok rfl) ?_
    refine D_done ?_ (by kernel_rfl)
    skip
    skip
    exact hB _ _ _ _ _ rfl rfl fun w' hS => ⟨(), rfl, trivial, hS.sublist (List.nil_sublist _)⟩
  cases e11 : decide (x.peers = y.peers)
  · obtain rfl : r = false := by rw [← hr, sameB_eq, e0, e8, e9, e10, e11]; simp
    focus (refine qs ?_; (refine qe (E_boxa (cs := rfc x p) rfl) ?_; rintro _ _ ⟨b2, rfl, rfl⟩); (refine qe (E_boxa (cs := rfc y q) rfl) ?_; rintro _ _ ⟨b3, rfl, rfl⟩); refine qp ?_; refine qn ?_; refine qp ?_; refine qz ?_; refine qq ?_)
    refine S_draw ([pt b3 42 (rfc y q), pt b2 42 (rfc x p)]) sub_st (by kernel_rfl) rfl (by kernel_rfl) (by kernel_rfl : _ = 36) ?_
    refine dt 0 rfl (pev_ok rfl) ?_
    refine dt 1 rfl (T_loads (ds := rfc x p) rfl rfl rfl rfl rfl) ?_
    refine dt 3 rfl (pev_ok rfl) ?_
    refine dt 4 rfl (T_loads (ds := rfc y q) rfl rfl rfl rfl rfl) ?_
    refine D_one 2 rfl (E_cloA (cap := []) rfl (E_hv0 (f := 88) ⟨_, Tryz.func88, rfl, by kernel_rfl⟩ (fun w hS => rest_any w x p) rfl rfl (fun _ => rfl))) ?_ rfl rfl (by kernel_rfl)
    rintro _ _ ⟨_, rfl, _, rfl⟩
    refine Nx_same sub_st ?_
    refine D_one 5 rfl (E_cloA (cap := []) rfl (E_hv0 (f := 88) ⟨_, Tryz.func88, rfl, by kernel_rfl⟩ (fun w hS => rest_any w y q) rfl rfl (fun _ => rfl))) ?_ rfl rfl (by kernel_rfl)
    rintro _ _ ⟨_, rfl, _, rfl⟩
    refine Nx_same sub_st ?_
    refine dt 6 rfl (T_eqRest (a := x) (b := y) rfl rfl e0) ?_
    refine dt 7 rfl (pev_ok rfl) ?_
    refine dt 8 rfl (pev_ok rfl) ?_
    refine dt 9 rfl (T_loads (ds := lgc x.base p.A p.n p.c) rfl rfl rfl rfl rfl) ?_
    refine dt 10 rfl (pev_ok rfl) ?_
    refine dt 11 rfl (T_loads (ds := lgc y.base q.A q.n q.c) rfl rfl rfl rfl rfl) ?_
    refine D_one 12 rfl (E_hv0 (f := 61) ⟨_, Tryz.func61, rfl, by kernel_rfl⟩ (fun w hS => sameLg_kb w p.A q.A p.c q.c p.n q.n p.Q q.Q x.base y.base x.es y.es h.lg.hn h2.lg.hn h.lg.hQ h2.lg.hQ (h.keep hS.kpO).lg.rq (h2.keep hS.kpO).lg.rq (h.keep hS.kpO).lg.bq (h2.keep hS.kpO).lg.bq (by omega) (by omega) _ e8) rfl rfl (fun _ => rfl)) ?_ rfl rfl (by kernel_rfl)
    rintro _ _ ⟨_, rfl, _, rfl⟩
    refine Nx_same sub_st ?_
    refine dt 13 rfl (pev_ok rfl) ?_
    refine dt 14 rfl (pev_ok rfl) ?_
    refine dt 15 rfl (pev_ok rfl) ?_
    refine dt 16 rfl (T_loads (ds := [.slice p.cA p.cn p.cc]) rfl rfl rfl rfl rfl) ?_
    refine dt 17 rfl (pev_ok rfl) ?_
    refine dt 18 rfl (T_loads (ds := [.slice q.cA q.cn q.cc]) rfl rfl rfl rfl rfl) ?_
    refine D_one 19 rfl (E_hv0 (f := 89) ⟨_, Tryz.func89, rfl, by kernel_rfl⟩ (fun w hS => cos_k w p.cA q.cA p.cn p.cc q.cn q.cc x.cf y.cf (h.keep hS.kpO).lg.rc (h2.keep hS.kpO).lg.rc (by omega) (by omega) _ e9) rfl rfl (fun _ => rfl)) ?_ rfl rfl (by kernel_rfl)
    rintro _ _ ⟨_, rfl, _, rfl⟩
    refine Nx_same sub_st ?_
    refine dt 20 rfl (pev_ok rfl) ?_
    refine dt 21 rfl (pev_ok rfl) ?_
    refine dt 22 rfl (pev_ok rfl) ?_
    refine dt 23 rfl (T_load rfl rfl rfl rfl) ?_
    refine dt 24 rfl (pev_ok rfl) ?_
    refine dt 25 rfl (T_load rfl rfl rfl rfl) ?_
    refine D_one 26 rfl (E_hv0 (f := 90) ⟨_, Tryz.func90, rfl, by kernel_rfl⟩ (fun w hS => eqlI_k w p.vA q.vA p.vn p.vc q.vn q.vc x.votes y.votes (h.keep hS.kpO).rv (h2.keep hS.kpO).rv (by omega) (by omega) _ e10) rfl rfl (fun _ => rfl)) ?_ rfl rfl (by kernel_rfl)
    rintro _ _ ⟨_, rfl, _, rfl⟩
    refine Nx_same sub_st ?_
    refine dt 27 rfl (pev_ok rfl) ?_
    refine dt 28 rfl (pev_ok rfl) ?_
    refine dt 29 rfl (pev_ok rfl) ?_
    refine dt 30 rfl (T_load rfl rfl rfl rfl) ?_
    refine dt 31 rfl (pev_ok rfl) ?_
    refine dt 32 rfl (T_load rfl rfl rfl rfl) ?_
    refine D_one 33 rfl (E_hv0 (f := 91) ⟨_, Tryz.func91, rfl, by kernel_rfl⟩ (fun w hS => eqP_k w p.pA q.pA p.pn p.pc q.pn q.pc x.peers y.peers (h.keep hS.kpO).rp (h2.keep hS.kpO).rp (by omega) (by omega) _ e11) rfl rfl (fun _ => rfl)) ?_ rfl rfl (by kernel_rfl)
    rintro _ _ ⟨_, rfl, _, rfl⟩
    refine Nx_same sub_st ?_
    refine dt 34 rfl (pev_ok rfl) ?_
    refine dt 35 rfl (pev_ok rfl) ?_
    refine D_done ?_ (by kernel_rfl)
    skip
    skip
    exact hB _ _ _ _ _ rfl rfl fun w' hS => ⟨(), rfl, trivial, hS.sublist (List.nil_sublist _)⟩
  obtain rfl : r = true := by rw [← hr, sameB_eq, e0, e8, e9, e10, e11]; rfl
  focus (refine qs ?_; (refine qe (E_boxa (cs := rfc x p) rfl) ?_; rintro _ _ ⟨b2, rfl, rfl⟩); (refine qe (E_boxa (cs := rfc y q) rfl) ?_; rintro _ _ ⟨b3, rfl, rfl⟩); refine qp ?_; refine qn ?_; refine qp ?_; refine qz ?_; refine qq ?_)
  refine S_draw ([pt b3 42 (rfc y q), pt b2 42 (rfc x p)]) sub_st (by kernel_rfl) rfl (by kernel_rfl) (by kernel_rfl : _ = 36) ?_
  refine dt 0 rfl (pev_ok rfl) ?_
  refine dt 1 rfl (T_loads (ds := rfc x p) rfl rfl rfl rfl rfl) ?_
  refine dt 3 rfl (pev_ok rfl) ?_
  refine dt 4 rfl (T_loads (ds := rfc y q) rfl rfl rfl rfl rfl) ?_
  refine D_one 2 rfl (E_cloA (cap := []) rfl (E_hv0 (f := 88) ⟨_, Tryz.func88, rfl, by kernel_rfl⟩ (fun w hS => rest_any w x p) rfl rfl (fun _ => rfl))) ?_ rfl rfl (by kernel_rfl)
  rintro _ _ ⟨_, rfl, _, rfl⟩
  refine Nx_same sub_st ?_
  refine D_one 5 rfl (E_cloA (cap := []) rfl (E_hv0 (f := 88) ⟨_, Tryz.func88, rfl, by kernel_rfl⟩ (fun w hS => rest_any w y q) rfl rfl (fun _ => rfl))) ?_ rfl rfl (by kernel_rfl)
  rintro _ _ ⟨_, rfl, _, rfl⟩
  refine Nx_same sub_st ?_
  refine dt 6 rfl (T_eqRest (a := x) (b := y) rfl rfl e0) ?_
  refine dt 7 rfl (pev_ok rfl) ?_
  refine dt 8 rfl (pev_ok rfl) ?_
  refine dt 9 rfl (T_loads (ds := lgc x.base p.A p.n p.c) rfl rfl rfl rfl rfl) ?_
  refine dt 10 rfl (pev_ok rfl) ?_
  refine dt 11 rfl (T_loads (ds := lgc y.base q.A q.n q.c) rfl rfl rfl rfl rfl) ?_
  refine D_one 12 rfl (E_hv0 (f := 61) ⟨_, Tryz.func61, rfl, by kernel_rfl⟩ (fun w hS => sameLg_kb w p.A q.A p.c q.c p.n q.n p.Q q.Q x.base y.base x.es y.es h.lg.hn h2.lg.hn h.lg.hQ h2.lg.hQ (h.keep hS.kpO).lg.rq (h2.keep hS.kpO).lg.rq (h.keep hS.kpO).lg.bq (h2.keep hS.kpO).lg.bq (by omega) (by omega) _ e8) rfl rfl (fun _ => rfl)) ?_ rfl rfl (by kernel_rfl)
  rintro _ _ ⟨_, rfl, _, rfl⟩
  refine Nx_same sub_st ?_
  refine dt 13 rfl (pev_ok rfl) ?_
  refine dt 14 rfl (pev_ok rfl) ?_
  refine dt 15 rfl (pev_ok rfl) ?_
  refine dt 16 rfl (T_loads (ds := [.slice p.cA p.cn p.cc]) rfl rfl rfl rfl rfl) ?_
  refine dt 17 rfl (pev_ok rfl) ?_
  refine dt 18 rfl (T_loads (ds := [.slice q.cA q.cn q.cc]) rfl rfl rfl rfl rfl) ?_
  refine D_one 19 rfl (E_hv0 (f := 89) ⟨_, Tryz.func89, rfl, by kernel_rfl⟩ (fun w hS => cos_k w p.cA q.cA p.cn p.cc q.cn q.cc x.cf y.cf (h.keep hS.kpO).lg.rc (h2.keep hS.kpO).lg.rc (by omega) (by omega) _ e9) rfl rfl (fun _ => rfl)) ?_ rfl rfl (by kernel_rfl)
  rintro _ _ ⟨_, rfl, _, rfl⟩
  refine Nx_same sub_st ?_
  refine dt 20 rfl (pev_ok rfl) ?_
  refine dt 21 rfl (pev_ok rfl) ?_
  refine dt 22 rfl (pev_ok rfl) ?_
  refine dt 23 rfl (T_load rfl rfl rfl rfl) ?_
  refine dt 24 rfl (pev_ok rfl) ?_
  refine dt 25 rfl (T_load rfl rfl rfl rfl) ?_
  refine D_one 26 rfl (E_hv0 (f := 90) ⟨_, Tryz.func90, rfl, by kernel_rfl⟩ (fun w hS => eqlI_k w p.vA q.vA p.vn p.vc q.vn q.vc x.votes y.votes (h.keep hS.kpO).rv (h2.keep hS.kpO).rv (by omega) (by omega) _ e10) rfl rfl (fun _ => rfl)) ?_ rfl rfl (by kernel_rfl)
  rintro _ _ ⟨_, rfl, _, rfl⟩
  refine Nx_same sub_st ?_
  refine dt 27 rfl (pev_ok rfl) ?_
  refine dt 28 rfl (pev_ok rfl) ?_
  refine dt 29 rfl (pev_ok rfl) ?_
  refine dt 30 rfl (T_load rfl rfl rfl rfl) ?_
  refine dt 31 rfl (pev_ok rfl) ?_
  refine dt 32 rfl (T_load rfl rfl rfl rfl) ?_
  refine D_one 33 rfl (E_hv0 (f := 91) ⟨_, Tryz.func91, rfl, by kernel_rfl⟩ (fun w hS => eqP_k w p.pA q.pA p.pn p.pc q.pn q.pc x.peers y.peers (h.keep hS.kpO).rp (h2.keep hS.kpO).rp (by omega) (by omega) _ e11) rfl rfl (fun _ => rfl)) ?_ rfl rfl (by kernel_rfl)
  rintro _ _ ⟨_, rfl, _, rfl⟩
  refine Nx_same sub_st ?_
  refine dt 34 rfl (pev_ok rfl) ?_
  refine dt 35 rfl (pev_ok rfl) ?_
  refine D_done ?_ (by kernel_rfl)
  skip
  skip
  exact hB _ _ _ _ _ rfl rfl fun w' hS => ⟨(), rfl, trivial, hS.sublist (List.nil_sublist _)⟩
set_option maxRecDepth 100000 in
set_option maxHeartbeats 4000000 in
theorem sameR_k (w : World) (x y : Rs) (p q : Rp) (h : RfR w x p) (h2 : RfR w y q) (r : Bool) (hr : (sameL x y).all id = r) :
    Gives Tryz.prog 22 [.agg (rfc x p).toArray, .agg (rfc y q).toArray] [] w (X := Unit) (fun _ => .bool r) (fun _ => True) (fun _ => []) := by
  refine gives_S Tryz.func22 rfl Tryz.ntmps22 Tryz.results22 (by simp) (St.enter w) (fun B hB => ?_)
  have z0 := h.hvn
  have z1 := h.hvm
  have z2 := h.hpn
  have z3 := h.hpm
  have z4 := h.lg.hcm
  have z5 := h.lg.hm
  have z6 := h2.hvn
  have z7 := h2.hvm
  have z8 := h2.hpn
  have z9 := h2.hpm
  have z10 := h2.lg.hcm
  have z11 := h2.lg.hm
  have hnv : 0 < p.vn → p.vA ≠ none := fun h0 => by obtain ⟨ad, e, _⟩ := h.rv.2 (by omega); rw [e]; simp
  have hnv2 : 0 < q.vn → q.vA ≠ none := fun h0 => by obtain ⟨ad, e, _⟩ := h2.rv.2 (by omega); rw [e]; simp
  have hnp : 0 < p.pn → p.pA ≠ none := fun h0 => by obtain ⟨ad, e, _⟩ := h.rp.2 (by omega); rw [e]; simp
  have hnp2 : 0 < q.pn → q.pA ≠ none := fun h0 => by obtain ⟨ad, e, _⟩ := h2.rp.2 (by omega); rw [e]; simp
  by_cases e0 : x.me = y.me
  rotate_left
  · obtain rfl : r = false := by rw [← hr]; exact all_no 0 (congrArg some (decide_eq_false e0))
    focus (refine qs ?_; (refine qe (E_boxa (cs := rfc x p) rfl) ?_; rintro _ _ ⟨b2, rfl, rfl⟩); (refine qe (E_boxa (cs := rfc y q) rfl) ?_; rintro _ _ ⟨b3, rfl, rfl⟩); refine qp ?_; refine qz ?_; refine qq ?_; refine qs ?_; (iterate 2 refine qp ?_; refine qt (T_load rfl rfl rfl rfl) ?_); refine qd ?_; (iterate 7 refine qp ?_; (iterate 5 refine qk ?_); refine qp ?_); (iterate 2 refine qp ?_; (iterate 6 refine qk ?_); refine qp ?_); (iterate 2 refine qp ?_; (iterate 7 refine qk ?_); refine qp ?_); refine qz ?_; refine qT ?_; refine qs ?_; refine qp ?_; refine qz ?_)
    exact hB _ _ _ _ _ rfl rfl fun w' hS => ⟨(), rfl, trivial, hS.sublist (List.nil_sublist _)⟩
  by_cases e1 : x.term = y.term
  rotate_left
  · obtain rfl : r = false := by rw [← hr]; exact all_no 1 (congrArg some (decide_eq_false e1))
    focus (refine qs ?_; (refine qe (E_boxa (cs := rfc x p) rfl) ?_; rintro _ _ ⟨b2, rfl, rfl⟩); (refine qe (E_boxa (cs := rfc y q) rfl) ?_; rintro _ _ ⟨b3, rfl, rfl⟩); refine qp ?_; refine qz ?_; refine qq ?_; refine qs ?_; (iterate 2 refine qp ?_; refine qt (T_load rfl rfl rfl rfl) ?_); refine qf ?_; refine qp ?_; (iterate 2 refine qp ?_; refine qt (T_load rfl rfl rfl rfl) ?_); refine qd ?_; (iterate 7 refine qp ?_; refine qp ?_; (iterate 5 refine qk ?_)); (iterate 2 refine qk ?_; refine qp ?_; refine qp ?_; (iterate 5 refine qk ?_)); refine qk ?_; refine qk ?_; refine qp ?_; refine qp ?_; (iterate 7 refine qk ?_); refine qp ?_; refine qz ?_; refine qT ?_; refine qs ?_; refine qp ?_; refine qz ?_)
    exact hB _ _ _ _ _ rfl rfl fun w' hS => ⟨(), rfl, trivial, hS.sublist (List.nil_sublist _)⟩
  by_cases e2 : x.vote = y.vote
  rotate_left
  · obtain rfl : r = false := by rw [← hr]; exact all_no 2 (congrArg some (decide_eq_false e2))
    focus (refine qs ?_; (refine qe (E_boxa (cs := rfc x p) rfl) ?_; rintro _ _ ⟨b2, rfl, rfl⟩); (refine qe (E_boxa (cs := rfc y q) rfl) ?_; rintro _ _ ⟨b3, rfl, rfl⟩); refine qp ?_; refine qz ?_; refine qq ?_; refine qs ?_; (iterate 2 (iterate 2 refine qp ?_; refine qt (T_load rfl rfl rfl rfl) ?_); refine qf ?_; refine qp ?_); refine qp ?_; (iterate 2 refine qp ?_; refine qt (T_load rfl rfl rfl rfl) ?_); refine qd ?_; (iterate 6 refine qp ?_; refine qp ?_; (iterate 5 refine qk ?_)); (iterate 2 refine qk ?_; refine qp ?_; refine qp ?_; (iterate 5 refine qk ?_)); refine qk ?_; refine qk ?_; refine qp ?_; refine qp ?_; (iterate 7 refine qk ?_); refine qp ?_; refine qz ?_; refine qT ?_; refine qs ?_; refine qp ?_; refine qz ?_)
    exact hB _ _ _ _ _ rfl rfl fun w' hS => ⟨(), rfl, trivial, hS.sublist (List.nil_sublist _)⟩
  by_cases e3 : x.commit = y.commit
  rotate_left
  · obtain rfl : r = false := by rw [← hr]; exact all_no 3 (congrArg some (decide_eq_false e3))
    focus (refine qs ?_; (refine qe (E_boxa (cs := rfc x p) rfl) ?_; rintro _ _ ⟨b2, rfl, rfl⟩); (refine qe (E_boxa (cs := rfc y q) rfl) ?_; rintro _ _ ⟨b3, rfl, rfl⟩); refine qp ?_; refine qz ?_; refine qq ?_; refine qs ?_; (iterate 2 (iterate 2 refine qp ?_; refine qt (T_load rfl rfl rfl rfl) ?_); refine qf ?_; refine qp ?_); refine qp ?_; (iterate 2 refine qp ?_; refine qt (T_load rfl rfl rfl rfl) ?_); refine qf ?_; (iterate 3 refine qp ?_); refine qt (T_load rfl rfl rfl rfl) ?_; refine qp ?_; refine qt (T_load rfl rfl rfl rfl) ?_; refine qd ?_; (iterate 5 refine qp ?_; refine qp ?_; (iterate 5 refine qk ?_)); (iterate 2 refine qk ?_; refine qp ?_; refine qp ?_; (iterate 5 refine qk ?_)); refine qk ?_; refine qk ?_; refine qp ?_; refine qp ?_; (iterate 7 refine qk ?_); refine qp ?_; refine qz ?_; refine qT ?_; refine qs ?_; refine qp ?_; refine qz ?_)
    exact hB _ _ _ _ _ rfl rfl fun w' hS => ⟨(), rfl, trivial, hS.sublist (List.nil_sublist _)⟩
  by_cases e4 : x.role = y.role
  rotate_left
  · obtain rfl : r = false := by rw [← hr]; exact all_no 4 (congrArg some (decide_eq_false e4))
    focus (refine qs ?_; (refine qe (E_boxa (cs := rfc x p) rfl) ?_; rintro _ _ ⟨b2, rfl, rfl⟩); (refine qe (E_boxa (cs := rfc y q) rfl) ?_; rintro _ _ ⟨b3, rfl, rfl⟩); refine qp ?_; refine qz ?_; refine qq ?_; refine qs ?_; (iterate 2 (iterate 2 refine qp ?_; refine qt (T_load rfl rfl rfl rfl) ?_); refine qf ?_; refine qp ?_); (iterate 2 refine qp ?_; (iterate 2 refine qp ?_; refine qt (T_load rfl rfl rfl rfl) ?_); refine qf ?_; refine qp ?_); refine qp ?_; (iterate 2 refine qp ?_; refine qt (T_load rfl rfl rfl rfl) ?_); refine qd ?_; (iterate 4 refine qp ?_; refine qp ?_; (iterate 5 refine qk ?_)); (iterate 2 refine qk ?_; refine qp ?_; refine qp ?_; (iterate 5 refine qk ?_)); refine qk ?_; refine qk ?_; refine qp ?_; refine qp ?_; (iterate 7 refine qk ?_); refine qp ?_; refine qz ?_; refine qT ?_; refine qs ?_; refine qp ?_; refine qz ?_)
    exact hB _ _ _ _ _ rfl rfl fun w' hS => ⟨(), rfl, trivial, hS.sublist (List.nil_sublist _)⟩
  by_cases e5 : x.leader = y.leader
  rotate_left
  · obtain rfl : r = false := by rw [← hr]; exact all_no 5 (congrArg some (decide_eq_false e5))
    focus (refine qs ?_; (refine qe (E_boxa (cs := rfc x p) rfl) ?_; rintro _ _ ⟨b2, rfl, rfl⟩); (refine qe (E_boxa (cs := rfc y q) rfl) ?_; rintro _ _ ⟨b3, rfl, rfl⟩); refine qp ?_; refine qz ?_; refine qq ?_; refine qs ?_; (iterate 2 (iterate 2 refine qp ?_; refine qt (T_load rfl rfl rfl rfl) ?_); refine qf ?_; refine qp ?_); (iterate 3 refine qp ?_; (iterate 2 refine qp ?_; refine qt (T_load rfl rfl rfl rfl) ?_); refine qf ?_; refine qp ?_); refine qp ?_; (iterate 2 refine qp ?_; refine qt (T_load rfl rfl rfl rfl) ?_); refine qd ?_; (iterate 3 refine qp ?_; refine qp ?_; (iterate 5 refine qk ?_)); (iterate 2 refine qk ?_; refine qp ?_; refine qp ?_; (iterate 5 refine qk ?_)); refine qk ?_; refine qk ?_; refine qp ?_; refine qp ?_; (iterate 7 refine qk ?_); refine qp ?_; refine qz ?_; refine qT ?_; refine qs ?_; refine qp ?_; refine qz ?_)
    exact hB _ _ _ _ _ rfl rfl fun w' hS => ⟨(), rfl, trivial, hS.sublist (List.nil_sublist _)⟩
  by_cases e6 : x.clock = y.clock
  rotate_left
  · obtain rfl : r = false := by rw [← hr]; exact all_no 6 (congrArg some (decide_eq_false e6))
    focus (refine qs ?_; (refine qe (E_boxa (cs := rfc x p) rfl) ?_; rintro _ _ ⟨b2, rfl, rfl⟩); (refine qe (E_boxa (cs := rfc y q) rfl) ?_; rintro _ _ ⟨b3, rfl, rfl⟩); refine qp ?_; refine qz ?_; refine qq ?_; refine qs ?_; (iterate 2 (iterate 2 refine qp ?_; refine qt (T_load rfl rfl rfl rfl) ?_); refine qf ?_; refine qp ?_); (iterate 4 refine qp ?_; (iterate 2 refine qp ?_; refine qt (T_load rfl rfl rfl rfl) ?_); refine qf ?_; refine qp ?_); refine qp ?_; (iterate 2 refine qp ?_; refine qt (T_load rfl rfl rfl rfl) ?_); refine qd ?_; (iterate 2 refine qp ?_; refine qp ?_; (iterate 5 refine qk ?_)); (iterate 2 refine qk ?_; refine qp ?_; refine qp ?_; (iterate 5 refine qk ?_)); refine qk ?_; refine qk ?_; refine qp ?_; refine qp ?_; (iterate 7 refine qk ?_); refine qp ?_; refine qz ?_; refine qT ?_; refine qs ?_; refine qp ?_; refine qz ?_)
    exact hB _ _ _ _ _ rfl rfl fun w' hS => ⟨(), rfl, trivial, hS.sublist (List.nil_sublist _)⟩
  by_cases e7 : x.limit = y.limit
  rotate_left
  · obtain rfl : r = false := by rw [← hr]; exact all_no 7 (congrArg some (decide_eq_false e7))
    focus (refine qs ?_; (refine qe (E_boxa (cs := rfc x p) rfl) ?_; rintro _ _ ⟨b2, rfl, rfl⟩); (refine qe (E_boxa (cs := rfc y q) rfl) ?_; rintro _ _ ⟨b3, rfl, rfl⟩); refine qp ?_; refine qz ?_; refine qq ?_; refine qs ?_; (iterate 2 (iterate 2 refine qp ?_; refine qt (T_load rfl rfl rfl rfl) ?_); refine qf ?_; refine qp ?_); (iterate 5 refine qp ?_; (iterate 2 refine qp ?_; refine qt (T_load rfl rfl rfl rfl) ?_); refine qf ?_; refine qp ?_); refine qp ?_; (iterate 2 refine qp ?_; refine qt (T_load rfl rfl rfl rfl) ?_); refine qd ?_; (iterate 3 refine qp ?_; refine qp ?_; (iterate 6 refine qk ?_)); refine qk ?_; refine qp ?_; refine qp ?_; (iterate 7 refine qk ?_); refine qp ?_; refine qz ?_; refine qT ?_; refine qs ?_; refine qp ?_; refine qz ?_)
    exact hB _ _ _ _ _ rfl rfl fun w' hS => ⟨(), rfl, trivial, hS.sublist (List.nil_sublist _)⟩
  cases e8 : decide (x.base = y.base) && decide (x.es = y.es)
  · obtain rfl : r = false := by rw [← hr]; exact all_no 8 (congrArg some e8)
    focus (refine qs ?_; (refine qe (E_boxa (cs := rfc x p) rfl) ?_; rintro _ _ ⟨b2, rfl, rfl⟩); (refine qe (E_boxa (cs := rfc y q) rfl) ?_; rintro _ _ ⟨b3, rfl, rfl⟩); refine qp ?_; refine qz ?_; refine qq ?_; refine qs ?_; (iterate 2 (iterate 2 refine qp ?_; refine qt (T_load rfl rfl rfl rfl) ?_); refine qf ?_; refine qp ?_); (iterate 6 refine qp ?_; (iterate 2 refine qp ?_; refine qt (T_load rfl rfl rfl rfl) ?_); refine qf ?_; refine qp ?_); refine qp ?_; refine qp ?_; refine qt (T_loads (ds := lgc x.base p.A p.n p.c) rfl rfl rfl rfl rfl) ?_; refine qp ?_; refine qt (T_loads (ds := lgc y.base q.A q.n q.c) rfl rfl rfl rfl rfl) ?_; (refine qe (E_hv0 (f := 69) ⟨_, Tryz.func69, rfl, by kernel_rfl⟩ (fun w hS => sameDL_k w p.A q.A p.c q.c p.n q.n p.Q q.Q x.base y.base x.es y.es h.lg.hn h2.lg.hn h.lg.hQ h2.lg.hQ (h.keep hS.kpO).lg.rq (h2.keep hS.kpO).lg.rq (h.keep hS.kpO).lg.bq (h2.keep hS.kpO).lg.bq (by omega) (by omega) _ e8) rfl rfl (fun _ => rfl)) ?_; rintro _ _ ⟨_, rfl, _, rfl⟩); refine qt (T_not rfl) ?_; (iterate 2 refine qd ?_; refine qd ?_; (iterate 6 refine qk ?_)); refine qk ?_; refine qd ?_; refine qd ?_; (iterate 7 refine qk ?_); refine qd ?_; refine qz ?_; refine qT ?_; refine qs ?_; refine qp ?_; refine qz ?_)
    exact hB _ _ _ _ _ rfl rfl fun w' hS => ⟨(), rfl, trivial, hS.sublist (List.nil_sublist _)⟩
  cases e9 : decide (x.cf = y.cf)
  · obtain rfl : r = false := by rw [← hr]; exact all_no 9 (congrArg some e9)
    focus (refine qs ?_; (refine qe (E_boxa (cs := rfc x p) rfl) ?_; rintro _ _ ⟨b2, rfl, rfl⟩); (refine qe (E_boxa (cs := rfc y q) rfl) ?_; rintro _ _ ⟨b3, rfl, rfl⟩); refine qp ?_; refine qz ?_; refine qq ?_; refine qs ?_; (iterate 2 (iterate 2 refine qp ?_; refine qt (T_load rfl rfl rfl rfl) ?_); refine qf ?_; refine qp ?_); (iterate 6 refine qp ?_; (iterate 2 refine qp ?_; refine qt (T_load rfl rfl rfl rfl) ?_); refine qf ?_; refine qp ?_); refine qp ?_; refine qp ?_; refine qt (T_loads (ds := lgc x.base p.A p.n p.c) rfl rfl rfl rfl rfl) ?_; refine qp ?_; refine qt (T_loads (ds := lgc y.base q.A q.n q.c) rfl rfl rfl rfl rfl) ?_; (refine qe (E_hv0 (f := 69) ⟨_, Tryz.func69, rfl, by kernel_rfl⟩ (fun w hS => sameDL_k w p.A q.A p.c q.c p.n q.n p.Q q.Q x.base y.base x.es y.es h.lg.hn h2.lg.hn h.lg.hQ h2.lg.hQ (h.keep hS.kpO).lg.rq (h2.keep hS.kpO).lg.rq (h.keep hS.kpO).lg.bq (h2.keep hS.kpO).lg.bq (by omega) (by omega) _ e8) rfl rfl (fun _ => rfl)) ?_; rintro _ _ ⟨_, rfl, _, rfl⟩); refine qt (T_not rfl) ?_; (iterate 3 refine qp ?_); refine qt (T_loads (ds := [.slice p.cA p.cn p.cc]) rfl rfl rfl rfl rfl) ?_; refine qp ?_; refine qt (T_loads (ds := [.slice q.cA q.cn q.cc]) rfl rfl rfl rfl rfl) ?_; (refine qe (E_hv0 (f := 31) ⟨_, Tryz.func31, rfl, by kernel_rfl⟩ (fun w hS => cosD_k w p.cA q.cA p.cn p.cc q.cn q.cc x.cf y.cf (h.keep hS.kpO).lg.rc (h2.keep hS.kpO).lg.rc (by omega) (by omega) _ e9) rfl rfl (fun _ => rfl)) ?_; rintro _ _ ⟨_, rfl, _, rfl⟩); refine qt (T_not rfl) ?_; (iterate 2 refine qd ?_; refine qd ?_; (iterate 7 refine qk ?_)); refine qd ?_; refine qz ?_; refine qT ?_; refine qs ?_; refine qp ?_; refine qz ?_)
    exact hB _ _ _ _ _ rfl rfl fun w' hS => ⟨(), rfl, trivial, hS.sublist (List.nil_sublist _)⟩
  by_cases e10 : x.votes.length = y.votes.length
  rotate_left
  · obtain rfl : r = false := by rw [← hr]; exact all_no 10 (congrArg some (decide_eq_false (fun e => e10 (by rw [e]))))
    focus (refine qs ?_; (refine qe (E_boxa (cs := rfc x p) rfl) ?_; rintro _ _ ⟨b2, rfl, rfl⟩); (refine qe (E_boxa (cs := rfc y q) rfl) ?_; rintro _ _ ⟨b3, rfl, rfl⟩); refine qp ?_; refine qz ?_; refine qq ?_; refine qs ?_; (iterate 2 (iterate 2 refine qp ?_; refine qt (T_load rfl rfl rfl rfl) ?_); refine qf ?_; refine qp ?_); (iterate 6 refine qp ?_; (iterate 2 refine qp ?_; refine qt (T_load rfl rfl rfl rfl) ?_); refine qf ?_; refine qp ?_); refine qp ?_; refine qp ?_; refine qt (T_loads (ds := lgc x.base p.A p.n p.c) rfl rfl rfl rfl rfl) ?_; refine qp ?_; refine qt (T_loads (ds := lgc y.base q.A q.n q.c) rfl rfl rfl rfl rfl) ?_; (refine qe (E_hv0 (f := 69) ⟨_, Tryz.func69, rfl, by kernel_rfl⟩ (fun w hS => sameDL_k w p.A q.A p.c q.c p.n q.n p.Q q.Q x.base y.base x.es y.es h.lg.hn h2.lg.hn h.lg.hQ h2.lg.hQ (h.keep hS.kpO).lg.rq (h2.keep hS.kpO).lg.rq (h.keep hS.kpO).lg.bq (h2.keep hS.kpO).lg.bq (by omega) (by omega) _ e8) rfl rfl (fun _ => rfl)) ?_; rintro _ _ ⟨_, rfl, _, rfl⟩); refine qt (T_not rfl) ?_; (iterate 3 refine qp ?_); refine qt (T_loads (ds := [.slice p.cA p.cn p.cc]) rfl rfl rfl rfl rfl) ?_; refine qp ?_; refine qt (T_loads (ds := [.slice q.cA q.cn q.cc]) rfl rfl rfl rfl rfl) ?_; (refine qe (E_hv0 (f := 31) ⟨_, Tryz.func31, rfl, by kernel_rfl⟩ (fun w hS => cosD_k w p.cA q.cA p.cn p.cc q.cn q.cc x.cf y.cf (h.keep hS.kpO).lg.rc (h2.keep hS.kpO).lg.rc (by omega) (by omega) _ e9) rfl rfl (fun _ => rfl)) ?_; rintro _ _ ⟨_, rfl, _, rfl⟩); refine qt (T_not rfl) ?_; (iterate 3 refine qp ?_); refine qt (T_load rfl rfl rfl rfl) ?_; refine qp ?_; refine qp ?_; refine qt (T_load rfl rfl rfl rfl) ?_; refine qp ?_; (iterate 3 refine qd ?_); (iterate 7 refine qk ?_); refine qd ?_; refine qz ?_; refine qT ?_; refine qs ?_; refine qp ?_; refine qz ?_)
    exact hB _ _ _ _ _ rfl rfl fun w' hS => ⟨(), rfl, trivial, hS.sublist (List.nil_sublist _)⟩
  by_cases e11 : x.peers.length = y.peers.length
  rotate_left
  · obtain rfl : r = false := by rw [← hr]; exact all_no 11 (congrArg some (decide_eq_false (fun e => e11 (by rw [e]))))
    focus (refine qs ?_; (refine qe (E_boxa (cs := rfc x p) rfl) ?_; rintro _ _ ⟨b2, rfl, rfl⟩); (refine qe (E_boxa (cs := rfc y q) rfl) ?_; rintro _ _ ⟨b3, rfl, rfl⟩); refine qp ?_; refine qz ?_; refine qq ?_; refine qs ?_; (iterate 2 (iterate 2 refine qp ?_; refine qt (T_load rfl rfl rfl rfl) ?_); refine qf ?_; refine qp ?_); (iterate 6 refine qp ?_; (iterate 2 refine qp ?_; refine qt (T_load rfl rfl rfl rfl) ?_); refine qf ?_; refine qp ?_); refine qp ?_; refine qp ?_; refine qt (T_loads (ds := lgc x.base p.A p.n p.c) rfl rfl rfl rfl rfl) ?_; refine qp ?_; refine qt (T_loads (ds := lgc y.base q.A q.n q.c) rfl rfl rfl rfl rfl) ?_; (refine qe (E_hv0 (f := 69) ⟨_, Tryz.func69, rfl, by kernel_rfl⟩ (fun w hS => sameDL_k w p.A q.A p.c q.c p.n q.n p.Q q.Q x.base y.base x.es y.es h.lg.hn h2.lg.hn h.lg.hQ h2.lg.hQ (h.keep hS.kpO).lg.rq (h2.keep hS.kpO).lg.rq (h.keep hS.kpO).lg.bq (h2.keep hS.kpO).lg.bq (by omega) (by omega) _ e8) rfl rfl (fun _ => rfl)) ?_; rintro _ _ ⟨_, rfl, _, rfl⟩); refine qt (T_not rfl) ?_; (iterate 3 refine qp ?_); refine qt (T_loads (ds := [.slice p.cA p.cn p.cc]) rfl rfl rfl rfl rfl) ?_; refine qp ?_; refine qt (T_loads (ds := [.slice q.cA q.cn q.cc]) rfl rfl rfl rfl rfl) ?_; (refine qe (E_hv0 (f := 31) ⟨_, Tryz.func31, rfl, by kernel_rfl⟩ (fun w hS => cosD_k w p.cA q.cA p.cn p.cc q.cn q.cc x.cf y.cf (h.keep hS.kpO).lg.rc (h2.keep hS.kpO).lg.rc (by omega) (by omega) _ e9) rfl rfl (fun _ => rfl)) ?_; rintro _ _ ⟨_, rfl, _, rfl⟩); refine qt (T_not rfl) ?_; (iterate 3 refine qp ?_); refine qt (T_load rfl rfl rfl rfl) ?_; refine qp ?_; refine qp ?_; refine qt (T_load rfl rfl rfl rfl) ?_; refine qp ?_; refine qf ?_; (iterate 3 refine qp ?_); refine qt (T_load rfl rfl rfl rfl) ?_; refine qp ?_; refine qp ?_; refine qt (T_load rfl rfl rfl rfl) ?_; refine qp ?_; refine qd ?_; refine qd ?_; refine qz ?_; refine qT ?_; refine qs ?_; refine qp ?_; refine qz ?_)
    exact hB _ _ _ _ _ rfl rfl fun w' hS => ⟨(), rfl, trivial, hS.sublist (List.nil_sublist _)⟩
  focus (refine qs ?_; (refine qe (E_boxa (cs := rfc x p) rfl) ?_; rintro _ _ ⟨b2, rfl, rfl⟩); (refine qe (E_boxa (cs := rfc y q) rfl) ?_; rintro _ _ ⟨b3, rfl, rfl⟩); refine qp ?_; refine qz ?_; refine qq ?_; refine qs ?_; (iterate 2 (iterate 2 refine qp ?_; refine qt (T_load rfl rfl rfl rfl) ?_); refine qf ?_; refine qp ?_); (iterate 6 refine qp ?_; (iterate 2 refine qp ?_; refine qt (T_load rfl rfl rfl rfl) ?_); refine qf ?_; refine qp ?_); refine qp ?_; refine qp ?_; refine qt (T_loads (ds := lgc x.base p.A p.n p.c) rfl rfl rfl rfl rfl) ?_; refine qp ?_; refine qt (T_loads (ds := lgc y.base q.A q.n q.c) rfl rfl rfl rfl rfl) ?_; (refine qe (E_hv0 (f := 69) ⟨_, Tryz.func69, rfl, by kernel_rfl⟩ (fun w hS => sameDL_k w p.A q.A p.c q.c p.n q.n p.Q q.Q x.base y.base x.es y.es h.lg.hn h2.lg.hn h.lg.hQ h2.lg.hQ (h.keep hS.kpO).lg.rq (h2.keep hS.kpO).lg.rq (h.keep hS.kpO).lg.bq (h2.keep hS.kpO).lg.bq (by omega) (by omega) _ e8) rfl rfl (fun _ => rfl)) ?_; rintro _ _ ⟨_, rfl, _, rfl⟩); refine qt (T_not rfl) ?_; (iterate 3 refine qp ?_); refine qt (T_loads (ds := [.slice p.cA p.cn p.cc]) rfl rfl rfl rfl rfl) ?_; refine qp ?_; refine qt (T_loads (ds := [.slice q.cA q.cn q.cc]) rfl rfl rfl rfl rfl) ?_; (refine qe (E_hv0 (f := 31) ⟨_, Tryz.func31, rfl, by kernel_rfl⟩ (fun w hS => cosD_k w p.cA q.cA p.cn p.cc q.cn q.cc x.cf y.cf (h.keep hS.kpO).lg.rc (h2.keep hS.kpO).lg.rc (by omega) (by omega) _ e9) rfl rfl (fun _ => rfl)) ?_; rintro _ _ ⟨_, rfl, _, rfl⟩); refine qt (T_not rfl) ?_; (iterate 2 (iterate 3 refine qp ?_); refine qt (T_load rfl rfl rfl rfl) ?_; refine qp ?_; refine qp ?_; refine qt (T_load rfl rfl rfl rfl) ?_; refine qp ?_; refine qf ?_); refine qp ?_; refine qz ?_; refine qF ?_; refine qx ?_; refine qq ?_; refine qs ?_; refine qp ?_; refine qz ?_; refine qb ?_)
  refine S_loop (X := Nat) (fun j => [(2, .pointer (some ⟨b2, 0, none⟩)), (3, .pointer (some ⟨b3, 0, none⟩)), (5, .int .i64 (j : Int))]) (fun _ => [pt b3 42 (rfc y q), pt b2 42 (rfc x p)]) (fun j => j ≤ x.votes.length ∧ ∀ i, i < j → x.votes.getD i 0 = y.votes.getD i 0) (fun j => x.votes.length - j) rfl 0 ⟨Nat.zero_le _, fun i hi => by omega⟩ (Sub.cons rfl (Sub.cons rfl (Sub.cons rfl Sub.nil))) sub_st ?_
  rintro j ⟨hj, hok⟩ J hJ
  rcases Nat.lt_or_ge j x.votes.length with hjl | hjl
  · have hnv := hnv (by omega)
    have hnv2 := hnv2 (by omega)
    have hat := zv_at (l := x.votes) (j := j) hjl
    have hat2 := zv_at (l := y.votes) (j := j) (by omega)
    have hne3 : x.votes.getD j 0 ≠ y.votes.getD j 0 → r = false := fun e => by rw [← hr]; exact all_no 10 (congrArg some (decide_eq_false fun e2 => e (by rw [e2])))
    have hnx : x.votes.getD j 0 = y.votes.getD j 0 → ∀ i, i < j + 1 → x.votes.getD i 0 = y.votes.getD i 0 := fun e i hi => by
      rcases Nat.lt_or_ge i j with h3 | h3
      · exact hok i h3
      · rw [show i = j by omega]; exact e
    obtain ⟨u, hu⟩ : ∃ u, x.votes.getD j 0 = u := ⟨_, rfl⟩
    obtain ⟨v, hv⟩ : ∃ u, y.votes.getD j 0 = u := ⟨_, rfl⟩
    rw [hu] at hat hne3 hnx
    rw [hv] at hat2 hne3 hnx
    by_cases huv : u = v
    · focus (refine qq ?_; refine qs ?_; refine qp ?_; refine qp ?_; refine qt (T_load rfl rfl rfl rfl) ?_; refine qp ?_; refine qd ?_; refine qz ?_; refine qT ?_; refine qx ?_; refine qq ?_; refine qb ?_; refine qq ?_; (refine S_draw _ (fun _ h => h) (by kernel_rfl) rfl (by kernel_rfl) (rfl : _ = 11) ?_; (refine dt 0 rfl (pev_ok rfl) ?_); (refine dt 1 rfl (T_load rfl rfl rfl rfl) ?_); (refine dt 2 rfl (pev_ok rfl) ?_); (refine dt 3 rfl (T_ix1 rfl rfl rfl rfl rfl rfl hnv (by omega)) ?_); (refine dt 4 rfl (T_ldr (v := zv u) rfl rfl rfl (Srd.old h.rv (fun k _ => noOwns k)) (by omega) hat) ?_); (refine dt 5 rfl (pev_ok rfl) ?_); (refine dt 6 rfl (T_load rfl rfl rfl rfl) ?_); (refine dt 7 rfl (pev_ok rfl) ?_); (refine dt 8 rfl (T_ix1 rfl rfl rfl rfl rfl rfl hnv2 (by omega)) ?_); (refine dt 9 rfl (T_ldr (v := zv v) rfl rfl rfl (Srd.old h2.rv (fun k _ => noOwns k)) (by omega) hat2) ?_); (refine dt 10 rfl (T_decF rfl (by omega)) ?_); refine D_done ?_ (by kernel_rfl)); refine qF ?_; refine qx ?_; refine RS_blk ?_; refine qr ?_; refine qp ?_; refine qt (T_addN rfl rfl (by unfold fits; omega)) ?_; refine qp ?_; refine qz ?_)
      exact hJ (j + 1) _ _ ⟨by omega, hnx huv⟩ (Sub.cons rfl (Sub.cons rfl (Sub.cons rfl Sub.nil))) sub_st (by omega)
    · obtain rfl : r = false := hne3 huv
      focus (refine qq ?_; refine qs ?_; refine qp ?_; refine qp ?_; refine qt (T_load rfl rfl rfl rfl) ?_; refine qp ?_; refine qd ?_; refine qz ?_; refine qT ?_; refine qx ?_; refine qq ?_; refine qb ?_; refine qq ?_; (refine S_draw _ (fun _ h => h) (by kernel_rfl) rfl (by kernel_rfl) (rfl : _ = 11) ?_; (refine dt 0 rfl (pev_ok rfl) ?_); (refine dt 1 rfl (T_load rfl rfl rfl rfl) ?_); (refine dt 2 rfl (pev_ok rfl) ?_); (refine dt 3 rfl (T_ix1 rfl rfl rfl rfl rfl rfl hnv (by omega)) ?_); (refine dt 4 rfl (T_ldr (v := zv u) rfl rfl rfl (Srd.old h.rv (fun k _ => noOwns k)) (by omega) hat) ?_); (refine dt 5 rfl (pev_ok rfl) ?_); (refine dt 6 rfl (T_load rfl rfl rfl rfl) ?_); (refine dt 7 rfl (pev_ok rfl) ?_); (refine dt 8 rfl (T_ix1 rfl rfl rfl rfl rfl rfl hnv2 (by omega)) ?_); (refine dt 9 rfl (T_ldr (v := zv v) rfl rfl rfl (Srd.old h2.rv (fun k _ => noOwns k)) (by omega) hat2) ?_); (refine dt 10 rfl (T_decT rfl (by omega)) ?_); refine D_done ?_ (by kernel_rfl)); refine qT ?_; refine qs ?_; refine qp ?_; refine qz ?_)
      exact hB _ _ _ _ _ rfl rfl fun w' hS => ⟨(), rfl, trivial, hS.sublist (List.nil_sublist _)⟩
  have hjn : j = x.votes.length := by omega
  subst hjn
  have ev : x.votes = y.votes := cf_eq e10 (fun i hi => hok i hi)
  focus (refine qq ?_; refine qs ?_; refine qp ?_; refine qp ?_; refine qt (T_load rfl rfl rfl rfl) ?_; refine qp ?_; refine qf ?_; refine qz ?_; refine qF ?_; refine S_exit rfl rfl ?_; refine qq ?_; refine qs ?_; refine qp ?_; refine qz ?_; refine qb ?_)
  refine S_loop (X := Nat) (fun j => [(2, .pointer (some ⟨b2, 0, none⟩)), (3, .pointer (some ⟨b3, 0, none⟩)), (6, .int .i64 (j : Int))]) (fun _ => [pt b3 42 (rfc y q), pt b2 42 (rfc x p)]) (fun j => j ≤ x.peers.length ∧ ∀ i, i < j → x.peers.getD i default = y.peers.getD i default) (fun j => x.peers.length - j) rfl 0 ⟨Nat.zero_le _, fun i hi => by omega⟩ (Sub.cons rfl (Sub.cons rfl (Sub.cons rfl Sub.nil))) sub_st ?_
  rintro j ⟨hj, hok⟩ J hJ
  rcases Nat.lt_or_ge j x.peers.length with hjl | hjl
  · have hnp := hnp (by omega)
    have hnp2 := hnp2 (by omega)
    have hat := cellsL_at (f := pec) pec_len x.peers default j (by omega)
    have hat2 := cellsL_at (f := pec) pec_len y.peers default j (by omega)
    have hne3 : x.peers.getD j default ≠ y.peers.getD j default → r = false := fun e => by rw [← hr]; exact all_no 11 (congrArg some (decide_eq_false fun e2 => e (by rw [e2])))
    have hnx : x.peers.getD j default = y.peers.getD j default → ∀ i, i < j + 1 → x.peers.getD i default = y.peers.getD i default := fun e i hi => by
      rcases Nat.lt_or_ge i j with h3 | h3
      · exact hok i h3
      · rw [show i = j by omega]; exact e
    obtain ⟨u, hu⟩ : ∃ u, x.peers.getD j default = u := ⟨_, rfl⟩
    obtain ⟨v, hv⟩ : ∃ u, y.peers.getD j default = u := ⟨_, rfl⟩
    rw [hu] at hat hne3 hnx
    rw [hv] at hat2 hne3 hnx
    cases huv : decide (u = v)
    · obtain rfl : r = false := hne3 (of_decide_eq_false huv)
      focus (refine qq ?_; refine qs ?_; refine qp ?_; refine qp ?_; refine qt (T_load rfl rfl rfl rfl) ?_; refine qp ?_; refine qd ?_; refine qz ?_; refine qT ?_; refine qx ?_; refine qq ?_; refine qb ?_; refine qq ?_; (refine S_draw _ (fun _ h => h) (by kernel_rfl) rfl (by kernel_rfl) (rfl : _ = 11) ?_; (refine dt 0 rfl (pev_ok rfl) ?_); (refine dt 1 rfl (T_load rfl rfl rfl rfl) ?_); (refine dt 2 rfl (pev_ok rfl) ?_); (refine dt 3 rfl (T_ixM (sz := 3) rfl rfl rfl rfl rfl rfl hnp (by omega)) ?_); (refine dt 4 rfl (T_lda (ds := pec u) rfl rfl rfl (Srd.old h.rp (fun k _ => noOwns k)) rfl (by omega) hat) ?_); (refine dt 5 rfl (pev_ok rfl) ?_); (refine dt 6 rfl (T_load rfl rfl rfl rfl) ?_); (refine dt 7 rfl (pev_ok rfl) ?_); (refine dt 8 rfl (T_ixM (sz := 3) rfl rfl rfl rfl rfl rfl hnp2 (by omega)) ?_); (refine dt 9 rfl (T_lda (ds := pec v) rfl rfl rfl (Srd.old h2.rp (fun k _ => noOwns k)) rfl (by omega) hat2) ?_); (refine dt 10 rfl (T_nePe (a := u) (b := v) rfl rfl huv) ?_); refine D_done ?_ (by kernel_rfl)); refine qT ?_; refine qs ?_; refine qp ?_; refine qz ?_)
      exact hB _ _ _ _ _ rfl rfl fun w' hS => ⟨(), rfl, trivial, hS.sublist (List.nil_sublist _)⟩
    · focus (refine qq ?_; refine qs ?_; refine qp ?_; refine qp ?_; refine qt (T_load rfl rfl rfl rfl) ?_; refine qp ?_; refine qd ?_; refine qz ?_; refine qT ?_; refine qx ?_; refine qq ?_; refine qb ?_; refine qq ?_; (refine S_draw _ (fun _ h => h) (by kernel_rfl) rfl (by kernel_rfl) (rfl : _ = 11) ?_; (refine dt 0 rfl (pev_ok rfl) ?_); (refine dt 1 rfl (T_load rfl rfl rfl rfl) ?_); (refine dt 2 rfl (pev_ok rfl) ?_); (refine dt 3 rfl (T_ixM (sz := 3) rfl rfl rfl rfl rfl rfl hnp (by omega)) ?_); (refine dt 4 rfl (T_lda (ds := pec u) rfl rfl rfl (Srd.old h.rp (fun k _ => noOwns k)) rfl (by omega) hat) ?_); (refine dt 5 rfl (pev_ok rfl) ?_); (refine dt 6 rfl (T_load rfl rfl rfl rfl) ?_); (refine dt 7 rfl (pev_ok rfl) ?_); (refine dt 8 rfl (T_ixM (sz := 3) rfl rfl rfl rfl rfl rfl hnp2 (by omega)) ?_); (refine dt 9 rfl (T_lda (ds := pec v) rfl rfl rfl (Srd.old h2.rp (fun k _ => noOwns k)) rfl (by omega) hat2) ?_); (refine dt 10 rfl (T_nePe (a := u) (b := v) rfl rfl huv) ?_); refine D_done ?_ (by kernel_rfl)); refine qF ?_; refine qx ?_; refine RS_blk ?_; refine qr ?_; refine qp ?_; refine qt (T_addN rfl rfl (by unfold fits; omega)) ?_; refine qp ?_; refine qz ?_)
      exact hJ (j + 1) _ _ ⟨by omega, hnx (of_decide_eq_true huv)⟩ (Sub.cons rfl (Sub.cons rfl (Sub.cons rfl Sub.nil))) sub_st (by omega)
  have hjn : j = x.peers.length := by omega
  subst hjn
  have ep : x.peers = y.peers := pe_eq e11 (fun i hi => hok i hi)
  obtain rfl : r = true := by
    rw [← hr, sameL_eq, e8, e9, decide_eq_true e0, decide_eq_true e1, decide_eq_true e2, decide_eq_true e3, decide_eq_true e4, decide_eq_true e5, decide_eq_true e6, decide_eq_true e7, decide_eq_true ev, decide_eq_true ep]
    rfl
  focus (refine qq ?_; refine qs ?_; refine qp ?_; refine qp ?_; refine qt (T_load rfl rfl rfl rfl) ?_; refine qp ?_; refine qf ?_; refine qz ?_; refine qF ?_; refine S_exit rfl rfl ?_; refine qs ?_; refine qp ?_; refine qz ?_)
  exact hB _ _ _ _ _ rfl rfl fun w' hS => ⟨(), rfl, trivial, hS.sublist (List.nil_sublist _)⟩
end Go.Proofs.YtdeffdldifepkaaGreat
namespace Go.Proofs.YtdeffdldifepkaaGreat
open Go.RowKit
open Asn (pt row rb)
set_option linter.unusedVariables false
set_option linter.unusedSimpArgs false
--@use N

set_option maxRecDepth 100000 in
set_option maxHeartbeats 4000000 in
theorem bclone2_any (w : World) (A : Option Addr) (n c : Nat) (xs : List Value) (h : Rd w All 1 A n xs) (h1 : ∀ v ∈ xs, v.oneCell' = true) (hn : n ≤ 100000) :
    Gives Tryz.prog 47 [.slice A n c] [] w (X := Option Addr × Nat) (fun x => .slice x.1 n x.2) (fun _ => True) (fun x => [row 5 1 x.1 n x.2 xs]) := by
  refine gives_S Tryz.func47 rfl Tryz.ntmps47 Tryz.results47 (by simp) (St.enter w) (fun B hB => ?_)
  cases hA : A with
  | none =>
    subst hA
    have hn0 : n = 0 := by
      rcases Nat.eq_zero_or_pos n with h0 | h0
      · exact h0
      · obtain ⟨ad, e, _⟩ := h.2 h0
        cases e
    subst hn0
    obtain rfl : xs = [] := List.eq_nil_of_length_eq_zero (by simpa using h.1)
    focus (refine qs ?_; refine qp ?_; refine qz ?_; refine qq ?_; refine qs ?_; refine qp ?_; refine qt (T_eqnil rfl rfl rfl rfl) ?_; refine qz ?_; refine qT ?_; refine qs ?_; refine qp ?_; refine qz ?_)
    all_goals (try (exfalso; simp_all; done))
    refine hB _ _ _ _ _ rfl rfl fun w' hS => ⟨(none, 0), rfl, trivial, (hS.sublist (List.nil_sublist _)).nilrow _ _⟩
  | some ad =>
    subst hA
    focus (refine qs ?_; refine qp ?_; refine qz ?_; refine qq ?_; refine qs ?_; refine qp ?_; refine qt (T_eqnil rfl rfl rfl rfl) ?_; refine qz ?_; refine qF ?_; refine qx ?_; refine qs ?_; (refine qe (E_lit1 (m := 0) (vs := []) rfl rfl rfl rfl rfl rfl rfl (by simp) (by decide)) ?_; rintro _ _ ⟨bl, rfl, rfl⟩); refine qp ?_; (refine qe (E_apple (sz := 1) rfl rfl rfl rfl rfl rfl rfl (by decide) .here (Srd.old h (fun k _ => noOwns k)) h1 (by show n * 1 ≤ _; omega) (by unfold maxLen; omega)) ?_; rintro _ _ ⟨A', c', rfl, rfl⟩); refine qp ?_; refine qz ?_)
    all_goals (try (exfalso; simp_all; done))
    refine hB _ _ _ _ _ rfl rfl fun w' hS => ⟨(A', c'), rfl, trivial, hS⟩
set_option maxRecDepth 100000 in
set_option maxHeartbeats 4000000 in
theorem pclone_any (w : World) (A : Option Addr) (n c : Nat) (xs : List Value) (h : Rd w All 3 A n xs) (h1 : ∀ v ∈ xs, v.oneCell' = true) (hn : n ≤ 1000) :
    Gives Tryz.prog 108 [.slice A n c] [] w (X := Option Addr × Nat) (fun x => .slice x.1 n x.2) (fun _ => True) (fun x => [row 112 3 x.1 n x.2 xs]) := by
  refine gives_S Tryz.func108 rfl Tryz.ntmps108 Tryz.results108 (by simp) (St.enter w) (fun B hB => ?_)
  cases hA : A with
  | none =>
    subst hA
    have hn0 : n = 0 := by
      rcases Nat.eq_zero_or_pos n with h0 | h0
      · exact h0
      · obtain ⟨ad, e, _⟩ := h.2 h0
        cases e
    subst hn0
    obtain rfl : xs = [] := List.eq_nil_of_length_eq_zero (by simpa using h.1)
    focus (refine qs ?_; refine qp ?_; refine qz ?_; refine qq ?_; refine qs ?_; refine qp ?_; refine qt (T_eqnil rfl rfl rfl rfl) ?_; refine qz ?_; refine qT ?_; refine qs ?_; refine qp ?_; refine qz ?_)
    all_goals (try (exfalso; simp_all; done))
    refine hB _ _ _ _ _ rfl rfl fun w' hS => ⟨(none, 0), rfl, trivial, (hS.sublist (List.nil_sublist _)).nilrow _ _⟩
  | some ad =>
    subst hA
    focus (refine qs ?_; refine qp ?_; refine qz ?_; refine qq ?_; refine qs ?_; refine qp ?_; refine qt (T_eqnil rfl rfl rfl rfl) ?_; refine qz ?_; refine qF ?_; refine qx ?_; refine qs ?_; (refine qe (E_litS (vs := []) (size := 3) (ds := []) rfl rfl rfl rfl rfl rfl (by simp) rfl (by omega)) ?_; rintro _ _ ⟨bl, rfl, rfl⟩); refine qp ?_; (refine qe (E_apple (sz := 3) rfl rfl rfl rfl rfl rfl rfl (by decide) .here (Srd.old h (fun k _ => noOwns k)) h1 (by show n * 24 ≤ _; omega) (by unfold maxLen; omega)) ?_; rintro _ _ ⟨A', c', rfl, rfl⟩); refine qp ?_; refine qz ?_)
    all_goals (try (exfalso; simp_all; done))
    refine hB _ _ _ _ _ rfl rfl fun w' hS => ⟨(A', c'), rfl, trivial, hS⟩
theorem pe_ones (l : List Pe) : ∀ v ∈ cellsL pec l, v.oneCell' = true := fun v hv => by
  obtain ⟨p, _, h⟩ := List.mem_flatMap.1 hv
  exact pec_one p v h
/-- places of their own, for what x says -/
structure RpOk (x : Rs) (p : Rp) : Prop where
  hQ : p.Q.map emv = x.es
  hn : p.Q.length = p.n
  hcn : x.cf.length = p.cn
  hvn : x.votes.length = p.vn
  hpn : x.peers.length = p.pn
/-- the memory of a server, owned -/
abbrev rfO (x : Rs) (p : Rp) : List Asn := [row 59 3 p.A p.n p.c (cellsL emc p.Q), dtB 5 (p.Q.map emd), row 3 1 p.cA p.cn p.cc (x.cf.map zv), row 3 1 p.vA p.vn p.vc (x.votes.map zv), row 112 3 p.pA p.pn p.pc (cellsL pec x.peers)]
set_option maxRecDepth 100000 in
set_option maxHeartbeats 4000000 in
theorem rcopied_any (w : World) (x : Rs) (p : Rp) (h : RfR w x p) :
    Gives Tryz.prog 37 [.agg (rfc x p).toArray] [] w (X := Rp) (fun q => .agg (rfc x q).toArray) (fun q => RpOk x q ∧ q.n = p.n ∧ q.cn = p.cn ∧ q.vn = p.vn ∧ q.pn = p.pn) (fun q => rfO x q) := by
  refine gives_C Tryz.func37 rfl Tryz.ntmps37 Tryz.results37 (by simp) (St.enter w) (fun B hB => ?_)
  have hne : 0 < p.n → p.A ≠ none := fun h0 => by obtain ⟨ad, e, _⟩ := h.lg.rq.2 (by omega); rw [e]; simp
  have hnn := h.lg.hn
  have hnm := h.lg.hm
  have hcm := h.lg.hcm
  have hvm := h.hvm
  have hpm := h.hpm
  focus (refine qs ?_; (refine qe (E_boxa (cs := rfc x p) rfl) ?_; rintro _ _ ⟨b1, rfl, rfl⟩); (refine qe (E_alloca rfl rf_zero) ?_; rintro _ _ ⟨b2, rfl, rfl⟩); refine qn ?_; refine qp ?_; refine qz ?_; refine qq ?_; refine qs ?_; refine qp ?_; refine qp ?_; refine qt (T_load rfl rfl rfl rfl) ?_; refine qp ?_; refine qp ?_; refine qz ?_; refine qb ?_)
  refine S_loop (X := Nat × (Option Addr × Nat) × List Em) (fun z => [(1, .pointer (some ⟨b1, 0, none⟩)), (2, .pointer (some ⟨b2, 0, none⟩)), (3, .slice z.2.1.1 z.1 z.2.1.2), (8, .slice p.A p.n p.c), (9, .int .i64 (p.n : Int)), (10, .int .i64 (z.1 : Int))]) (fun z => [row 59 3 z.2.1.1 z.1 z.2.1.2 (cellsL emc z.2.2), dtB 5 (z.2.2.map emd), pt b2 42 (rfc rs0 rp0), pt b1 42 (rfc x p)]) (fun z => z.1 ≤ p.n ∧ z.2.2.map emv = (p.Q.take z.1).map emv) (fun z => p.n - z.1) rfl (0, (none, 0), []) ⟨Nat.zero_le _, rfl⟩ (Sub.cons rfl (Sub.cons rfl (Sub.cons rfl (Sub.cons rfl (Sub.cons rfl (Sub.cons rfl Sub.nil)))))) (fun w hS => sub_st (H' := [row 59 3 none 0 0 [], dtB 5 [], pt b2 42 (rfc rs0 rp0), pt b1 42 (rfc x p)]) w ((dtB_nil (e := 5) hS).nilrow 59 3)) ?_
  rintro ⟨j, ⟨A5, c5⟩, P⟩ ⟨hj, hP⟩ J hJ
  dsimp only at hj hP ⊢
  rcases Nat.lt_or_ge j p.n with hjl | hjl
  · have hne := hne (by omega)
    have hat := cellsL_at (f := emc) emc_len p.Q default j (by omega)
    obtain ⟨m, hm⟩ : ∃ m, p.Q.getD j default = m := ⟨_, rfl⟩
    have hmem : m ∈ p.Q := by rw [← hm]; simp [List.getD, show j < p.Q.length by omega]
    rw [hm] at hat
    have hnx := emv_take p.Q j (by omega) hm
    have hkm := h.lg.hd m hmem
    have hd1 := (h.lg.bq m hmem).rd
    obtain ⟨t, kd, D, cd, bs⟩ := m
    obtain ⟨q, hql⟩ : ∃ q, bs.length = q := ⟨_, rfl⟩
    have hkm : bs.length ≤ 100000 := hkm
    have hd1 : Rd w All 1 D bs.length (bs.map bv) := hd1
    have hat : ∀ e v, ([.int .u64 (t : Int), .int .i64 kd, .slice D bs.length cd] : List Value)[e]? = some v → (cellsL emc p.Q)[j * 3 + e]? = some v := hat
    rw [hql] at hkm hd1 hat
    focus (refine qs ?_; refine qd ?_; refine qz ?_; refine qq ?_; refine qT ?_; refine qx ?_; refine qq ?_; refine qb ?_; refine qs ?_; refine qt (T_ixM (sz := 3) rfl rfl rfl rfl rfl rfl hne hjl) ?_; refine qt (T_lda (ds := [.int .u64 (t : Int), .int .i64 kd, .slice D q cd]) rfl rfl rfl (Srd.old h.lg.rq (fun k _ => noOwns k)) rfl (by omega) hat) ?_; (refine qe (E_alloca rfl em_zero) ?_; rintro _ _ ⟨b7, rfl, rfl⟩); (refine qw (E_storew (cs := emc (0, 0, none, 0, [])) (ds := [.int .u64 (t : Int), .int .i64 kd, .slice D q cd]) rfl rfl rfl rfl (by simp [Value.oneCell']) rfl) ?_; rintro _ _ rfl); refine qn ?_; refine qp ?_; refine qt (T_load rfl rfl rfl rfl) ?_; (refine qe (E_hv1 (f := 47) ⟨_, Tryz.func47, rfl, by kernel_rfl⟩ (fun w hS => bclone2_any w D q cd (bs.map bv) ((Srd.old hd1 (fun k _ => noOwns k)).rd w hS) (bv_ones _) (by omega)) rfl rfl (fun _ => rfl)) ?_; rintro _ _ ⟨⟨A', c'⟩, rfl, _, rfl⟩); refine qp ?_; (refine qw (E_store1 rfl rfl rfl rfl rfl rfl (by show _ < 3; omega)) ?_; rintro _ _ rfl); refine qz ?_; refine qr ?_; refine qp ?_; refine qt (T_loads (ds := [.int .u64 (t : Int), .int .i64 kd, .slice A' q c']) rfl rfl rfl rfl rfl) ?_; (refine qe (E_litS (vs := [.agg [.int .u64 (t : Int), .int .i64 kd, .slice A' q c'].toArray]) (size := 3) (ds := [.int .u64 (t : Int), .int .i64 kd, .slice A' q c']) rfl rfl rfl rfl rfl rfl (by simp [vcells]) rfl (by omega)) ?_; rintro _ _ ⟨vb, rfl, rfl⟩); (refine qe (E_appS (sz := 3) (m := j) (c := c5) (A := A5) rfl rfl rfl rfl rfl rfl rfl (by decide) (Srd.pt (n := 1) (g := vb) (ds := [.int .u64 (t : Int), .int .i64 kd, .slice A' q c']) rfl (fun j u hj => by rw [Nat.zero_add]; exact hj)) (by simp [Value.oneCell']) (by show (j + 1) * 40 ≤ _; omega) (by unfold maxLen; omega)) ?_; rintro _ _ ⟨A7, c7, rfl, rfl⟩); refine qp ?_; refine qz ?_; refine RS_blk ?_; refine qr ?_; refine qt (T_addN rfl rfl (by unfold fits; omega)) ?_; refine qp ?_; refine qz ?_)
    refine hJ (j + 1, (A7, c7), P ++ [(t, kd, A', c', bs)]) _ _ ⟨by show j + 1 ≤ _; omega, by dsimp only; rw [hnx, List.map_append, hP]; rfl⟩ (Sub.cons rfl (Sub.cons rfl (Sub.cons rfl (Sub.cons rfl (Sub.cons rfl (Sub.cons rfl Sub.nil)))))) (fun w' hS => ?_) (by show p.n - (j + 1) < _; omega)
    dsimp only
    have e1 : emc (t, kd, A', c', bs) = [.int .u64 (t : Int), .int .i64 kd, .slice A' q c'] := by
      show [Value.int .u64 (t : Int), .int .i64 kd, .slice A' bs.length c'] = _
      rw [hql]
    have h1 := sub_st (H' := [row 5 1 A' q c' (bs.map bv), dtB 5 (P.map emd), row 59 3 A7 (j + 1) c7 (cellsL emc P ++ [.int .u64 (t : Int), .int .i64 kd, .slice A' q c']), pt b2 42 (rfc rs0 rp0), pt b1 42 (rfc x p)]) w' hS
    have h2 : St w (owns []) [dtA 5 (A', c', bs), dtB 5 (P.map emd), row 59 3 A7 (j + 1) c7 (cellsL emc P ++ [.int .u64 (t : Int), .int .i64 kd, .slice A' q c']), pt b2 42 (rfc rs0 rp0), pt b1 42 (rfc x p)] w' := by
      unfold dtA
      rw [hql]
      exact h1
    have h3 := dtB_put h2
    rw [cellsL_app, cellsL_one, e1, List.map_append]
    exact sub_st (H' := [row 59 3 A7 (j + 1) c7 (cellsL emc P ++ [.int .u64 (t : Int), .int .i64 kd, .slice A' q c']), dtB 5 (P.map emd ++ [(A', c', bs)]), pt b2 42 (rfc rs0 rp0), pt b1 42 (rfc x p)]) w' h3
  have hjq : j = p.n := by omega
  subst hjq
  rw [← hnn, List.take_length, h.lg.hQ] at hP
  have hPl : P.length = p.n := by rw [← hnn, ← List.length_map (f := emv), hP, ← h.lg.hQ, List.length_map]
  focus (refine qs ?_; refine qf ?_; refine qz ?_; refine qq ?_; refine qF ?_; refine S_exit rfl rfl ?_; refine qq ?_)
  refine S_draw ([pt b1 42 (rfc x p)]) sub_st (by kernel_rfl) rfl (by kernel_rfl) (by kernel_rfl : _ = 21) ?_
  refine dt 0 rfl (pev_ok rfl) ?_
  refine dt 1 rfl (pev_ok rfl) ?_
  refine dt 2 rfl (pev_ok rfl) ?_
  refine dt 3 rfl (T_load rfl rfl rfl rfl) ?_
  refine dt 5 rfl (pev_ok rfl) ?_
  refine dt 6 rfl (T_load rfl rfl rfl rfl) ?_
  refine dt 8 rfl (pev_ok rfl) ?_
  refine dt 9 rfl (T_load rfl rfl rfl rfl) ?_
  refine dt 11 rfl (pev_ok rfl) ?_
  refine dt 12 rfl (pev_ok rfl) ?_
  refine D_one 4 rfl (E_hv1 (f := 92) ⟨_, Tryz.func92, rfl, by kernel_rfl⟩ (fun w hS => C.clone_any w p.cA p.cn p.cc (x.cf.map zv) (h.keep hS.kpO).lg.rc (C.zv_ones _) (by omega)) rfl rfl (fun _ => rfl)) ?_ rfl rfl (by kernel_rfl)
  rintro _ _ ⟨⟨Ac, cc⟩, rfl, _, rfl⟩
  refine Nx_all sub_st ?_
  refine D_one 7 rfl (E_hv1 (f := 92) ⟨_, Tryz.func92, rfl, by kernel_rfl⟩ (fun w hS => C.clone_any w p.vA p.vn p.vc (x.votes.map zv) (h.keep hS.kpO).rv (C.zv_ones _) (by omega)) rfl rfl (fun _ => rfl)) ?_ rfl rfl (by kernel_rfl)
  rintro _ _ ⟨⟨Av, cv⟩, rfl, _, rfl⟩
  refine Nx_all sub_st ?_
  refine D_one 10 rfl (E_hv1 (f := 108) ⟨_, Tryz.func108, rfl, by kernel_rfl⟩ (fun w hS => pclone_any w p.pA p.pn p.pc (cellsL pec x.peers) (h.keep hS.kpO).rp (pe_ones _) (by omega)) rfl rfl (fun _ => rfl)) ?_ rfl rfl (by kernel_rfl)
  rintro _ _ ⟨⟨Ap, cp⟩, rfl, _, rfl⟩
  refine Nx_all sub_st ?_
  refine D_one 13 rfl (E_storeA1 (cs := rfc x p) (cs' := rfc x ⟨A5, p.n, c5, P, p.cA, p.cn, p.cc, p.vA, p.vn, p.vc, p.pA, p.pn, p.pc⟩) rfl rfl rfl rfl rfl rfl (by show _ < 14; omega)) ?_ rfl rfl (by kernel_rfl)
  rintro _ _ rfl
  refine Nx_pivot (by kernel_rfl) ?_
  refine dt 14 rfl (pev_ok rfl) ?_
  refine dt 15 rfl (pev_ok rfl) ?_
  refine D_one 16 rfl (E_storeA1 (cs := rfc x ⟨A5, p.n, c5, P, p.cA, p.cn, p.cc, p.vA, p.vn, p.vc, p.pA, p.pn, p.pc⟩) (cs' := rfc x ⟨A5, p.n, c5, P, Ac, p.cn, cc, p.vA, p.vn, p.vc, p.pA, p.pn, p.pc⟩) rfl rfl rfl rfl rfl rfl (by show _ < 14; omega)) ?_ rfl rfl (by kernel_rfl)
  rintro _ _ rfl
  refine Nx_pivot (by kernel_rfl) ?_
  refine dt 17 rfl (pev_ok rfl) ?_
  refine D_one 18 rfl (E_storeA1 (cs := rfc x ⟨A5, p.n, c5, P, Ac, p.cn, cc, p.vA, p.vn, p.vc, p.pA, p.pn, p.pc⟩) (cs' := rfc x ⟨A5, p.n, c5, P, Ac, p.cn, cc, Av, p.vn, cv, p.pA, p.pn, p.pc⟩) rfl rfl rfl rfl rfl rfl (by show _ < 14; omega)) ?_ rfl rfl (by kernel_rfl)
  rintro _ _ rfl
  refine Nx_pivot (by kernel_rfl) ?_
  refine dt 19 rfl (pev_ok rfl) ?_
  refine D_one 20 rfl (E_storeA1 (cs := rfc x ⟨A5, p.n, c5, P, Ac, p.cn, cc, Av, p.vn, cv, p.pA, p.pn, p.pc⟩) (cs' := rfc x ⟨A5, p.n, c5, P, Ac, p.cn, cc, Av, p.vn, cv, Ap, p.pn, cp⟩) rfl rfl rfl rfl rfl rfl (by show _ < 14; omega)) ?_ rfl rfl (by kernel_rfl)
  rintro _ _ rfl
  refine Nx_pivot (by kernel_rfl) ?_
  refine D_done ?_ (by kernel_rfl)
  skip
  focus (refine qs ?_; refine qt (T_loads (ds := rfc x ⟨A5, p.n, c5, P, Ac, p.cn, cc, Av, p.vn, cv, Ap, p.pn, cp⟩) rfl rfl rfl rfl rfl) ?_; (refine qw (E_storew (cs := rfc rs0 rp0) (ds := rfc x ⟨A5, p.n, c5, P, Ac, p.cn, cc, Av, p.vn, cv, Ap, p.pn, cp⟩) rfl rfl rfl rfl (rfc_one _ _) rfl) ?_; rintro _ _ rfl); refine qz ?_)
  refine hB _ _ _ _ _ rfl (.cell rfl rfl rfl inferInstance rfl .nil) fun w' hS => ⟨⟨A5, p.n, c5, P, Ac, p.cn, cc, Av, p.vn, cv, Ap, p.pn, cp⟩, rfl, ⟨⟨hP, hPl, h.lg.hcn, h.hvn, h.hpn⟩, rfl, rfl, rfl, rfl⟩, sub_st _ hS⟩
end Go.Proofs.YtdeffdldifepkaaGreat
namespace Go.Proofs.YtdeffdldifepkaaGreat
open Go.RowKit
open Asn (pt row rb)
set_option linter.unusedVariables false
set_option linter.unusedSimpArgs false
--@use N

theorem rf_built8 (me : Int) (tm : Nat) (vt : Int) (b : At) (A : Option Addr) (n c : Nat) (cA : Option Addr) (cn cc : Nat) (cm : Nat) (lim : Int) : Tryz.prog.built 42 [(0, .int .i64 me), (1, .int .u64 (tm : Int)), (2, .int .i64 vt), (3, .agg (lgc b A n c).toArray), (4, .agg [Value.slice cA cn cc].toArray), (5, .int .u64 (cm : Int)), (6, .int .i64 1), (9, .int .i64 lim)] = some (rfc ⟨me, tm, vt, b, [], [], cm, 1, 0, 0, lim, [], []⟩ ⟨A, n, c, [], cA, cn, cc, none, 0, 0, none, 0, 0⟩).toArray := by kernel_rfl
theorem LgR.ed {w : World} {x : Rs} {p : Rp} (h : LgR w x p) : ∀ e ∈ x.es, e.2.2.length ≤ 100000 := fun e he => by
  rw [← h.hQ] at he
  obtain ⟨m, hm, rfl⟩ := List.mem_map.1 he
  exact h.hd m hm
/-- what is owned can be read -/
theorem lgO_lg {w : World} {x : Rs} {p : Rp} (h1 : (row 59 3 p.A p.n p.c (cellsL emc p.Q)).holds w) (h2 : (dtB 5 (p.Q.map emd)).holds w) (h3 : Rd w All 1 p.cA p.cn (x.cf.map zv)) (hQ : p.Q.map emv = x.es) (hn : p.Q.length = p.n) (hcn : x.cf.length = p.cn) (n1 : p.n ≤ 1000) (n2 : p.cn ≤ 900) (hd : ∀ e ∈ x.es, e.2.2.length ≤ 100000) : LgR w x p :=
  ⟨hn, n1, (row_facts h1).1, hQ, row_rd h1, fun m hm => dtB_bsW h2 (emd m) (List.mem_map.2 ⟨m, hm, rfl⟩), fun m hm => hd (emv m) (by rw [← hQ]; exact List.mem_map.2 ⟨m, hm, rfl⟩), hcn, n2, h3⟩
theorem rfO_rf {w : World} {x : Rs} {p : Rp} (h : ∀ A ∈ rfO x p, A.holds w) (ok : RpOk x p) (n1 : p.n ≤ 1000) (n2 : p.cn ≤ 900) (n3 : p.vn ≤ 900) (n4 : p.pn ≤ 900) (hd : ∀ e ∈ x.es, e.2.2.length ≤ 100000) (hu : RsU x) : RfR w x p :=
  ⟨lgO_lg (h _ (by simp)) (h _ (by simp)) (row_rd (h (row 3 1 p.cA p.cn p.cc (x.cf.map zv)) (by simp))) ok.hQ ok.hn ok.hcn n1 n2 hd, ok.hvn, n3, row_rd (h (row 3 1 p.vA p.vn p.vc (x.votes.map zv)) (by simp)), ok.hpn, n4, row_rd (h (row 112 3 p.pA p.pn p.pc (cellsL pec x.peers)) (by simp)), hu⟩
set_option maxRecDepth 100000 in
set_option maxHeartbeats 4000000 in
theorem start_bad (w : World) (me : Int) (tm : Nat) (vt : Int) (b : At) (es : List En) (cf : List Int) (lim : Int) (A : Option Addr) (n c : Nat) (Q : List Em) (cA : Option Addr) (cn cc : Nat) (h : RfR w ⟨me, tm, vt, b, es, cf, b.1, 1, 0, 0, lim, [], []⟩ ⟨A, n, c, Q, cA, cn, cc, none, 0, 0, none, 0, 0⟩) (hr : checkB ⟨me, tm, vt, b, es, cf, b.1, 1, 0, 0, lim, [], []⟩ = false) :
    Gives Tryz.prog 10 [.int .i64 me, .int .u64 (tm : Int), .int .i64 vt, .agg (lgc b A n c).toArray, C.cfv cA cn cc, .int .i64 lim] [] w (X := Unit) (fun _ => .tuple #[.agg (rfc rs0 rp0).toArray, zi 2]) (fun _ => True) (fun _ => []) := by
  refine gives_C Tryz.func10 rfl Tryz.ntmps10 Tryz.results10 (by simp) (St.enter w) (fun B hB => ?_)
  have hn1 := h.lg.hm
  have hn2 := h.lg.hcm
  have hn3 := h.hvm
  have hn4 := h.hpm
  have hdd := h.lg.ed
  focus (refine qs ?_; (refine qe (E_boxa (cs := lgc b A n c) rfl) ?_; rintro _ _ ⟨b9, rfl, rfl⟩); (refine qe (E_boxa (cs := [.slice cA cn cc]) rfl) ?_; rintro _ _ ⟨b10, rfl, rfl⟩); (refine qe (E_alloca rfl rf_zero) ?_; rintro _ _ ⟨b12, rfl, rfl⟩); refine qp ?_; refine qn ?_; (iterate 3 refine qp ?_); refine qt (T_loads (ds := lgc b A n c) rfl rfl rfl rfl rfl) ?_; refine qt (T_loads (ds := [.slice cA cn cc]) rfl rfl rfl rfl rfl) ?_; refine qp ?_; refine qp ?_; refine qt (T_load rfl rfl rfl rfl) ?_; refine qp ?_; refine qt (T_build8 rfl rfl rfl rfl rfl rfl rfl rfl (rf_built8 _ _ _ _ _ _ _ _ _ _ _ _)) ?_; (refine qe (E_hvG (f := 37) ⟨_, Tryz.func37, rfl, by kernel_rfl⟩ (fun w hS => rcopied_any w ⟨me, tm, vt, b, es, cf, b.1, 1, 0, 0, lim, [], []⟩ ⟨A, n, c, Q, cA, cn, cc, none, 0, 0, none, 0, 0⟩ (h.keep hS.kpO)) rfl rfl) ?_; rintro _ _ ⟨q, rfl, ⟨hq, hqn, hqc, hqv, hqp⟩, rfl⟩; dsimp only [List.cons_append, List.nil_append]); (refine qe (E_alloca rfl rf_zero) ?_; rintro _ _ ⟨b12, rfl, rfl⟩); (refine qw (E_storew (cs := rfc rs0 rp0) (ds := rfc ⟨me, tm, vt, b, es, cf, b.1, 1, 0, 0, lim, [], []⟩ q) rfl rfl rfl rfl (rfc_one _ _) rfl) ?_; rintro _ _ rfl); refine qz ?_; refine qq ?_; refine qs ?_; refine qt (T_loads (ds := rfc ⟨me, tm, vt, b, es, cf, b.1, 1, 0, 0, lim, [], []⟩ q) rfl rfl rfl rfl rfl) ?_; (refine qe (E_hv0 (f := 30) ⟨_, Tryz.func30, rfl, by kernel_rfl⟩ (fun w hS => rcheck_any w ⟨me, tm, vt, b, es, cf, b.1, 1, 0, 0, lim, [], []⟩ q (rfO_rf (fun A hA => hS.at_ (RemL.mem hA)) hq (by dsimp only at *; omega) (by dsimp only at *; omega) (by dsimp only at *; omega) (by dsimp only at *; omega) hdd h.hu) _ hr) rfl rfl (fun _ => rfl)) ?_; rintro _ _ ⟨_, rfl, _, rfl⟩); refine qp ?_; refine qz ?_; refine qT ?_; refine qs ?_; refine qt (T_build0 rf_built0) ?_; (refine qw (E_storew (cs := rfc rs0 rp0) (ds := rfc rs0 rp0) rfl rfl rfl rfl (rfc_one _ _) rfl) ?_; rintro _ _ rfl); refine qp ?_; refine qz ?_)
  all_goals (try (exfalso; simp at *; done))
  refine hB _ _ _ _ _ rfl (.cell rfl rfl rfl inferInstance rfl (.tmp rfl .nil)) fun w' hS => ⟨(), rfl, trivial, hS.sublist (List.nil_sublist _)⟩
set_option maxRecDepth 100000 in
set_option maxHeartbeats 4000000 in
theorem start_ok (w : World) (me : Int) (tm : Nat) (vt : Int) (b : At) (es : List En) (cf : List Int) (lim : Int) (A : Option Addr) (n c : Nat) (Q : List Em) (cA : Option Addr) (cn cc : Nat) (h : RfR w ⟨me, tm, vt, b, es, cf, b.1, 1, 0, 0, lim, [], []⟩ ⟨A, n, c, Q, cA, cn, cc, none, 0, 0, none, 0, 0⟩) (hr : checkB ⟨me, tm, vt, b, es, cf, b.1, 1, 0, 0, lim, [], []⟩ = true) :
    Gives Tryz.prog 10 [.int .i64 me, .int .u64 (tm : Int), .int .i64 vt, .agg (lgc b A n c).toArray, C.cfv cA cn cc, .int .i64 lim] [] w (X := Rp) (fun q => .tuple #[.agg (rfc ⟨me, tm, vt, b, es, cf, b.1, 1, 0, 0, lim, [], []⟩ q).toArray, zi 0]) (fun q => RpOk ⟨me, tm, vt, b, es, cf, b.1, 1, 0, 0, lim, [], []⟩ q ∧ q.n = n ∧ q.cn = cn ∧ q.vn = 0 ∧ q.pn = 0) (fun q => rfO ⟨me, tm, vt, b, es, cf, b.1, 1, 0, 0, lim, [], []⟩ q) := by
  refine gives_C Tryz.func10 rfl Tryz.ntmps10 Tryz.results10 (by simp) (St.enter w) (fun B hB => ?_)
  have hn1 := h.lg.hm
  have hn2 := h.lg.hcm
  have hn3 := h.hvm
  have hn4 := h.hpm
  have hdd := h.lg.ed
  focus (refine qs ?_; (refine qe (E_boxa (cs := lgc b A n c) rfl) ?_; rintro _ _ ⟨b9, rfl, rfl⟩); (refine qe (E_boxa (cs := [.slice cA cn cc]) rfl) ?_; rintro _ _ ⟨b10, rfl, rfl⟩); (refine qe (E_alloca rfl rf_zero) ?_; rintro _ _ ⟨b12, rfl, rfl⟩); refine qp ?_; refine qn ?_; (iterate 3 refine qp ?_); refine qt (T_loads (ds := lgc b A n c) rfl rfl rfl rfl rfl) ?_; refine qt (T_loads (ds := [.slice cA cn cc]) rfl rfl rfl rfl rfl) ?_; refine qp ?_; refine qp ?_; refine qt (T_load rfl rfl rfl rfl) ?_; refine qp ?_; refine qt (T_build8 rfl rfl rfl rfl rfl rfl rfl rfl (rf_built8 _ _ _ _ _ _ _ _ _ _ _ _)) ?_; (refine qe (E_hvG (f := 37) ⟨_, Tryz.func37, rfl, by kernel_rfl⟩ (fun w hS => rcopied_any w ⟨me, tm, vt, b, es, cf, b.1, 1, 0, 0, lim, [], []⟩ ⟨A, n, c, Q, cA, cn, cc, none, 0, 0, none, 0, 0⟩ (h.keep hS.kpO)) rfl rfl) ?_; rintro _ _ ⟨q, rfl, ⟨hq, hqn, hqc, hqv, hqp⟩, rfl⟩; dsimp only [List.cons_append, List.nil_append]); (refine qe (E_alloca rfl rf_zero) ?_; rintro _ _ ⟨b12, rfl, rfl⟩); (refine qw (E_storew (cs := rfc rs0 rp0) (ds := rfc ⟨me, tm, vt, b, es, cf, b.1, 1, 0, 0, lim, [], []⟩ q) rfl rfl rfl rfl (rfc_one _ _) rfl) ?_; rintro _ _ rfl); refine qz ?_; refine qq ?_; refine qs ?_; refine qt (T_loads (ds := rfc ⟨me, tm, vt, b, es, cf, b.1, 1, 0, 0, lim, [], []⟩ q) rfl rfl rfl rfl rfl) ?_; (refine qe (E_hv0 (f := 30) ⟨_, Tryz.func30, rfl, by kernel_rfl⟩ (fun w hS => rcheck_any w ⟨me, tm, vt, b, es, cf, b.1, 1, 0, 0, lim, [], []⟩ q (rfO_rf (fun A hA => hS.at_ (RemL.mem hA)) hq (by dsimp only at *; omega) (by dsimp only at *; omega) (by dsimp only at *; omega) (by dsimp only at *; omega) hdd h.hu) _ hr) rfl rfl (fun _ => rfl)) ?_; rintro _ _ ⟨_, rfl, _, rfl⟩); refine qp ?_; refine qz ?_; refine qF ?_; refine qx ?_; refine qs ?_; refine qt (T_loads (ds := rfc ⟨me, tm, vt, b, es, cf, b.1, 1, 0, 0, lim, [], []⟩ q) rfl rfl rfl rfl rfl) ?_; (refine qw (E_storew (cs := rfc rs0 rp0) (ds := rfc ⟨me, tm, vt, b, es, cf, b.1, 1, 0, 0, lim, [], []⟩ q) rfl rfl rfl rfl (rfc_one _ _) rfl) ?_; rintro _ _ rfl); refine qp ?_; refine qz ?_)
  all_goals (try (exfalso; simp at *; done))
  refine hB _ _ _ _ _ rfl (.cell rfl rfl rfl inferInstance rfl (.tmp rfl .nil)) fun w' hS => ⟨q, rfl, ⟨hq, hqn, hqc, hqv, hqp⟩, sub_st (H' := rfO ⟨me, tm, vt, b, es, cf, b.1, 1, 0, 0, lim, [], []⟩ q) w' hS⟩
/-! the machine: a server, what it sends, whether there is something to install -/
/-- where all of it lies, and what it has sent -/
structure Mm where
  p : Rp
  S : List (Ms × Mp)
  sA : Option Addr
  sc : Nat
  i : Bool
def sgc (s : Ms × Mp) : List Value := mgc s.1 s.2
theorem sgc_len (s : Ms × Mp) : (sgc s).length = 12 := rfl
def mcc (x : Rs) (m : Mm) : List Value := rfc x m.p ++ [.slice m.sA m.S.length m.sc, .bool m.i]
theorem mc_built1 (x : Rs) (p : Rp) : Tryz.prog.built 89 [(0, .agg (rfc x p).toArray)] = some (mcc x ⟨p, [], none, 0, false⟩).toArray := by kernel_rfl
/-- the parts that are turned -/
abbrev mP (g : Nat) (x : Rs) (m : Mm) : List Asn := [pt g 89 (mcc x m), row 3 1 m.p.vA m.p.vn m.p.vc (x.votes.map zv), row 112 3 m.p.pA m.p.pn m.p.pc (cellsL pec x.peers), row 65 12 m.sA m.S.length m.sc (cellsL sgc m.S)]
/-- the rest can be read -/
structure McR (w : World) (x : Rs) (m : Mm) : Prop where
  lg : LgR w x m.p
  ms : ∀ s ∈ m.S, MsR w s.1 s.2
/-- its slices are as long as what they hold -/
structure McL (x : Rs) (m : Mm) : Prop where
  hvn : x.votes.length = m.p.vn
  hpn : x.peers.length = m.p.pn
theorem McR.keep {w w' : World} {x : Rs} {m : Mm} (h : McR w x m) (hk : Kp All w w') : McR w' x m := ⟨h.lg.keep hk, fun s hs => (h.ms s hs).keep hk⟩
/-- the machine's own block can be read -/
def McB (w : World) (g : Nat) (x : Rs) (m : Mm) : Prop := Rd w All 1 (some ⟨g, 0, none⟩) 16 (mcc x m)
theorem mcB_of {w : World} {g : Nat} {x : Rs} {m : Mm} (h : (pt g 89 (mcc x m)).holds w) : McB w g x m :=
  (Srd.pt (w0 := w) (M := fun k => k = g) (H := [pt g 89 (mcc x m)]) (n := 16) (size := 1) (ds := mcc x m) rfl (fun j v hj => by rw [Nat.zero_add]; exact hj)).rd w ⟨Kp.refl _ _, fun A hA => by
    obtain rfl : A = pt g 89 (mcc x m) := by simpa using hA
    refine ⟨h, fun k hk => ?_⟩
    obtain rfl : k = g := hk
    exact ⟨.inl rfl, (Array.getElem?_eq_some_iff.1 h).1⟩, List.pairwise_singleton _ _⟩
set_option maxRecDepth 100000 in
set_option maxHeartbeats 4000000 in
theorem mlast_k (w : World) (g : Nat) (x : Rs) (m : Mm) (hb : McB w g x m) (h : LgR w x m.p) :
    Gives Tryz.prog 59 [.pointer (some ⟨g, 0, none⟩)] [] w (X := Unit) (fun _ => .agg (atc (lastP x)).toArray) (fun _ => True) (fun _ => []) := by
  refine gives_C Tryz.func59 rfl Tryz.ntmps59 Tryz.results59 (by simp) (St.enter w) (fun B hB => ?_)
  have hn1 := h.hm
  focus (refine qs ?_; (refine qe (E_alloca rfl at_zero) ?_; rintro _ _ ⟨b2, rfl, rfl⟩); refine qn ?_; refine qp ?_; refine qt (T_nilCheck rfl) ?_; refine qp ?_; refine qp ?_; refine qt (T_loadgs (F := All) (m := 16) (sz := 1) (xs := mcc x m) (ds := lgc x.base m.p.A m.p.n m.p.c) rfl rfl rfl hb (fun k _ => noOwns k) rfl (by decide) rfl) ?_; (refine qe (E_hv0 (f := 50) ⟨_, Tryz.func50, rfl, by kernel_rfl⟩ (fun w hS => lastP_k w x.base m.p.A m.p.c m.p.n m.p.Q x.es h.hn h.hQ (h.keep hS.kpO).rq (by omega) (lastP x) rfl) rfl rfl (fun _ => rfl)) ?_; rintro _ _ ⟨_, rfl, _, rfl⟩); (refine qw (E_storew (cs := atc (0, 0)) (ds := atc (lastP x)) rfl rfl rfl rfl (atc_one _) rfl) ?_; rintro _ _ rfl); refine qz ?_)
  exact hB _ _ _ _ _ rfl (.cell rfl rfl rfl inferInstance rfl .nil) fun w' hS => ⟨(), rfl, trivial, hS.sublist (List.nil_sublist _)⟩
theorem conf_k (w : World) (a : At) (A : Option Addr) (c k : Nat) (Q : List Em) (l : List En) (hk : Q.length = k) (hl : Q.map emv = l) (h : Rd w All 3 A k (cellsL emc Q)) (hd : RDt w All (Q.map emd)) (hn : k ≤ 1000) (hkk : ∀ m ∈ Q, m.2.2.2.2.length ≤ 100000) (idx : Nat) (ri : Nat) (rbs : List UInt8) (rq : Bool) (N : Nat) (hN : rbs.length = N) (hs : confR a l idx = (ri, rbs, rq)) :
    Gives Tryz.prog 49 [.agg (lgc a A k c).toArray, .int .u64 (idx : Int)] [] w (X := Option Addr × Nat) (fun x => .tuple #[.int .u64 (ri : Int), .slice x.1 N x.2, .bool rq]) (fun _ => True) (fun x => [row 5 1 x.1 N x.2 (rbs.map bv)]) := confP_any w a A c k Q l hk hl h hd hn hkk idx ri rbs rq N hN hs
theorem conf_len {x : Rs} {idx : Nat} (hd : ∀ e ∈ x.es, e.2.2.length ≤ 100000) : (confR x.base x.es idx).2.1.length ≤ 100000 := by
  unfold confR
  split
  · split
    · exact Nat.zero_le _
    · dsimp only
      rcases Nat.lt_or_ge (cfN x.base x.es idx x.es.length - 1) x.es.length with h1 | h1
      · refine hd _ ?_
        simp [List.getD, h1]
      · rw [List.getD, List.getElem?_eq_none h1]
        exact Nat.zero_le _
  · exact Nat.zero_le _
set_option maxRecDepth 100000 in
set_option maxHeartbeats 4000000 in
theorem rforce_k (w : World) (x : Rs) (p : Rp) (D : Kw) (hD : Kd D [] w) (h : ∀ w', D w' → LgR w' x p) (idx : Nat) (ms : List Int) (hms : forceL x idx = ms) :
    Gives Tryz.prog 53 [.agg (rfc x p).toArray, .int .u64 (idx : Int)] [] w (X := (Option Addr × Nat × Nat) × Asn) (fun y => C.cfv y.1.1 ms.length y.1.2.2) (fun y => ∀ w', K2 D y.2 w' → Rd w' All 1 y.1.1 ms.length (ms.map zv)) (fun y => [y.2]) := by
  refine gives_C Tryz.func53 rfl Tryz.ntmps53 Tryz.results53 (by simp) (St.enter w) (fun B hB => ?_)
  obtain ⟨⟨ri, rbs, rq⟩, hs⟩ : ∃ z, confR x.base x.es idx = z := ⟨_, rfl⟩
  obtain ⟨N, hN⟩ : ∃ N, rbs.length = N := ⟨_, rfl⟩
  have hw := h w hD.now
  have hn1 := hw.hm
  have hn2 := hw.hcm
  have hN2 : N ≤ 100000 := by
    have := conf_len (idx := idx) hw.ed
    rw [hs] at this
    have this : rbs.length ≤ 100000 := this
    omega
  rw [forceL, hs] at hms
  cases rq
  · obtain rfl : x.cf = ms := by rw [← hms]; rfl
    focus (refine qs ?_; (refine qe (E_boxa (cs := rfc x p) rfl) ?_; rintro _ _ ⟨b2, rfl, rfl⟩); (refine qe (E_alloca rfl C.cf_alloc) ?_; rintro _ _ ⟨b4, rfl, rfl⟩); refine qz ?_; refine qq ?_; refine qs ?_; refine qp ?_; refine qt (T_loads (ds := lgc x.base p.A p.n p.c) rfl rfl rfl rfl rfl) ?_; refine qp ?_; (refine qe (E_hv1 (f := 49) ⟨_, Tryz.func49, rfl, by kernel_rfl⟩ (fun w' hS => conf_k w' x.base p.A p.c p.n p.Q x.es hw.hn hw.hQ (h w' (hD.at_ hS)).rq (h w' (hD.at_ hS)).dt hn1 hw.hd idx ri rbs _ N hN hs) rfl rfl (fun _ => rfl)) ?_; rintro _ _ ⟨⟨Ab, cb⟩, rfl, _, rfl⟩); (iterate 7 refine qp ?_); refine qn ?_; refine qp ?_; refine qz ?_; refine qF ?_; refine qx ?_; refine qs ?_; refine qp ?_; refine qt (T_loads (ds := [.slice p.cA p.cn p.cc]) rfl rfl rfl rfl rfl) ?_; (refine qw (E_storew (cs := [.slice none 0 0]) (ds := [.slice p.cA p.cn p.cc]) rfl rfl rfl rfl (C.sl_one _ _ _) rfl) ?_; rintro _ _ rfl); refine qz ?_)
    rw [hw.hcn] at hB
    refine hB _ _ _ _ _ rfl (.cell rfl rfl rfl inferInstance rfl .nil) fun w' hS => ⟨((p.cA, p.cn, p.cc), zN), rfl, fun w2 h2 => (h w2 h2.1).rc, zN_in (hS.sublist (List.nil_sublist _))⟩
  · obtain rfl : C.decL rbs = ms := by rw [← hms]; rfl
    obtain ⟨K, hK⟩ : ∃ K, (C.decL rbs).length = K := ⟨_, rfl⟩
    rw [hK] at hB
    focus (refine qs ?_; (refine qe (E_boxa (cs := rfc x p) rfl) ?_; rintro _ _ ⟨b2, rfl, rfl⟩); (refine qe (E_alloca rfl C.cf_alloc) ?_; rintro _ _ ⟨b4, rfl, rfl⟩); refine qz ?_; refine qq ?_; refine qs ?_; refine qp ?_; refine qt (T_loads (ds := lgc x.base p.A p.n p.c) rfl rfl rfl rfl rfl) ?_; refine qp ?_; (refine qe (E_hv1 (f := 49) ⟨_, Tryz.func49, rfl, by kernel_rfl⟩ (fun w' hS => conf_k w' x.base p.A p.c p.n p.Q x.es hw.hn hw.hQ (h w' (hD.at_ hS)).rq (h w' (hD.at_ hS)).dt hn1 hw.hd idx ri rbs _ N hN hs) rfl rfl (fun _ => rfl)) ?_; rintro _ _ ⟨⟨Ab, cb⟩, rfl, _, rfl⟩); (iterate 3 refine qp ?_); refine qd ?_; refine qp ?_; refine qp ?_; refine qd ?_; refine qn ?_; refine qd ?_; refine qz ?_; refine qT ?_; refine qs ?_; refine qp ?_; (refine qe (E_hv1 (f := 120) ⟨_, Tryz.func120, rfl, by kernel_rfl⟩ (fun w' hS => dec_k w' Ab N cb rbs (row_bs (e := 5) hS (by simp) hN) hN2 _ rfl _ rfl K hK) rfl rfl (fun _ => rfl)) ?_; rintro _ _ ⟨⟨A3, c3⟩, rfl, _, rfl⟩); (iterate 3 refine qp ?_); (refine qe (E_alloca rfl C.cf_alloc) ?_; rintro _ _ ⟨b4, rfl, rfl⟩); (refine qw (E_storew (cs := [.slice none 0 0]) (ds := [.slice A3 K c3]) rfl rfl rfl rfl (C.sl_one _ _ _) rfl) ?_; rintro _ _ rfl); refine qp ?_; refine qn ?_; refine qt (T_loads (ds := [.slice A3 K c3]) rfl rfl rfl rfl rfl) ?_; (refine qw (E_storew (cs := [.slice none 0 0]) (ds := [.slice A3 K c3]) rfl rfl rfl rfl (C.sl_one _ _ _) rfl) ?_; rintro _ _ rfl); refine qz ?_)
    refine hB _ _ _ _ _ rfl (.cell rfl rfl rfl inferInstance rfl .nil) fun w' hS => ⟨((A3, K, c3), row 3 1 A3 K c3 ((C.decL rbs).map zv)), rfl, fun w2 h2 => row_rd h2.2, sub_st (H' := [row 3 1 A3 K c3 ((C.decL rbs).map zv)]) w' hS⟩
end Go.Proofs.YtdeffdldifepkaaGreat
namespace Go.Proofs.YtdeffdldifepkaaGreat
open Go.RowKit
open Asn (pt row rb)
set_option linter.unusedVariables false
set_option linter.unusedSimpArgs false
--@use N

theorem Kd.call0 {D : Kw} {As H : List Asn} {w w1 : World} (h : Kd D As w) (hS : St w (owns As) H w1) : Kd D [] w1 := fun w2 hk => by
  refine h w2 ⟨hS.kp.os ▸ hk.os, hS.kp.tape ▸ hk.tape, hS.kp.output ▸ hk.output, Nat.le_trans hS.kp.size hk.size, fun k hn hlt => ?_⟩
  rw [hk.block k (noOwns k) (Nat.lt_of_lt_of_le hlt hS.kp.size)]
  exact hS.kp.block k hn hlt
theorem LgR.sz {w : World} {x : Rs} {p : Rp} (h : LgR w x p) : p.n ≤ 1000 ∧ p.cn ≤ 900 := ⟨h.hm, h.hcm⟩
set_option maxRecDepth 100000 in
set_option maxHeartbeats 4000000 in
theorem mforce_k (w : World) (g : Nat) (x : Rs) (m : Mm) (hb : McB w g x m) (D : Kw) (hD : Kd D [] w) (h : ∀ w', D w' → LgR w' x m.p) (ms : List Int) (hms : nowL x = ms) :
    Gives Tryz.prog 43 [.pointer (some ⟨g, 0, none⟩)] [] w (X := (Option Addr × Nat × Nat) × Asn) (fun y => C.cfv y.1.1 ms.length y.1.2.2) (fun y => ∀ w', K2 D y.2 w' → Rd w' All 1 y.1.1 ms.length (ms.map zv)) (fun y => [y.2]) := by
  refine gives_C Tryz.func43 rfl Tryz.ntmps43 Tryz.results43 (by simp) (St.enter w) (fun B hB => ?_)
  focus (refine qs ?_; (refine qe (E_alloca rfl C.cf_alloc) ?_; rintro _ _ ⟨b2, rfl, rfl⟩); refine qz ?_; refine qq ?_)
  refine S_draw ([]) sub_st (by kernel_rfl) rfl (by kernel_rfl) (by kernel_rfl : _ = 9) ?_
  refine dt 0 rfl (pev_ok rfl) ?_
  refine dt 1 rfl (T_nilCheck rfl) ?_
  refine dt 2 rfl (pev_ok rfl) ?_
  refine dt 3 rfl (T_loadgs (F := All) (m := 16) (sz := 1) (xs := mcc x m) (ds := rfc x m.p) rfl rfl rfl hb (fun k _ => noOwns k) rfl (by decide) rfl) ?_
  refine dt 4 rfl (pev_ok rfl) ?_
  refine D_one 5 rfl (E_hv0 (f := 59) ⟨_, Tryz.func59, rfl, by kernel_rfl⟩ (fun w hS => mlast_k w g x m (hb.keep hS.kpO) (h w (hD.at_ hS))) rfl rfl (fun _ => rfl)) ?_ rfl rfl (by kernel_rfl)
  rintro _ _ ⟨_, rfl, _, rfl⟩
  refine Nx_all sub_st ?_
  refine dt 6 rfl (T_fldv (xs := atc (lastP x)) rfl rfl rfl rfl rfl rfl) ?_
  refine D_one 7 rfl (E_hv1 (f := 53) ⟨_, Tryz.func53, rfl, by kernel_rfl⟩ (fun w hS => rforce_k w x m.p D (hD.call0 hS) h (lastP x).1 ms hms) rfl rfl (fun _ => rfl)) ?_ rfl rfl (by kernel_rfl)
  rintro _ _ ⟨⟨⟨A3, K3, c3⟩, Z3⟩, rfl, hI, rfl⟩
  refine Nx_all sub_st ?_
  refine D_one 8 rfl (E_storew (cs := [.slice none 0 0]) (ds := [.slice A3 ms.length c3]) rfl rfl rfl rfl (C.sl_one _ _ _) rfl) ?_ rfl rfl (by kernel_rfl)
  rintro _ _ rfl
  refine Nx_pivot (by kernel_rfl) ?_
  refine D_done ?_ (by kernel_rfl)
  skip
  skip
  exact hB _ _ _ _ _ rfl (.cell rfl rfl rfl inferInstance rfl .nil) fun w' hS => ⟨((A3, K3, c3), Z3), rfl, hI, sub_st (H' := [Z3]) w' hS⟩
/-- a message from a server -/
def frmM (x : Rs) (s : Ms) : Ms := { s with F := x.me }
def addM (x : Rs) (m : Mm) (s : Ms × Mp) (A : Option Addr) (c : Nat) : Mm := ⟨m.p, m.S ++ [(frmM x s.1, s.2)], A, c, m.i⟩
theorem ms_zero : ti65.zero = .agg (mgc ms0 ⟨none, 0, 0, none, 0, 0, none, 0, 0, []⟩).toArray := by kernel_rfl
set_option maxRecDepth 100000 in
set_option maxHeartbeats 4000000 in
theorem send1_any (w : World) (g : Nat) (x : Rs) (m : Mm) (hS0 : St w (owns (mP g x m)) (mP g x m) w) (A1 : Option Addr) (c1 : Nat) (s : Ms) (q : Mp) (hs : Rd w (fun k => ¬ owns (mP g x m) k) 12 A1 1 (mgc s q)) (hl : m.S.length ≤ 1000) :
    Gives Tryz.prog 113 [.pointer (some ⟨g, 0, none⟩), .slice A1 1 c1] (mP g x m) w (X := Option Addr × Nat) (fun _ => .tuple #[]) (fun _ => True) (fun y => mP g x (addM x m (s, q) y.1 y.2)) := by
  refine gives_N2 Tryz.func113 rfl Tryz.ntmps113 Tryz.results113 (by simp) hS0 (fun B hE hB => ?_)
  have hne : A1 ≠ none := by obtain ⟨ad, e, _⟩ := hs.2 (by omega); rw [e]; simp
  have hat : ∀ e v, (mgc s q)[e]? = some v → (mgc s q)[0 * 12 + e]? = some v := fun e v h => by rw [Nat.zero_mul, Nat.zero_add]; exact h
  focus (refine qs ?_; (iterate 3 refine qp ?_); refine qz ?_; refine qb ?_)
  refine S_loop (X := Nat × Mm) (fun z => [(0, .pointer (some ⟨g, 0, none⟩)), (6, .slice A1 1 c1), (7, .int .i64 ((1 : Nat) : Int)), (8, .int .i64 (z.1 : Int))]) (fun z => mP g x z.2) (fun z => (z.1 = 0 ∧ z.2 = m) ∨ (z.1 = 1 ∧ ∃ A c, z.2 = addM x m (s, q) A c)) (fun z => 1 - z.1) rfl (0, m) (.inl ⟨rfl, rfl⟩) (Sub.cons rfl (Sub.cons rfl (Sub.cons rfl (Sub.cons rfl Sub.nil)))) sub_st ?_
  rintro ⟨j, m'⟩ hj J hJ
  dsimp only at hj ⊢
  rcases hj with ⟨rfl, rfl⟩ | ⟨rfl, A', c', rfl⟩
  · skip
    focus (refine qs ?_; refine qd ?_; refine qz ?_; refine qq ?_; refine qT ?_; refine qx ?_; refine qq ?_; refine qb ?_; refine qs ?_; refine qt (T_ixM (sz := 12) (q := 0) rfl rfl rfl rfl rfl rfl hne (by omega)) ?_; refine qt (T_lda (ds := mgc s q) rfl rfl rfl (Srd.old hs (fun k hk => hk)) rfl (by omega) hat) ?_; (refine qe (E_alloca rfl ms_zero) ?_; rintro _ _ ⟨b5, rfl, rfl⟩); (refine qw (E_storew (cs := mgc ms0 ⟨none, 0, 0, none, 0, 0, none, 0, 0, []⟩) (ds := mgc s q) rfl rfl rfl rfl (mgc_one _ _) rfl) ?_; rintro _ _ rfl); refine qn ?_; refine qp ?_; refine qt (T_nilCheck rfl) ?_; refine qp ?_; refine qp ?_; refine qt (T_load rfl rfl rfl rfl) ?_; refine qp ?_; (refine qw (E_storeA1 (cs := mgc s q) (cs' := mgc (frmM x s) q) rfl rfl rfl rfl rfl rfl (by show _ < 12; omega)) ?_; rintro _ _ rfl); refine qz ?_)
    refine S_draw ([pt b5 65 (mgc (frmM x s) q), pt g 89 (mcc x m')]) sub_st (by kernel_rfl) rfl (by kernel_rfl) (by kernel_rfl : _ = 11) ?_
    refine dt 0 rfl (pev_ok rfl) ?_
    refine dt 1 rfl (pev_ok rfl) ?_
    refine dt 2 rfl (T_nilCheck rfl) ?_
    refine dt 3 rfl (pev_ok rfl) ?_
    refine dt 4 rfl (T_load rfl rfl rfl rfl) ?_
    refine dt 5 rfl (T_loads (ds := mgc (frmM x s) q) rfl rfl rfl rfl rfl) ?_
    refine D_one 6 rfl (E_litS (vs := [.agg (mgc (frmM x s) q).toArray]) (size := 12) (ds := mgc (frmM x s) q) rfl rfl rfl rfl rfl rfl (by simp [vcells, mgc_len]) rfl (by omega)) ?_ rfl rfl (by kernel_rfl)
    rintro _ _ ⟨vb, rfl, rfl⟩
    refine Nx_same sub_st ?_
    refine D_one 7 rfl (E_appS (sz := 12) (m := m'.S.length) (c := m'.sc) (A := m'.sA) rfl rfl rfl rfl rfl rfl rfl (by decide) (Srd.pt (n := 1) (g := vb) (ds := mgc (frmM x s) q) rfl (fun j u hj => by rw [Nat.zero_add]; exact hj)) (mgc_one _ _) (by show (m'.S.length + 1) * 144 ≤ _; omega) (by unfold maxLen; omega)) ?_ rfl rfl (by kernel_rfl)
    rintro _ _ ⟨A7, c7, rfl, rfl⟩
    refine Nx_same sub_st ?_
    refine dt 8 rfl (T_nilCheck rfl) ?_
    refine dt 9 rfl (pev_ok rfl) ?_
    refine D_one 10 rfl (E_storeA1 (cs := mcc x m') (cs' := mcc x (addM x m' (s, q) A7 c7)) rfl rfl rfl rfl rfl (by simp [mcc, addM, rfc]) (by show _ < 16; omega)) ?_ rfl rfl (by kernel_rfl)
    rintro _ _ rfl
    refine Nx_pivot (by kernel_rfl) ?_
    refine D_done ?_ (by kernel_rfl)
    skip
    focus (refine RS_blk ?_; refine qr ?_; refine qt (T_addN rfl rfl (by unfold fits; omega)) ?_; refine qp ?_; refine qz ?_)
    refine hJ (1, addM x m' (s, q) A7 c7) _ _ (.inr ⟨rfl, A7, c7, rfl⟩) (Sub.cons rfl (Sub.cons rfl (Sub.cons rfl (Sub.cons rfl Sub.nil)))) (fun w' hS => ?_) (by dsimp only; omega)
    have h1 := sub_st (H' := [pt g 89 (mcc x (addM x m' (s, q) A7 c7)), row 3 1 m'.p.vA m'.p.vn m'.p.vc (x.votes.map zv), row 112 3 m'.p.pA m'.p.pn m'.p.pc (cellsL pec x.peers), row 65 12 A7 (m'.S.length + 1) c7 (cellsL sgc m'.S ++ mgc (frmM x s) q)]) w' hS
    have e1 : cellsL sgc (addM x m' (s, q) A7 c7).S = cellsL sgc m'.S ++ mgc (frmM x s) q := by
      show cellsL sgc (m'.S ++ [(frmM x s, q)]) = _
      rw [cellsL_app, cellsL_one]
      rfl
    have e2 : (addM x m' (s, q) A7 c7).S.length = m'.S.length + 1 := by
      show (m'.S ++ [(frmM x s, q)]).length = _
      rw [List.length_append]
      rfl
    show St _ _ [pt g 89 (mcc x (addM x m' (s, q) A7 c7)), row 3 1 m'.p.vA m'.p.vn m'.p.vc (x.votes.map zv), row 112 3 m'.p.pA m'.p.pn m'.p.pc (cellsL pec x.peers), row 65 12 A7 (addM x m' (s, q) A7 c7).S.length c7 (cellsL sgc (addM x m' (s, q) A7 c7).S)] w'
    rw [e1, e2]
    exact h1
  · skip
    focus (refine qs ?_; refine qf ?_; refine qz ?_; refine qq ?_; refine qF ?_; refine S_exit rfl rfl ?_)
    first
    | exact hE _ _ fun w' hS => ⟨(A', c'), trivial, sub_st (H' := mP g x (addM x m (s, q) A' c')) w' hS⟩
    | exact hB _ _ _ _ rfl fun w' hS => ⟨(A', c'), trivial, sub_st (H' := mP g x (addM x m (s, q) A' c')) w' hS⟩
set_option maxRecDepth 100000 in
set_option maxHeartbeats 4000000 in
theorem fellows_any (w : World) (g : Nat) :
    Gives Tryz.prog 57 [.pointer (some ⟨g, 0, none⟩)] [] w (X := Nat) (fun b => .func (.func 132) #[] [Value.pointer (some ⟨b, 0, none⟩)].toArray) (fun _ => True) (fun b => [pt b 87 [.pointer (some ⟨g, 0, none⟩)]]) := by
  refine gives_S Tryz.func57 rfl Tryz.ntmps57 Tryz.results57 (by simp) (St.enter w) (fun B hB => ?_)
  focus (refine qs ?_; (refine qe (E_box1 (v := .pointer (some ⟨g, 0, none⟩)) rfl rfl) ?_; rintro _ _ ⟨b1, rfl, rfl⟩); refine qp ?_; refine qn ?_; refine qt (T_func rfl rfl) ?_; refine qp ?_; refine qz ?_)
  exact hB _ _ _ _ _ rfl rfl fun w' hS => ⟨b1, rfl, trivial, sub_st (H' := [pt b1 87 [.pointer (some ⟨g, 0, none⟩)]]) w' hS⟩
end Go.Proofs.YtdeffdldifepkaaGreat
namespace Go.Proofs.YtdeffdldifepkaaGreat
open Go.RowKit
open Asn (pt row rb)
set_option linter.unusedVariables false
set_option linter.unusedSimpArgs false
--@use N

theorem fel_at (ms : List Int) (p : Int → Bool) (j : Nat) (hj : j < ms.length) (hp : p (ms.getD j 0) = true) : ((ms.take j).filter p).length < (ms.filter p).length ∧ ((ms.filter p).map fun n => [zv n]).getD ((ms.take j).filter p).length [] = [zv (ms.getD j 0)] := by
  have e : ms = ms.take j ++ ms.getD j 0 :: ms.drop (j + 1) := by
    conv => lhs; rw [← List.take_append_drop j ms, List.drop_eq_getElem_cons hj]
    simp [List.getD, hj]
  obtain ⟨u, hu⟩ : ∃ u, ms.getD j 0 = u := ⟨_, rfl⟩
  obtain ⟨a, ha⟩ : ∃ u, ms.take j = u := ⟨_, rfl⟩
  obtain ⟨b, hb⟩ : ∃ u, ms.drop (j + 1) = u := ⟨_, rfl⟩
  rw [hu, ha, hb] at e
  rw [hu] at hp
  rw [hu, ha, e, List.filter_append, List.filter_cons, if_pos hp]
  refine ⟨by rw [List.length_append, List.length_cons]; omega, ?_⟩
  rw [List.map_append, List.getD, List.getElem?_append_right (by simp)]
  simp
theorem fel_next (ms : List Int) (p : Int → Bool) (j : Nat) (hj : j < ms.length) : ((ms.take (j + 1)).filter p).length = ((ms.take j).filter p).length + (if p (ms.getD j 0) = true then 1 else 0) := by
  have e : ms.take (j + 1) = ms.take j ++ [ms.getD j 0] := by rw [List.take_succ_eq_append_getElem hj]; simp [List.getD, hj]
  rw [e, List.filter_append, List.length_append, List.filter_cons]
  split
  · rfl
  · rfl
set_option maxRecDepth 100000 in
set_option maxHeartbeats 4000000 in
theorem fellows_iter (w : World) (g bm : Nat) (x : Rs) (m : Mm) (D : Kw) (hm : ∀ w', D w' → LgR w' x m.p) (hbm : ∀ w' : World, D w' → w'.cell? ⟨bm, 0, none⟩ = some (.pointer (some ⟨g, 0, none⟩))) (ms : List Int) (hms : nowL x = ms) (hk : ms.length ≤ 100000) :
    IterR Tryz.prog 132 [.pointer (some ⟨bm, 0, none⟩)] D (fun w' => McB w' g x m) (fun w' => w'.cell? ⟨g, 0, none⟩ = some (.int .i64 x.me)) ((ms.filter fun n => !decide (n = x.me)).map fun n => [zv n]) w := by
  intro l X Z I S x0 h0 hS hDZ hR0 hR hy
  refine gives_N2 Tryz.func132 rfl Tryz.ntmps132 Tryz.results132 (by simp) hS (fun B hE hB => ?_)
  obtain ⟨p, hp⟩ : ∃ p : Int → Bool, p = fun n => !decide (n = x.me) := ⟨_, rfl⟩
  rw [← hp] at hy hE hB
  rw [List.length_map] at hy hE hB
  focus (refine qs ?_; refine qt (T_ldq rfl rfl rfl (fun w1 hS1 => hbm w1 (hDZ.at_ hS1))) ?_; (refine qe (E_hv1 (f := 43) ⟨_, Tryz.func43, rfl, by kernel_rfl⟩ (fun w1 hS1 => mforce_k w1 g x m (hR0 w1 (hS1.at_ (A := Z x0) (by simp))) D (hDZ.call0 hS1) hm ms hms) rfl rfl (fun _ => rfl)) ?_; rintro _ _ ⟨⟨⟨A3, K3, c3⟩, Z3⟩, rfl, hI3, rfl⟩); refine qt (T_fldv (xs := [.slice A3 ms.length c3]) rfl rfl rfl rfl rfl rfl) ?_; refine qp ?_; refine qp ?_; refine qz ?_; refine qb ?_)
  dsimp only at hI3
  refine RS_fact (p := 0 < ms.length → A3 ≠ none) (fun w1 hS1 => fun h3 => by obtain ⟨ad, e, _⟩ := (hI3 w1 ⟨hDZ.at_ hS1, hS1.at_ (A := Z3) (by simp)⟩).2 h3; rw [e]; simp) fun hne => ?_
  refine S_loop (X := Nat × X) (fun z => [(0, .func (.yield l) #[] #[]), (1, .pointer (some ⟨bm, 0, none⟩)), (7, .slice A3 ms.length c3), (8, .int .i64 (ms.length : Int)), (9, .int .i64 (z.1 : Int))]) (fun z => [Z z.2, Z3]) (fun z => z.1 ≤ ms.length ∧ I ((ms.take z.1).filter p).length z.2) (fun z => ms.length - z.1) rfl (0, x0) ⟨Nat.zero_le _, h0⟩ (Sub.cons rfl (Sub.cons rfl (Sub.cons rfl (Sub.cons rfl (Sub.cons rfl Sub.nil))))) sub_st ?_
  rintro ⟨j, y⟩ ⟨hj, hI⟩ J hJ
  dsimp only at hj hI ⊢
  rcases Nat.lt_or_ge j ms.length with hjl | hjl
  · have hne := hne (by omega)
    have hat := zv_at (l := ms) (j := j) hjl
    have hnx := fel_next ms p j hjl
    have hfa := fel_at ms p j hjl
    obtain ⟨u, hu⟩ : ∃ u, ms.getD j 0 = u := ⟨_, rfl⟩
    rw [hu] at hat hnx hfa
    have hyj := hy ((ms.take j).filter p).length y
    by_cases hum : u = x.me
    · have hpu : p u = false := by rw [hp]; simp [hum]
      rw [hpu, if_neg Bool.false_ne_true, Nat.add_zero] at hnx
      focus (refine qs ?_; refine qd ?_; refine qz ?_; refine qq ?_; refine qT ?_; refine qx ?_; refine qq ?_; refine qb ?_; refine qs ?_; refine qt (T_ix1 rfl rfl rfl rfl rfl rfl hne hjl) ?_; refine qt (T_ldr (v := zv u) rfl rfl rfl (Srd.kn (Z := Z3) hDZ hI3) (by omega) hat) ?_; refine qp ?_; refine qn ?_; refine qp ?_; refine qt (T_ldq rfl rfl rfl (fun w1 hS1 => hbm w1 (hDZ.at_ hS1))) ?_; refine qt (T_nilCheck rfl) ?_; refine qp ?_; refine qp ?_; refine qt (T_ldq rfl rfl rfl (fun w1 hS1 => hR _ y w1 hI (hS1.at_ (A := Z y) (by simp)))) ?_; refine qf ?_; refine qp ?_; (iterate 4 refine qk ?_); refine qp ?_; refine qz ?_; refine qF ?_; refine qx ?_; refine RS_blk ?_; refine qr ?_; refine qt (T_addN rfl rfl (by unfold fits; omega)) ?_; refine qp ?_; refine qz ?_)
      exact hJ (j + 1, y) _ _ ⟨by show j + 1 ≤ _; omega, by dsimp only; rw [hnx]; exact hI⟩ (Sub.cons rfl (Sub.cons rfl (Sub.cons rfl (Sub.cons rfl (Sub.cons rfl Sub.nil))))) sub_st (by show ms.length - (j + 1) < _; omega)
    · have hpu : p u = true := by rw [hp]; simp [hum]
      rw [hpu, if_pos rfl] at hnx
      obtain ⟨hlt, hge⟩ := hfa hpu
      rw [hge] at hyj
      focus (refine qs ?_; refine qd ?_; refine qz ?_; refine qq ?_; refine qT ?_; refine qx ?_; refine qq ?_; refine qb ?_; refine qs ?_; refine qt (T_ix1 rfl rfl rfl rfl rfl rfl hne hjl) ?_; refine qt (T_ldr (v := zv u) rfl rfl rfl (Srd.kn (Z := Z3) hDZ hI3) (by omega) hat) ?_; refine qp ?_; refine qn ?_; refine qp ?_; refine qt (T_ldq rfl rfl rfl (fun w1 hS1 => hbm w1 (hDZ.at_ hS1))) ?_; refine qt (T_nilCheck rfl) ?_; refine qp ?_; refine qp ?_; refine qt (T_ldq rfl rfl rfl (fun w1 hS1 => hR _ y w1 hI (hS1.at_ (A := Z y) (by simp)))) ?_; refine qd ?_; (iterate 3 refine qp ?_); (refine qe (E_yield (A := Z y) (Z := Z) (I1 := I (((ms.take j).filter p).length + 1)) (S1 := S ((ms.take j).filter p).length) (fun w' hS => hyj w' hI hlt (hS.sublist (by simp))) rfl rfl rfl) ?_; rintro _ _ ⟨y2, bb, rfl, hy1, hy2, rfl⟩; cases bb); refine qt (T_not rfl) ?_; refine qp ?_; refine qz ?_; refine qT ?_; rotate_left; refine qt (T_not rfl) ?_; refine qp ?_; refine qz ?_; refine qF ?_; refine qx ?_; refine RS_blk ?_; refine qr ?_; refine qt (T_addN rfl rfl (by unfold fits; omega)) ?_; refine qp ?_; refine qz ?_; rotate_left)
      · skip
        exact hB _ _ _ _ rfl fun w' hS => ⟨(y2, some ((ms.take j).filter p).length), ⟨hlt, hy2 rfl⟩, sub_st (H' := [Z y2]) w' hS⟩
      · skip
        exact hJ (j + 1, y2) _ _ ⟨by show j + 1 ≤ _; omega, by dsimp only; rw [hnx]; exact hy1 rfl⟩ (Sub.cons rfl (Sub.cons rfl (Sub.cons rfl (Sub.cons rfl (Sub.cons rfl Sub.nil))))) sub_st (by show ms.length - (j + 1) < _; omega)
  have hjn : j = ms.length := by omega
  subst hjn
  rw [List.take_length] at hI
  focus (refine qs ?_; refine qf ?_; refine qz ?_; refine qq ?_; refine qF ?_; refine S_exit rfl rfl ?_)
  first
  | exact hE _ _ fun w' hS => ⟨(y, none), hI, sub_st (H' := [Z y]) w' hS⟩
  | exact hB _ _ _ _ rfl fun w' hS => ⟨(y, none), hI, sub_st (H' := [Z y]) w' hS⟩
/-- the machine with more that it sends -/
def appM (m : Mm) (y : List (Ms × Mp) × Option Addr × Nat) : Mm := ⟨m.p, m.S ++ y.1, y.2.1, y.2.2, m.i⟩
theorem rd_12 {w : World} {F : Nat → Prop} {A : Option Addr} {xs : List Value} (h : Rd w F 1 A 12 xs) : Rd w F 12 A 1 xs := ⟨h.1, fun _ => h.2 (by omega)⟩
section
variable {n : Nat} {w0 : World} {M : Nat → Prop} {T : Slots} {H : List Asn} {dd : Option Tmp} {tt : TypeId} {pos : String} {af : Array Edge} {g : Option (Nat × Bool)} {P : Program}
theorem T_build5 {s : TypeId} {j1 j2 j3 j4 j5 : Nat} {x1 x2 x3 x4 x5 : Operand} {u1 u2 u3 u4 u5 : Value} {cs : Array Value} (h1 : oget T x1 = some u1) (h2 : oget T x2 = some u2) (h3 : oget T x3 = some u3) (h4 : oget T x4 = some u4) (h5 : oget T x5 = some u5) (hb : P.built s [(j1, u1), (j2, u2), (j3, u3), (j4, u4), (j5, u5)] = some cs) :
    Tk P n w0 M T H ⟨dd, .build s #[(j1, x1), (j2, x2), (j3, x3), (j4, x4), (j5, x5)], tt, pos, af, g⟩ (.agg cs) := .mk fun a w ha hS => by
  have hr := run_build (P := P) w s #[(j1, u1), (j2, u2), (j3, u3), (j4, u4), (j5, u5)] cs (by simpa using hb)
  simp only [execOp, List.map_toArray, List.map_cons, List.map_nil, ha.eval h1, ha.eval h2, ha.eval h3, ha.eval h4, ha.eval h5, Sem.run_bind, hr, Result.andThen_ok, Sem.run_pure]
end
theorem mcB_st {w0 w : World} {M : Nat → Prop} {H : List Asn} {g : Nat} {x : Rs} {m : Mm} (hS : St w0 M H w) (hm : pt g 89 (mcc x m) ∈ H) : McB w g x m := mcB_of (hS.at_ hm)
end Go.Proofs.YtdeffdldifepkaaGreat
namespace Go.Proofs.YtdeffdldifepkaaGreat
open Go.RowKit
open Asn (pt row rb)
set_option linter.unusedVariables false
set_option linter.unusedSimpArgs false
--@use N

theorem Kd.to {D : Kw} {As As' Hr : List Asn} {w w' : World} (h : Kd D As w) (hS : St w (owns As) (As' ++ Hr) w') : Kd D As' w' := fun w2 hk => (h.subL (L := []) hS (fun _ h => by cases h) w2 hk).1
theorem pt_cell {b t : Nat} {v : Value} {w : World} (h : (pt b t [v]).holds w) : w.cell? ⟨b, 0, none⟩ = some v := by
  have h2 := (Srd.pt (w0 := w) (M := fun k => k = b) (H := [pt b t [v]]) (g := b) (t := t) (n := 1) (size := 1) (off := 0) (cs := [v]) (ds := [v]) rfl (fun j u hj => by rw [Nat.zero_add]; exact hj)).rd w ⟨Kp.refl _ _, fun A hA => by
    obtain rfl : A = pt b t [v] := by simpa using hA
    refine ⟨h, fun k hk => ?_⟩
    obtain rfl : k = b := hk
    exact ⟨.inl rfl, (Array.getElem?_eq_some_iff.1 h).1⟩, List.pairwise_singleton _ _⟩
  obtain ⟨ad, e, _, hc⟩ := h2.2 (by omega)
  injection e with e
  subst e
  exact hc 0 v rfl
theorem mc_me {g : Nat} {x : Rs} {m : Mm} {w : World} (h : (pt g 89 (mcc x m)).holds w) : w.cell? ⟨g, 0, none⟩ = some (.int .i64 x.me) := by
  obtain ⟨ad, e, _, hc⟩ := (mcB_of h).2 (by omega)
  injection e with e
  subst e
  exact hc 0 _ rfl
theorem appM_nil (m : Mm) : appM m ([], m.sA, m.sc) = m := by simp [appM]
theorem flat_len {f : Int → List Ms} (h : ∀ n, (f n).length ≤ 1) : ∀ l : List Int, (l.flatMap f).length ≤ l.length
  | [] => Nat.le_refl _
  | a :: l => by
    have := flat_len h l
    have := h a
    rw [List.flatMap_cons, List.length_append, List.length_cons]
    omega
/-- a block's first cell, and no more of it -/
def wkP (g : Nat) (v : Value) : Asn := .any (fun k => k = g) (fun w => w.cell? ⟨g, 0, none⟩ = some v) (fun w w' hk h => hk.cell (F := fun k => k = g) rfl h)
theorem wk2 {w0 w : World} {M : Nat → Prop} {g t : Nat} {cs : List Value} {A : Asn} {v : Value} (hS : St w0 M [pt g t cs, A] w) (hv : cs[0]? = some v) : St w0 M [A, wkP g v] w := by
  have h1 : St w0 M [wkP g v, A] w := hS.turn (A := pt g t cs) Upd.here (fun hb => by
    have hc := hS.cell (H := [pt g t cs, A]) (g := g) (t := t) (cs := cs) (by simp) hv
    exact hc) (fun k hk => hk)
  exact h1.perm (List.Perm.swap _ _ _)
/-- one vote, in a literal -/
def votM (m : Mm) (b : Nat) : Mm := ⟨⟨m.p.A, m.p.n, m.p.c, m.p.Q, m.p.cA, m.p.cn, m.p.cc, some ⟨b, 0, none⟩, 1, 1, m.p.pA, m.p.pn, m.p.pc⟩, m.S, m.sA, m.sc, m.i⟩
theorem lit_row {w0 w : World} {M : Nat → Prop} {H : List Asn} {b : Nat} {v : Value} (hS : St w0 M (pt b 3 [v] :: H) w) : St w0 M (row 3 1 (some ⟨b, 0, none⟩) 1 1 [v] :: H) w :=
  St.rowOf (size := 1) (n := 1) (m := 1) (cs := [v]) hS Upd.here (by omega) (by unfold maxLen; omega) rfl
theorem votes_in {w0 w : World} {M : Nat → Prop} {g b b1 : Nat} {x y : Rs} {m : Mm} (hS : St w0 M [pt b 3 [zv x.me], pt g 89 (mcc y (votM m b)), row 112 3 m.p.pA m.p.pn m.p.pc (cellsL pec x.peers), row 65 12 m.sA m.S.length m.sc (cellsL sgc m.S), pt b1 87 [.pointer (some ⟨g, 0, none⟩)]] w) (hv : y.votes = [x.me] := by rfl) (hp : y.peers = x.peers := by rfl) : St w0 M (pt b1 87 [.pointer (some ⟨g, 0, none⟩)] :: mP g y (votM m b)) w := by
  have h1 := sub_st (H' := [pt b1 87 [.pointer (some ⟨g, 0, none⟩)], pt g 89 (mcc y (votM m b)), row 3 1 (some ⟨b, 0, none⟩) 1 1 [zv x.me], row 112 3 m.p.pA m.p.pn m.p.pc (cellsL pec x.peers), row 65 12 m.sA m.S.length m.sc (cellsL sgc m.S)]) w (lit_row hS)
  show St w0 M [pt b1 87 [.pointer (some ⟨g, 0, none⟩)], pt g 89 (mcc y (votM m b)), row 3 1 (some ⟨b, 0, none⟩) 1 1 (y.votes.map zv), row 112 3 m.p.pA m.p.pn m.p.pc (cellsL pec y.peers), row 65 12 m.sA m.S.length m.sc (cellsL sgc m.S)] w
  rw [hv, hp]
  exact h1
theorem maj_k (w : World) (A A2 : Option Addr) (n c n2 c2 : Nat) (ms set : List Int) (h : Rd w All 1 A n (ms.map zv)) (h2 : Rd w All 1 A2 n2 (set.map zv)) (hn : n ≤ 1000) (hn2 : n2 ≤ 1000) (r : Bool) (hr : C.majB ms set = r) :
    Gives Tryz.prog 111 [C.cfv A n c, .slice A2 n2 c2] [] w (X := Unit) (fun _ => .bool r) (fun _ => True) (fun _ => []) := hr ▸ C.maj_any w A A2 n c n2 c2 ms set h h2 hn hn2
theorem ms_built1 (who : Int) (t : Nat) (b : At) : Tryz.prog.built 65 [(0, .int .i64 1), (2, .int .i64 who), (3, .int .u64 (t : Int)), (4, .agg (atc b).toArray)] = some (mgc ⟨1, 0, who, t, b, [], 0, false, 0, [], []⟩ ⟨none, 0, 0, none, 0, 0, none, 0, 0, []⟩).toArray := by kernel_rfl
theorem ms_built3 (who : Int) (t : Nat) (b : At) : Tryz.prog.built 65 [(0, .int .i64 3), (2, .int .i64 who), (3, .int .u64 (t : Int)), (4, .agg (atc b).toArray)] = some (mgc ⟨3, 0, who, t, b, [], 0, false, 0, [], []⟩ ⟨none, 0, 0, none, 0, 0, none, 0, 0, []⟩).toArray := by kernel_rfl
set_option maxRecDepth 100000 in
set_option maxHeartbeats 4000000 in
theorem ask_no (w : World) (g : Nat) (x : Rs) (m : Mm) (hS0 : St w (owns (mP g x m)) (mP g x m) w) (D : Kw) (hD : Kd D (mP g x m) w) (h : ∀ w', D w' → McR w' x m) (hl : McL x m) (htm : x.term ≤ 4611686018427387904) (h5 : (nowL x).length ≤ 5) (hSm : m.S.length ≤ 800) (hmj : C.majB (nowL x) [x.me] = false) :
    Gives Tryz.prog 44 [.pointer (some ⟨g, 0, none⟩)] (mP g x m) w (X := Nat × (List (Ms × Mp) × Option Addr × Nat) × Asn) (fun _ => .tuple #[]) (fun y => y.2.1.1.map Prod.fst = (felL (askX x)).flatMap (fun n => [{ ms0 with K := 1, F := x.me, T := n, tm := x.term + 1, pl := lastP x }]) ∧ ∀ w', K2 D y.2.2 w' → ∀ s ∈ y.2.1.1, MsR w' s.1 s.2) (fun y => mP g (askX x) (appM (votM m y.1) y.2.1) ++ [y.2.2]) := by
  refine gives_MN Tryz.func44 rfl Tryz.ntmps44 Tryz.results44 (by simp) hS0 (fun B hE0 hR0 hEM => ?_)
  focus (refine qs ?_; (refine qe (E_box1 (v := .pointer (some ⟨g, 0, none⟩)) rfl rfl) ?_; rintro _ _ ⟨b1, rfl, rfl⟩); refine qz ?_; refine qq ?_)
  refine S_cut (X := Nat) (fun bl => [(1, .pointer (some ⟨b1, 0, none⟩))]) (fun bl => pt b1 87 [.pointer (some ⟨g, 0, none⟩)] :: mP g (askX x) (votM m bl)) (fun _ => True) (fun J hJ => ?_) (fun bl _ => ?_)
  · skip
    refine S_draw ([pt b1 87 [.pointer (some ⟨g, 0, none⟩)], wkP g (.int .i64 x.me)]) ((fun w1 hS1 => wk2 (sub_st (H' := [pt g 89 (mcc x m), pt b1 87 [.pointer (some ⟨g, 0, none⟩)]]) w1 hS1) rfl)) (by kernel_rfl) rfl (by kernel_rfl) (by kernel_rfl : _ = 21) ?_
    refine dt 0 rfl (T_load rfl rfl rfl rfl) ?_
    refine dt 1 rfl (T_load rfl rfl rfl rfl) ?_
    refine dt 2 rfl (T_load rfl rfl rfl rfl) ?_
    refine dt 3 rfl (T_load rfl rfl rfl rfl) ?_
    refine dt 4 rfl (T_nilCheck rfl) ?_
    refine dt 5 rfl (pev_ok rfl) ?_
    refine dt 6 rfl (pev_ok rfl) ?_
    refine dt 7 rfl (T_ldq rfl rfl rfl (fun w1 hS1 => hS1.at_ (A := wkP g (.int .i64 x.me)) (by simp))) ?_
    refine dt 9 rfl (T_nilCheck rfl) ?_
    refine dt 10 rfl (pev_ok rfl) ?_
    refine dt 11 rfl (pev_ok rfl) ?_
    refine D_two 8 12 (by decide) rfl rfl (E_lit1 (m := 1) (vs := [zv x.me]) rfl rfl rfl rfl rfl rfl rfl (by simp [zv, Value.oneCell']) (by decide)) (E_storeA1 (cs := mcc x m) (cs' := mcc { x with role := 2 } m) rfl rfl rfl rfl rfl rfl (by show _ < 16; omega)) ?_ ?_ rfl rfl rfl rfl (by kernel_rfl)
    · rintro _ _ ⟨bl, rfl, rfl⟩
      first | refine Nx_same (fun w1 hS1 => wk2 (sub_st (H' := [pt g 89 (mcc x m), pt b1 87 [.pointer (some ⟨g, 0, none⟩)]]) w1 hS1) rfl) ?_ | refine Nx_same (fun w1 hS1 => wk2 (sub_st (H' := [pt g 89 (mcc { x with role := 2 } m), pt b1 87 [.pointer (some ⟨g, 0, none⟩)]]) w1 hS1) rfl) ?_
      refine D_one 12 rfl (E_storeA1 (cs := mcc x m) (cs' := mcc { x with role := 2 } m) rfl rfl rfl rfl rfl rfl (by show _ < 16; omega)) ?_ rfl rfl (by kernel_rfl)
      rintro _ _ rfl
      refine Nx_same (fun w1 hS1 => wk2 (sub_st (H' := [pt g 89 (mcc { x with role := 2 } m), pt b1 87 [.pointer (some ⟨g, 0, none⟩)]]) w1 hS1) rfl) ?_
      refine dt 13 rfl (T_nilCheck rfl) ?_
      refine dt 14 rfl (pev_ok rfl) ?_
      refine dt 15 rfl (pev_ok rfl) ?_
      refine D_one 16 rfl (E_storeA1 (cs := mcc { x with role := 2 } m) (cs' := mcc { x with role := 2 } (votM m bl)) rfl rfl rfl rfl rfl rfl (by show _ < 16; omega)) ?_ rfl rfl (by kernel_rfl)
      rintro _ _ rfl
      refine Nx_same (fun w1 hS1 => wk2 (sub_st (H' := [pt g 89 (mcc { x with role := 2 } (votM m bl)), pt b1 87 [.pointer (some ⟨g, 0, none⟩)]]) w1 hS1) rfl) ?_
      refine dt 17 rfl (T_nilCheck rfl) ?_
      refine dt 18 rfl (pev_ok rfl) ?_
      refine dt 19 rfl (pev_ok rfl) ?_
      refine D_one 20 rfl (E_storeA1 (cs := mcc { x with role := 2 } (votM m bl)) (cs' := mcc (askX x) (votM m bl)) rfl rfl rfl rfl rfl rfl (by show _ < 16; omega)) ?_ rfl rfl (by kernel_rfl)
      rintro _ _ rfl
      refine Nx_same (fun w1 hS1 => wk2 (sub_st (H' := [pt g 89 (mcc (askX x) (votM m bl)), pt b1 87 [.pointer (some ⟨g, 0, none⟩)]]) w1 hS1) rfl) ?_
      refine D_done ?_ (by kernel_rfl)
      exact hJ bl _ _ trivial (Sub.cons rfl Sub.nil) (fun w1 hS1 => votes_in (sub_st (H' := [pt bl 3 [zv x.me], pt g 89 (mcc (askX x) (votM m bl)), row 112 3 m.p.pA m.p.pn m.p.pc (cellsL pec x.peers), row 65 12 m.sA m.S.length m.sc (cellsL sgc m.S), pt b1 87 [.pointer (some ⟨g, 0, none⟩)]]) w1 hS1))
    · rintro _ _ rfl
      refine Nx_same (fun w1 hS1 => wk2 (sub_st (H' := [pt g 89 (mcc { x with role := 2 } m), pt b1 87 [.pointer (some ⟨g, 0, none⟩)]]) w1 hS1) rfl) ?_
      refine D_one 8 rfl (E_lit1 (m := 1) (vs := [zv x.me]) rfl rfl rfl rfl rfl rfl rfl (by simp [zv, Value.oneCell']) (by decide)) ?_ rfl rfl (by kernel_rfl)
      rintro _ _ ⟨bl, rfl, rfl⟩
      first | refine Nx_same (fun w1 hS1 => wk2 (sub_st (H' := [pt g 89 (mcc x m), pt b1 87 [.pointer (some ⟨g, 0, none⟩)]]) w1 hS1) rfl) ?_ | refine Nx_same (fun w1 hS1 => wk2 (sub_st (H' := [pt g 89 (mcc { x with role := 2 } m), pt b1 87 [.pointer (some ⟨g, 0, none⟩)]]) w1 hS1) rfl) ?_
      refine dt 13 rfl (T_nilCheck rfl) ?_
      refine dt 14 rfl (pev_ok rfl) ?_
      refine dt 15 rfl (pev_ok rfl) ?_
      refine D_one 16 rfl (E_storeA1 (cs := mcc { x with role := 2 } m) (cs' := mcc { x with role := 2 } (votM m bl)) rfl rfl rfl rfl rfl rfl (by show _ < 16; omega)) ?_ rfl rfl (by kernel_rfl)
      rintro _ _ rfl
      refine Nx_same (fun w1 hS1 => wk2 (sub_st (H' := [pt g 89 (mcc { x with role := 2 } (votM m bl)), pt b1 87 [.pointer (some ⟨g, 0, none⟩)]]) w1 hS1) rfl) ?_
      refine dt 17 rfl (T_nilCheck rfl) ?_
      refine dt 18 rfl (pev_ok rfl) ?_
      refine dt 19 rfl (pev_ok rfl) ?_
      refine D_one 20 rfl (E_storeA1 (cs := mcc { x with role := 2 } (votM m bl)) (cs' := mcc (askX x) (votM m bl)) rfl rfl rfl rfl rfl rfl (by show _ < 16; omega)) ?_ rfl rfl (by kernel_rfl)
      rintro _ _ rfl
      refine Nx_same (fun w1 hS1 => wk2 (sub_st (H' := [pt g 89 (mcc (askX x) (votM m bl)), pt b1 87 [.pointer (some ⟨g, 0, none⟩)]]) w1 hS1) rfl) ?_
      refine D_done ?_ (by kernel_rfl)
      exact hJ bl _ _ trivial (Sub.cons rfl Sub.nil) (fun w1 hS1 => votes_in (sub_st (H' := [pt bl 3 [zv x.me], pt g 89 (mcc (askX x) (votM m bl)), row 112 3 m.p.pA m.p.pn m.p.pc (cellsL pec x.peers), row 65 12 m.sA m.S.length m.sc (cellsL sgc m.S), pt b1 87 [.pointer (some ⟨g, 0, none⟩)]]) w1 hS1))
  have h1 : ∀ w', D w' → McR w' (askX x) (votM m bl) := fun w' h' => ⟨(h w' h').lg.like rfl rfl rfl rfl rfl rfl rfl rfl, (h w' h').ms⟩
  have hfl : (felL (askX x)).length ≤ 5 := Nat.le_trans (List.length_filter_le _ _) h5
  have hnl : (nowL (askX x)).length ≤ 5 := h5
  have htm1 : (askX x).term ≤ 4611686018427387905 := Nat.le_trans htm (by decide)
  focus (refine qq ?_; refine qq ?_)
  refine S_draw ([pt b1 87 [.pointer (some ⟨g, 0, none⟩)], pt g 89 (mcc (askX x) (votM m bl))]) sub_st (by kernel_rfl) rfl (by kernel_rfl) (by kernel_rfl : _ = 8) ?_
  refine dt 0 rfl (T_load rfl rfl rfl rfl) ?_
  refine dt 2 rfl (T_load rfl rfl rfl rfl) ?_
  refine dt 3 rfl (T_nilCheck rfl) ?_
  refine dt 4 rfl (pev_ok rfl) ?_
  refine dt 5 rfl (pev_ok rfl) ?_
  refine dt 6 rfl (T_load rfl rfl rfl rfl) ?_
  refine D_one 1 rfl (E_hv1 (f := 43) ⟨_, Tryz.func43, rfl, by kernel_rfl⟩ (fun w1 hS1 => mforce_k w1 g (askX x) (votM m bl) (mcB_st hS1 (by simp)) D (hD.call0 hS1) (fun w2 h2 => (h1 w2 h2).lg) (nowL x) rfl) rfl rfl (fun _ => rfl)) ?_ rfl rfl (by kernel_rfl)
  rintro _ _ ⟨⟨⟨A3, K3, c3⟩, Z3⟩, rfl, hI3, rfl⟩
  refine Nx_same sub_st ?_
  refine D_one 7 rfl (E_hv0 (f := 111) ⟨_, Tryz.func111, rfl, by kernel_rfl⟩ (fun w1 hS1 => maj_k w1 A3 (some ⟨bl, 0, none⟩) (nowL x).length c3 1 1 (nowL x) [x.me] (hI3 w1 ⟨hD.at_ hS1, hS1.at_ (A := Z3) (by simp)⟩) (row_rd (hS1.at_ (A := row 3 1 (votM m bl).p.vA (votM m bl).p.vn (votM m bl).p.vc ((askX x).votes.map zv)) (by simp))) (by omega) (by omega) _ hmj) rfl rfl (fun _ => rfl)) ?_ rfl rfl (by kernel_rfl)
  rintro _ _ ⟨_, rfl, _, rfl⟩
  refine Nx_same sub_st ?_
  refine D_done ?_ (by kernel_rfl)
  skip
  focus (refine qF ?_; refine qx ?_; refine qs ?_; refine qt (T_load rfl rfl rfl rfl) ?_; (refine qe (E_hv1 (f := 57) ⟨_, Tryz.func57, rfl, by kernel_rfl⟩ (fun w1 hS1 => fellows_any w1 g) rfl rfl (fun _ => rfl)) ?_; rintro _ _ ⟨b2, rfl, _, rfl⟩); refine qz ?_; refine qb ?_)
  refine RS_zN ?_
  refine S_rangeR (D0 := KL D [pt b2 87 [.pointer (some ⟨g, 0, none⟩)]]) (R0 := fun w' => McB w' g (askX x) (appM (votM m bl) ([], (votM m bl).sA, (votM m bl).sc))) (R := fun w' => w'.cell? ⟨g, 0, none⟩ = some (.int .i64 x.me)) (es := (felL (askX x)).map fun n => [zv n]) (ps := [33]) (X := (List (Ms × Mp) × Option Addr × Nat) × Asn) (fun y => y.2 :: mP g (askX x) (appM (votM m bl) y.1)) (fun i y => y.1.1.map Prod.fst = ((felL (askX x)).take i).flatMap (fun n => [{ ms0 with K := 1, F := x.me, T := n, tm := x.term + 1, pl := lastP x }]) ∧ ∀ w', K2 D y.2 w' → ∀ s ∈ y.1.1, MsR w' s.1 s.2) (fun i y => False) (([], (votM m bl).sA, (votM m bl).sc), zN) [pt b2 87 [.pointer (some ⟨g, 0, none⟩)], pt b1 87 [.pointer (some ⟨g, 0, none⟩)]] rfl rfl ⟨_, Tryz.func132, rfl, by kernel_rfl⟩ (by kernel_rfl) (fun e he => ?_) ⟨rfl, fun _ _ s hs => absurd hs (by simp)⟩ (fun w' hS => ?_) (fun w' hS => ?_) (fun w' hS => hD.subL hS (by simp)) (fun w' hw => mcB_of (hw (pt g 89 (mcc (askX x) (appM (votM m bl) ([], (votM m bl).sA, (votM m bl).sc)))) (by simp))) (fun i y w' _ hw => mc_me (x := (askX x)) (hw (pt g 89 (mcc (askX x) (appM (votM m bl) y.1))) (by simp))) (fun j y w' hx hj hS => ?_) (fun y Dd hy => ?_) (fun y Dd j hj hy => absurd hy id)
  · obtain ⟨n, _, rfl⟩ := List.mem_map.1 he
    rfl
  · rw [appM_nil]
    exact sub_st (H' := [zN, pt g 89 (mcc (askX x) (votM m bl)), row 3 1 (votM m bl).p.vA (votM m bl).p.vn (votM m bl).p.vc ((askX x).votes.map zv), row 112 3 (votM m bl).p.pA (votM m bl).p.pn (votM m bl).p.pc (cellsL pec (askX x).peers), row 65 12 (votM m bl).sA (votM m bl).S.length (votM m bl).sc (cellsL sgc (votM m bl).S), pt b2 87 [.pointer (some ⟨g, 0, none⟩)], pt b1 87 [.pointer (some ⟨g, 0, none⟩)]]) w' hS
  · exact fellows_iter w' g b2 (askX x) (appM (votM m bl) ([], (votM m bl).sA, (votM m bl).sc)) _ (fun w2 h2 => (h1 w2 h2.1).lg) (fun w2 h2 => pt_cell (t := 87) (h2.2 (pt b2 87 [.pointer (some ⟨g, 0, none⟩)]) (by simp))) (nowL (askX x)) rfl (by omega)
  · rw [List.length_map] at hj
    obtain ⟨n, hn⟩ : ∃ n, (felL (askX x)).getD j 0 = n := ⟨_, rfl⟩
    have htk : (felL (askX x)).take (j + 1) = (felL (askX x)).take j ++ [n] := by rw [List.take_succ_eq_append_getElem hj]; simp [List.getD, hj, ← hn]
    have hge : ((felL (askX x)).map fun n => [zv n]).getD j [] = [zv n] := by rw [← hn]; simp [List.getD, hj]
    rw [hge]
    obtain ⟨⟨N, AN, cN⟩, Zy⟩ := y
    obtain ⟨hx1, hx2⟩ := hx
    dsimp only at hx1 hx2
    have hNl : N.length ≤ 5 := by
      have e1 : N.length = (((felL (askX x)).take j).flatMap (fun n => [{ ms0 with K := 1, F := x.me, T := n, tm := x.term + 1, pl := lastP x }])).length := by rw [← hx1, List.length_map]
      rw [e1]
      refine Nat.le_trans (flat_len (fun a => ?_) _) ?_
      · exact Nat.le_refl _
      · rw [List.length_take]
        omega
    intro l2 rA rB Ba Bb J hfull hbeg hend hret
    have hC1 := rd_kept (b := b1) (As := rA :: Zy :: mP g (askX x) (appM (votM m bl) (N, AN, cN))) hfull rfl
    have hDr : Kd D (rA :: Zy :: mP g (askX x) (appM (votM m bl) (N, AN, cN))) w' := hD.to hfull
    have hms : ∀ w2, K2 D Zy w2 → McR w2 (askX x) (appM (votM m bl) (N, AN, cN)) := fun w2 h2 => ⟨(h1 w2 h2.1).lg, fun s hs => by
      rcases List.mem_append.1 hs with hs | hs
      · exact (h1 w2 h2.1).ms s hs
      · exact hx2 w2 h2 s hs⟩
    have hSl : (appM (votM m bl) (N, AN, cN)).S.length ≤ 900 := by
      show ((votM m bl).S ++ N).length ≤ 900
      rw [List.length_append]
      have : (votM m bl).S.length ≤ 800 := hSm
      omega
    focus (refine qr ?_; refine qp ?_; refine qz ?_)
    refine hbeg _ (Zy :: mP g (askX x) (appM (votM m bl) (N, AN, cN))) _ ?_ sub_st
    focus (refine qb ?_)
    refine S_drawR ([pt g 89 (mcc (askX x) (appM (votM m bl) (N, AN, cN)))]) sub_st (by kernel_rfl) rfl (by kernel_rfl) (by kernel_rfl) (by kernel_rfl : _ = 13) ?_
    refine dt 0 rfl (T_loadg (v := .pointer (some ⟨g, 0, none⟩)) rfl rfl rfl hC1 (fun k hk => hk) rfl) ?_
    refine dt 1 rfl (pev_ok rfl) ?_
    refine dt 2 rfl (T_loadg (v := .pointer (some ⟨g, 0, none⟩)) rfl rfl rfl hC1 (fun k hk => hk) rfl) ?_
    refine dt 3 rfl (T_nilCheck rfl) ?_
    refine dt 4 rfl (pev_ok rfl) ?_
    refine dt 5 rfl (pev_ok rfl) ?_
    refine dt 6 rfl (T_load rfl rfl rfl rfl) ?_
    (refine dt 7 rfl (T_addN rfl rfl (by unfold fits; omega)) ?_)
    refine dt 8 rfl (T_loadg (v := .pointer (some ⟨g, 0, none⟩)) rfl rfl rfl hC1 (fun k hk => hk) rfl) ?_
    refine D_one 9 rfl (E_hv0 (f := 59) ⟨_, Tryz.func59, rfl, by kernel_rfl⟩ (fun w hS => mlast_k w g (askX x) (appM (votM m bl) (N, AN, cN)) (mcB_st hS (by simp)) (h1 w (hDr.at_ hS)).lg) rfl rfl (fun _ => rfl)) ?_ rfl rfl (by kernel_rfl)
    rintro _ _ ⟨_, rfl, _, rfl⟩
    refine Nx_same sub_st ?_
    refine dt 10 rfl (T_build4 rfl rfl rfl rfl (ms_built1 n (x.term + 1) (lastP x))) ?_
    refine D_one 11 rfl (E_litS (vs := [.agg (mgc (⟨1, 0, n, x.term + 1, lastP x, [], 0, false, 0, [], []⟩ : Ms) (⟨none, 0, 0, none, 0, 0, none, 0, 0, []⟩ : Mp)).toArray]) (size := 12) (ds := mgc (⟨1, 0, n, x.term + 1, lastP x, [], 0, false, 0, [], []⟩ : Ms) (⟨none, 0, 0, none, 0, 0, none, 0, 0, []⟩ : Mp)) rfl rfl rfl rfl rfl rfl (by simp [vcells, mgc_len]) rfl (by omega)) ?_ rfl rfl (by kernel_rfl)
    rintro _ _ ⟨vb, rfl, rfl⟩
    refine Nx_same sub_st ?_
    refine D_one 12 rfl (E_htL (f := 113) (mP g (askX x) (appM (votM m bl) (N, AN, cN))) (fun (y : Option Addr × Nat) => mP g (askX x) (addM (askX x) (appM (votM m bl) (N, AN, cN)) ((⟨1, 0, n, x.term + 1, lastP x, [], 0, false, 0, [], []⟩ : Ms), (⟨none, 0, 0, none, 0, 0, none, 0, 0, []⟩ : Mp)) y.1 y.2)) ⟨_, Tryz.func113, rfl, by kernel_rfl⟩ (fun w1 hS1 hS2 => send1_any w1 g (askX x) (appM (votM m bl) (N, AN, cN)) hS2 (some ⟨vb, 0, none⟩) 1 (⟨1, 0, n, x.term + 1, lastP x, [], 0, false, 0, [], []⟩ : Ms) (⟨none, 0, 0, none, 0, 0, none, 0, 0, []⟩ : Mp) (rd_12 (rd_kept (b := vb) (t := 65) (As := mP g (askX x) (appM (votM m bl) (N, AN, cN))) hS1 rfl)) (by omega)) rfl rfl) ?_ rfl rfl (by kernel_rfl)
    rintro _ _ ⟨⟨AS, cS⟩, rfl, _, rfl⟩; dsimp only [List.cons_append, List.nil_append]
    refine Nx_pivot (by kernel_rfl) ?_
    refine D_done ?_ (by kernel_rfl)
    skip
    focus (refine RS_blk ?_)
    refine hend ((N ++ [(frmM (askX x) (⟨1, 0, n, x.term + 1, lastP x, [], 0, false, 0, [], []⟩ : Ms), (⟨none, 0, 0, none, 0, 0, none, 0, 0, []⟩ : Mp))], AS, cS), Zy) _ _ ⟨?_, fun w2 h2 s hs => ?_⟩ ?_
    · dsimp only
      rw [htk, List.flatMap_append, List.map_append, hx1]
      rfl
    · rcases List.mem_append.1 hs with hs | hs
      · exact hx2 w2 h2 s hs
      · obtain rfl : s = (frmM (askX x) (⟨1, 0, n, x.term + 1, lastP x, [], 0, false, 0, [], []⟩ : Ms), (⟨none, 0, 0, none, 0, 0, none, 0, 0, []⟩ : Mp)) := by simpa using hs
        exact ⟨rfl, Nat.zero_le _, rfl, Rd.none_, fun m hm => absurd hm (by simp), rfl, Nat.zero_le _, Rd.none_, Bs.nil _ _⟩
    · have e : addM (askX x) (appM (votM m bl) (N, AN, cN)) ((⟨1, 0, n, x.term + 1, lastP x, [], 0, false, 0, [], []⟩ : Ms), (⟨none, 0, 0, none, 0, 0, none, 0, 0, []⟩ : Mp)) AS cS = appM (votM m bl) (N ++ [(frmM (askX x) (⟨1, 0, n, x.term + 1, lastP x, [], 0, false, 0, [], []⟩ : Ms), (⟨none, 0, 0, none, 0, 0, none, 0, 0, []⟩ : Mp))], AS, cS) := by simp [addM, appM]
      dsimp only
      rw [← e]
      exact sub_st
  · simp only [List.cons_append, List.nil_append]
    focus (refine RS_blk ?_)
    refine hEM _ _ _ _ inferInstance fun w' hS => ⟨(bl, y.1, y.2), ?_, ?_⟩
    · rw [List.length_map, List.take_length] at hy
      exact hy
    · exact (sub_st (H' := y.2 :: mP g (askX x) (appM (votM m bl) y.1)) w' hS).perm (List.perm_append_comm (l₁ := [y.2]))
set_option maxRecDepth 100000 in
set_option maxHeartbeats 4000000 in
theorem stand_no (w : World) (g : Nat) (x : Rs) (m : Mm) (hS0 : St w (owns (mP g x m)) (mP g x m) w) (D : Kw) (hD : Kd D (mP g x m) w) (h : ∀ w', D w' → McR w' x m) (hl : McL x m) (htm : x.term ≤ 4611686018427387904) (h5 : (nowL x).length ≤ 5) (hSm : m.S.length ≤ 800) (hmj : C.majB (nowL x) [x.me] = false) :
    Gives Tryz.prog 112 [.pointer (some ⟨g, 0, none⟩)] (mP g x m) w (X := Nat × (List (Ms × Mp) × Option Addr × Nat) × Asn) (fun _ => .tuple #[]) (fun y => y.2.1.1.map Prod.fst = (felL (stdX x)).flatMap (fun n => [{ ms0 with K := 3, F := x.me, T := n, tm := x.term + 1, pl := lastP x }]) ∧ ∀ w', K2 D y.2.2 w' → ∀ s ∈ y.2.1.1, MsR w' s.1 s.2) (fun y => mP g (stdX x) (appM (votM m y.1) y.2.1) ++ [y.2.2]) := by
  refine gives_MN Tryz.func112 rfl Tryz.ntmps112 Tryz.results112 (by simp) hS0 (fun B hE0 hR0 hEM => ?_)
  focus (refine qs ?_; (refine qe (E_box1 (v := .pointer (some ⟨g, 0, none⟩)) rfl rfl) ?_; rintro _ _ ⟨b1, rfl, rfl⟩); refine qn ?_; refine qt (T_load rfl rfl rfl rfl) ?_; refine qt (T_nilCheck rfl) ?_; refine qp ?_; refine qp ?_; refine qt (T_load rfl rfl rfl rfl) ?_; refine qt (T_addN rfl rfl (by unfold fits; omega)) ?_; refine qt (T_nilCheck rfl) ?_; refine qp ?_; refine qp ?_; (refine qw (E_storeA1 (cs := mcc x m) (cs' := mcc { x with term := x.term + 1 } m) rfl rfl rfl rfl rfl rfl (by show _ < 16; omega)) ?_; rintro _ _ rfl); refine qz ?_; refine qq ?_)
  refine S_cut (X := Nat) (fun bl => [(1, .pointer (some ⟨b1, 0, none⟩))]) (fun bl => pt b1 87 [.pointer (some ⟨g, 0, none⟩)] :: mP g (stdX x) (votM m bl)) (fun _ => True) (fun J hJ => ?_) (fun bl _ => ?_)
  · skip
    refine S_draw ([pt b1 87 [.pointer (some ⟨g, 0, none⟩)], wkP g (.int .i64 x.me)]) ((fun w1 hS1 => wk2 (sub_st (H' := [pt g 89 (mcc { x with term := x.term + 1 } m), pt b1 87 [.pointer (some ⟨g, 0, none⟩)]]) w1 hS1) rfl)) (by kernel_rfl) rfl (by kernel_rfl) (by kernel_rfl : _ = 31) ?_
    refine dt 0 rfl (T_load rfl rfl rfl rfl) ?_
    refine dt 1 rfl (T_load rfl rfl rfl rfl) ?_
    refine dt 2 rfl (T_load rfl rfl rfl rfl) ?_
    refine dt 3 rfl (T_load rfl rfl rfl rfl) ?_
    refine dt 4 rfl (T_load rfl rfl rfl rfl) ?_
    refine dt 5 rfl (T_nilCheck rfl) ?_
    refine dt 6 rfl (pev_ok rfl) ?_
    refine dt 7 rfl (pev_ok rfl) ?_
    refine dt 8 rfl (T_ldq rfl rfl rfl (fun w1 hS1 => hS1.at_ (A := wkP g (.int .i64 x.me)) (by simp))) ?_
    refine dt 9 rfl (T_load rfl rfl rfl rfl) ?_
    refine dt 10 rfl (T_nilCheck rfl) ?_
    refine dt 11 rfl (pev_ok rfl) ?_
    refine dt 12 rfl (pev_ok rfl) ?_
    refine dt 13 rfl (T_ldq rfl rfl rfl (fun w1 hS1 => hS1.at_ (A := wkP g (.int .i64 x.me)) (by simp))) ?_
    refine dt 15 rfl (T_nilCheck rfl) ?_
    refine dt 16 rfl (pev_ok rfl) ?_
    refine dt 17 rfl (pev_ok rfl) ?_
    refine D_two 14 18 (by decide) rfl rfl (E_lit1 (m := 1) (vs := [zv x.me]) rfl rfl rfl rfl rfl rfl rfl (by simp [zv, Value.oneCell']) (by decide)) (E_storeA1 (cs := mcc { x with term := x.term + 1 } m) (cs' := mcc { x with term := x.term + 1, role := 3 } m) rfl rfl rfl rfl rfl rfl (by show _ < 16; omega)) ?_ ?_ rfl rfl rfl rfl (by kernel_rfl)
    · rintro _ _ ⟨bl, rfl, rfl⟩
      first | refine Nx_same (fun w1 hS1 => wk2 (sub_st (H' := [pt g 89 (mcc { x with term := x.term + 1 } m), pt b1 87 [.pointer (some ⟨g, 0, none⟩)]]) w1 hS1) rfl) ?_ | refine Nx_same (fun w1 hS1 => wk2 (sub_st (H' := [pt g 89 (mcc { x with term := x.term + 1, role := 3 } m), pt b1 87 [.pointer (some ⟨g, 0, none⟩)]]) w1 hS1) rfl) ?_ | refine Nx_same (fun w1 hS1 => wk2 (sub_st (H' := [pt g 89 (mcc { x with term := x.term + 1, role := 3, vote := x.me } m), pt b1 87 [.pointer (some ⟨g, 0, none⟩)]]) w1 hS1) rfl) ?_
      refine D_one 18 rfl (E_storeA1 (cs := mcc { x with term := x.term + 1 } m) (cs' := mcc { x with term := x.term + 1, role := 3 } m) rfl rfl rfl rfl rfl rfl (by show _ < 16; omega)) ?_ rfl rfl (by kernel_rfl)
      rintro _ _ rfl
      refine Nx_same (fun w1 hS1 => wk2 (sub_st (H' := [pt g 89 (mcc { x with term := x.term + 1, role := 3 } m), pt b1 87 [.pointer (some ⟨g, 0, none⟩)]]) w1 hS1) rfl) ?_
      refine dt 19 rfl (T_nilCheck rfl) ?_
      refine dt 20 rfl (pev_ok rfl) ?_
      refine dt 21 rfl (pev_ok rfl) ?_
      refine D_one 22 rfl (E_storeA1 (cs := mcc { x with term := x.term + 1, role := 3 } m) (cs' := mcc { x with term := x.term + 1, role := 3, vote := x.me } m) rfl rfl rfl rfl rfl rfl (by show _ < 16; omega)) ?_ rfl rfl (by kernel_rfl)
      rintro _ _ rfl
      refine Nx_same (fun w1 hS1 => wk2 (sub_st (H' := [pt g 89 (mcc { x with term := x.term + 1, role := 3, vote := x.me } m), pt b1 87 [.pointer (some ⟨g, 0, none⟩)]]) w1 hS1) rfl) ?_
      refine dt 23 rfl (T_nilCheck rfl) ?_
      refine dt 24 rfl (pev_ok rfl) ?_
      refine dt 25 rfl (pev_ok rfl) ?_
      refine D_one 26 rfl (E_storeA1 (cs := mcc { x with term := x.term + 1, role := 3, vote := x.me } m) (cs' := mcc { x with term := x.term + 1, role := 3, vote := x.me } (votM m bl)) rfl rfl rfl rfl rfl rfl (by show _ < 16; omega)) ?_ rfl rfl (by kernel_rfl)
      rintro _ _ rfl
      refine Nx_same (fun w1 hS1 => wk2 (sub_st (H' := [pt g 89 (mcc { x with term := x.term + 1, role := 3, vote := x.me } (votM m bl)), pt b1 87 [.pointer (some ⟨g, 0, none⟩)]]) w1 hS1) rfl) ?_
      refine dt 27 rfl (T_nilCheck rfl) ?_
      refine dt 28 rfl (pev_ok rfl) ?_
      refine dt 29 rfl (pev_ok rfl) ?_
      refine D_one 30 rfl (E_storeA1 (cs := mcc { x with term := x.term + 1, role := 3, vote := x.me } (votM m bl)) (cs' := mcc (stdX x) (votM m bl)) rfl rfl rfl rfl rfl rfl (by show _ < 16; omega)) ?_ rfl rfl (by kernel_rfl)
      rintro _ _ rfl
      refine Nx_same (fun w1 hS1 => wk2 (sub_st (H' := [pt g 89 (mcc (stdX x) (votM m bl)), pt b1 87 [.pointer (some ⟨g, 0, none⟩)]]) w1 hS1) rfl) ?_
      refine D_done ?_ (by kernel_rfl)
      exact hJ bl _ _ trivial (Sub.cons rfl Sub.nil) (fun w1 hS1 => votes_in (sub_st (H' := [pt bl 3 [zv x.me], pt g 89 (mcc (stdX x) (votM m bl)), row 112 3 m.p.pA m.p.pn m.p.pc (cellsL pec x.peers), row 65 12 m.sA m.S.length m.sc (cellsL sgc m.S), pt b1 87 [.pointer (some ⟨g, 0, none⟩)]]) w1 hS1))
    · rintro _ _ rfl
      refine Nx_same (fun w1 hS1 => wk2 (sub_st (H' := [pt g 89 (mcc { x with term := x.term + 1, role := 3 } m), pt b1 87 [.pointer (some ⟨g, 0, none⟩)]]) w1 hS1) rfl) ?_
      refine dt 19 rfl (T_nilCheck rfl) ?_
      refine dt 20 rfl (pev_ok rfl) ?_
      refine dt 21 rfl (pev_ok rfl) ?_
      refine D_two 14 22 (by decide) rfl rfl (E_lit1 (m := 1) (vs := [zv x.me]) rfl rfl rfl rfl rfl rfl rfl (by simp [zv, Value.oneCell']) (by decide)) (E_storeA1 (cs := mcc { x with term := x.term + 1, role := 3 } m) (cs' := mcc { x with term := x.term + 1, role := 3, vote := x.me } m) rfl rfl rfl rfl rfl rfl (by show _ < 16; omega)) ?_ ?_ rfl rfl rfl rfl (by kernel_rfl)
      · rintro _ _ ⟨bl, rfl, rfl⟩
        first | refine Nx_same (fun w1 hS1 => wk2 (sub_st (H' := [pt g 89 (mcc { x with term := x.term + 1 } m), pt b1 87 [.pointer (some ⟨g, 0, none⟩)]]) w1 hS1) rfl) ?_ | refine Nx_same (fun w1 hS1 => wk2 (sub_st (H' := [pt g 89 (mcc { x with term := x.term + 1, role := 3 } m), pt b1 87 [.pointer (some ⟨g, 0, none⟩)]]) w1 hS1) rfl) ?_ | refine Nx_same (fun w1 hS1 => wk2 (sub_st (H' := [pt g 89 (mcc { x with term := x.term + 1, role := 3, vote := x.me } m), pt b1 87 [.pointer (some ⟨g, 0, none⟩)]]) w1 hS1) rfl) ?_
        refine D_one 22 rfl (E_storeA1 (cs := mcc { x with term := x.term + 1, role := 3 } m) (cs' := mcc { x with term := x.term + 1, role := 3, vote := x.me } m) rfl rfl rfl rfl rfl rfl (by show _ < 16; omega)) ?_ rfl rfl (by kernel_rfl)
        rintro _ _ rfl
        refine Nx_same (fun w1 hS1 => wk2 (sub_st (H' := [pt g 89 (mcc { x with term := x.term + 1, role := 3, vote := x.me } m), pt b1 87 [.pointer (some ⟨g, 0, none⟩)]]) w1 hS1) rfl) ?_
        refine dt 23 rfl (T_nilCheck rfl) ?_
        refine dt 24 rfl (pev_ok rfl) ?_
        refine dt 25 rfl (pev_ok rfl) ?_
        refine D_one 26 rfl (E_storeA1 (cs := mcc { x with term := x.term + 1, role := 3, vote := x.me } m) (cs' := mcc { x with term := x.term + 1, role := 3, vote := x.me } (votM m bl)) rfl rfl rfl rfl rfl rfl (by show _ < 16; omega)) ?_ rfl rfl (by kernel_rfl)
        rintro _ _ rfl
        refine Nx_same (fun w1 hS1 => wk2 (sub_st (H' := [pt g 89 (mcc { x with term := x.term + 1, role := 3, vote := x.me } (votM m bl)), pt b1 87 [.pointer (some ⟨g, 0, none⟩)]]) w1 hS1) rfl) ?_
        refine dt 27 rfl (T_nilCheck rfl) ?_
        refine dt 28 rfl (pev_ok rfl) ?_
        refine dt 29 rfl (pev_ok rfl) ?_
        refine D_one 30 rfl (E_storeA1 (cs := mcc { x with term := x.term + 1, role := 3, vote := x.me } (votM m bl)) (cs' := mcc (stdX x) (votM m bl)) rfl rfl rfl rfl rfl rfl (by show _ < 16; omega)) ?_ rfl rfl (by kernel_rfl)
        rintro _ _ rfl
        refine Nx_same (fun w1 hS1 => wk2 (sub_st (H' := [pt g 89 (mcc (stdX x) (votM m bl)), pt b1 87 [.pointer (some ⟨g, 0, none⟩)]]) w1 hS1) rfl) ?_
        refine D_done ?_ (by kernel_rfl)
        exact hJ bl _ _ trivial (Sub.cons rfl Sub.nil) (fun w1 hS1 => votes_in (sub_st (H' := [pt bl 3 [zv x.me], pt g 89 (mcc (stdX x) (votM m bl)), row 112 3 m.p.pA m.p.pn m.p.pc (cellsL pec x.peers), row 65 12 m.sA m.S.length m.sc (cellsL sgc m.S), pt b1 87 [.pointer (some ⟨g, 0, none⟩)]]) w1 hS1))
      · rintro _ _ rfl
        refine Nx_same (fun w1 hS1 => wk2 (sub_st (H' := [pt g 89 (mcc { x with term := x.term + 1, role := 3, vote := x.me } m), pt b1 87 [.pointer (some ⟨g, 0, none⟩)]]) w1 hS1) rfl) ?_
        refine D_one 14 rfl (E_lit1 (m := 1) (vs := [zv x.me]) rfl rfl rfl rfl rfl rfl rfl (by simp [zv, Value.oneCell']) (by decide)) ?_ rfl rfl (by kernel_rfl)
        rintro _ _ ⟨bl, rfl, rfl⟩
        first | refine Nx_same (fun w1 hS1 => wk2 (sub_st (H' := [pt g 89 (mcc { x with term := x.term + 1 } m), pt b1 87 [.pointer (some ⟨g, 0, none⟩)]]) w1 hS1) rfl) ?_ | refine Nx_same (fun w1 hS1 => wk2 (sub_st (H' := [pt g 89 (mcc { x with term := x.term + 1, role := 3 } m), pt b1 87 [.pointer (some ⟨g, 0, none⟩)]]) w1 hS1) rfl) ?_ | refine Nx_same (fun w1 hS1 => wk2 (sub_st (H' := [pt g 89 (mcc { x with term := x.term + 1, role := 3, vote := x.me } m), pt b1 87 [.pointer (some ⟨g, 0, none⟩)]]) w1 hS1) rfl) ?_
        refine dt 23 rfl (T_nilCheck rfl) ?_
        refine dt 24 rfl (pev_ok rfl) ?_
        refine dt 25 rfl (pev_ok rfl) ?_
        refine D_one 26 rfl (E_storeA1 (cs := mcc { x with term := x.term + 1, role := 3, vote := x.me } m) (cs' := mcc { x with term := x.term + 1, role := 3, vote := x.me } (votM m bl)) rfl rfl rfl rfl rfl rfl (by show _ < 16; omega)) ?_ rfl rfl (by kernel_rfl)
        rintro _ _ rfl
        refine Nx_same (fun w1 hS1 => wk2 (sub_st (H' := [pt g 89 (mcc { x with term := x.term + 1, role := 3, vote := x.me } (votM m bl)), pt b1 87 [.pointer (some ⟨g, 0, none⟩)]]) w1 hS1) rfl) ?_
        refine dt 27 rfl (T_nilCheck rfl) ?_
        refine dt 28 rfl (pev_ok rfl) ?_
        refine dt 29 rfl (pev_ok rfl) ?_
        refine D_one 30 rfl (E_storeA1 (cs := mcc { x with term := x.term + 1, role := 3, vote := x.me } (votM m bl)) (cs' := mcc (stdX x) (votM m bl)) rfl rfl rfl rfl rfl rfl (by show _ < 16; omega)) ?_ rfl rfl (by kernel_rfl)
        rintro _ _ rfl
        refine Nx_same (fun w1 hS1 => wk2 (sub_st (H' := [pt g 89 (mcc (stdX x) (votM m bl)), pt b1 87 [.pointer (some ⟨g, 0, none⟩)]]) w1 hS1) rfl) ?_
        refine D_done ?_ (by kernel_rfl)
        exact hJ bl _ _ trivial (Sub.cons rfl Sub.nil) (fun w1 hS1 => votes_in (sub_st (H' := [pt bl 3 [zv x.me], pt g 89 (mcc (stdX x) (votM m bl)), row 112 3 m.p.pA m.p.pn m.p.pc (cellsL pec x.peers), row 65 12 m.sA m.S.length m.sc (cellsL sgc m.S), pt b1 87 [.pointer (some ⟨g, 0, none⟩)]]) w1 hS1))
  have h1 : ∀ w', D w' → McR w' (stdX x) (votM m bl) := fun w' h' => ⟨(h w' h').lg.like rfl rfl rfl rfl rfl rfl rfl rfl, (h w' h').ms⟩
  have hfl : (felL (stdX x)).length ≤ 5 := Nat.le_trans (List.length_filter_le _ _) h5
  have hnl : (nowL (stdX x)).length ≤ 5 := h5
  have htm1 : (stdX x).term ≤ 4611686018427387905 := Nat.succ_le_succ htm
  focus (refine qq ?_; refine qq ?_)
  refine S_draw ([pt b1 87 [.pointer (some ⟨g, 0, none⟩)], pt g 89 (mcc (stdX x) (votM m bl))]) sub_st (by kernel_rfl) rfl (by kernel_rfl) (by kernel_rfl : _ = 8) ?_
  refine dt 0 rfl (T_load rfl rfl rfl rfl) ?_
  refine dt 2 rfl (T_load rfl rfl rfl rfl) ?_
  refine dt 3 rfl (T_nilCheck rfl) ?_
  refine dt 4 rfl (pev_ok rfl) ?_
  refine dt 5 rfl (pev_ok rfl) ?_
  refine dt 6 rfl (T_load rfl rfl rfl rfl) ?_
  refine D_one 1 rfl (E_hv1 (f := 43) ⟨_, Tryz.func43, rfl, by kernel_rfl⟩ (fun w1 hS1 => mforce_k w1 g (stdX x) (votM m bl) (mcB_st hS1 (by simp)) D (hD.call0 hS1) (fun w2 h2 => (h1 w2 h2).lg) (nowL x) rfl) rfl rfl (fun _ => rfl)) ?_ rfl rfl (by kernel_rfl)
  rintro _ _ ⟨⟨⟨A3, K3, c3⟩, Z3⟩, rfl, hI3, rfl⟩
  refine Nx_same sub_st ?_
  refine D_one 7 rfl (E_hv0 (f := 111) ⟨_, Tryz.func111, rfl, by kernel_rfl⟩ (fun w1 hS1 => maj_k w1 A3 (some ⟨bl, 0, none⟩) (nowL x).length c3 1 1 (nowL x) [x.me] (hI3 w1 ⟨hD.at_ hS1, hS1.at_ (A := Z3) (by simp)⟩) (row_rd (hS1.at_ (A := row 3 1 (votM m bl).p.vA (votM m bl).p.vn (votM m bl).p.vc ((stdX x).votes.map zv)) (by simp))) (by omega) (by omega) _ hmj) rfl rfl (fun _ => rfl)) ?_ rfl rfl (by kernel_rfl)
  rintro _ _ ⟨_, rfl, _, rfl⟩
  refine Nx_same sub_st ?_
  refine D_done ?_ (by kernel_rfl)
  skip
  focus (refine qF ?_; refine qx ?_; refine qs ?_; refine qt (T_load rfl rfl rfl rfl) ?_; (refine qe (E_hv1 (f := 57) ⟨_, Tryz.func57, rfl, by kernel_rfl⟩ (fun w1 hS1 => fellows_any w1 g) rfl rfl (fun _ => rfl)) ?_; rintro _ _ ⟨b2, rfl, _, rfl⟩); refine qz ?_; refine qb ?_)
  refine RS_zN ?_
  refine S_rangeR (D0 := KL D [pt b2 87 [.pointer (some ⟨g, 0, none⟩)]]) (R0 := fun w' => McB w' g (stdX x) (appM (votM m bl) ([], (votM m bl).sA, (votM m bl).sc))) (R := fun w' => w'.cell? ⟨g, 0, none⟩ = some (.int .i64 x.me)) (es := (felL (stdX x)).map fun n => [zv n]) (ps := [51]) (X := (List (Ms × Mp) × Option Addr × Nat) × Asn) (fun y => y.2 :: mP g (stdX x) (appM (votM m bl) y.1)) (fun i y => y.1.1.map Prod.fst = ((felL (stdX x)).take i).flatMap (fun n => [{ ms0 with K := 3, F := x.me, T := n, tm := x.term + 1, pl := lastP x }]) ∧ ∀ w', K2 D y.2 w' → ∀ s ∈ y.1.1, MsR w' s.1 s.2) (fun i y => False) (([], (votM m bl).sA, (votM m bl).sc), zN) [pt b2 87 [.pointer (some ⟨g, 0, none⟩)], pt b1 87 [.pointer (some ⟨g, 0, none⟩)]] rfl rfl ⟨_, Tryz.func132, rfl, by kernel_rfl⟩ (by kernel_rfl) (fun e he => ?_) ⟨rfl, fun _ _ s hs => absurd hs (by simp)⟩ (fun w' hS => ?_) (fun w' hS => ?_) (fun w' hS => hD.subL hS (by simp)) (fun w' hw => mcB_of (hw (pt g 89 (mcc (stdX x) (appM (votM m bl) ([], (votM m bl).sA, (votM m bl).sc)))) (by simp))) (fun i y w' _ hw => mc_me (x := (stdX x)) (hw (pt g 89 (mcc (stdX x) (appM (votM m bl) y.1))) (by simp))) (fun j y w' hx hj hS => ?_) (fun y Dd hy => ?_) (fun y Dd j hj hy => absurd hy id)
  · obtain ⟨n, _, rfl⟩ := List.mem_map.1 he
    rfl
  · rw [appM_nil]
    exact sub_st (H' := [zN, pt g 89 (mcc (stdX x) (votM m bl)), row 3 1 (votM m bl).p.vA (votM m bl).p.vn (votM m bl).p.vc ((stdX x).votes.map zv), row 112 3 (votM m bl).p.pA (votM m bl).p.pn (votM m bl).p.pc (cellsL pec (stdX x).peers), row 65 12 (votM m bl).sA (votM m bl).S.length (votM m bl).sc (cellsL sgc (votM m bl).S), pt b2 87 [.pointer (some ⟨g, 0, none⟩)], pt b1 87 [.pointer (some ⟨g, 0, none⟩)]]) w' hS
  · exact fellows_iter w' g b2 (stdX x) (appM (votM m bl) ([], (votM m bl).sA, (votM m bl).sc)) _ (fun w2 h2 => (h1 w2 h2.1).lg) (fun w2 h2 => pt_cell (t := 87) (h2.2 (pt b2 87 [.pointer (some ⟨g, 0, none⟩)]) (by simp))) (nowL (stdX x)) rfl (by omega)
  · rw [List.length_map] at hj
    obtain ⟨n, hn⟩ : ∃ n, (felL (stdX x)).getD j 0 = n := ⟨_, rfl⟩
    have htk : (felL (stdX x)).take (j + 1) = (felL (stdX x)).take j ++ [n] := by rw [List.take_succ_eq_append_getElem hj]; simp [List.getD, hj, ← hn]
    have hge : ((felL (stdX x)).map fun n => [zv n]).getD j [] = [zv n] := by rw [← hn]; simp [List.getD, hj]
    rw [hge]
    obtain ⟨⟨N, AN, cN⟩, Zy⟩ := y
    obtain ⟨hx1, hx2⟩ := hx
    dsimp only at hx1 hx2
    have hNl : N.length ≤ 5 := by
      have e1 : N.length = (((felL (stdX x)).take j).flatMap (fun n => [{ ms0 with K := 3, F := x.me, T := n, tm := x.term + 1, pl := lastP x }])).length := by rw [← hx1, List.length_map]
      rw [e1]
      refine Nat.le_trans (flat_len (fun a => ?_) _) ?_
      · exact Nat.le_refl _
      · rw [List.length_take]
        omega
    intro l2 rA rB Ba Bb J hfull hbeg hend hret
    have hC1 := rd_kept (b := b1) (As := rA :: Zy :: mP g (stdX x) (appM (votM m bl) (N, AN, cN))) hfull rfl
    have hDr : Kd D (rA :: Zy :: mP g (stdX x) (appM (votM m bl) (N, AN, cN))) w' := hD.to hfull
    have hms : ∀ w2, K2 D Zy w2 → McR w2 (stdX x) (appM (votM m bl) (N, AN, cN)) := fun w2 h2 => ⟨(h1 w2 h2.1).lg, fun s hs => by
      rcases List.mem_append.1 hs with hs | hs
      · exact (h1 w2 h2.1).ms s hs
      · exact hx2 w2 h2 s hs⟩
    have hSl : (appM (votM m bl) (N, AN, cN)).S.length ≤ 900 := by
      show ((votM m bl).S ++ N).length ≤ 900
      rw [List.length_append]
      have : (votM m bl).S.length ≤ 800 := hSm
      omega
    focus (refine qr ?_; refine qp ?_; refine qz ?_)
    refine hbeg _ (Zy :: mP g (stdX x) (appM (votM m bl) (N, AN, cN))) _ ?_ sub_st
    focus (refine qb ?_)
    refine S_drawR ([pt g 89 (mcc (stdX x) (appM (votM m bl) (N, AN, cN)))]) sub_st (by kernel_rfl) rfl (by kernel_rfl) (by kernel_rfl) (by kernel_rfl : _ = 12) ?_
    refine dt 0 rfl (T_loadg (v := .pointer (some ⟨g, 0, none⟩)) rfl rfl rfl hC1 (fun k hk => hk) rfl) ?_
    refine dt 1 rfl (pev_ok rfl) ?_
    refine dt 2 rfl (T_loadg (v := .pointer (some ⟨g, 0, none⟩)) rfl rfl rfl hC1 (fun k hk => hk) rfl) ?_
    refine dt 3 rfl (T_nilCheck rfl) ?_
    refine dt 4 rfl (pev_ok rfl) ?_
    refine dt 5 rfl (pev_ok rfl) ?_
    refine dt 6 rfl (T_load rfl rfl rfl rfl) ?_
    refine dt 7 rfl (T_loadg (v := .pointer (some ⟨g, 0, none⟩)) rfl rfl rfl hC1 (fun k hk => hk) rfl) ?_
    refine D_one 8 rfl (E_hv0 (f := 59) ⟨_, Tryz.func59, rfl, by kernel_rfl⟩ (fun w hS => mlast_k w g (stdX x) (appM (votM m bl) (N, AN, cN)) (mcB_st hS (by simp)) (h1 w (hDr.at_ hS)).lg) rfl rfl (fun _ => rfl)) ?_ rfl rfl (by kernel_rfl)
    rintro _ _ ⟨_, rfl, _, rfl⟩
    refine Nx_same sub_st ?_
    refine dt 9 rfl (T_build4 rfl rfl rfl rfl (ms_built3 n (x.term + 1) (lastP x))) ?_
    refine D_one 10 rfl (E_litS (vs := [.agg (mgc (⟨3, 0, n, x.term + 1, lastP x, [], 0, false, 0, [], []⟩ : Ms) (⟨none, 0, 0, none, 0, 0, none, 0, 0, []⟩ : Mp)).toArray]) (size := 12) (ds := mgc (⟨3, 0, n, x.term + 1, lastP x, [], 0, false, 0, [], []⟩ : Ms) (⟨none, 0, 0, none, 0, 0, none, 0, 0, []⟩ : Mp)) rfl rfl rfl rfl rfl rfl (by simp [vcells, mgc_len]) rfl (by omega)) ?_ rfl rfl (by kernel_rfl)
    rintro _ _ ⟨vb, rfl, rfl⟩
    refine Nx_same sub_st ?_
    refine D_one 11 rfl (E_htL (f := 113) (mP g (stdX x) (appM (votM m bl) (N, AN, cN))) (fun (y : Option Addr × Nat) => mP g (stdX x) (addM (stdX x) (appM (votM m bl) (N, AN, cN)) ((⟨3, 0, n, x.term + 1, lastP x, [], 0, false, 0, [], []⟩ : Ms), (⟨none, 0, 0, none, 0, 0, none, 0, 0, []⟩ : Mp)) y.1 y.2)) ⟨_, Tryz.func113, rfl, by kernel_rfl⟩ (fun w1 hS1 hS2 => send1_any w1 g (stdX x) (appM (votM m bl) (N, AN, cN)) hS2 (some ⟨vb, 0, none⟩) 1 (⟨3, 0, n, x.term + 1, lastP x, [], 0, false, 0, [], []⟩ : Ms) (⟨none, 0, 0, none, 0, 0, none, 0, 0, []⟩ : Mp) (rd_12 (rd_kept (b := vb) (t := 65) (As := mP g (stdX x) (appM (votM m bl) (N, AN, cN))) hS1 rfl)) (by omega)) rfl rfl) ?_ rfl rfl (by kernel_rfl)
    rintro _ _ ⟨⟨AS, cS⟩, rfl, _, rfl⟩; dsimp only [List.cons_append, List.nil_append]
    refine Nx_pivot (by kernel_rfl) ?_
    refine D_done ?_ (by kernel_rfl)
    skip
    focus (refine RS_blk ?_)
    refine hend ((N ++ [(frmM (stdX x) (⟨3, 0, n, x.term + 1, lastP x, [], 0, false, 0, [], []⟩ : Ms), (⟨none, 0, 0, none, 0, 0, none, 0, 0, []⟩ : Mp))], AS, cS), Zy) _ _ ⟨?_, fun w2 h2 s hs => ?_⟩ ?_
    · dsimp only
      rw [htk, List.flatMap_append, List.map_append, hx1]
      rfl
    · rcases List.mem_append.1 hs with hs | hs
      · exact hx2 w2 h2 s hs
      · obtain rfl : s = (frmM (stdX x) (⟨3, 0, n, x.term + 1, lastP x, [], 0, false, 0, [], []⟩ : Ms), (⟨none, 0, 0, none, 0, 0, none, 0, 0, []⟩ : Mp)) := by simpa using hs
        exact ⟨rfl, Nat.zero_le _, rfl, Rd.none_, fun m hm => absurd hm (by simp), rfl, Nat.zero_le _, Rd.none_, Bs.nil _ _⟩
    · have e : addM (stdX x) (appM (votM m bl) (N, AN, cN)) ((⟨3, 0, n, x.term + 1, lastP x, [], 0, false, 0, [], []⟩ : Ms), (⟨none, 0, 0, none, 0, 0, none, 0, 0, []⟩ : Mp)) AS cS = appM (votM m bl) (N ++ [(frmM (stdX x) (⟨3, 0, n, x.term + 1, lastP x, [], 0, false, 0, [], []⟩ : Ms), (⟨none, 0, 0, none, 0, 0, none, 0, 0, []⟩ : Mp))], AS, cS) := by simp [addM, appM]
      dsimp only
      rw [← e]
      exact sub_st
  · simp only [List.cons_append, List.nil_append]
    focus (refine RS_blk ?_)
    refine hEM _ _ _ _ inferInstance fun w' hS => ⟨(bl, y.1, y.2), ?_, ?_⟩
    · rw [List.length_map, List.take_length] at hy
      exact hy
    · exact (sub_st (H' := y.2 :: mP g (stdX x) (appM (votM m bl) y.1)) w' hS).perm (List.perm_append_comm (l₁ := [y.2]))
end Go.Proofs.YtdeffdldifepkaaGreat
namespace Go.Proofs.YtdeffdldifepkaaGreat
open Go.RowKit
open Asn (pt row rb)
set_option linter.unusedVariables false
set_option linter.unusedSimpArgs false
--@use N

theorem Ef.pre {P : Program} {n : Nat} {w0 : World} {M : Nat → Prop} {T : Slots} {H H' : List Asn} {o : Oper} {E : Value → List Asn → Prop} (hm : ∀ w, St w0 M H w → St w0 M H' w) (h : Ef P n w0 M T H' o E) : Ef P n w0 M T H o E := .mkIn fun a w ha hS => h.run a w ha (hm w hS)
/-- a server, and what it has sent, can be read -/
structure SrvR (w : World) (x : Rs) (m : Mm) : Prop where
  rf : RfR w x m.p
  rs : Rd w All 12 m.sA m.S.length (cellsL sgc m.S)
  ms : ∀ s ∈ m.S, MsR w s.1 s.2
theorem mP_srv {w : World} {g : Nat} {x : Rs} {m : Mm} (h : ∀ A ∈ mP g x m, A.holds w) (hr : McR w x m) (hl : McL x m) (hu : RsU x) (hv : x.votes.length ≤ 900) (hp : x.peers.length ≤ 900) : SrvR w x m :=
  ⟨⟨hr.lg, hl.hvn, hl.hvn ▸ hv, row_rd (h (row 3 1 m.p.vA m.p.vn m.p.vc (x.votes.map zv)) (by simp)), hl.hpn, hl.hpn ▸ hp, row_rd (h (row 112 3 m.p.pA m.p.pn m.p.pc (cellsL pec x.peers)) (by simp)), hu⟩, row_rd (h (row 65 12 m.sA m.S.length m.sc (cellsL sgc m.S)) (by simp)), hr.ms⟩
theorem bun_all {L : List Asn} {w : World} (h : (bun L).holds w) : ∀ A ∈ L, A.holds w := h.1
set_option maxRecDepth 100000 in
set_option maxHeartbeats 4000000 in
theorem turn_any (w : World) (x : Rs) (p : Rp) (h : RfR w x p) (D0 : Kw) (hD0 : Kd D0 [] w) (f : FuncId) (cap : List Value) (hf : Fn_ Tryz.prog f) (x2 : Rs) (ms : List Ms) (ib : Bool) (hu2 : RsU x2) (hv2 : x2.votes.length ≤ 900) (hp2 : x2.peers.length ≤ 900)
    (hc : ∀ (w1 : World) (g : Nat) (m : Mm) (D : Kw), St w1 (owns (mP g x m)) (mP g x m) w1 → Kd D (mP g x m) w1 → (∀ w', D w' → D0 w' ∧ McR w' x m) → McL x m → m.S = [] → m.i = false → Gives Tryz.prog f (.pointer (some ⟨g, 0, none⟩) :: cap) (mP g x m) w1 (X := Mm × Asn) (fun _ => .tuple #[]) (fun y => y.1.S.map Prod.fst = ms ∧ y.1.i = ib ∧ McL x2 y.1 ∧ ∀ w', K2 D y.2 w' → McR w' x2 y.1) (fun y => mP g x2 y.1 ++ [y.2])) :
    Gives Tryz.prog 39 [.agg (rfc x p).toArray, .func (.func f) #[] cap.toArray] [] w (X := Mm × Asn) (fun y => .tuple #[.agg (rfc x2 y.1.p).toArray, .slice y.1.sA y.1.S.length y.1.sc, .bool ib]) (fun y => y.1.S.map Prod.fst = ms ∧ ∀ w', K2 D0 y.2 w' → SrvR w' x2 y.1) (fun y => [y.2]) := by
  refine gives_C Tryz.func39 rfl Tryz.ntmps39 Tryz.results39 (by simp) (St.enter w) (fun B hB => ?_)
  have n1 := h.lg.hm
  have n2 := h.lg.hcm
  have n3 := h.hvm
  have n4 := h.hpm
  have hdd := h.lg.ed
  focus (refine qs ?_; (refine qe (E_boxa (cs := rfc x p) rfl) ?_; rintro _ _ ⟨b2, rfl, rfl⟩); (refine qe (E_alloca rfl rf_zero) ?_; rintro _ _ ⟨b4, rfl, rfl⟩); refine qp ?_; refine qp ?_; refine qn ?_; refine qt (T_loads (ds := rfc x p) rfl rfl rfl rfl rfl) ?_; (refine qe (E_hvG (f := 37) ⟨_, Tryz.func37, rfl, by kernel_rfl⟩ (fun w hS => rcopied_any w x p (h.keep hS.kpO)) rfl rfl) ?_; rintro _ _ ⟨q, rfl, ⟨hq, hqn, hqc, hqv, hqp⟩, rfl⟩; dsimp only [List.cons_append, List.nil_append]); refine qt (T_build1 rfl (mc_built1 x q)) ?_; (refine qe (E_boxa (cs := mcc x ⟨q, [], none, 0, false⟩) rfl) ?_; rintro _ _ ⟨g, rfl, rfl⟩); refine qp ?_; refine qn ?_; refine qp ?_; refine qp ?_)
  obtain ⟨m0, hm0⟩ : ∃ m : Mm, m = ⟨q, [], none, 0, false⟩ := ⟨_, rfl⟩
  obtain ⟨Z0, hZ0⟩ : ∃ Z, Z = zA (row 59 3 q.A q.n q.c (cellsL emc q.Q)) (zA (dtB 5 (q.Q.map emd)) (row 3 1 q.cA q.cn q.cc (x.cf.map zv))) := ⟨_, rfl⟩
  have hmem : ∀ w1, St w (owns []) [pt g 89 (mcc x ⟨q, [], none, 0, false⟩), row 59 3 q.A q.n q.c (cellsL emc q.Q), dtB 5 (q.Q.map emd), row 3 1 q.cA q.cn q.cc (x.cf.map zv), row 3 1 q.vA q.vn q.vc (x.votes.map zv), row 112 3 q.pA q.pn q.pc (cellsL pec x.peers), pt b4 42 (rfc rs0 rp0), pt b2 42 (rfc x p)] w1 → St w (owns []) (Z0 :: pt b4 42 (rfc rs0 rp0) :: mP g x m0) w1 := fun w1 hS1 => by
    have e1 := sub_st (H' := [dtB 5 (q.Q.map emd), row 3 1 q.cA q.cn q.cc (x.cf.map zv), row 59 3 q.A q.n q.c (cellsL emc q.Q), pt g 89 (mcc x ⟨q, [], none, 0, false⟩), row 3 1 q.vA q.vn q.vc (x.votes.map zv), row 112 3 q.pA q.pn q.pc (cellsL pec x.peers), pt b4 42 (rfc rs0 rp0)]) w1 hS1
    have e2 := zA_in ((zA_in e1).perm (List.Perm.swap _ _ _))
    have e3 := e2.nilrow 65 12
    rw [hZ0, hm0]
    exact sub_st (H' := [zA (row 59 3 q.A q.n q.c (cellsL emc q.Q)) (zA (dtB 5 (q.Q.map emd)) (row 3 1 q.cA q.cn q.cc (x.cf.map zv))), pt b4 42 (rfc rs0 rp0), pt g 89 (mcc x ⟨q, [], none, 0, false⟩), row 3 1 q.vA q.vn q.vc (x.votes.map zv), row 112 3 q.pA q.pn q.pc (cellsL pec x.peers), row 65 12 none 0 0 []]) w1 e3
  have hmr : ∀ w', K2 D0 Z0 w' → D0 w' ∧ McR w' x m0 := fun w' h' => ⟨h'.1, by
    have h2 := h'.2
    rw [hZ0] at h2
    have e1 := zA_l h2
    have e2 := zA_r h2
    rw [hm0]
    exact ⟨lgO_lg e1 (zA_l e2) (row_rd (zA_r e2)) hq.hQ hq.hn hq.hcn (by dsimp only; omega) (by dsimp only; omega) hdd, fun s hs => absurd hs (by simp)⟩⟩
  have hml : McL x m0 := by rw [hm0]; exact ⟨hq.hvn, hq.hpn⟩
  have hmS : m0.S = [] := by rw [hm0]
  have hmi : m0.i = false := by rw [hm0]

  focus ((refine qe (Ef.pre hmem (E_mthF (D := D0) (Z := Z0) (vs' := .pointer (some ⟨g, 0, none⟩) :: cap) cap (mP g x m0) (fun y : Mm × Asn => mP g x2 y.1) hD0 hf rfl (fun w1 _ hk hS1 => hc w1 g m0 (K2 D0 Z0) hS1 hk hmr hml hmS hmi) (ogets_cap _ _ _ rfl cap) rfl)) ?_; rintro _ _ ⟨⟨m2, Z2⟩, Z', rfl, ⟨hI1, hI2, hI3, hI4⟩, hold, hnew, rfl⟩; dsimp only [List.cons_append, List.nil_append] at hI1 hI2 hI3 hI4 ⊢); refine qz ?_; refine qq ?_)
  refine S_draw ([pt g 89 (mcc x2 m2)]) sub_st (by kernel_rfl) rfl (by kernel_rfl) (by kernel_rfl : _ = 15) ?_
  refine dt 0 rfl (pev_ok rfl) ?_
  refine dt 1 rfl (T_nilCheck rfl) ?_
  refine dt 2 rfl (pev_ok rfl) ?_
  refine dt 3 rfl (T_loads (ds := rfc x2 m2.p) rfl rfl rfl rfl rfl) ?_
  refine dt 4 rfl (pev_ok rfl) ?_
  refine dt 5 rfl (T_nilCheck rfl) ?_
  refine dt 6 rfl (pev_ok rfl) ?_
  refine dt 7 rfl (T_load rfl rfl rfl rfl) ?_
  refine dt 8 rfl (pev_ok rfl) ?_
  refine dt 9 rfl (T_nilCheck rfl) ?_
  refine dt 10 rfl (pev_ok rfl) ?_
  refine dt 11 rfl (T_load rfl rfl rfl rfl) ?_
  refine D_one 12 rfl (E_storew (cs := rfc rs0 rp0) (ds := rfc x2 m2.p) rfl rfl rfl rfl (rfc_one _ _) rfl) ?_ rfl rfl (by kernel_rfl)
  rintro _ _ rfl
  refine Nx_same sub_st ?_
  refine dt 13 rfl (pev_ok rfl) ?_
  refine dt 14 rfl (pev_ok rfl) ?_
  refine D_done ?_ (by kernel_rfl)
  skip
  rw [← hI2] at hB
  skip
  refine hB _ _ _ _ _ rfl (.cell rfl rfl rfl inferInstance rfl (.tmp rfl (.tmp rfl .nil))) fun w' hS => ⟨(m2, bun (Z' :: mP g x2 m2)), rfl, ⟨hI1, fun w3 h3 => ?_⟩, bun_in (L := Z' :: mP g x2 m2) (H := []) (sub_st (H' := [Z', pt g 89 (mcc x2 m2), row 3 1 m2.p.vA m2.p.vn m2.p.vc (x2.votes.map zv), row 112 3 m2.p.pA m2.p.pn m2.p.pc (cellsL pec x2.peers), row 65 12 m2.sA m2.S.length m2.sc (cellsL sgc m2.S)]) w' hS)⟩
  have h4 := bun_all h3.2
  exact mP_srv (fun A hA => h4 A (List.mem_cons_of_mem _ hA)) (hI4 w3 (hnew w3 ⟨h3.1, h4 Z' (by simp)⟩)) hI3 hu2 hv2 hp2
end Go.Proofs.YtdeffdldifepkaaGreat
namespace Go.Proofs.YtdeffdldifepkaaGreat
open Go.RowKit
open Asn (pt row rb)
set_option linter.unusedVariables false
set_option linter.unusedSimpArgs false
--@use N

/-- a method of the machine: x becomes x2, and ms is sent -/
def Mth (g : Nat) (x x2 : Rs) (m : Mm) (ms : List Ms) (ib : Bool) (D : Kw) (f : FuncId) (args : List Value) (w : World) : Prop :=
  Gives Tryz.prog f (.pointer (some ⟨g, 0, none⟩) :: args) (mP g x m) w (X := Mm × Asn) (fun _ => .tuple #[]) (fun y => y.1.S.map Prod.fst = m.S.map Prod.fst ++ ms ∧ y.1.i = ib ∧ McL x2 y.1 ∧ ∀ w', K2 D y.2 w' → McR w' x2 y.1) (fun y => mP g x2 y.1 ++ [y.2])
theorem has14_k (w : World) (A : Option Addr) (n c : Nat) (ms : List Int) (m : Int) (h : Rd w All 1 A n (ms.map zv)) (hn : n ≤ 1000) (r : Bool) (hr : (C.right ms && decide (m ∈ ms)) = r) :
    Gives Tryz.prog 42 [C.cfv A n c, zv m] [] w (X := Unit) (fun _ => .bool r) (fun _ => True) (fun _ => []) := hr ▸ C.has_any w A n c ms m h hn
set_option maxRecDepth 100000 in
set_option maxHeartbeats 4000000 in
theorem tick_idle (w : World) (g : Nat) (x : Rs) (m : Mm) (hS0 : St w (owns (mP g x m)) (mP g x m) w) (D : Kw) (hD : Kd D (mP g x m) w) (h : ∀ w', D w' → McR w' x m) (hl : McL x m) (bl : Nat) (lim : Int) (hbl : ∀ w' : World, D w' → w'.cell? ⟨bl, 0, none⟩ = some (.int .i64 lim)) (hc0 : 0 ≤ x.clock) (hc1 : x.clock ≤ 16) (hr : x.role ≠ 4) (hlm : x.clock + 1 < x.limit) : Mth g x { x with clock := x.clock + 1 } m [] m.i D 40 [.pointer (some ⟨bl, 0, none⟩)] w := by
  obtain ⟨y1, hy1⟩ : ∃ y, y = ({ x with clock := x.clock + 1 } : Rs) := ⟨_, rfl⟩
  have f1y1 : y1.role = x.role := by rw [hy1]
  have f2y1 : y1.limit = x.limit := by rw [hy1]
  have f3y1 : y1.clock = x.clock + 1 := by rw [hy1]
  have f4y1 : y1.term = x.term := by rw [hy1]
  have f5y1 : y1.me = x.me := by rw [hy1]
  have f6y1 : nowL y1 = nowL x := by rw [hy1]; rfl
  have f7y1 : y1.votes = x.votes := by rw [hy1]
  have f8y1 : y1.peers = x.peers := by rw [hy1]
  have hy1M : ∀ w', D w' → McR w' y1 m := fun w' h' => by rw [hy1]; exact ⟨(h w' h').lg.like rfl rfl rfl rfl rfl rfl rfl rfl, (h w' h').ms⟩
  have hy1L : McL y1 m := by rw [hy1]; exact ⟨hl.hvn, hl.hpn⟩
  have hy1P : ∀ (L : List Asn) w', St w (owns (mP g x m)) (pt g 89 (mcc y1 m) :: row 3 1 m.p.vA m.p.vn m.p.vc (x.votes.map zv) :: row 112 3 m.p.pA m.p.pn m.p.pc (cellsL pec x.peers) :: row 65 12 m.sA m.S.length m.sc (cellsL sgc m.S) :: L) w' → St w (owns (mP g x m)) (mP g y1 m ++ L) w' := fun L w' hS => by
    show St _ _ (pt g 89 (mcc y1 m) :: row 3 1 m.p.vA m.p.vn m.p.vc (y1.votes.map zv) :: row 112 3 m.p.pA m.p.pn m.p.pc (cellsL pec y1.peers) :: row 65 12 m.sA m.S.length m.sc (cellsL sgc m.S) :: L) w'
    rw [f7y1, f8y1]
    exact hS
  obtain ⟨y2, hy2⟩ : ∃ y, y = ({ x with clock := 0 } : Rs) := ⟨_, rfl⟩
  have f1y2 : y2.role = x.role := by rw [hy2]
  have f2y2 : y2.limit = x.limit := by rw [hy2]
  have f3y2 : y2.clock = 0 := by rw [hy2]
  have f4y2 : y2.term = x.term := by rw [hy2]
  have f5y2 : y2.me = x.me := by rw [hy2]
  have f6y2 : nowL y2 = nowL x := by rw [hy2]; rfl
  have f7y2 : y2.votes = x.votes := by rw [hy2]
  have f8y2 : y2.peers = x.peers := by rw [hy2]
  have hy2M : ∀ w', D w' → McR w' y2 m := fun w' h' => by rw [hy2]; exact ⟨(h w' h').lg.like rfl rfl rfl rfl rfl rfl rfl rfl, (h w' h').ms⟩
  have hy2L : McL y2 m := by rw [hy2]; exact ⟨hl.hvn, hl.hpn⟩
  have hy2P : ∀ (L : List Asn) w', St w (owns (mP g x m)) (pt g 89 (mcc y2 m) :: row 3 1 m.p.vA m.p.vn m.p.vc (x.votes.map zv) :: row 112 3 m.p.pA m.p.pn m.p.pc (cellsL pec x.peers) :: row 65 12 m.sA m.S.length m.sc (cellsL sgc m.S) :: L) w' → St w (owns (mP g x m)) (mP g y2 m ++ L) w' := fun L w' hS => by
    show St _ _ (pt g 89 (mcc y2 m) :: row 3 1 m.p.vA m.p.vn m.p.vc (y2.votes.map zv) :: row 112 3 m.p.pA m.p.pn m.p.pc (cellsL pec y2.peers) :: row 65 12 m.sA m.S.length m.sc (cellsL sgc m.S) :: L) w'
    rw [f7y2, f8y2]
    exact hS
  obtain ⟨y3, hy3⟩ : ∃ y, y = ({ x with clock := 0, limit := lim } : Rs) := ⟨_, rfl⟩
  have f1y3 : y3.role = x.role := by rw [hy3]
  have f2y3 : y3.limit = lim := by rw [hy3]
  have f3y3 : y3.clock = 0 := by rw [hy3]
  have f4y3 : y3.term = x.term := by rw [hy3]
  have f5y3 : y3.me = x.me := by rw [hy3]
  have f6y3 : nowL y3 = nowL x := by rw [hy3]; rfl
  have f7y3 : y3.votes = x.votes := by rw [hy3]
  have f8y3 : y3.peers = x.peers := by rw [hy3]
  have hy3M : ∀ w', D w' → McR w' y3 m := fun w' h' => by rw [hy3]; exact ⟨(h w' h').lg.like rfl rfl rfl rfl rfl rfl rfl rfl, (h w' h').ms⟩
  have hy3L : McL y3 m := by rw [hy3]; exact ⟨hl.hvn, hl.hpn⟩
  have hy3P : ∀ (L : List Asn) w', St w (owns (mP g x m)) (pt g 89 (mcc y3 m) :: row 3 1 m.p.vA m.p.vn m.p.vc (x.votes.map zv) :: row 112 3 m.p.pA m.p.pn m.p.pc (cellsL pec x.peers) :: row 65 12 m.sA m.S.length m.sc (cellsL sgc m.S) :: L) w' → St w (owns (mP g x m)) (mP g y3 m ++ L) w' := fun L w' hS => by
    show St _ _ (pt g 89 (mcc y3 m) :: row 3 1 m.p.vA m.p.vn m.p.vc (y3.votes.map zv) :: row 112 3 m.p.pA m.p.pn m.p.pc (cellsL pec y3.peers) :: row 65 12 m.sA m.S.length m.sc (cellsL sgc m.S) :: L) w'
    rw [f7y3, f8y3]
    exact hS
  rw [show ({ x with clock := x.clock + 1 } : Rs) = y1 from hy1.symm]
  unfold Mth
  refine gives_N2 Tryz.func40 rfl Tryz.ntmps40 Tryz.results40 (by simp) hS0 (fun B hE hB => ?_)
  focus (refine qs ?_; refine qp ?_; refine qt (T_nilCheck rfl) ?_; refine qp ?_; refine qp ?_; refine qt (T_load rfl rfl rfl rfl) ?_; refine qt (T_sum rfl rfl rfl (by unfold fits; omega)) ?_; refine qt (T_nilCheck rfl) ?_; refine qp ?_; refine qp ?_; (refine qw (E_storeA1 (cs := mcc x m) (cs' := mcc y1 m) rfl rfl rfl rfl rfl (by rw [hy1]; rfl) (by show _ < 16; omega)) ?_; rintro _ _ rfl); refine qz ?_; refine qb ?_; refine qs ?_; refine qp ?_; refine qt (T_nilCheck rfl) ?_; refine qp ?_; refine qp ?_; refine qt (T_load rfl rfl rfl rfl) ?_; refine qf ?_; refine qp ?_; (iterate 6 refine qk ?_); refine qp ?_; refine qp ?_; refine qz ?_; refine qF ?_; refine qq ?_; (refine S_draw _ (fun _ h => h) (by kernel_rfl) rfl (by kernel_rfl) (rfl : _ = 20) ?_; (refine dt 0 rfl (pev_ok rfl) ?_); (refine dt 1 rfl (T_nilCheck rfl) ?_); (refine dt 2 rfl (pev_ok rfl) ?_); (refine dt 3 rfl (pev_ok rfl) ?_); (refine dt 4 rfl (T_load rfl rfl rfl rfl) ?_); (refine dt 5 rfl (T_decT rfl (by omega)) ?_); (refine dt 6 rfl (pev_ok rfl) ?_); (refine dt 7 rfl (pev_ok rfl) ?_); (refine dt 8 rfl (T_nilCheck rfl) ?_); (refine dt 9 rfl (pev_ok rfl) ?_); (refine dt 10 rfl (pev_ok rfl) ?_); (refine dt 11 rfl (T_load rfl rfl rfl rfl) ?_); (refine dt 12 rfl (pev_ok rfl) ?_); (refine dt 13 rfl (T_nilCheck rfl) ?_); (refine dt 14 rfl (pev_ok rfl) ?_); (refine dt 15 rfl (pev_ok rfl) ?_); (refine dt 16 rfl (T_load rfl rfl rfl rfl) ?_); (refine dt 17 rfl (T_decF rfl (by omega)) ?_); (refine dt 18 rfl (pev_ok rfl) ?_); (refine dt 19 rfl (pev_ok rfl) ?_); refine D_done ?_ (by kernel_rfl)); refine qF ?_; refine qx ?_; refine RS_blk ?_)
  have hfin : ∀ w', St w (owns (mP g x m)) (mP g y1 m) w' → ∃ y : Mm × Asn, (y.1.S.map Prod.fst = m.S.map Prod.fst ++ [] ∧ y.1.i = m.i ∧ McL y1 y.1 ∧ ∀ w', K2 D y.2 w' → McR w' y1 y.1) ∧ St w (owns (mP g x m)) (mP g y1 y.1 ++ [y.2]) w' := fun w' hS => ⟨(m, zN), ⟨by simp, rfl, hy1L, fun w2 h2 => hy1M w2 h2.1⟩, (zN_in hS).perm (List.perm_append_comm (l₁ := [zN]))⟩
  first
  | exact hE _ _ fun w' hS => hfin w' (hy1P [] w' (sub_st (H' := [pt g 89 (mcc y1 m), row 3 1 m.p.vA m.p.vn m.p.vc (x.votes.map zv), row 112 3 m.p.pA m.p.pn m.p.pc (cellsL pec x.peers), row 65 12 m.sA m.S.length m.sc (cellsL sgc m.S)]) w' hS))
  | exact hB _ _ _ _ rfl fun w' hS => hfin w' (hy1P [] w' (sub_st (H' := [pt g 89 (mcc y1 m), row 3 1 m.p.vA m.p.vn m.p.vc (x.votes.map zv), row 112 3 m.p.pA m.p.pn m.p.pc (cellsL pec x.peers), row 65 12 m.sA m.S.length m.sc (cellsL sgc m.S)]) w' hS))
set_option maxRecDepth 100000 in
set_option maxHeartbeats 4000000 in
theorem tick_ask (w : World) (g : Nat) (x : Rs) (m : Mm) (hS0 : St w (owns (mP g x m)) (mP g x m) w) (D : Kw) (hD : Kd D (mP g x m) w) (h : ∀ w', D w' → McR w' x m) (hl : McL x m) (bl : Nat) (lim : Int) (hbl : ∀ w' : World, D w' → w'.cell? ⟨bl, 0, none⟩ = some (.int .i64 lim)) (hc0 : 0 ≤ x.clock) (hc1 : x.clock ≤ 16) (hr : x.role ≠ 4) (hlm : x.limit ≤ x.clock + 1) (h5 : (nowL x).length ≤ 5) (hyes : (C.right (nowL x) && decide (x.me ∈ nowL x)) = true) (htm : x.term < 4611686018427387904) (hmj : C.majB (nowL x) [x.me] = false) (hSm : m.S.length ≤ 800) : Mth g x (askX { x with clock := 0, limit := lim }) m ((felL x).flatMap (fun n => [{ ms0 with K := 1, F := x.me, T := n, tm := x.term + 1, pl := lastP x }])) m.i D 40 [.pointer (some ⟨bl, 0, none⟩)] w := by
  obtain ⟨y1, hy1⟩ : ∃ y, y = ({ x with clock := x.clock + 1 } : Rs) := ⟨_, rfl⟩
  have f1y1 : y1.role = x.role := by rw [hy1]
  have f2y1 : y1.limit = x.limit := by rw [hy1]
  have f3y1 : y1.clock = x.clock + 1 := by rw [hy1]
  have f4y1 : y1.term = x.term := by rw [hy1]
  have f5y1 : y1.me = x.me := by rw [hy1]
  have f6y1 : nowL y1 = nowL x := by rw [hy1]; rfl
  have f7y1 : y1.votes = x.votes := by rw [hy1]
  have f8y1 : y1.peers = x.peers := by rw [hy1]
  have hy1M : ∀ w', D w' → McR w' y1 m := fun w' h' => by rw [hy1]; exact ⟨(h w' h').lg.like rfl rfl rfl rfl rfl rfl rfl rfl, (h w' h').ms⟩
  have hy1L : McL y1 m := by rw [hy1]; exact ⟨hl.hvn, hl.hpn⟩
  have hy1P : ∀ (L : List Asn) w', St w (owns (mP g x m)) (pt g 89 (mcc y1 m) :: row 3 1 m.p.vA m.p.vn m.p.vc (x.votes.map zv) :: row 112 3 m.p.pA m.p.pn m.p.pc (cellsL pec x.peers) :: row 65 12 m.sA m.S.length m.sc (cellsL sgc m.S) :: L) w' → St w (owns (mP g x m)) (mP g y1 m ++ L) w' := fun L w' hS => by
    show St _ _ (pt g 89 (mcc y1 m) :: row 3 1 m.p.vA m.p.vn m.p.vc (y1.votes.map zv) :: row 112 3 m.p.pA m.p.pn m.p.pc (cellsL pec y1.peers) :: row 65 12 m.sA m.S.length m.sc (cellsL sgc m.S) :: L) w'
    rw [f7y1, f8y1]
    exact hS
  obtain ⟨y2, hy2⟩ : ∃ y, y = ({ x with clock := 0 } : Rs) := ⟨_, rfl⟩
  have f1y2 : y2.role = x.role := by rw [hy2]
  have f2y2 : y2.limit = x.limit := by rw [hy2]
  have f3y2 : y2.clock = 0 := by rw [hy2]
  have f4y2 : y2.term = x.term := by rw [hy2]
  have f5y2 : y2.me = x.me := by rw [hy2]
  have f6y2 : nowL y2 = nowL x := by rw [hy2]; rfl
  have f7y2 : y2.votes = x.votes := by rw [hy2]
  have f8y2 : y2.peers = x.peers := by rw [hy2]
  have hy2M : ∀ w', D w' → McR w' y2 m := fun w' h' => by rw [hy2]; exact ⟨(h w' h').lg.like rfl rfl rfl rfl rfl rfl rfl rfl, (h w' h').ms⟩
  have hy2L : McL y2 m := by rw [hy2]; exact ⟨hl.hvn, hl.hpn⟩
  have hy2P : ∀ (L : List Asn) w', St w (owns (mP g x m)) (pt g 89 (mcc y2 m) :: row 3 1 m.p.vA m.p.vn m.p.vc (x.votes.map zv) :: row 112 3 m.p.pA m.p.pn m.p.pc (cellsL pec x.peers) :: row 65 12 m.sA m.S.length m.sc (cellsL sgc m.S) :: L) w' → St w (owns (mP g x m)) (mP g y2 m ++ L) w' := fun L w' hS => by
    show St _ _ (pt g 89 (mcc y2 m) :: row 3 1 m.p.vA m.p.vn m.p.vc (y2.votes.map zv) :: row 112 3 m.p.pA m.p.pn m.p.pc (cellsL pec y2.peers) :: row 65 12 m.sA m.S.length m.sc (cellsL sgc m.S) :: L) w'
    rw [f7y2, f8y2]
    exact hS
  obtain ⟨y3, hy3⟩ : ∃ y, y = ({ x with clock := 0, limit := lim } : Rs) := ⟨_, rfl⟩
  have f1y3 : y3.role = x.role := by rw [hy3]
  have f2y3 : y3.limit = lim := by rw [hy3]
  have f3y3 : y3.clock = 0 := by rw [hy3]
  have f4y3 : y3.term = x.term := by rw [hy3]
  have f5y3 : y3.me = x.me := by rw [hy3]
  have f6y3 : nowL y3 = nowL x := by rw [hy3]; rfl
  have f7y3 : y3.votes = x.votes := by rw [hy3]
  have f8y3 : y3.peers = x.peers := by rw [hy3]
  have hy3M : ∀ w', D w' → McR w' y3 m := fun w' h' => by rw [hy3]; exact ⟨(h w' h').lg.like rfl rfl rfl rfl rfl rfl rfl rfl, (h w' h').ms⟩
  have hy3L : McL y3 m := by rw [hy3]; exact ⟨hl.hvn, hl.hpn⟩
  have hy3P : ∀ (L : List Asn) w', St w (owns (mP g x m)) (pt g 89 (mcc y3 m) :: row 3 1 m.p.vA m.p.vn m.p.vc (x.votes.map zv) :: row 112 3 m.p.pA m.p.pn m.p.pc (cellsL pec x.peers) :: row 65 12 m.sA m.S.length m.sc (cellsL sgc m.S) :: L) w' → St w (owns (mP g x m)) (mP g y3 m ++ L) w' := fun L w' hS => by
    show St _ _ (pt g 89 (mcc y3 m) :: row 3 1 m.p.vA m.p.vn m.p.vc (y3.votes.map zv) :: row 112 3 m.p.pA m.p.pn m.p.pc (cellsL pec y3.peers) :: row 65 12 m.sA m.S.length m.sc (cellsL sgc m.S) :: L) w'
    rw [f7y3, f8y3]
    exact hS
  rw [show ({ x with clock := 0, limit := lim } : Rs) = y3 from hy3.symm]
  unfold Mth
  refine gives_N2 Tryz.func40 rfl Tryz.ntmps40 Tryz.results40 (by simp) hS0 (fun B hE hB => ?_)
  focus (refine qs ?_; refine qp ?_; refine qt (T_nilCheck rfl) ?_; refine qp ?_; refine qp ?_; refine qt (T_load rfl rfl rfl rfl) ?_; refine qt (T_sum rfl rfl rfl (by unfold fits; omega)) ?_; refine qt (T_nilCheck rfl) ?_; refine qp ?_; refine qp ?_; (refine qw (E_storeA1 (cs := mcc x m) (cs' := mcc y1 m) rfl rfl rfl rfl rfl (by rw [hy1]; rfl) (by show _ < 16; omega)) ?_; rintro _ _ rfl); refine qz ?_; refine qb ?_; refine qs ?_; refine qp ?_; refine qt (T_nilCheck rfl) ?_; refine qp ?_; refine qp ?_; refine qt (T_load rfl rfl rfl rfl) ?_; refine qf ?_; refine qp ?_; (iterate 6 refine qk ?_); refine qp ?_; refine qp ?_; refine qz ?_; refine qF ?_; refine qq ?_; (refine S_draw _ (fun _ h => h) (by kernel_rfl) rfl (by kernel_rfl) (rfl : _ = 20) ?_; (refine dt 0 rfl (pev_ok rfl) ?_); (refine dt 1 rfl (T_nilCheck rfl) ?_); (refine dt 2 rfl (pev_ok rfl) ?_); (refine dt 3 rfl (pev_ok rfl) ?_); (refine dt 4 rfl (T_load rfl rfl rfl rfl) ?_); (refine dt 5 rfl (T_decT rfl (by omega)) ?_); (refine dt 6 rfl (pev_ok rfl) ?_); (refine dt 7 rfl (pev_ok rfl) ?_); (refine dt 8 rfl (T_nilCheck rfl) ?_); (refine dt 9 rfl (pev_ok rfl) ?_); (refine dt 10 rfl (pev_ok rfl) ?_); (refine dt 11 rfl (T_load rfl rfl rfl rfl) ?_); (refine dt 12 rfl (pev_ok rfl) ?_); (refine dt 13 rfl (T_nilCheck rfl) ?_); (refine dt 14 rfl (pev_ok rfl) ?_); (refine dt 15 rfl (pev_ok rfl) ?_); (refine dt 16 rfl (T_load rfl rfl rfl rfl) ?_); (refine dt 17 rfl (T_decT rfl (by omega)) ?_); (refine dt 18 rfl (pev_ok rfl) ?_); (refine dt 19 rfl (pev_ok rfl) ?_); refine D_done ?_ (by kernel_rfl)); refine qT ?_; refine qq ?_)
  refine S_draw ([]) sub_st (by kernel_rfl) rfl (by kernel_rfl) (by kernel_rfl : _ = 11) ?_
  refine dt 0 rfl (pev_ok rfl) ?_
  refine dt 1 rfl (pev_ok rfl) ?_
  refine dt 2 rfl (T_ldq rfl rfl rfl (fun w1 hS1 => hbl w1 (hD.at_ hS1))) ?_
  refine dt 3 rfl (T_nilCheck rfl) ?_
  refine dt 4 rfl (pev_ok rfl) ?_
  refine dt 5 rfl (pev_ok rfl) ?_
  refine D_one 6 rfl (E_storeA1 (cs := mcc y1 m) (cs' := mcc y2 m) rfl rfl rfl rfl rfl (by rw [hy1, hy2]; rfl) (by show _ < 16; omega)) ?_ rfl rfl (by kernel_rfl)
  rintro _ _ rfl
  refine Nx_same sub_st ?_
  refine dt 7 rfl (T_nilCheck rfl) ?_
  refine dt 8 rfl (pev_ok rfl) ?_
  refine dt 9 rfl (pev_ok rfl) ?_
  refine D_one 10 rfl (E_storeA1 (cs := mcc y2 m) (cs' := mcc y3 m) rfl rfl rfl rfl rfl (by rw [hy2, hy3]; rfl) (by show _ < 16; omega)) ?_ rfl rfl (by kernel_rfl)
  rintro _ _ rfl
  refine Nx_same sub_st ?_
  refine D_done ?_ (by kernel_rfl)
  skip
  focus (refine qq ?_)
  refine S_draw ([pt g 89 (mcc y3 m)]) sub_st (by kernel_rfl) rfl (by kernel_rfl) (by kernel_rfl : _ = 16) ?_
  refine dt 0 rfl (pev_ok rfl) ?_
  refine dt 2 rfl (pev_ok rfl) ?_
  refine dt 3 rfl (T_nilCheck rfl) ?_
  refine dt 4 rfl (pev_ok rfl) ?_
  refine dt 5 rfl (pev_ok rfl) ?_
  refine dt 6 rfl (T_load rfl rfl rfl rfl) ?_
  refine D_one 1 rfl (E_hv1 (f := 43) ⟨_, Tryz.func43, rfl, by kernel_rfl⟩ (fun w1 hS1 => mforce_k w1 g y3 m (mcB_st hS1 (by simp)) D (hD.call0 hS1) (fun w2 h2 => (hy3M w2 h2).lg) (nowL x) f6y3) rfl rfl (fun _ => rfl)) ?_ rfl rfl (by kernel_rfl)
  rintro _ _ ⟨⟨⟨A3, K3, c3⟩, Z3⟩, rfl, hI3, rfl⟩
  refine Nx_same sub_st ?_
  refine D_one 7 rfl (E_hv0 (f := 42) ⟨_, Tryz.func42, rfl, by kernel_rfl⟩ (fun w1 hS1 => has14_k w1 A3 (nowL x).length c3 (nowL x) y3.me (hI3 w1 ⟨hD.at_ hS1, hS1.at_ (A := Z3) (by simp)⟩) (by omega) true (by rw [f5y3]; exact hyes)) rfl rfl (fun _ => rfl)) ?_ rfl rfl (by kernel_rfl)
  rintro _ _ ⟨_, rfl, _, rfl⟩
  refine Nx_same sub_st ?_
  refine dt 8 rfl (T_decT rfl (by omega)) ?_
  refine dt 9 rfl (pev_ok rfl) ?_
  refine dt 10 rfl (T_nilCheck rfl) ?_
  refine dt 11 rfl (pev_ok rfl) ?_
  refine dt 12 rfl (pev_ok rfl) ?_
  refine dt 13 rfl (T_load rfl rfl rfl rfl) ?_
  refine dt 14 rfl (T_decT rfl (by omega)) ?_
  refine dt 15 rfl (T_decT rfl (by omega)) ?_
  refine D_done ?_ (by kernel_rfl)
  skip
  focus (refine qT ?_; refine qr ?_; refine qp ?_)
  have hmem : ∀ w1, St w (owns (mP g x m)) [Z3, pt g 89 (mcc y3 m), row 3 1 m.p.vA m.p.vn m.p.vc (x.votes.map zv), row 112 3 m.p.pA m.p.pn m.p.pc (cellsL pec x.peers), row 65 12 m.sA m.S.length m.sc (cellsL sgc m.S)] w1 → St w (owns (mP g x m)) (zN :: Z3 :: mP g y3 m) w1 := fun w1 hS1 => by
    have e1 := hy3P [zN, Z3] w1 (sub_st (H' := [pt g 89 (mcc y3 m), row 3 1 m.p.vA m.p.vn m.p.vc (x.votes.map zv), row 112 3 m.p.pA m.p.pn m.p.pc (cellsL pec x.peers), row 65 12 m.sA m.S.length m.sc (cellsL sgc m.S), zN, Z3]) w1 (zN_in hS1))
    exact sub_st (H' := [zN, Z3, pt g 89 (mcc y3 m), row 3 1 m.p.vA m.p.vn m.p.vc (y3.votes.map zv), row 112 3 m.p.pA m.p.pn m.p.pc (cellsL pec y3.peers), row 65 12 m.sA m.S.length m.sc (cellsL sgc m.S)]) w1 (show St _ _ [pt g 89 (mcc y3 m), row 3 1 m.p.vA m.p.vn m.p.vc (y3.votes.map zv), row 112 3 m.p.pA m.p.pn m.p.pc (cellsL pec y3.peers), row 65 12 m.sA m.S.length m.sc (cellsL sgc m.S), zN, Z3] w1 from e1)
  focus ((refine qe (Ef.pre hmem (E_mthL (f := 44) (D := D) (Z := zN) (mP g y3 m) (fun y : Nat × (List (Ms × Mp) × Option Addr × Nat) × Asn => mP g (askX y3) (appM (votM m y.1) y.2.1)) hD ⟨_, Tryz.func44, rfl, by kernel_rfl⟩ (fun w1 _ hk hS1 => ask_no w1 g y3 m hS1 (K2 D zN) hk (fun w2 h2 => hy3M w2 h2.1) hy3L (by omega) (by rw [f6y3]; exact h5) hSm (by rw [f6y3, f5y3]; exact hmj)) rfl rfl)) ?_; rintro _ _ ⟨⟨bv, ⟨N, AN, cN⟩, ZN⟩, Z', rfl, ⟨hI1, hI2⟩, hold, hnew, rfl⟩; dsimp only [List.cons_append, List.nil_append] at hI1 hI2 ⊢); refine qz ?_; refine RS_blk ?_)
  have hfin : ∀ w', St w (owns (mP g x m)) (Z' :: mP g (askX y3) (appM (votM m bv) (N, AN, cN))) w' → ∃ y : Mm × Asn, (y.1.S.map Prod.fst = m.S.map Prod.fst ++ ((felL x).flatMap (fun n => [{ ms0 with K := 1, F := x.me, T := n, tm := x.term + 1, pl := lastP x }])) ∧ y.1.i = m.i ∧ McL (askX y3) y.1 ∧ ∀ w', K2 D y.2 w' → McR w' (askX y3) y.1) ∧ St w (owns (mP g x m)) (mP g (askX y3) y.1 ++ [y.2]) w' := fun w' hS => ⟨(appM (votM m bv) (N, AN, cN), Z'), ⟨by rw [hy3] at hI1; rw [← (show N.map Prod.fst = (felL x).flatMap (fun n => [{ ms0 with K := 1, F := x.me, T := n, tm := x.term + 1, pl := lastP x }]) from hI1)]; exact List.map_append, rfl, ⟨rfl, hy3L.hpn⟩, fun w2 h2 => ⟨(hy3M w2 h2.1).lg.like rfl rfl rfl rfl rfl rfl rfl rfl, fun s hs => by
      rcases List.mem_append.1 hs with hs | hs
      · exact (h w2 h2.1).ms s hs
      · exact hI2 w2 (hnew w2 h2) s hs⟩⟩, hS.perm (List.perm_append_comm (l₁ := [Z']))⟩
  first
  | exact hE _ _ fun w' hS => hfin w' (sub_st (H' := [Z', pt g 89 (mcc (askX y3) (appM (votM m bv) (N, AN, cN))), row 3 1 (appM (votM m bv) (N, AN, cN)).p.vA (appM (votM m bv) (N, AN, cN)).p.vn (appM (votM m bv) (N, AN, cN)).p.vc ((askX y3).votes.map zv), row 112 3 (appM (votM m bv) (N, AN, cN)).p.pA (appM (votM m bv) (N, AN, cN)).p.pn (appM (votM m bv) (N, AN, cN)).p.pc (cellsL pec (askX y3).peers), row 65 12 (appM (votM m bv) (N, AN, cN)).sA (appM (votM m bv) (N, AN, cN)).S.length (appM (votM m bv) (N, AN, cN)).sc (cellsL sgc (appM (votM m bv) (N, AN, cN)).S)]) w' hS)
  | exact hB _ _ _ _ rfl fun w' hS => hfin w' (sub_st (H' := [Z', pt g 89 (mcc (askX y3) (appM (votM m bv) (N, AN, cN))), row 3 1 (appM (votM m bv) (N, AN, cN)).p.vA (appM (votM m bv) (N, AN, cN)).p.vn (appM (votM m bv) (N, AN, cN)).p.vc ((askX y3).votes.map zv), row 112 3 (appM (votM m bv) (N, AN, cN)).p.pA (appM (votM m bv) (N, AN, cN)).p.pn (appM (votM m bv) (N, AN, cN)).p.pc (cellsL pec (askX y3).peers), row 65 12 (appM (votM m bv) (N, AN, cN)).sA (appM (votM m bv) (N, AN, cN)).S.length (appM (votM m bv) (N, AN, cN)).sc (cellsL sgc (appM (votM m bv) (N, AN, cN)).S)]) w' hS)
end Go.Proofs.YtdeffdldifepkaaGreat
namespace Go.Proofs.YtdeffdldifepkaaGreat
open Go.RowKit
open Asn (pt row rb)
set_option linter.unusedVariables false
set_option linter.unusedSimpArgs false
--@use N

set_option maxRecDepth 100000 in
set_option maxHeartbeats 4000000 in
theorem mth_hc {g : Nat} {x x2 : Rs} {m : Mm} {ms : List Ms} {D : Kw} {f : FuncId} {args : List Value} {w : World} (hms : m.S = []) (hmi : m.i = false) (h : Mth g x x2 m ms m.i D f args w) :
    Gives Tryz.prog f (.pointer (some ⟨g, 0, none⟩) :: args) (mP g x m) w (X := Mm × Asn) (fun _ => .tuple #[]) (fun y => y.1.S.map Prod.fst = ms ∧ y.1.i = false ∧ McL x2 y.1 ∧ ∀ w', K2 D y.2 w' → McR w' x2 y.1) (fun y => mP g x2 y.1 ++ [y.2]) := by
  unfold Mth at h
  rw [hms, hmi] at h
  exact h
set_option maxRecDepth 100000 in
set_option maxHeartbeats 4000000 in
theorem tick_ok (w : World) (x : Rs) (p : Rp) (h : RfR w x p) (lim : Int) (hck : checkB x = true) (hl4 : 4 ≤ lim) (hl16 : lim ≤ 16) (x2 : Rs) (ms : List Ms) (hu2 : RsU x2) (hv2 : x2.votes.length ≤ 900) (hp2 : x2.peers.length ≤ 900)
    (hT : ∀ (w1 : World) (g : Nat) (m : Mm) (D : Kw) (bl : Nat), St w1 (owns (mP g x m)) (mP g x m) w1 → Kd D (mP g x m) w1 → (∀ w', D w' → McR w' x m) → McL x m → m.S = [] → (∀ w' : World, D w' → w'.cell? ⟨bl, 0, none⟩ = some (.int .i64 lim)) → Mth g x x2 m ms m.i D 40 [.pointer (some ⟨bl, 0, none⟩)] w1) :
    Gives Tryz.prog 14 [.agg (rfc x p).toArray, .int .i64 lim] [] w (X := Mm × Asn) (fun y => .tuple #[.agg (rfc x2 y.1.p).toArray, .slice y.1.sA y.1.S.length y.1.sc, zi 0]) (fun y => y.1.S.map Prod.fst = ms ∧ ∀ w', y.2.holds w' → SrvR w' x2 y.1) (fun y => [y.2]) := by
  refine gives_C Tryz.func14 rfl Tryz.ntmps14 Tryz.results14 (by simp) (St.enter w) (fun B hB => ?_)
  focus (refine qs ?_; (refine qe (E_boxa (cs := rfc x p) rfl) ?_; rintro _ _ ⟨b2, rfl, rfl⟩); (refine qe (E_box1 (v := .int .i64 lim) rfl rfl) ?_; rintro _ _ ⟨b3, rfl, rfl⟩); (refine qe (E_alloca rfl rf_zero) ?_; rintro _ _ ⟨b4, rfl, rfl⟩); refine qp ?_; refine qp ?_; refine qz ?_; refine qq ?_; refine qb ?_; refine qs ?_; refine qt (T_loads (ds := rfc x p) rfl rfl rfl rfl rfl) ?_; (refine qe (E_hv0 (f := 30) ⟨_, Tryz.func30, rfl, by kernel_rfl⟩ (fun w1 hS1 => rcheck_any w1 x p (h.keep hS1.kpO) true hck) rfl rfl (fun _ => rfl)) ?_; rintro _ _ ⟨_, rfl, _, rfl⟩); refine qp ?_; refine qp ?_; refine qz ?_; refine qF ?_; refine qs ?_; (iterate 2 refine qt (T_load rfl rfl rfl rfl) ?_; refine qf ?_; refine qp ?_); refine qp ?_; refine qz ?_; refine qF ?_; refine qx ?_; refine RS_blk ?_; refine qs ?_; refine qt (T_loads (ds := rfc x p) rfl rfl rfl rfl rfl) ?_; refine qt (T_func rfl rfl) ?_; (refine qe (E_hv1 (f := 39) ⟨_, Tryz.func39, rfl, by kernel_rfl⟩ (fun w1 hS1 => turn_any w1 x p (h.keep hS1.kpO) (KL (fun _ => True) [pt b3 3 [.int .i64 lim]]) (Kd.subL (As' := []) (fun _ _ => trivial) hS1 (by simp)) 40 [.pointer (some ⟨b3, 0, none⟩)] ⟨_, Tryz.func40, rfl, by kernel_rfl⟩ x2 ms false hu2 hv2 hp2 (fun w2 g m D hS2 hk hd hml hms hmi => mth_hc hms hmi (hT w2 g m D b3 hS2 hk (fun w3 h3 => (hd w3 h3).2) hml hms (fun w3 h3 => pt_cell (t := 3) ((hd w3 h3).1.2 (pt b3 3 [.int .i64 lim]) (by simp)))))) rfl rfl (fun _ => rfl)) ?_; rintro _ _ ⟨⟨m2, Z2⟩, rfl, ⟨hI1, hI2⟩, rfl⟩; dsimp only at hI1 hI2); (iterate 4 refine qp ?_); (refine qw (E_storew (cs := rfc x p) (ds := rfc x2 m2.p) rfl rfl rfl rfl (rfc_one _ _) rfl) ?_; rintro _ _ rfl); refine qp ?_; refine qp ?_; refine qn ?_; refine qt (T_loads (ds := rfc x2 m2.p) rfl rfl rfl rfl rfl) ?_; refine qp ?_; (refine qw (E_storew (cs := rfc rs0 rp0) (ds := rfc x2 m2.p) rfl rfl rfl rfl (rfc_one _ _) rfl) ?_; rintro _ _ rfl); refine qp ?_; refine qp ?_; refine qz ?_)
  refine hB _ _ _ _ _ rfl (.cell rfl rfl rfl inferInstance rfl (.tmp rfl (.tmp rfl .nil))) fun w' hS => ⟨(m2, zA (pt b3 3 [.int .i64 lim]) Z2), rfl, ⟨hI1, fun w3 h3 => hI2 w3 ⟨⟨trivial, fun A hA => by
    obtain rfl : A = pt b3 3 [.int .i64 lim] := by simpa using hA
    exact zA_l h3⟩, zA_r h3⟩⟩, zA_in (sub_st (H' := [pt b3 3 [.int .i64 lim], Z2]) w' hS)⟩
end Go.Proofs.YtdeffdldifepkaaGreat
namespace Go.Proofs.YtdeffdldifepkaaGreat
open Go.RowKit
open Asn (pt row rb)
set_option linter.unusedVariables false
set_option linter.unusedSimpArgs false
--@use N

def vtM (m : Mm) (n : Nat) (A : Option Addr) (c : Nat) : Mm := ⟨⟨m.p.A, m.p.n, m.p.c, m.p.Q, m.p.cA, m.p.cn, m.p.cc, A, n, c, m.p.pA, m.p.pn, m.p.pc⟩, m.S, m.sA, m.sc, m.i⟩
theorem vts_len (l : List Int) (n : Int) : (vtsL l n).length ≤ l.length + 1 := by
  unfold vtsL
  split
  · omega
  · have := C.cut_le l n
    simp
    omega
theorem bins_k (w : World) (A : Option Addr) (n c : Nat) (ms : List Int) (m : Int) (h : Rd w All 1 A n (ms.map zv)) (hn : n ≤ 1000) (hu : C.Up_ ms) (r : Bool) (hr : decide (m ∈ ms) = r) :
    Gives Tryz.prog 163 [.slice A n c, zv m] [] w (X := Unit) (fun _ => .tuple #[.int .i64 (C.cut ms m : Int), .bool r]) (fun _ => True) (fun _ => []) := hr ▸ C.bins_any w A n c ms m h hn hu
set_option maxRecDepth 100000 in
set_option maxHeartbeats 4000000 in
theorem grant_any (w : World) (g : Nat) (x : Rs) (m : Mm) (hS0 : St w (owns (mP g x m)) (mP g x m) w) (D : Kw) (hD : Kd D (mP g x m) w) (h : ∀ w', D w' → McR w' x m) (hl : McL x m) (h5 : (nowL x).length ≤ 5) (hup : C.Up_ x.votes) (hvm : x.votes.length ≤ 900) (who : Int) (r : Bool) (hr : C.majB (nowL x) (vtsL x.votes who) = r) :
    Gives Tryz.prog 172 [.pointer (some ⟨g, 0, none⟩), .int .i64 who] (mP g x m) w (X := (Option Addr × Nat) × Asn) (fun _ => .bool r) (fun _ => True) (fun y => mP g { x with votes := vtsL x.votes who } (vtM m (vtsL x.votes who).length y.1.1 y.1.2) ++ [y.2]) := by
  refine gives_S Tryz.func172 rfl Tryz.ntmps172 Tryz.results172 (by simp) hS0 (fun B hB => ?_)
  have hvn := hl.hvn
  have hvl := vts_len x.votes who
  have hcl : C.cut x.votes who ≤ m.p.vn := by rw [← hvn]; exact C.cut_le _ _
  cases hin : decide (who ∈ x.votes)
  · have e1 : vtsL x.votes who = x.votes.take (C.cut x.votes who) ++ who :: x.votes.drop (C.cut x.votes who) := if_neg (of_decide_eq_false hin)
    have e2 : (vtsL x.votes who).length = m.p.vn + 1 := by rw [e1]; simp; omega
    have e3 : (vtsL x.votes who).map zv = (x.votes.map zv).take (C.cut x.votes who) ++ zv who :: (x.votes.map zv).drop (C.cut x.votes who) := by rw [e1, List.map_append, List.map_cons, List.map_take, List.map_drop]
    focus (refine qs ?_; refine qp ?_; refine qn ?_; refine qp ?_; refine qt (T_nilCheck rfl) ?_; refine qp ?_; refine qp ?_; refine qt (T_load rfl rfl rfl rfl) ?_; refine qp ?_; (refine qe (E_hv0 (f := 163) ⟨_, Tryz.func163, rfl, by kernel_rfl⟩ (fun w1 hS1 => bins_k w1 m.p.vA m.p.vn m.p.vc x.votes who (row_rd (hS1.at_ (A := row 3 1 m.p.vA m.p.vn m.p.vc (x.votes.map zv)) (by simp))) (by omega) hup _ hin) rfl rfl (fun _ => rfl)) ?_; rintro _ _ ⟨_, rfl, _, rfl⟩); (iterate 5 refine qp ?_); refine qz ?_; refine qq ?_; refine qs ?_; refine qp ?_; refine qt (T_not rfl) ?_; refine qz ?_; refine qT ?_; refine qr ?_; refine qp ?_; refine qp ?_; refine qt (T_nilCheck rfl) ?_; refine qp ?_; refine qp ?_; refine qt (T_load rfl rfl rfl rfl) ?_; refine qp ?_; refine qp ?_; (refine qe (E_lit1 (m := 1) (vs := [zv who]) rfl rfl rfl rfl rfl rfl rfl (by simp [zv, Value.oneCell']) (by decide)) ?_; rintro _ _ ⟨vb, rfl, rfl⟩); (refine qe (E_ht2 (A1 := row 3 1 m.p.vA m.p.vn m.p.vc (x.votes.map zv)) (A2 := pt vb 3 [zv who]) (f := 184) ⟨_, Tryz.func184, rfl, by kernel_rfl⟩ (fun w1 hS1 hS2 => C.insert_any w1 m.p.vA m.p.vn m.p.vc vb (C.cut x.votes who) (x.votes.map zv) (zv who) hcl (by omega) (C.zv_ones _) rfl hS2) rfl rfl (fun _ => rfl)) ?_; rintro _ _ ⟨⟨AV, cV⟩, rfl, _, rfl⟩); refine qt (T_nilCheck rfl) ?_; refine qp ?_; refine qp ?_; (refine qw (E_storeA1 (cs := mcc x m) (cs' := mcc x (vtM m (m.p.vn + 1) AV cV)) rfl rfl rfl rfl rfl rfl (by show _ < 16; omega)) ?_; rintro _ _ rfl); refine qz ?_; refine qq ?_)
    rw [← e3]
    rw [← e2]
    refine S_draw ([pt g 89 (mcc x (vtM m (vtsL x.votes who).length AV cV))]) sub_st (by kernel_rfl) rfl (by kernel_rfl) (by kernel_rfl : _ = 9) ?_
    refine dt 0 rfl (pev_ok rfl) ?_
    refine dt 2 rfl (pev_ok rfl) ?_
    refine dt 3 rfl (T_nilCheck rfl) ?_
    refine dt 4 rfl (pev_ok rfl) ?_
    refine dt 5 rfl (pev_ok rfl) ?_
    refine dt 6 rfl (T_load rfl rfl rfl rfl) ?_
    refine D_one 1 rfl (E_hv1 (f := 43) ⟨_, Tryz.func43, rfl, by kernel_rfl⟩ (fun w1 hS1 => mforce_k w1 g x (vtM m (vtsL x.votes who).length AV cV) (mcB_st hS1 (by simp)) D (hD.call0 hS1) (fun w2 h2 => (h w2 h2).lg.like rfl rfl rfl rfl rfl rfl rfl rfl) (nowL x) rfl) rfl rfl (fun _ => rfl)) ?_ rfl rfl (by kernel_rfl)
    rintro _ _ ⟨⟨⟨A3, K3, c3⟩, Z3⟩, rfl, hI3, rfl⟩
    refine Nx_same sub_st ?_
    refine D_one 7 rfl (E_hv0 (f := 111) ⟨_, Tryz.func111, rfl, by kernel_rfl⟩ (fun w1 hS1 => maj_k w1 A3 AV (nowL x).length c3 (vtsL x.votes who).length cV (nowL x) (vtsL x.votes who) (hI3 w1 ⟨hD.at_ hS1, hS1.at_ (A := Z3) (by simp)⟩) (row_rd (hS1.at_ (A := row 3 1 AV (vtsL x.votes who).length cV ((vtsL x.votes who).map zv)) (by simp))) (by omega) (by omega) _ hr) rfl rfl (fun _ => rfl)) ?_ rfl rfl (by kernel_rfl)
    rintro _ _ ⟨_, rfl, _, rfl⟩
    refine Nx_same sub_st ?_
    refine dt 8 rfl (pev_ok rfl) ?_
    refine D_done ?_ (by kernel_rfl)
    skip
    skip
    have hfin : ∀ w', St w (owns (mP g x m)) [Z3, pt g 89 (mcc x (vtM m (vtsL x.votes who).length AV cV)), row 3 1 AV (vtsL x.votes who).length cV ((vtsL x.votes who).map zv), row 112 3 m.p.pA m.p.pn m.p.pc (cellsL pec x.peers), row 65 12 m.sA m.S.length m.sc (cellsL sgc m.S)] w' → ∃ y : (Option Addr × Nat) × Asn, .bool r = Value.bool r ∧ True ∧ St w (owns (mP g x m)) (mP g { x with votes := vtsL x.votes who } (vtM m (vtsL x.votes who).length y.1.1 y.1.2) ++ [y.2]) w' := fun w' hS => ⟨((AV, cV), Z3), rfl, trivial, hS.perm (List.perm_append_comm (l₁ := [Z3]))⟩
    exact hB _ _ _ _ _ rfl rfl fun w' hS => hfin w' (sub_st (H' := [Z3, pt g 89 (mcc x (vtM m (vtsL x.votes who).length AV cV)), row 3 1 AV (vtsL x.votes who).length cV ((vtsL x.votes who).map zv), row 112 3 m.p.pA m.p.pn m.p.pc (cellsL pec x.peers), row 65 12 m.sA m.S.length m.sc (cellsL sgc m.S)]) w' hS)
  · have e1 : vtsL x.votes who = x.votes := if_pos (of_decide_eq_true hin)
    obtain ⟨AV, hAV⟩ : ∃ A, m.p.vA = A := ⟨_, rfl⟩
    obtain ⟨cV, hcV⟩ : ∃ A, m.p.vc = A := ⟨_, rfl⟩
    have e4 : vtM m (vtsL x.votes who).length AV cV = m := by rw [e1, hvn, ← hAV, ← hcV]; rfl
    focus (refine qs ?_; refine qp ?_; refine qn ?_; refine qp ?_; refine qt (T_nilCheck rfl) ?_; refine qp ?_; refine qp ?_; refine qt (T_load rfl rfl rfl rfl) ?_; refine qp ?_; (refine qe (E_hv0 (f := 163) ⟨_, Tryz.func163, rfl, by kernel_rfl⟩ (fun w1 hS1 => bins_k w1 m.p.vA m.p.vn m.p.vc x.votes who (row_rd (hS1.at_ (A := row 3 1 m.p.vA m.p.vn m.p.vc (x.votes.map zv)) (by simp))) (by omega) hup _ hin) rfl rfl (fun _ => rfl)) ?_; rintro _ _ ⟨_, rfl, _, rfl⟩); refine qp ?_; (iterate 2 refine qp ?_; refine qd ?_); refine qz ?_; refine qq ?_; refine qs ?_; refine qd ?_; refine qt (T_not rfl) ?_; refine qz ?_; refine qF ?_; refine qx ?_; refine qq ?_)
    refine RS_mem (H' := [pt g 89 (mcc x (vtM m (vtsL x.votes who).length AV cV)), row 3 1 AV (vtsL x.votes who).length cV ((vtsL x.votes who).map zv), row 112 3 m.p.pA m.p.pn m.p.pc (cellsL pec x.peers), row 65 12 m.sA m.S.length m.sc (cellsL sgc m.S)]) (fun w1 hS1 => ?_) ?_
    · rw [e4, e1, hvn, ← hAV, ← hcV]
      exact sub_st (H' := [pt g 89 (mcc x m), row 3 1 m.p.vA m.p.vn m.p.vc (x.votes.map zv), row 112 3 m.p.pA m.p.pn m.p.pc (cellsL pec x.peers), row 65 12 m.sA m.S.length m.sc (cellsL sgc m.S)]) w1 hS1
    refine S_draw ([pt g 89 (mcc x (vtM m (vtsL x.votes who).length AV cV))]) sub_st (by kernel_rfl) rfl (by kernel_rfl) (by kernel_rfl : _ = 9) ?_
    refine dt 0 rfl (pev_ok rfl) ?_
    refine dt 2 rfl (pev_ok rfl) ?_
    refine dt 3 rfl (T_nilCheck rfl) ?_
    refine dt 4 rfl (pev_ok rfl) ?_
    refine dt 5 rfl (pev_ok rfl) ?_
    refine dt 6 rfl (T_load rfl rfl rfl rfl) ?_
    refine D_one 1 rfl (E_hv1 (f := 43) ⟨_, Tryz.func43, rfl, by kernel_rfl⟩ (fun w1 hS1 => mforce_k w1 g x (vtM m (vtsL x.votes who).length AV cV) (mcB_st hS1 (by simp)) D (hD.call0 hS1) (fun w2 h2 => (h w2 h2).lg.like rfl rfl rfl rfl rfl rfl rfl rfl) (nowL x) rfl) rfl rfl (fun _ => rfl)) ?_ rfl rfl (by kernel_rfl)
    rintro _ _ ⟨⟨⟨A3, K3, c3⟩, Z3⟩, rfl, hI3, rfl⟩
    refine Nx_same sub_st ?_
    refine D_one 7 rfl (E_hv0 (f := 111) ⟨_, Tryz.func111, rfl, by kernel_rfl⟩ (fun w1 hS1 => maj_k w1 A3 AV (nowL x).length c3 (vtsL x.votes who).length cV (nowL x) (vtsL x.votes who) (hI3 w1 ⟨hD.at_ hS1, hS1.at_ (A := Z3) (by simp)⟩) (row_rd (hS1.at_ (A := row 3 1 AV (vtsL x.votes who).length cV ((vtsL x.votes who).map zv)) (by simp))) (by omega) (by omega) _ hr) rfl rfl (fun _ => rfl)) ?_ rfl rfl (by kernel_rfl)
    rintro _ _ ⟨_, rfl, _, rfl⟩
    refine Nx_same sub_st ?_
    refine dt 8 rfl (pev_ok rfl) ?_
    refine D_done ?_ (by kernel_rfl)
    skip
    skip
    have hfin : ∀ w', St w (owns (mP g x m)) [Z3, pt g 89 (mcc x (vtM m (vtsL x.votes who).length AV cV)), row 3 1 AV (vtsL x.votes who).length cV ((vtsL x.votes who).map zv), row 112 3 m.p.pA m.p.pn m.p.pc (cellsL pec x.peers), row 65 12 m.sA m.S.length m.sc (cellsL sgc m.S)] w' → ∃ y : (Option Addr × Nat) × Asn, .bool r = Value.bool r ∧ True ∧ St w (owns (mP g x m)) (mP g { x with votes := vtsL x.votes who } (vtM m (vtsL x.votes who).length y.1.1 y.1.2) ++ [y.2]) w' := fun w' hS => ⟨((AV, cV), Z3), rfl, trivial, hS.perm (List.perm_append_comm (l₁ := [Z3]))⟩
    exact hB _ _ _ _ _ rfl rfl fun w' hS => hfin w' (sub_st (H' := [Z3, pt g 89 (mcc x (vtM m (vtsL x.votes who).length AV cV)), row 3 1 AV (vtsL x.votes who).length cV ((vtsL x.votes who).map zv), row 112 3 m.p.pA m.p.pn m.p.pc (cellsL pec x.peers), row 65 12 m.sA m.S.length m.sc (cellsL sgc m.S)]) w' hS)
set_option maxRecDepth 100000 in
set_option maxHeartbeats 4000000 in
theorem would_stand (w : World) (g : Nat) (x : Rs) (m : Mm) (hS0 : St w (owns (mP g x m)) (mP g x m) w) (D : Kw) (hD : Kd D (mP g x m) w) (h : ∀ w', D w' → McR w' x m) (hl : McL x m) (h5 : (nowL x).length ≤ 5) (hup : C.Up_ x.votes) (hvm : x.votes.length ≤ 900) (htm : x.term ≤ 4611686018427387904) (y : Ms) (q : Mp) (hr2 : x.role = 2) (hok : y.ok = true) (hyt : y.tm = x.term + 1) (hmj : C.majB (nowL x) (vtsL x.votes y.F) = true) (hmj2 : C.majB (nowL x) [x.me] = false) (hSm : m.S.length ≤ 800) : Mth g x (stdX { x with votes := vtsL x.votes y.F }) m ((felL x).flatMap (fun n => [{ ms0 with K := 3, F := x.me, T := n, tm := x.term + 1, pl := lastP x }])) m.i D 143 [.agg (mgc y q).toArray] w := by
  unfold Mth
  refine gives_N2 Tryz.func143 rfl Tryz.ntmps143 Tryz.results143 (by simp) hS0 (fun B hE hB => ?_)
  rw [show mgc y q = mgc { y with ok := true } q by rw [← hok]]
  refine RS_zN ?_
  focus (refine qs ?_; (refine qe (E_boxa (cs := mgc { y with ok := true } q) rfl) ?_; rintro _ _ ⟨b3, rfl, rfl⟩); refine qz ?_; refine qq ?_)
  refine S_draw ([pt b3 65 (mgc { y with ok := true } q), pt g 89 (mcc x m)]) sub_st (by kernel_rfl) rfl (by kernel_rfl) (by kernel_rfl : _ = 27) ?_
  refine dt 0 rfl (pev_ok rfl) ?_
  refine dt 1 rfl (T_nilCheck rfl) ?_
  refine dt 2 rfl (pev_ok rfl) ?_
  refine dt 3 rfl (pev_ok rfl) ?_
  refine dt 4 rfl (T_load rfl rfl rfl rfl) ?_
  refine dt 5 rfl (T_decT rfl (by omega)) ?_
  refine dt 6 rfl (pev_ok rfl) ?_
  refine dt 7 rfl (pev_ok rfl) ?_
  refine dt 8 rfl (T_load rfl rfl rfl rfl) ?_
  refine dt 9 rfl (pev_ok rfl) ?_
  refine dt 10 rfl (pev_ok rfl) ?_
  refine dt 11 rfl (pev_ok rfl) ?_
  refine dt 12 rfl (T_load (v := .int .u64 (y.tm : Int)) rfl rfl rfl rfl) ?_
  refine dt 13 rfl (pev_ok rfl) ?_
  refine dt 14 rfl (T_nilCheck rfl) ?_
  refine dt 15 rfl (pev_ok rfl) ?_
  refine dt 16 rfl (pev_ok rfl) ?_
  refine dt 17 rfl (T_load rfl rfl rfl rfl) ?_
  (refine dt 18 rfl (T_addN rfl rfl (by unfold fits; omega)) ?_)
  refine dt 19 rfl (T_decT rfl (by omega)) ?_
  refine dt 20 rfl (pev_ok rfl) ?_
  refine dt 21 rfl (pev_ok rfl) ?_
  refine dt 22 rfl (pev_ok rfl) ?_
  refine dt 23 rfl (pev_ok rfl) ?_
  refine dt 24 rfl (T_load (v := .int .i64 y.F) rfl rfl rfl rfl) ?_
  refine D_one 25 rfl (E_mthL (f := 172) (D := D) (Z := zN) (mP g x m) (fun z : (Option Addr × Nat) × Asn => mP g { x with votes := vtsL x.votes y.F } (vtM m (vtsL x.votes y.F).length z.1.1 z.1.2)) hD ⟨_, Tryz.func172, rfl, by kernel_rfl⟩ (fun w1 _ hk hS1 => grant_any w1 g x m hS1 (K2 D zN) hk (fun w2 h2 => h w2 h2.1) hl h5 hup hvm y.F true hmj) rfl rfl) ?_ rfl rfl (by kernel_rfl)
  rintro _ _ ⟨⟨⟨AV, cV⟩, ZV⟩, Z1, rfl, _, hold, hnew, rfl⟩; dsimp only [List.cons_append, List.nil_append]
  refine Nx_pivot (by kernel_rfl) ?_
  refine dt 26 rfl (pev_ok rfl) ?_
  refine D_done ?_ (by kernel_rfl)
  skip
  focus (refine qT ?_; refine qr ?_; refine qp ?_; (refine qe (E_mthL (f := 112) (D := D) (Z := Z1) (mP g { x with votes := vtsL x.votes y.F } (vtM m (vtsL x.votes y.F).length AV cV)) (fun z : Nat × (List (Ms × Mp) × Option Addr × Nat) × Asn => mP g (stdX { x with votes := vtsL x.votes y.F }) (appM (votM (vtM m (vtsL x.votes y.F).length AV cV) z.1) z.2.1)) hD ⟨_, Tryz.func112, rfl, by kernel_rfl⟩ (fun w1 _ hk hS1 => stand_no w1 g { x with votes := vtsL x.votes y.F } (vtM m (vtsL x.votes y.F).length AV cV) hS1 (K2 D Z1) hk (fun w2 h2 => ⟨(h w2 h2.1).lg.like rfl rfl rfl rfl rfl rfl rfl rfl, (h w2 h2.1).ms⟩) ⟨rfl, hl.hpn⟩ htm h5 hSm hmj2) rfl rfl) ?_; rintro _ _ ⟨⟨bv, ⟨N, AN, cN⟩, ZN⟩, Z', rfl, ⟨hI1, hI2⟩, hold2, hnew2, rfl⟩; dsimp only [List.cons_append, List.nil_append] at hI1 hI2 ⊢); refine qz ?_)
  have hfin : ∀ w', St w (owns (mP g x m)) (Z' :: mP g (stdX { x with votes := vtsL x.votes y.F }) (appM (votM (vtM m (vtsL x.votes y.F).length AV cV) bv) (N, AN, cN))) w' → ∃ z : Mm × Asn, (z.1.S.map Prod.fst = m.S.map Prod.fst ++ ((felL x).flatMap (fun n => [{ ms0 with K := 3, F := x.me, T := n, tm := x.term + 1, pl := lastP x }])) ∧ z.1.i = m.i ∧ McL (stdX { x with votes := vtsL x.votes y.F }) z.1 ∧ ∀ w', K2 D z.2 w' → McR w' (stdX { x with votes := vtsL x.votes y.F }) z.1) ∧ St w (owns (mP g x m)) (mP g (stdX { x with votes := vtsL x.votes y.F }) z.1 ++ [z.2]) w' := fun w' hS => ⟨((appM (votM (vtM m (vtsL x.votes y.F).length AV cV) bv) (N, AN, cN)), Z'), ⟨by rw [← (show N.map Prod.fst = (felL x).flatMap (fun n => [{ ms0 with K := 3, F := x.me, T := n, tm := x.term + 1, pl := lastP x }]) from hI1)]; exact List.map_append, rfl, ⟨rfl, hl.hpn⟩, fun w2 h2 => ⟨(h w2 h2.1).lg.like rfl rfl rfl rfl rfl rfl rfl rfl, fun s hs => by
      rcases List.mem_append.1 hs with hs | hs
      · exact (h w2 h2.1).ms s hs
      · exact hI2 w2 (hnew2 w2 h2) s hs⟩⟩, hS.perm (List.perm_append_comm (l₁ := [Z']))⟩
  first
  | exact hE _ _ fun w' hS => hfin w' (sub_st (H' := [Z', pt g 89 (mcc (stdX { x with votes := vtsL x.votes y.F }) (appM (votM (vtM m (vtsL x.votes y.F).length AV cV) bv) (N, AN, cN))), row 3 1 (appM (votM (vtM m (vtsL x.votes y.F).length AV cV) bv) (N, AN, cN)).p.vA (appM (votM (vtM m (vtsL x.votes y.F).length AV cV) bv) (N, AN, cN)).p.vn (appM (votM (vtM m (vtsL x.votes y.F).length AV cV) bv) (N, AN, cN)).p.vc ((stdX { x with votes := vtsL x.votes y.F }).votes.map zv), row 112 3 (appM (votM (vtM m (vtsL x.votes y.F).length AV cV) bv) (N, AN, cN)).p.pA (appM (votM (vtM m (vtsL x.votes y.F).length AV cV) bv) (N, AN, cN)).p.pn (appM (votM (vtM m (vtsL x.votes y.F).length AV cV) bv) (N, AN, cN)).p.pc (cellsL pec (stdX { x with votes := vtsL x.votes y.F }).peers), row 65 12 (appM (votM (vtM m (vtsL x.votes y.F).length AV cV) bv) (N, AN, cN)).sA (appM (votM (vtM m (vtsL x.votes y.F).length AV cV) bv) (N, AN, cN)).S.length (appM (votM (vtM m (vtsL x.votes y.F).length AV cV) bv) (N, AN, cN)).sc (cellsL sgc (appM (votM (vtM m (vtsL x.votes y.F).length AV cV) bv) (N, AN, cN)).S)]) w' hS)
  | exact hB _ _ _ _ rfl fun w' hS => hfin w' (sub_st (H' := [Z', pt g 89 (mcc (stdX { x with votes := vtsL x.votes y.F }) (appM (votM (vtM m (vtsL x.votes y.F).length AV cV) bv) (N, AN, cN))), row 3 1 (appM (votM (vtM m (vtsL x.votes y.F).length AV cV) bv) (N, AN, cN)).p.vA (appM (votM (vtM m (vtsL x.votes y.F).length AV cV) bv) (N, AN, cN)).p.vn (appM (votM (vtM m (vtsL x.votes y.F).length AV cV) bv) (N, AN, cN)).p.vc ((stdX { x with votes := vtsL x.votes y.F }).votes.map zv), row 112 3 (appM (votM (vtM m (vtsL x.votes y.F).length AV cV) bv) (N, AN, cN)).p.pA (appM (votM (vtM m (vtsL x.votes y.F).length AV cV) bv) (N, AN, cN)).p.pn (appM (votM (vtM m (vtsL x.votes y.F).length AV cV) bv) (N, AN, cN)).p.pc (cellsL pec (stdX { x with votes := vtsL x.votes y.F }).peers), row 65 12 (appM (votM (vtM m (vtsL x.votes y.F).length AV cV) bv) (N, AN, cN)).sA (appM (votM (vtM m (vtsL x.votes y.F).length AV cV) bv) (N, AN, cN)).S.length (appM (votM (vtM m (vtsL x.votes y.F).length AV cV) bv) (N, AN, cN)).sc (cellsL sgc (appM (votM (vtM m (vtsL x.votes y.F).length AV cV) bv) (N, AN, cN)).S)]) w' hS)
end Go.Proofs.YtdeffdldifepkaaGreat
namespace Go.Proofs.YtdeffdldifepkaaGreat
open Go.RowKit
open Asn (pt row rb)
set_option linter.unusedVariables false
set_option linter.unusedSimpArgs false
--@use N

section
variable {P : Program} {n : Nat} {w0 : World} {M : Nat → Prop} {T : Slots} {As H H1 Hr : List Asn} {dd : Option Tmp} {tt : TypeId} {pos : String} {af : Array Edge} {g : Option (Nat × Bool)} {x y z : Operand} {ts : Array TypeId} {f : FuncId} {xs : Array Operand} {vs vs' : List Value} {X : Type} {V : X → Value} {I : X → Prop} {Z : Asn} {C : X → Asn} {D : Kw}
theorem E_insZ [HasTab P] {t kt et : TypeId} {b : Nat} {f : Int → Option Value} {s : Int} {v : Value} {i ki : Ti} (hx : oget T x = some (.map (some b))) (hy : oget T y = some (zk s)) (hz : oget T z = some v) (ht : ty P t = some i) (hi : i.desc = .map kt et) (hk : ty P kt = some ki) (hki : ki.desc = .int .i64) :
    Ef P n w0 M T (mpZ b f :: H) ⟨none, .insert t x y z, tt, pos, af, g⟩ (fun _ H' => H' = mpZ b (fun r => if r = s then some v else f r) :: H) := (E_mapsetZ (hr := inferInstance) (tt := tt) (pos := pos) (af := af) (g := g) hx hy hz ht hi hk hki).same fun a w ha => rfl
/-- a method value -/
theorem E_cloB {first : List Value} {E : Value → List Asn → Prop} (hx : oget T x = some (.func (.func f) first.toArray #[])) (h : Ef P n w0 M T H ⟨dd, .call ⟨.value (.func f), (first.map Operand.const).toArray ++ xs, ts⟩, tt, pos, af, g⟩ E) :
    Ef P n w0 M T H ⟨dd, .call ⟨.value x, xs, ts⟩, tt, pos, af, g⟩ E := h.same fun a w ha => by
  have e3 : (first.map Operand.const).map a.eval = first := by
    rw [List.map_map]
    conv => rhs; rw [← List.map_id first]
    rfl
  have e2 : (((first.map Operand.const).toArray ++ xs).map a.eval) = first.toArray ++ xs.map a.eval := by
    rw [Array.map_append, List.map_toArray, e3]
  have e1 : (a.eval (.func f)) = .func (.func f) #[] #[] := rfl
  simp [execOp, resolve, Deferred.ofValue, invoke, ha.eval hx, e2, e1]
theorem ogets_first (T : Slots) (us : List Value) (xs : Array Operand) (first : List Value) (hx : ogets T xs.toList = some us) : ogets T ((first.map Operand.const).toArray ++ xs).toList = some (first ++ us) := by
  rw [Array.toList_append]
  induction first with
  | nil => simpa using hx
  | cons u l ih => 
    have ih' : ogets T ((l.map Operand.const) ++ xs.toList) = some (l ++ us) := by simpa using ih
    simp [ogets, oget, ih']
theorem E_mthB (first : List Value) (L : List Asn) (Q : X → List Asn) [h1 : RemL H L H1] [h2 : RemC H1 Z Hr] (hD : Kd D As w0) (hf : Fn_ P f) (hx0 : oget T x = some (.func (.func f) first.toArray #[]))
    (hc : ∀ w1, St w0 (owns As) (L ++ Z :: Hr) w1 → Kd (K2 D Z) L w1 → St w1 (owns L) L w1 → Gives P f vs' L w1 V I (fun x => Q x ++ [C x])) (hx : ogets T ((first.map Operand.const).toArray ++ xs).toList = some vs) (hv : vs = vs') :
    Ef P n w0 (owns As) T H ⟨dd, .call ⟨.value x, xs, ts⟩, tt, pos, af, g⟩ (fun u H' => ∃ x Z', u = V x ∧ I x ∧ (∀ w, K2 D Z' w → K2 D Z w) ∧ (∀ w, K2 D Z' w → K2 (K2 D Z) (C x) w) ∧ H' = Q x ++ Z' :: Hr) :=
  E_cloB hx0 (E_mthL L Q hD hf hc hx hv)
/-- a part of a block that can be read -/
theorem T_ldqs [HasTab P] {s : TypeId} {gb off m : Nat} {xs ds : List Value} {i : Ti} (hx : oget T x = some (.pointer (some ⟨gb, off, none⟩))) (hs : ty P s = some i) (hi : aggB i.desc = true) (hr : ∀ w, St w0 M H w → Rd w All 1 (some ⟨gb, 0, none⟩) m xs) (hl : ds.length = i.size) (h0 : 0 < m) (hd : (xs.drop off).take i.size = ds) :
    Tk P n w0 M T H ⟨dd, .load s x, tt, pos, af, g⟩ (.agg ds.toArray) := .mk fun a w ha hS =>
  (T_loadgs (w0 := w) (M := owns []) (H := []) (n := n) (T := T) hx hs hi (hr w hS) (fun k _ => noOwns k) hl h0 hd).run a w ha (St.enter w)
theorem rd_cq {w : World} {b m j : Nat} {xs : List Value} {v : Value} (h : Rd w All 1 (some ⟨b, 0, none⟩) m xs) (hv : xs[j]? = some v) : w.cell? ⟨b, j, none⟩ = some v := by
  have hl := (List.getElem?_eq_some_iff.1 hv).1
  obtain ⟨ad, e, _, hc⟩ := h.2 (by have := h.1; omega)
  injection e with e
  subst e
  have := hc j v hv
  rwa [add_plain, Nat.zero_add] at this
end
set_option maxRecDepth 100000 in
set_option maxHeartbeats 4000000 in
theorem does_any (w : World) (g : Nat) :
    Gives Tryz.prog 73 [.pointer (some ⟨g, 0, none⟩)] [] w (X := Nat) (fun b => .map (some b)) (fun _ => True) (fun b => [mpZ b (fun r => if r = 7 then some (Value.func (.func 148) #[.pointer (some ⟨g, 0, none⟩)] #[]) else if r = 6 then some (Value.func (.func 147) #[.pointer (some ⟨g, 0, none⟩)] #[]) else if r = 5 then some (Value.func (.func 146) #[.pointer (some ⟨g, 0, none⟩)] #[]) else if r = 4 then some (Value.func (.func 145) #[.pointer (some ⟨g, 0, none⟩)] #[]) else if r = 3 then some (Value.func (.func 144) #[.pointer (some ⟨g, 0, none⟩)] #[]) else if r = 2 then some (Value.func (.func 143) #[.pointer (some ⟨g, 0, none⟩)] #[]) else if r = 1 then some (Value.func (.func 142) #[.pointer (some ⟨g, 0, none⟩)] #[]) else none)]) := by
  refine gives_S Tryz.func73 rfl Tryz.ntmps73 Tryz.results73 (by simp) (St.enter w) (fun B hB => ?_)
  focus (refine qs ?_; refine qp ?_; refine qn ?_; (refine R_eff E_mkmapZ ?_ rfl rfl; rintro _ _ ⟨b3, rfl, rfl⟩); (iterate 7 refine qp ?_; refine qt (T_func rfl rfl) ?_; (refine qw (E_insZ rfl rfl rfl rfl rfl rfl rfl) ?_; rintro _ _ rfl)); refine qp ?_; refine qp ?_; refine qz ?_)
  exact hB _ _ _ _ _ rfl rfl fun w' hS => ⟨b3, rfl, trivial, hS⟩
set_option maxRecDepth 100000 in
set_option maxHeartbeats 4000000 in
theorem take1_same (w : World) (g : Nat) (x : Rs) (m : Mm) (hS0 : St w (owns (mP g x m)) (mP g x m) w) (D : Kw) (hD : Kd D (mP g x m) w) (h : ∀ w', D w' → McR w' x m) (hl : McL x m) (y : Ms) (q : Mp) (bx : Nat) (hbx : ∀ w', D w' → Rd w' All 1 (some ⟨bx, 0, none⟩) 12 (mgc y q)) (hn : ¬ x.term < y.tm ∨ y.K = 1 ∨ (y.K = 2 ∧ y.ok = true)) (x2 : Rs) (ms : List Ms) (ib : Bool) (fk : FuncId) (hfk : Fn_ Tryz.prog fk) (hfv : (((fun r : Int => if r = 7 then some (Value.func (.func 148) #[.pointer (some ⟨g, 0, none⟩)] #[]) else if r = 6 then some (Value.func (.func 147) #[.pointer (some ⟨g, 0, none⟩)] #[]) else if r = 5 then some (Value.func (.func 146) #[.pointer (some ⟨g, 0, none⟩)] #[]) else if r = 4 then some (Value.func (.func 145) #[.pointer (some ⟨g, 0, none⟩)] #[]) else if r = 3 then some (Value.func (.func 144) #[.pointer (some ⟨g, 0, none⟩)] #[]) else if r = 2 then some (Value.func (.func 143) #[.pointer (some ⟨g, 0, none⟩)] #[]) else if r = 1 then some (Value.func (.func 142) #[.pointer (some ⟨g, 0, none⟩)] #[]) else none) : Int → Option Value) y.K).getD .nilFunc = .func (.func fk) #[.pointer (some ⟨g, 0, none⟩)] #[])
    (hM : ∀ (w1 : World) (D1 : Kw), St w1 (owns (mP g x m)) (mP g x m) w1 → Kd D1 (mP g x m) w1 → (∀ w', D1 w' → D w') → Mth g x x2 m ms ib D1 fk [.agg (mgc y q).toArray] w1) : Mth g x x2 m ms ib D 71 [.pointer (some ⟨bx, 0, none⟩)] w := by
  unfold Mth
  refine gives_N2 Tryz.func71 rfl Tryz.ntmps71 Tryz.results71 (by simp) hS0 (fun B hE hB => ?_)
  refine RS_zN ?_
  rcases hn with hn | hn | ⟨hn, hok⟩
  · skip
    focus (refine qq ?_; refine qq ?_; (refine S_draw _ (fun _ h => h) (by kernel_rfl) rfl (by kernel_rfl) (rfl : _ = 23) ?_; (refine dt 0 rfl (pev_ok rfl) ?_); (refine dt 1 rfl (T_ldq (v := .int .u64 (y.tm : Int)) rfl rfl rfl (fun w1 hS1 => rd_cq (j := 3) (hbx w1 (hD.at_ hS1)) rfl)) ?_); (refine dt 2 rfl (pev_ok rfl) ?_); (refine dt 3 rfl (T_nilCheck rfl) ?_); (refine dt 4 rfl (pev_ok rfl) ?_); (refine dt 5 rfl (pev_ok rfl) ?_); (refine dt 6 rfl (T_load rfl rfl rfl rfl) ?_); (refine dt 7 rfl (T_decF rfl (by omega)) ?_); (refine dt 8 rfl (pev_ok rfl) ?_); (refine D_skip 9 rfl ?_ rfl rfl (by kernel_rfl) (by kernel_rfl)); (refine D_skip 10 rfl ?_ rfl rfl (by kernel_rfl) (by kernel_rfl)); (refine D_skip 11 rfl ?_ rfl rfl (by kernel_rfl) (by kernel_rfl)); (refine dt 12 rfl (pev_ok rfl) ?_); (refine dt 13 rfl (pev_ok rfl) ?_); (refine D_skip 14 rfl ?_ rfl rfl (by kernel_rfl) (by kernel_rfl)); (refine D_skip 15 rfl ?_ rfl rfl (by kernel_rfl) (by kernel_rfl)); (refine D_skip 16 rfl ?_ rfl rfl (by kernel_rfl) (by kernel_rfl)); (refine D_skip 17 rfl ?_ rfl rfl (by kernel_rfl) (by kernel_rfl)); (refine D_skip 18 rfl ?_ rfl rfl (by kernel_rfl) (by kernel_rfl)); (refine D_skip 19 rfl ?_ rfl rfl (by kernel_rfl) (by kernel_rfl)); (refine D_skip 20 rfl ?_ rfl rfl (by kernel_rfl) (by kernel_rfl)); (refine D_skip 21 rfl ?_ rfl rfl (by kernel_rfl) (by kernel_rfl)); (refine dt 22 rfl (pev_ok rfl) ?_); refine D_done ?_ (by kernel_rfl)); refine qF ?_; refine qx ?_)
    refine S_draw ([]) sub_st (by kernel_rfl) rfl (by kernel_rfl) (by kernel_rfl : _ = 7) ?_
    refine dt 0 rfl (pev_ok rfl) ?_
    refine dt 2 rfl (pev_ok rfl) ?_
    refine dt 3 rfl (T_ldq (v := .int .i64 y.K) rfl rfl rfl (fun w1 hS1 => rd_cq (j := 0) (hbx w1 (hD.at_ hS1)) rfl)) ?_
    refine dt 5 rfl (T_ldqs (m := 12) (xs := mgc y q) (ds := mgc y q) rfl rfl rfl (fun w1 hS1 => hbx w1 (hD.at_ hS1)) rfl (by decide) rfl) ?_
    refine D_one 1 rfl (E_hv1 (f := 73) ⟨_, Tryz.func73, rfl, by kernel_rfl⟩ (fun w1 hS1 => does_any w1 g) rfl rfl (fun _ => rfl)) ?_ rfl rfl (by kernel_rfl)
    rintro _ _ ⟨bm, rfl, _, rfl⟩
    refine Nx_all sub_st ?_
    refine dt 4 rfl (T_mapgetZ (b := bm) (s := y.K) (f := fun r => if r = 7 then some (Value.func (.func 148) #[.pointer (some ⟨g, 0, none⟩)] #[]) else if r = 6 then some (Value.func (.func 147) #[.pointer (some ⟨g, 0, none⟩)] #[]) else if r = 5 then some (Value.func (.func 146) #[.pointer (some ⟨g, 0, none⟩)] #[]) else if r = 4 then some (Value.func (.func 145) #[.pointer (some ⟨g, 0, none⟩)] #[]) else if r = 3 then some (Value.func (.func 144) #[.pointer (some ⟨g, 0, none⟩)] #[]) else if r = 2 then some (Value.func (.func 143) #[.pointer (some ⟨g, 0, none⟩)] #[]) else if r = 1 then some (Value.func (.func 142) #[.pointer (some ⟨g, 0, none⟩)] #[]) else none) rfl rfl rfl rfl rfl rfl rfl hfv) ?_
    refine D_one 6 rfl (E_mthB (D := D) (Z := zN) (f := fk) [.pointer (some ⟨g, 0, none⟩)] (mP g x m) (fun z : Mm × Asn => mP g x2 z.1) hD hfk rfl (fun w1 _ hk hS1 => hM w1 (K2 D zN) hS1 hk (fun w2 h2 => h2.1)) (ogets_first _ [.agg (mgc y q).toArray] _ [.pointer (some ⟨g, 0, none⟩)] rfl) rfl) ?_ rfl rfl (by kernel_rfl)
    rintro _ _ ⟨⟨m2, Z2⟩, Z', rfl, ⟨hI1, hI2, hI3, hI4⟩, hold, hnew, rfl⟩; dsimp only [List.cons_append, List.nil_append] at hI1 hI2 hI3 hI4 ⊢
    refine Nx_pivot (by kernel_rfl) ?_
    refine D_done ?_ (by kernel_rfl)
    skip
    skip
    have hfin : ∀ w', St w (owns (mP g x m)) (Z' :: mP g x2 m2) w' → ∃ z : Mm × Asn, (z.1.S.map Prod.fst = m.S.map Prod.fst ++ ms ∧ z.1.i = ib ∧ McL x2 z.1 ∧ ∀ w', K2 D z.2 w' → McR w' x2 z.1) ∧ St w (owns (mP g x m)) (mP g x2 z.1 ++ [z.2]) w' := fun w' hS => ⟨(m2, Z'), ⟨hI1, hI2, hI3, fun w3 h3 => hI4 w3 (hnew w3 h3)⟩, hS.perm (List.perm_append_comm (l₁ := [Z']))⟩
    first
    | exact hE _ _ fun w' hS => hfin w' (sub_st (H' := [Z', pt g 89 (mcc x2 m2), row 3 1 m2.p.vA m2.p.vn m2.p.vc (x2.votes.map zv), row 112 3 m2.p.pA m2.p.pn m2.p.pc (cellsL pec x2.peers), row 65 12 m2.sA m2.S.length m2.sc (cellsL sgc m2.S)]) w' hS)
    | exact hB _ _ _ _ rfl fun w' hS => hfin w' (sub_st (H' := [Z', pt g 89 (mcc x2 m2), row 3 1 m2.p.vA m2.p.vn m2.p.vc (x2.votes.map zv), row 112 3 m2.p.pA m2.p.pn m2.p.pc (cellsL pec x2.peers), row 65 12 m2.sA m2.S.length m2.sc (cellsL sgc m2.S)]) w' hS)
  · skip
    by_cases hlt : x.term < y.tm
    · focus (refine qq ?_; refine qq ?_; (refine S_draw _ (fun _ h => h) (by kernel_rfl) rfl (by kernel_rfl) (rfl : _ = 23) ?_; (refine dt 0 rfl (pev_ok rfl) ?_); (refine dt 1 rfl (T_ldq (v := .int .u64 (y.tm : Int)) rfl rfl rfl (fun w1 hS1 => rd_cq (j := 3) (hbx w1 (hD.at_ hS1)) rfl)) ?_); (refine dt 2 rfl (pev_ok rfl) ?_); (refine dt 3 rfl (T_nilCheck rfl) ?_); (refine dt 4 rfl (pev_ok rfl) ?_); (refine dt 5 rfl (pev_ok rfl) ?_); (refine dt 6 rfl (T_load rfl rfl rfl rfl) ?_); (refine dt 7 rfl (T_decT rfl (by omega)) ?_); (refine dt 8 rfl (pev_ok rfl) ?_); (refine dt 9 rfl (pev_ok rfl) ?_); (refine dt 10 rfl (T_ldq (v := .int .i64 y.K) rfl rfl rfl (fun w1 hS1 => rd_cq (j := 0) (hbx w1 (hD.at_ hS1)) rfl)) ?_); (refine dt 11 rfl (T_decF rfl (by omega)) ?_); (refine dt 12 rfl (pev_ok rfl) ?_); (refine dt 13 rfl (pev_ok rfl) ?_); (refine D_skip 14 rfl ?_ rfl rfl (by kernel_rfl) (by kernel_rfl)); (refine D_skip 15 rfl ?_ rfl rfl (by kernel_rfl) (by kernel_rfl)); (refine D_skip 16 rfl ?_ rfl rfl (by kernel_rfl) (by kernel_rfl)); (refine D_skip 17 rfl ?_ rfl rfl (by kernel_rfl) (by kernel_rfl)); (refine D_skip 18 rfl ?_ rfl rfl (by kernel_rfl) (by kernel_rfl)); (refine D_skip 19 rfl ?_ rfl rfl (by kernel_rfl) (by kernel_rfl)); (refine D_skip 20 rfl ?_ rfl rfl (by kernel_rfl) (by kernel_rfl)); (refine D_skip 21 rfl ?_ rfl rfl (by kernel_rfl) (by kernel_rfl)); (refine dt 22 rfl (pev_ok rfl) ?_); refine D_done ?_ (by kernel_rfl)); refine qF ?_; refine qx ?_)
      refine S_draw ([]) sub_st (by kernel_rfl) rfl (by kernel_rfl) (by kernel_rfl : _ = 7) ?_
      refine dt 0 rfl (pev_ok rfl) ?_
      refine dt 2 rfl (pev_ok rfl) ?_
      refine dt 3 rfl (T_ldq (v := .int .i64 y.K) rfl rfl rfl (fun w1 hS1 => rd_cq (j := 0) (hbx w1 (hD.at_ hS1)) rfl)) ?_
      refine dt 5 rfl (T_ldqs (m := 12) (xs := mgc y q) (ds := mgc y q) rfl rfl rfl (fun w1 hS1 => hbx w1 (hD.at_ hS1)) rfl (by decide) rfl) ?_
      refine D_one 1 rfl (E_hv1 (f := 73) ⟨_, Tryz.func73, rfl, by kernel_rfl⟩ (fun w1 hS1 => does_any w1 g) rfl rfl (fun _ => rfl)) ?_ rfl rfl (by kernel_rfl)
      rintro _ _ ⟨bm, rfl, _, rfl⟩
      refine Nx_all sub_st ?_
      refine dt 4 rfl (T_mapgetZ (b := bm) (s := y.K) (f := fun r => if r = 7 then some (Value.func (.func 148) #[.pointer (some ⟨g, 0, none⟩)] #[]) else if r = 6 then some (Value.func (.func 147) #[.pointer (some ⟨g, 0, none⟩)] #[]) else if r = 5 then some (Value.func (.func 146) #[.pointer (some ⟨g, 0, none⟩)] #[]) else if r = 4 then some (Value.func (.func 145) #[.pointer (some ⟨g, 0, none⟩)] #[]) else if r = 3 then some (Value.func (.func 144) #[.pointer (some ⟨g, 0, none⟩)] #[]) else if r = 2 then some (Value.func (.func 143) #[.pointer (some ⟨g, 0, none⟩)] #[]) else if r = 1 then some (Value.func (.func 142) #[.pointer (some ⟨g, 0, none⟩)] #[]) else none) rfl rfl rfl rfl rfl rfl rfl hfv) ?_
      refine D_one 6 rfl (E_mthB (D := D) (Z := zN) (f := fk) [.pointer (some ⟨g, 0, none⟩)] (mP g x m) (fun z : Mm × Asn => mP g x2 z.1) hD hfk rfl (fun w1 _ hk hS1 => hM w1 (K2 D zN) hS1 hk (fun w2 h2 => h2.1)) (ogets_first _ [.agg (mgc y q).toArray] _ [.pointer (some ⟨g, 0, none⟩)] rfl) rfl) ?_ rfl rfl (by kernel_rfl)
      rintro _ _ ⟨⟨m2, Z2⟩, Z', rfl, ⟨hI1, hI2, hI3, hI4⟩, hold, hnew, rfl⟩; dsimp only [List.cons_append, List.nil_append] at hI1 hI2 hI3 hI4 ⊢
      refine Nx_pivot (by kernel_rfl) ?_
      refine D_done ?_ (by kernel_rfl)
      skip
      skip
      have hfin : ∀ w', St w (owns (mP g x m)) (Z' :: mP g x2 m2) w' → ∃ z : Mm × Asn, (z.1.S.map Prod.fst = m.S.map Prod.fst ++ ms ∧ z.1.i = ib ∧ McL x2 z.1 ∧ ∀ w', K2 D z.2 w' → McR w' x2 z.1) ∧ St w (owns (mP g x m)) (mP g x2 z.1 ++ [z.2]) w' := fun w' hS => ⟨(m2, Z'), ⟨hI1, hI2, hI3, fun w3 h3 => hI4 w3 (hnew w3 h3)⟩, hS.perm (List.perm_append_comm (l₁ := [Z']))⟩
      first
      | exact hE _ _ fun w' hS => hfin w' (sub_st (H' := [Z', pt g 89 (mcc x2 m2), row 3 1 m2.p.vA m2.p.vn m2.p.vc (x2.votes.map zv), row 112 3 m2.p.pA m2.p.pn m2.p.pc (cellsL pec x2.peers), row 65 12 m2.sA m2.S.length m2.sc (cellsL sgc m2.S)]) w' hS)
      | exact hB _ _ _ _ rfl fun w' hS => hfin w' (sub_st (H' := [Z', pt g 89 (mcc x2 m2), row 3 1 m2.p.vA m2.p.vn m2.p.vc (x2.votes.map zv), row 112 3 m2.p.pA m2.p.pn m2.p.pc (cellsL pec x2.peers), row 65 12 m2.sA m2.S.length m2.sc (cellsL sgc m2.S)]) w' hS)
    · focus (refine qq ?_; refine qq ?_; (refine S_draw _ (fun _ h => h) (by kernel_rfl) rfl (by kernel_rfl) (rfl : _ = 23) ?_; (refine dt 0 rfl (pev_ok rfl) ?_); (refine dt 1 rfl (T_ldq (v := .int .u64 (y.tm : Int)) rfl rfl rfl (fun w1 hS1 => rd_cq (j := 3) (hbx w1 (hD.at_ hS1)) rfl)) ?_); (refine dt 2 rfl (pev_ok rfl) ?_); (refine dt 3 rfl (T_nilCheck rfl) ?_); (refine dt 4 rfl (pev_ok rfl) ?_); (refine dt 5 rfl (pev_ok rfl) ?_); (refine dt 6 rfl (T_load rfl rfl rfl rfl) ?_); (refine dt 7 rfl (T_decF rfl (by omega)) ?_); (refine dt 8 rfl (pev_ok rfl) ?_); (refine D_skip 9 rfl ?_ rfl rfl (by kernel_rfl) (by kernel_rfl)); (refine D_skip 10 rfl ?_ rfl rfl (by kernel_rfl) (by kernel_rfl)); (refine D_skip 11 rfl ?_ rfl rfl (by kernel_rfl) (by kernel_rfl)); (refine dt 12 rfl (pev_ok rfl) ?_); (refine dt 13 rfl (pev_ok rfl) ?_); (refine D_skip 14 rfl ?_ rfl rfl (by kernel_rfl) (by kernel_rfl)); (refine D_skip 15 rfl ?_ rfl rfl (by kernel_rfl) (by kernel_rfl)); (refine D_skip 16 rfl ?_ rfl rfl (by kernel_rfl) (by kernel_rfl)); (refine D_skip 17 rfl ?_ rfl rfl (by kernel_rfl) (by kernel_rfl)); (refine D_skip 18 rfl ?_ rfl rfl (by kernel_rfl) (by kernel_rfl)); (refine D_skip 19 rfl ?_ rfl rfl (by kernel_rfl) (by kernel_rfl)); (refine D_skip 20 rfl ?_ rfl rfl (by kernel_rfl) (by kernel_rfl)); (refine D_skip 21 rfl ?_ rfl rfl (by kernel_rfl) (by kernel_rfl)); (refine dt 22 rfl (pev_ok rfl) ?_); refine D_done ?_ (by kernel_rfl)); refine qF ?_; refine qx ?_)
      refine S_draw ([]) sub_st (by kernel_rfl) rfl (by kernel_rfl) (by kernel_rfl : _ = 7) ?_
      refine dt 0 rfl (pev_ok rfl) ?_
      refine dt 2 rfl (pev_ok rfl) ?_
      refine dt 3 rfl (T_ldq (v := .int .i64 y.K) rfl rfl rfl (fun w1 hS1 => rd_cq (j := 0) (hbx w1 (hD.at_ hS1)) rfl)) ?_
      refine dt 5 rfl (T_ldqs (m := 12) (xs := mgc y q) (ds := mgc y q) rfl rfl rfl (fun w1 hS1 => hbx w1 (hD.at_ hS1)) rfl (by decide) rfl) ?_
      refine D_one 1 rfl (E_hv1 (f := 73) ⟨_, Tryz.func73, rfl, by kernel_rfl⟩ (fun w1 hS1 => does_any w1 g) rfl rfl (fun _ => rfl)) ?_ rfl rfl (by kernel_rfl)
      rintro _ _ ⟨bm, rfl, _, rfl⟩
      refine Nx_all sub_st ?_
      refine dt 4 rfl (T_mapgetZ (b := bm) (s := y.K) (f := fun r => if r = 7 then some (Value.func (.func 148) #[.pointer (some ⟨g, 0, none⟩)] #[]) else if r = 6 then some (Value.func (.func 147) #[.pointer (some ⟨g, 0, none⟩)] #[]) else if r = 5 then some (Value.func (.func 146) #[.pointer (some ⟨g, 0, none⟩)] #[]) else if r = 4 then some (Value.func (.func 145) #[.pointer (some ⟨g, 0, none⟩)] #[]) else if r = 3 then some (Value.func (.func 144) #[.pointer (some ⟨g, 0, none⟩)] #[]) else if r = 2 then some (Value.func (.func 143) #[.pointer (some ⟨g, 0, none⟩)] #[]) else if r = 1 then some (Value.func (.func 142) #[.pointer (some ⟨g, 0, none⟩)] #[]) else none) rfl rfl rfl rfl rfl rfl rfl hfv) ?_
      refine D_one 6 rfl (E_mthB (D := D) (Z := zN) (f := fk) [.pointer (some ⟨g, 0, none⟩)] (mP g x m) (fun z : Mm × Asn => mP g x2 z.1) hD hfk rfl (fun w1 _ hk hS1 => hM w1 (K2 D zN) hS1 hk (fun w2 h2 => h2.1)) (ogets_first _ [.agg (mgc y q).toArray] _ [.pointer (some ⟨g, 0, none⟩)] rfl) rfl) ?_ rfl rfl (by kernel_rfl)
      rintro _ _ ⟨⟨m2, Z2⟩, Z', rfl, ⟨hI1, hI2, hI3, hI4⟩, hold, hnew, rfl⟩; dsimp only [List.cons_append, List.nil_append] at hI1 hI2 hI3 hI4 ⊢
      refine Nx_pivot (by kernel_rfl) ?_
      refine D_done ?_ (by kernel_rfl)
      skip
      skip
      have hfin : ∀ w', St w (owns (mP g x m)) (Z' :: mP g x2 m2) w' → ∃ z : Mm × Asn, (z.1.S.map Prod.fst = m.S.map Prod.fst ++ ms ∧ z.1.i = ib ∧ McL x2 z.1 ∧ ∀ w', K2 D z.2 w' → McR w' x2 z.1) ∧ St w (owns (mP g x m)) (mP g x2 z.1 ++ [z.2]) w' := fun w' hS => ⟨(m2, Z'), ⟨hI1, hI2, hI3, fun w3 h3 => hI4 w3 (hnew w3 h3)⟩, hS.perm (List.perm_append_comm (l₁ := [Z']))⟩
      first
      | exact hE _ _ fun w' hS => hfin w' (sub_st (H' := [Z', pt g 89 (mcc x2 m2), row 3 1 m2.p.vA m2.p.vn m2.p.vc (x2.votes.map zv), row 112 3 m2.p.pA m2.p.pn m2.p.pc (cellsL pec x2.peers), row 65 12 m2.sA m2.S.length m2.sc (cellsL sgc m2.S)]) w' hS)
      | exact hB _ _ _ _ rfl fun w' hS => hfin w' (sub_st (H' := [Z', pt g 89 (mcc x2 m2), row 3 1 m2.p.vA m2.p.vn m2.p.vc (x2.votes.map zv), row 112 3 m2.p.pA m2.p.pn m2.p.pc (cellsL pec x2.peers), row 65 12 m2.sA m2.S.length m2.sc (cellsL sgc m2.S)]) w' hS)
  · skip
    by_cases hlt : x.term < y.tm
    · focus (refine qq ?_; refine qq ?_; (refine S_draw _ (fun _ h => h) (by kernel_rfl) rfl (by kernel_rfl) (rfl : _ = 23) ?_; (refine dt 0 rfl (pev_ok rfl) ?_); (refine dt 1 rfl (T_ldq (v := .int .u64 (y.tm : Int)) rfl rfl rfl (fun w1 hS1 => rd_cq (j := 3) (hbx w1 (hD.at_ hS1)) rfl)) ?_); (refine dt 2 rfl (pev_ok rfl) ?_); (refine dt 3 rfl (T_nilCheck rfl) ?_); (refine dt 4 rfl (pev_ok rfl) ?_); (refine dt 5 rfl (pev_ok rfl) ?_); (refine dt 6 rfl (T_load rfl rfl rfl rfl) ?_); (refine dt 7 rfl (T_decT rfl (by omega)) ?_); (refine dt 8 rfl (pev_ok rfl) ?_); (refine dt 9 rfl (pev_ok rfl) ?_); (refine dt 10 rfl (T_ldq (v := .int .i64 y.K) rfl rfl rfl (fun w1 hS1 => rd_cq (j := 0) (hbx w1 (hD.at_ hS1)) rfl)) ?_); (refine dt 11 rfl (T_decT rfl (by omega)) ?_); (refine dt 12 rfl (pev_ok rfl) ?_); (refine dt 13 rfl (pev_ok rfl) ?_); (refine dt 14 rfl (pev_ok rfl) ?_); (refine dt 15 rfl (T_ldq (v := .int .i64 y.K) rfl rfl rfl (fun w1 hS1 => rd_cq (j := 0) (hbx w1 (hD.at_ hS1)) rfl)) ?_); (refine dt 16 rfl (T_decT rfl (by omega)) ?_); (refine dt 17 rfl (pev_ok rfl) ?_); (refine dt 18 rfl (pev_ok rfl) ?_); ((refine dt 19 rfl (T_ldq (v := .bool true) rfl rfl rfl (fun w1 hS1 => rd_cq (j := 8) (hbx w1 (hD.at_ hS1)) (by rw [← hok]; rfl))) ?_)); (refine dt 20 rfl (pev_ok rfl) ?_); (refine dt 21 rfl (T_not rfl) ?_); (refine dt 22 rfl (pev_ok rfl) ?_); refine D_done ?_ (by kernel_rfl)); refine qF ?_; refine qx ?_)
      refine S_draw ([]) sub_st (by kernel_rfl) rfl (by kernel_rfl) (by kernel_rfl : _ = 7) ?_
      refine dt 0 rfl (pev_ok rfl) ?_
      refine dt 2 rfl (pev_ok rfl) ?_
      refine dt 3 rfl (T_ldq (v := .int .i64 y.K) rfl rfl rfl (fun w1 hS1 => rd_cq (j := 0) (hbx w1 (hD.at_ hS1)) rfl)) ?_
      refine dt 5 rfl (T_ldqs (m := 12) (xs := mgc y q) (ds := mgc y q) rfl rfl rfl (fun w1 hS1 => hbx w1 (hD.at_ hS1)) rfl (by decide) rfl) ?_
      refine D_one 1 rfl (E_hv1 (f := 73) ⟨_, Tryz.func73, rfl, by kernel_rfl⟩ (fun w1 hS1 => does_any w1 g) rfl rfl (fun _ => rfl)) ?_ rfl rfl (by kernel_rfl)
      rintro _ _ ⟨bm, rfl, _, rfl⟩
      refine Nx_all sub_st ?_
      refine dt 4 rfl (T_mapgetZ (b := bm) (s := y.K) (f := fun r => if r = 7 then some (Value.func (.func 148) #[.pointer (some ⟨g, 0, none⟩)] #[]) else if r = 6 then some (Value.func (.func 147) #[.pointer (some ⟨g, 0, none⟩)] #[]) else if r = 5 then some (Value.func (.func 146) #[.pointer (some ⟨g, 0, none⟩)] #[]) else if r = 4 then some (Value.func (.func 145) #[.pointer (some ⟨g, 0, none⟩)] #[]) else if r = 3 then some (Value.func (.func 144) #[.pointer (some ⟨g, 0, none⟩)] #[]) else if r = 2 then some (Value.func (.func 143) #[.pointer (some ⟨g, 0, none⟩)] #[]) else if r = 1 then some (Value.func (.func 142) #[.pointer (some ⟨g, 0, none⟩)] #[]) else none) rfl rfl rfl rfl rfl rfl rfl hfv) ?_
      refine D_one 6 rfl (E_mthB (D := D) (Z := zN) (f := fk) [.pointer (some ⟨g, 0, none⟩)] (mP g x m) (fun z : Mm × Asn => mP g x2 z.1) hD hfk rfl (fun w1 _ hk hS1 => hM w1 (K2 D zN) hS1 hk (fun w2 h2 => h2.1)) (ogets_first _ [.agg (mgc y q).toArray] _ [.pointer (some ⟨g, 0, none⟩)] rfl) rfl) ?_ rfl rfl (by kernel_rfl)
      rintro _ _ ⟨⟨m2, Z2⟩, Z', rfl, ⟨hI1, hI2, hI3, hI4⟩, hold, hnew, rfl⟩; dsimp only [List.cons_append, List.nil_append] at hI1 hI2 hI3 hI4 ⊢
      refine Nx_pivot (by kernel_rfl) ?_
      refine D_done ?_ (by kernel_rfl)
      skip
      skip
      have hfin : ∀ w', St w (owns (mP g x m)) (Z' :: mP g x2 m2) w' → ∃ z : Mm × Asn, (z.1.S.map Prod.fst = m.S.map Prod.fst ++ ms ∧ z.1.i = ib ∧ McL x2 z.1 ∧ ∀ w', K2 D z.2 w' → McR w' x2 z.1) ∧ St w (owns (mP g x m)) (mP g x2 z.1 ++ [z.2]) w' := fun w' hS => ⟨(m2, Z'), ⟨hI1, hI2, hI3, fun w3 h3 => hI4 w3 (hnew w3 h3)⟩, hS.perm (List.perm_append_comm (l₁ := [Z']))⟩
      first
      | exact hE _ _ fun w' hS => hfin w' (sub_st (H' := [Z', pt g 89 (mcc x2 m2), row 3 1 m2.p.vA m2.p.vn m2.p.vc (x2.votes.map zv), row 112 3 m2.p.pA m2.p.pn m2.p.pc (cellsL pec x2.peers), row 65 12 m2.sA m2.S.length m2.sc (cellsL sgc m2.S)]) w' hS)
      | exact hB _ _ _ _ rfl fun w' hS => hfin w' (sub_st (H' := [Z', pt g 89 (mcc x2 m2), row 3 1 m2.p.vA m2.p.vn m2.p.vc (x2.votes.map zv), row 112 3 m2.p.pA m2.p.pn m2.p.pc (cellsL pec x2.peers), row 65 12 m2.sA m2.S.length m2.sc (cellsL sgc m2.S)]) w' hS)
    · focus (refine qq ?_; refine qq ?_; (refine S_draw _ (fun _ h => h) (by kernel_rfl) rfl (by kernel_rfl) (rfl : _ = 23) ?_; (refine dt 0 rfl (pev_ok rfl) ?_); (refine dt 1 rfl (T_ldq (v := .int .u64 (y.tm : Int)) rfl rfl rfl (fun w1 hS1 => rd_cq (j := 3) (hbx w1 (hD.at_ hS1)) rfl)) ?_); (refine dt 2 rfl (pev_ok rfl) ?_); (refine dt 3 rfl (T_nilCheck rfl) ?_); (refine dt 4 rfl (pev_ok rfl) ?_); (refine dt 5 rfl (pev_ok rfl) ?_); (refine dt 6 rfl (T_load rfl rfl rfl rfl) ?_); (refine dt 7 rfl (T_decF rfl (by omega)) ?_); (refine dt 8 rfl (pev_ok rfl) ?_); (refine D_skip 9 rfl ?_ rfl rfl (by kernel_rfl) (by kernel_rfl)); (refine D_skip 10 rfl ?_ rfl rfl (by kernel_rfl) (by kernel_rfl)); (refine D_skip 11 rfl ?_ rfl rfl (by kernel_rfl) (by kernel_rfl)); (refine dt 12 rfl (pev_ok rfl) ?_); (refine dt 13 rfl (pev_ok rfl) ?_); (refine D_skip 14 rfl ?_ rfl rfl (by kernel_rfl) (by kernel_rfl)); (refine D_skip 15 rfl ?_ rfl rfl (by kernel_rfl) (by kernel_rfl)); (refine D_skip 16 rfl ?_ rfl rfl (by kernel_rfl) (by kernel_rfl)); (refine D_skip 17 rfl ?_ rfl rfl (by kernel_rfl) (by kernel_rfl)); (refine D_skip 18 rfl ?_ rfl rfl (by kernel_rfl) (by kernel_rfl)); (refine D_skip 19 rfl ?_ rfl rfl (by kernel_rfl) (by kernel_rfl)); (refine D_skip 20 rfl ?_ rfl rfl (by kernel_rfl) (by kernel_rfl)); (refine D_skip 21 rfl ?_ rfl rfl (by kernel_rfl) (by kernel_rfl)); (refine dt 22 rfl (pev_ok rfl) ?_); refine D_done ?_ (by kernel_rfl)); refine qF ?_; refine qx ?_)
      refine S_draw ([]) sub_st (by kernel_rfl) rfl (by kernel_rfl) (by kernel_rfl : _ = 7) ?_
      refine dt 0 rfl (pev_ok rfl) ?_
      refine dt 2 rfl (pev_ok rfl) ?_
      refine dt 3 rfl (T_ldq (v := .int .i64 y.K) rfl rfl rfl (fun w1 hS1 => rd_cq (j := 0) (hbx w1 (hD.at_ hS1)) rfl)) ?_
      refine dt 5 rfl (T_ldqs (m := 12) (xs := mgc y q) (ds := mgc y q) rfl rfl rfl (fun w1 hS1 => hbx w1 (hD.at_ hS1)) rfl (by decide) rfl) ?_
      refine D_one 1 rfl (E_hv1 (f := 73) ⟨_, Tryz.func73, rfl, by kernel_rfl⟩ (fun w1 hS1 => does_any w1 g) rfl rfl (fun _ => rfl)) ?_ rfl rfl (by kernel_rfl)
      rintro _ _ ⟨bm, rfl, _, rfl⟩
      refine Nx_all sub_st ?_
      refine dt 4 rfl (T_mapgetZ (b := bm) (s := y.K) (f := fun r => if r = 7 then some (Value.func (.func 148) #[.pointer (some ⟨g, 0, none⟩)] #[]) else if r = 6 then some (Value.func (.func 147) #[.pointer (some ⟨g, 0, none⟩)] #[]) else if r = 5 then some (Value.func (.func 146) #[.pointer (some ⟨g, 0, none⟩)] #[]) else if r = 4 then some (Value.func (.func 145) #[.pointer (some ⟨g, 0, none⟩)] #[]) else if r = 3 then some (Value.func (.func 144) #[.pointer (some ⟨g, 0, none⟩)] #[]) else if r = 2 then some (Value.func (.func 143) #[.pointer (some ⟨g, 0, none⟩)] #[]) else if r = 1 then some (Value.func (.func 142) #[.pointer (some ⟨g, 0, none⟩)] #[]) else none) rfl rfl rfl rfl rfl rfl rfl hfv) ?_
      refine D_one 6 rfl (E_mthB (D := D) (Z := zN) (f := fk) [.pointer (some ⟨g, 0, none⟩)] (mP g x m) (fun z : Mm × Asn => mP g x2 z.1) hD hfk rfl (fun w1 _ hk hS1 => hM w1 (K2 D zN) hS1 hk (fun w2 h2 => h2.1)) (ogets_first _ [.agg (mgc y q).toArray] _ [.pointer (some ⟨g, 0, none⟩)] rfl) rfl) ?_ rfl rfl (by kernel_rfl)
      rintro _ _ ⟨⟨m2, Z2⟩, Z', rfl, ⟨hI1, hI2, hI3, hI4⟩, hold, hnew, rfl⟩; dsimp only [List.cons_append, List.nil_append] at hI1 hI2 hI3 hI4 ⊢
      refine Nx_pivot (by kernel_rfl) ?_
      refine D_done ?_ (by kernel_rfl)
      skip
      skip
      have hfin : ∀ w', St w (owns (mP g x m)) (Z' :: mP g x2 m2) w' → ∃ z : Mm × Asn, (z.1.S.map Prod.fst = m.S.map Prod.fst ++ ms ∧ z.1.i = ib ∧ McL x2 z.1 ∧ ∀ w', K2 D z.2 w' → McR w' x2 z.1) ∧ St w (owns (mP g x m)) (mP g x2 z.1 ++ [z.2]) w' := fun w' hS => ⟨(m2, Z'), ⟨hI1, hI2, hI3, fun w3 h3 => hI4 w3 (hnew w3 h3)⟩, hS.perm (List.perm_append_comm (l₁ := [Z']))⟩
      first
      | exact hE _ _ fun w' hS => hfin w' (sub_st (H' := [Z', pt g 89 (mcc x2 m2), row 3 1 m2.p.vA m2.p.vn m2.p.vc (x2.votes.map zv), row 112 3 m2.p.pA m2.p.pn m2.p.pc (cellsL pec x2.peers), row 65 12 m2.sA m2.S.length m2.sc (cellsL sgc m2.S)]) w' hS)
      | exact hB _ _ _ _ rfl fun w' hS => hfin w' (sub_st (H' := [Z', pt g 89 (mcc x2 m2), row 3 1 m2.p.vA m2.p.vn m2.p.vc (x2.votes.map zv), row 112 3 m2.p.pA m2.p.pn m2.p.pc (cellsL pec x2.peers), row 65 12 m2.sA m2.S.length m2.sc (cellsL sgc m2.S)]) w' hS)
theorem pt_rd {b t : Nat} {y : Ms} {q : Mp} {w : World} (h : (pt b t (mgc y q)).holds w) : Rd w All 1 (some ⟨b, 0, none⟩) 12 (mgc y q) :=
  (Srd.pt (w0 := w) (M := fun k => k = b) (H := [pt b t (mgc y q)]) (g := b) (t := t) (n := 12) (size := 1) (off := 0) (cs := mgc y q) (ds := mgc y q) rfl (fun j u hj => by rw [Nat.zero_add]; exact hj)).rd w ⟨Kp.refl _ _, fun A hA => by
    obtain rfl : A = pt b t (mgc y q) := by simpa using hA
    refine ⟨h, fun k hk => ?_⟩
    obtain rfl : k = b := hk
    exact ⟨.inl rfl, (Array.getElem?_eq_some_iff.1 h).1⟩, List.pairwise_singleton _ _⟩
theorem mth_hc2 {g : Nat} {x x2 : Rs} {m : Mm} {ms : List Ms} {ib : Bool} {D : Kw} {f : FuncId} {args : List Value} {w : World} (hms : m.S = []) (h : Mth g x x2 m ms ib D f args w) :
    Gives Tryz.prog f (.pointer (some ⟨g, 0, none⟩) :: args) (mP g x m) w (X := Mm × Asn) (fun _ => .tuple #[]) (fun y => y.1.S.map Prod.fst = ms ∧ y.1.i = ib ∧ McL x2 y.1 ∧ ∀ w', K2 D y.2 w' → McR w' x2 y.1) (fun y => mP g x2 y.1 ++ [y.2]) := by
  unfold Mth at h
  rw [hms] at h
  exact h
/-- may a message be, for a server? -/
def goodB (x : Rs) (y : Ms) : Bool := rightM y && decide (y.T = x.me) && soundB y.es && (!decide (y.K = 7) || C.right y.cf)
set_option maxRecDepth 100000 in
set_option maxHeartbeats 4000000 in
theorem good_any (w : World) (x : Rs) (p : Rp) (y : Ms) (q : Mp) (hm : MsR w y q) (hd : ∀ m ∈ q.Q, m.2.2.2.2.length ≤ 100000) (hqn : q.n ≤ 100000) (hcn : q.cn ≤ 100000) (r : Bool) (hr : goodB x y = r) :
    Gives Tryz.prog 70 [.agg (rfc x p).toArray, .agg (mgc y q).toArray] [] w (X := Unit) (fun _ => .bool r) (fun _ => True) (fun _ => []) := by
  refine gives_S Tryz.func70 rfl Tryz.ntmps70 Tryz.results70 (by simp) (St.enter w) (fun B hB => ?_)
  unfold goodB at hr
  cases h1 : rightM y
  · obtain rfl : r = false := by rw [← hr, h1]; rfl
    focus (refine qs ?_; (refine qe (E_boxa (cs := rfc x p) rfl) ?_; rintro _ _ ⟨b2, rfl, rfl⟩); (refine qe (E_boxa (cs := mgc y q) rfl) ?_; rintro _ _ ⟨b3, rfl, rfl⟩); refine qp ?_; refine qn ?_; refine qt (T_loads (ds := mgc y q) rfl rfl rfl rfl rfl) ?_; (refine qe (E_hv0 (f := 45) ⟨_, Tryz.func45, rfl, by kernel_rfl⟩ (fun w hS => checkM_any w y q (hm.keep hS.kpO) _ h1) rfl rfl (fun _ => rfl)) ?_; rintro _ _ ⟨_, rfl, _, rfl⟩); refine qp ?_; refine qp ?_; (iterate 5 refine qk ?_); (iterate 2 refine qp ?_; refine qp ?_; (iterate 3 refine qk ?_)); (iterate 6 refine qk ?_); refine qp ?_; refine qp ?_; refine qz ?_)
    exact hB _ _ _ _ _ rfl rfl fun w' hS => ⟨(), rfl, trivial, hS.sublist (List.nil_sublist _)⟩
  by_cases h4 : y.T = x.me
  rotate_left
  · obtain rfl : r = false := by rw [← hr, decide_eq_false h4]; simp
    focus (refine qs ?_; (refine qe (E_boxa (cs := rfc x p) rfl) ?_; rintro _ _ ⟨b2, rfl, rfl⟩); (refine qe (E_boxa (cs := mgc y q) rfl) ?_; rintro _ _ ⟨b3, rfl, rfl⟩); refine qp ?_; refine qn ?_; refine qt (T_loads (ds := mgc y q) rfl rfl rfl rfl rfl) ?_; (refine qe (E_hv0 (f := 45) ⟨_, Tryz.func45, rfl, by kernel_rfl⟩ (fun w hS => checkM_any w y q (hm.keep hS.kpO) _ h1) rfl rfl (fun _ => rfl)) ?_; rintro _ _ ⟨_, rfl, _, rfl⟩); (iterate 3 refine qp ?_); refine qt (T_load rfl rfl rfl rfl) ?_; refine qp ?_; refine qt (T_load rfl rfl rfl rfl) ?_; refine qf ?_; (iterate 2 refine qp ?_; refine qp ?_; (iterate 3 refine qk ?_)); (iterate 6 refine qk ?_); refine qp ?_; refine qp ?_; refine qz ?_)
    exact hB _ _ _ _ _ rfl rfl fun w' hS => ⟨(), rfl, trivial, hS.sublist (List.nil_sublist _)⟩
  cases h2 : soundB y.es
  · obtain rfl : r = false := by rw [← hr, h2]; simp
    focus (refine qs ?_; (refine qe (E_boxa (cs := rfc x p) rfl) ?_; rintro _ _ ⟨b2, rfl, rfl⟩); (refine qe (E_boxa (cs := mgc y q) rfl) ?_; rintro _ _ ⟨b3, rfl, rfl⟩); refine qp ?_; refine qn ?_; refine qt (T_loads (ds := mgc y q) rfl rfl rfl rfl rfl) ?_; (refine qe (E_hv0 (f := 45) ⟨_, Tryz.func45, rfl, by kernel_rfl⟩ (fun w hS => checkM_any w y q (hm.keep hS.kpO) _ h1) rfl rfl (fun _ => rfl)) ?_; rintro _ _ ⟨_, rfl, _, rfl⟩); (iterate 3 refine qp ?_); refine qt (T_load rfl rfl rfl rfl) ?_; refine qp ?_; refine qt (T_load rfl rfl rfl rfl) ?_; (iterate 3 refine qd ?_); refine qp ?_; refine qt (T_load rfl rfl rfl rfl) ?_; (refine qe (E_hv0 (f := 96) ⟨_, Tryz.func96, rfl, by kernel_rfl⟩ (fun w hS => rsound_k w q.A q.c q.n q.Q y.es hm.hn hm.hQ (hm.keep hS.kpO).rq (hm.keep hS.kpO).bq hd (by omega) _ h2) rfl rfl (fun _ => rfl)) ?_; rintro _ _ ⟨_, rfl, _, rfl⟩); refine qp ?_; refine qp ?_; (iterate 9 refine qk ?_); refine qp ?_; refine qp ?_; refine qz ?_)
    exact hB _ _ _ _ _ rfl rfl fun w' hS => ⟨(), rfl, trivial, hS.sublist (List.nil_sublist _)⟩
  by_cases h7 : y.K = 7
  rotate_left
  · obtain rfl : r = true := by rw [← hr, h1, decide_eq_true h4, h2, decide_eq_false h7]; rfl
    focus (refine qs ?_; (refine qe (E_boxa (cs := rfc x p) rfl) ?_; rintro _ _ ⟨b2, rfl, rfl⟩); (refine qe (E_boxa (cs := mgc y q) rfl) ?_; rintro _ _ ⟨b3, rfl, rfl⟩); refine qp ?_; refine qn ?_; refine qt (T_loads (ds := mgc y q) rfl rfl rfl rfl rfl) ?_; (refine qe (E_hv0 (f := 45) ⟨_, Tryz.func45, rfl, by kernel_rfl⟩ (fun w hS => checkM_any w y q (hm.keep hS.kpO) _ h1) rfl rfl (fun _ => rfl)) ?_; rintro _ _ ⟨_, rfl, _, rfl⟩); (iterate 3 refine qp ?_); refine qt (T_load rfl rfl rfl rfl) ?_; refine qp ?_; refine qt (T_load rfl rfl rfl rfl) ?_; (iterate 3 refine qd ?_); refine qp ?_; refine qt (T_load rfl rfl rfl rfl) ?_; (refine qe (E_hv0 (f := 96) ⟨_, Tryz.func96, rfl, by kernel_rfl⟩ (fun w hS => rsound_k w q.A q.c q.n q.Q y.es hm.hn hm.hQ (hm.keep hS.kpO).rq (hm.keep hS.kpO).bq hd (by omega) _ h2) rfl rfl (fun _ => rfl)) ?_; rintro _ _ ⟨_, rfl, _, rfl⟩); refine qd ?_; refine qd ?_; refine qp ?_; refine qt (T_load rfl rfl rfl rfl) ?_; refine qd ?_; refine qd ?_; (iterate 4 refine qk ?_); (iterate 3 refine qd ?_); refine qz ?_)
    exact hB _ _ _ _ _ rfl rfl fun w' hS => ⟨(), rfl, trivial, hS.sublist (List.nil_sublist _)⟩
  cases h3 : C.right y.cf
  · obtain rfl : r = false := by rw [← hr, h3, decide_eq_true h7]; simp
    focus (refine qs ?_; (refine qe (E_boxa (cs := rfc x p) rfl) ?_; rintro _ _ ⟨b2, rfl, rfl⟩); (refine qe (E_boxa (cs := mgc y q) rfl) ?_; rintro _ _ ⟨b3, rfl, rfl⟩); refine qp ?_; refine qn ?_; refine qt (T_loads (ds := mgc y q) rfl rfl rfl rfl rfl) ?_; (refine qe (E_hv0 (f := 45) ⟨_, Tryz.func45, rfl, by kernel_rfl⟩ (fun w hS => checkM_any w y q (hm.keep hS.kpO) _ h1) rfl rfl (fun _ => rfl)) ?_; rintro _ _ ⟨_, rfl, _, rfl⟩); (iterate 3 refine qp ?_); refine qt (T_load rfl rfl rfl rfl) ?_; refine qp ?_; refine qt (T_load rfl rfl rfl rfl) ?_; (iterate 3 refine qd ?_); refine qp ?_; refine qt (T_load rfl rfl rfl rfl) ?_; (refine qe (E_hv0 (f := 96) ⟨_, Tryz.func96, rfl, by kernel_rfl⟩ (fun w hS => rsound_k w q.A q.c q.n q.Q y.es hm.hn hm.hQ (hm.keep hS.kpO).rq (hm.keep hS.kpO).bq hd (by omega) _ h2) rfl rfl (fun _ => rfl)) ?_; rintro _ _ ⟨_, rfl, _, rfl⟩); refine qd ?_; refine qd ?_; refine qp ?_; refine qt (T_load rfl rfl rfl rfl) ?_; refine qf ?_; refine qp ?_; refine qp ?_; refine qt (T_loads (ds := [.slice q.cA q.cn q.cc]) rfl rfl rfl rfl rfl) ?_; (refine qe (E_hv0 (f := 95) ⟨_, Tryz.func95, rfl, by kernel_rfl⟩ (fun w hS => rchk_k w q.cA q.cn q.cc y.cf (hm.keep hS.kpO).rc (by omega) _ h3) rfl rfl (fun _ => rfl)) ?_; rintro _ _ ⟨_, rfl, _, rfl⟩); (iterate 4 refine qp ?_); refine qz ?_)
    exact hB _ _ _ _ _ rfl rfl fun w' hS => ⟨(), rfl, trivial, hS.sublist (List.nil_sublist _)⟩
  · obtain rfl : r = true := by rw [← hr, h1, decide_eq_true h4, h2, h3]; simp
    focus (refine qs ?_; (refine qe (E_boxa (cs := rfc x p) rfl) ?_; rintro _ _ ⟨b2, rfl, rfl⟩); (refine qe (E_boxa (cs := mgc y q) rfl) ?_; rintro _ _ ⟨b3, rfl, rfl⟩); refine qp ?_; refine qn ?_; refine qt (T_loads (ds := mgc y q) rfl rfl rfl rfl rfl) ?_; (refine qe (E_hv0 (f := 45) ⟨_, Tryz.func45, rfl, by kernel_rfl⟩ (fun w hS => checkM_any w y q (hm.keep hS.kpO) _ h1) rfl rfl (fun _ => rfl)) ?_; rintro _ _ ⟨_, rfl, _, rfl⟩); (iterate 3 refine qp ?_); refine qt (T_load rfl rfl rfl rfl) ?_; refine qp ?_; refine qt (T_load rfl rfl rfl rfl) ?_; (iterate 3 refine qd ?_); refine qp ?_; refine qt (T_load rfl rfl rfl rfl) ?_; (refine qe (E_hv0 (f := 96) ⟨_, Tryz.func96, rfl, by kernel_rfl⟩ (fun w hS => rsound_k w q.A q.c q.n q.Q y.es hm.hn hm.hQ (hm.keep hS.kpO).rq (hm.keep hS.kpO).bq hd (by omega) _ h2) rfl rfl (fun _ => rfl)) ?_; rintro _ _ ⟨_, rfl, _, rfl⟩); refine qd ?_; refine qd ?_; refine qp ?_; refine qt (T_load rfl rfl rfl rfl) ?_; refine qf ?_; refine qp ?_; refine qp ?_; refine qt (T_loads (ds := [.slice q.cA q.cn q.cc]) rfl rfl rfl rfl rfl) ?_; (refine qe (E_hv0 (f := 95) ⟨_, Tryz.func95, rfl, by kernel_rfl⟩ (fun w hS => rchk_k w q.cA q.cn q.cc y.cf (hm.keep hS.kpO).rc (by omega) _ h3) rfl rfl (fun _ => rfl)) ?_; rintro _ _ ⟨_, rfl, _, rfl⟩); (iterate 4 refine qp ?_); refine qz ?_)
    exact hB _ _ _ _ _ rfl rfl fun w' hS => ⟨(), rfl, trivial, hS.sublist (List.nil_sublist _)⟩
set_option maxRecDepth 100000 in
set_option maxHeartbeats 4000000 in
theorem take_ok (w : World) (x : Rs) (p : Rp) (h : RfR w x p) (y : Ms) (q : Mp) (Dm : Kw) (hDm : Kd Dm [] w) (hm : ∀ w', Dm w' → MsR w' y q) (hd : ∀ m ∈ q.Q, m.2.2.2.2.length ≤ 100000) (hqn : q.n ≤ 100000) (hcn : q.cn ≤ 100000) (hck : checkB x = true) (hgd : goodB x y = true) (x2 : Rs) (ms : List Ms) (ib : Bool) (hu2 : RsU x2) (hv2 : x2.votes.length ≤ 900) (hp2 : x2.peers.length ≤ 900)
    (hT : ∀ (w1 : World) (g : Nat) (m : Mm) (D : Kw) (bx : Nat), St w1 (owns (mP g x m)) (mP g x m) w1 → Kd D (mP g x m) w1 → (∀ w', D w' → McR w' x m) → McL x m → m.S = [] → m.i = false → (∀ w', D w' → Rd w' All 1 (some ⟨bx, 0, none⟩) 12 (mgc y q)) → (∀ w', D w' → MsR w' y q) → Mth g x x2 m ms ib D 71 [.pointer (some ⟨bx, 0, none⟩)] w1) :
    Gives Tryz.prog 24 [.agg (rfc x p).toArray, .agg (mgc y q).toArray] [] w (X := Mm × Asn) (fun z => .tuple #[.agg (rfc x2 z.1.p).toArray, .slice z.1.sA z.1.S.length z.1.sc, .bool ib, zi 0]) (fun z => z.1.S.map Prod.fst = ms ∧ ∀ w', K2 Dm z.2 w' → SrvR w' x2 z.1) (fun z => [z.2]) := by
  refine gives_C Tryz.func24 rfl Tryz.ntmps24 Tryz.results24 (by simp) (St.enter w) (fun B hB => ?_)
  focus (refine qs ?_; (refine qe (E_boxa (cs := rfc x p) rfl) ?_; rintro _ _ ⟨b2, rfl, rfl⟩); (refine qe (E_boxa (cs := mgc y q) rfl) ?_; rintro _ _ ⟨b3, rfl, rfl⟩); (refine qe (E_alloca rfl rf_zero) ?_; rintro _ _ ⟨b4, rfl, rfl⟩); (iterate 3 refine qp ?_); refine qz ?_; refine qq ?_; refine qb ?_; refine qs ?_; refine qt (T_loads (ds := rfc x p) rfl rfl rfl rfl rfl) ?_; (refine qe (E_hv0 (f := 30) ⟨_, Tryz.func30, rfl, by kernel_rfl⟩ (fun w1 hS1 => rcheck_any w1 x p (h.keep hS1.kpO) true hck) rfl rfl (fun _ => rfl)) ?_; rintro _ _ ⟨_, rfl, _, rfl⟩); refine qp ?_; refine qp ?_; refine qz ?_; refine qF ?_; refine qs ?_; refine qt (T_loads (ds := rfc x p) rfl rfl rfl rfl rfl) ?_; refine qt (T_loads (ds := mgc y q) rfl rfl rfl rfl rfl) ?_; (refine qe (E_hv0 (f := 70) ⟨_, Tryz.func70, rfl, by kernel_rfl⟩ (fun w1 hS1 => good_any w1 x p y q (hm w1 (hDm.at_ hS1)) hd hqn hcn true hgd) rfl rfl (fun _ => rfl)) ?_; rintro _ _ ⟨_, rfl, _, rfl⟩); refine qt (T_not rfl) ?_; refine qp ?_; refine qz ?_; refine qF ?_; refine qx ?_; refine RS_blk ?_; refine qs ?_; refine qt (T_loads (ds := rfc x p) rfl rfl rfl rfl rfl) ?_; refine qt (T_func rfl rfl) ?_; (refine qe (E_hv1 (f := 39) ⟨_, Tryz.func39, rfl, by kernel_rfl⟩ (fun w1 hS1 => turn_any w1 x p (h.keep hS1.kpO) (KL Dm [pt b3 65 (mgc y q)]) (Kd.subL (As' := []) hDm hS1 (by simp)) 71 [.pointer (some ⟨b3, 0, none⟩)] ⟨_, Tryz.func71, rfl, by kernel_rfl⟩ x2 ms ib hu2 hv2 hp2 (fun w2 g m D hS2 hk hd2 hml hms hmi => mth_hc2 hms (hT w2 g m D b3 hS2 hk (fun w3 h3 => (hd2 w3 h3).2) hml hms hmi (fun w3 h3 => pt_rd ((hd2 w3 h3).1.2 (pt b3 65 (mgc y q)) (by simp))) (fun w3 h3 => hm w3 (hd2 w3 h3).1.1)))) rfl rfl (fun _ => rfl)) ?_; rintro _ _ ⟨⟨m2, Z2⟩, rfl, ⟨hI1, hI2⟩, rfl⟩; dsimp only at hI1 hI2); (iterate 4 refine qp ?_); (refine qw (E_storew (cs := rfc x p) (ds := rfc x2 m2.p) rfl rfl rfl rfl (rfc_one _ _) rfl) ?_; rintro _ _ rfl); refine qp ?_; refine qp ?_; refine qn ?_; refine qt (T_loads (ds := rfc x2 m2.p) rfl rfl rfl rfl rfl) ?_; refine qp ?_; refine qp ?_; (refine qw (E_storew (cs := rfc rs0 rp0) (ds := rfc x2 m2.p) rfl rfl rfl rfl (rfc_one _ _) rfl) ?_; rintro _ _ rfl); (iterate 3 refine qp ?_); refine qz ?_)
  refine hB _ _ _ _ _ rfl (.cell rfl rfl rfl inferInstance rfl (.tmp rfl (.tmp rfl (.tmp rfl .nil)))) fun w' hS => ⟨(m2, zA (pt b3 65 (mgc y q)) Z2), rfl, ⟨hI1, fun w3 h3 => hI2 w3 ⟨⟨h3.1, fun A hA => by
    obtain rfl : A = pt b3 65 (mgc y q) := by simpa using hA
    exact zA_l h3.2⟩, zA_r h3.2⟩⟩, zA_in (sub_st (H' := [pt b3 65 (mgc y q), Z2]) w' hS)⟩
end Go.Proofs.YtdeffdldifepkaaGreat
namespace Go.Proofs.YtdeffdldifepkaaGreat
open Go.RowKit
open Asn (pt row rb)
set_option linter.unusedVariables false
set_option linter.unusedSimpArgs false
--@use N

deriving instance DecidableEq for Rs
deriving instance DecidableEq for Ms
def yW : Ms := ⟨2, 2, 1, 1, (0, 0), [], 0, true, 0, [], []⟩
def qW : Mp := ⟨none, 0, 0, none, 0, 0, none, 0, 0, []⟩
theorem mg_builtW : Tryz.prog.built 65 [(0, .int .i64 2), (1, .int .i64 2), (2, .int .i64 1), (3, .int .u64 1), (7, .bool true)] = some (mgc yW qW).toArray := by kernel_rfl
theorem msr_nil (w : World) {x : Ms} (h1 : x.es = []) (h2 : x.cf = []) (h3 : x.dt = []) : MsR w x qW := by
  obtain ⟨a1, a2, a3, a4, a5, es, a7, a8, a9, cf, dt⟩ := x
  dsimp only at h1 h2 h3
  subst h1 h2 h3
  exact ⟨rfl, Nat.zero_le _, rfl, Rd.none_, fun m hm => absurd hm (by simp [qW]), rfl, Nat.zero_le _, Rd.none_, Bs.nil _ _⟩
/-- the server that the laws ask first, behind so many ticks -/
def wkX (i : Nat) : Rs := if i < 4 then ⟨1, 0, 0, (0, 0), [], [1, 2, 3], 0, 1, 0, (i : Int), 4, [], []⟩ else ⟨1, 0, 0, (0, 0), [], [1, 2, 3], 0, 2, 0, 0, 4, [1], []⟩
def wkM (i : Nat) : List Ms := if i < 4 then [] else [{ ms0 with K := 1, F := 1, T := 2, tm := 1 }, { ms0 with K := 1, F := 1, T := 3, tm := 1 }]
def wkU : Rs := ⟨1, 1, 1, (0, 0), [], [1, 2, 3], 0, 3, 0, 0, 4, [1], []⟩
def wkN : List Ms := [{ ms0 with K := 3, F := 1, T := 2, tm := 1 }, { ms0 with K := 3, F := 1, T := 3, tm := 1 }]
theorem wkX_u (i : Nat) (h : i ≤ 4) : RsU (wkX i) := by
  have : i = 0 ∨ i = 1 ∨ i = 2 ∨ i = 3 ∨ i = 4 := by omega
  rcases this with rfl | rfl | rfl | rfl | rfl <;> exact ⟨by decide, by decide, by decide, by decide, fun p hp => absurd hp (by decide +revert)⟩
theorem wake_tick (w : World) (i : Nat) (hi : i < 4) (p : Rp) (h : RfR w (wkX i) p) :
    Gives Tryz.prog 14 [.agg (rfc (wkX i) p).toArray, .int .i64 4] [] w (X := Mm × Asn) (fun y => .tuple #[.agg (rfc (wkX (i + 1)) y.1.p).toArray, .slice y.1.sA y.1.S.length y.1.sc, zi 0]) (fun y => y.1.S.map Prod.fst = wkM (i + 1) ∧ ∀ w', y.2.holds w' → SrvR w' (wkX (i + 1)) y.1) (fun y => [y.2]) := by
  have : i = 0 ∨ i = 1 ∨ i = 2 ∨ i = 3 := by omega
  rcases this with rfl | rfl | rfl | rfl
  · refine tick_ok w (wkX 0) p h 4 (by decide +kernel) (by decide) (by decide) (wkX 1) (wkM 1) (wkX_u _ (by decide)) (by decide) (by decide) (fun w1 g m D bl hS hD hM hL hm0 hbl => ?_)
    rw [show wkX 1 = { wkX 0 with clock := (wkX 0).clock + 1 } from by decide +kernel]
    exact tick_idle w1 g (wkX 0) m hS D hD hM hL bl 4 hbl (by decide) (by decide) (by decide) (by decide)
  · refine tick_ok w (wkX 1) p h 4 (by decide +kernel) (by decide) (by decide) (wkX 2) (wkM 2) (wkX_u _ (by decide)) (by decide) (by decide) (fun w1 g m D bl hS hD hM hL hm0 hbl => ?_)
    rw [show wkX 2 = { wkX 1 with clock := (wkX 1).clock + 1 } from by decide +kernel]
    exact tick_idle w1 g (wkX 1) m hS D hD hM hL bl 4 hbl (by decide) (by decide) (by decide) (by decide)
  · refine tick_ok w (wkX 2) p h 4 (by decide +kernel) (by decide) (by decide) (wkX 3) (wkM 3) (wkX_u _ (by decide)) (by decide) (by decide) (fun w1 g m D bl hS hD hM hL hm0 hbl => ?_)
    rw [show wkX 3 = { wkX 2 with clock := (wkX 2).clock + 1 } from by decide +kernel]
    exact tick_idle w1 g (wkX 2) m hS D hD hM hL bl 4 hbl (by decide) (by decide) (by decide) (by decide)
  · refine tick_ok w (wkX 3) p h 4 (by decide +kernel) (by decide) (by decide) (wkX 4) (wkM 4) (wkX_u _ (by decide)) (by decide) (by decide) (fun w1 g m D bl hS hD hM hL hm0 hbl => ?_)
    rw [show wkX 4 = askX { wkX 3 with clock := 0, limit := 4 } from by decide +kernel, show wkM 4 = (felL (wkX 3)).flatMap (fun n => [{ ms0 with K := 1, F := (wkX 3).me, T := n, tm := (wkX 3).term + 1, pl := lastP (wkX 3) }]) from by decide +kernel]
    exact tick_ask w1 g (wkX 3) m hS D hD hM hL bl 4 hbl (by decide) (by decide) (by decide) (by decide) (by decide +kernel) (by decide +kernel) (by decide) (by decide +kernel) (by rw [hm0]; decide)
theorem wake_take (w : World) (p : Rp) (h : RfR w (wkX 4) p) :
    Gives Tryz.prog 24 [.agg (rfc (wkX 4) p).toArray, .agg (mgc yW qW).toArray] [] w (X := Mm × Asn) (fun z => .tuple #[.agg (rfc wkU z.1.p).toArray, .slice z.1.sA z.1.S.length z.1.sc, .bool false, zi 0]) (fun z => z.1.S.map Prod.fst = wkN ∧ ∀ w', K2 (fun _ => True) z.2 w' → SrvR w' wkU z.1) (fun z => [z.2]) := by
  refine take_ok w (wkX 4) p h yW qW (fun _ => True) (fun _ _ => trivial) (fun w' _ => msr_nil w' rfl rfl rfl) (fun m hm => absurd hm (by simp [qW])) (by decide) (by decide) (by decide +kernel) (by decide +kernel) wkU wkN false ⟨by decide, by decide, by decide, by decide, fun p hp => absurd hp (by simp [wkU])⟩ (by decide) (by decide) (fun w1 g m D bx hS hD hM hL hm0 hmi hbx hmq => ?_)
  refine take1_same w1 g (wkX 4) m hS D hD hM hL yW qW bx hbx (.inr (.inr ⟨rfl, rfl⟩)) wkU wkN false 143 ⟨_, Tryz.func143, rfl, by kernel_rfl⟩ rfl (fun w2 D2 hS2 hD2 hk2 => ?_)
  rw [show wkU = stdX { wkX 4 with votes := vtsL (wkX 4).votes yW.F } from by decide +kernel, show wkN = (felL (wkX 4)).flatMap (fun n => [{ ms0 with K := 3, F := (wkX 4).me, T := n, tm := (wkX 4).term + 1, pl := lastP (wkX 4) }]) from by decide +kernel, ← hmi]
  exact would_stand w2 g (wkX 4) m hS2 D2 hD2 (fun w' h' => hM w' (hk2 w' h')) hL (by decide +kernel) (by simp [C.Up_, wkX]) (by decide) (by decide) yW qW (by decide) rfl (by decide) (by decide +kernel) (by decide +kernel) (by rw [hm0]; decide)
set_option maxRecDepth 100000 in
set_option maxHeartbeats 4000000 in
theorem three_any (w : World) :
    Gives Tryz.prog 36 [] [] w (X := Option Addr × Nat) (fun x => C.cfv x.1 3 x.2) (fun _ => True) (fun x => [row 3 1 x.1 3 x.2 (([1, 2, 3] : List Int).map zv)]) := by
  refine gives_C Tryz.func36 rfl Tryz.ntmps36 Tryz.results36 (by simp) (St.enter w) (fun B hB => ?_)
  focus (refine qs ?_; (refine qe (E_alloca rfl C.cf_alloc) ?_; rintro _ _ ⟨b4, rfl, rfl⟩); refine qn ?_; (refine qe (E_litr (m := 3) (vs := [zv 1, zv 2, zv 3]) rfl rfl rfl rfl rfl rfl rfl (by simp [zv, Value.oneCell']) (by decide) rfl) ?_; rintro _ _ ⟨bl, rfl, rfl⟩); refine qt (T_build1 rfl (C.cf_built1 _ _ _)) ?_; (refine qw (E_storew (cs := [.slice none 0 0]) (ds := [.slice (some ⟨bl, 0, none⟩) 3 3]) rfl rfl rfl rfl (C.sl_one _ _ _) rfl) ?_; rintro _ _ rfl); refine qz ?_)
  refine hB _ _ _ _ _ rfl (.cell rfl rfl rfl inferInstance rfl .nil) fun w' hS => ⟨(some ⟨bl, 0, none⟩, 3), rfl, trivial, sub_st (H' := [row 3 1 (some ⟨bl, 0, none⟩) 3 3 [zv 1, zv 2, zv 3]]) w' hS⟩
theorem wake_start (w : World) (cA : Option Addr) (cc : Nat) (h : Rd w All 1 cA 3 (([1, 2, 3] : List Int).map zv)) :
    Gives Tryz.prog 10 [.int .i64 1, .int .u64 0, .int .i64 0, .agg (lgc (0, 0) none 0 0).toArray, C.cfv cA 3 cc, .int .i64 4] [] w (X := Rp × Asn) (fun y => .tuple #[.agg (rfc (wkX 0) y.1).toArray, zi 0]) (fun y => ∀ w', y.2.holds w' → RfR w' (wkX 0) y.1) (fun y => [y.2]) :=
  (start_ok w 1 0 0 (0, 0) [] [1, 2, 3] 4 none 0 0 [] cA 3 cc ⟨⟨rfl, Nat.le_of_ble_eq_true rfl, Nat.le_refl _, rfl, Rd.none_, fun m hm => absurd hm (by simp), fun m hm => absurd hm (by simp), rfl, Nat.le_of_ble_eq_true rfl, h⟩, rfl, Nat.le_of_ble_eq_true rfl, Rd.none_, rfl, Nat.le_of_ble_eq_true rfl, Rd.none_, wkX_u 0 (by decide)⟩ (by decide +kernel)).mono fun u w' ⟨q, he, ⟨hq, h1, h2, h3, h4⟩, hS⟩ => ⟨(q, bun (rfO (wkX 0) q)), he, fun w2 h5 => rfO_rf (bun_all h5) hq (by rw [h1]; decide) (by rw [h2]; decide) (by rw [h3]; decide) (by rw [h4]; decide) (fun e he => absurd he (by simp [wkX])) (wkX_u 0 (by decide)), bun_in (L := rfO (wkX 0) q) (H := []) hS⟩
theorem s_at {S : List (Ms × Mp)} {l : List Ms} (h : S.map Prod.fst = l) (j : Nat) (y : Ms) (hy : l[j]? = some y) : (cellsL sgc S)[j * 12]? = some (.int .i64 y.K) ∧ (cellsL sgc S)[j * 12 + 3]? = some (.int .u64 (y.tm : Int)) := by
  have hj : j < S.length := by
    have := (List.getElem?_eq_some_iff.1 hy).1
    rw [← h, List.length_map] at this
    exact this
  have e : (S.getD j (ms0, qW)).1 = y := by
    rw [← h, List.getElem?_map] at hy
    simp [List.getD, hj] at hy ⊢
    exact hy
  have h0 := cellsL_at (f := sgc) sgc_len S (ms0, qW) j hj 0 (.int .i64 y.K) (by rw [← e]; rfl)
  exact ⟨h0, cellsL_at (f := sgc) sgc_len S (ms0, qW) j hj 3 (.int .u64 (y.tm : Int)) (by rw [← e]; rfl)⟩
theorem s_len {S : List (Ms × Mp)} {l : List Ms} (h : S.map Prod.fst = l) : S.length = l.length := by rw [← h, List.length_map]
theorem wake_take2 (w : World) (p : Rp) (h : RfR w (wkX 4) p) :
    Gives Tryz.prog 24 [.agg (rfc (wkX 4) p).toArray, .agg (mgc yW qW).toArray] [] w (X := Mm × Asn) (fun z => .tuple #[.agg (rfc wkU z.1.p).toArray, .slice z.1.sA z.1.S.length z.1.sc, .bool false, zi 0]) (fun z => z.1.S.map Prod.fst = wkN ∧ (∀ w', K2 (fun _ => True) z.2 w' → SrvR w' wkU z.1) ∧ z.1.sA ≠ none) (fun z => [z.2]) :=
  (wake_take w p h).mono fun u w' ⟨z, he, ⟨hm, hR⟩, hS⟩ => ⟨z, he, ⟨hm, hR, by
    obtain ⟨ad, e, _⟩ := ((hR w' ⟨trivial, hS.at_ (A := z.2) (by simp)⟩).rs).2 (by rw [s_len hm]; decide)
    rw [e]; simp⟩, hS⟩
set_option maxRecDepth 100000 in
set_option maxHeartbeats 4000000 in
theorem wakes15_any (w : World) : Gives Tryz.prog 9 [] [] w (X := Unit) (fun _ => .bool true) (fun _ => True) (fun _ => []) := by
  refine gives_S Tryz.func9 rfl Tryz.ntmps9 Tryz.results9 (by simp) (St.enter w) (fun B hB => ?_)
  focus (refine qs ?_; refine qp ?_; refine qn ?_; refine qt (T_build0 lg_built0) ?_; (refine qe (E_hv1 (f := 36) ⟨_, Tryz.func36, rfl, by kernel_rfl⟩ (fun w hS => three_any w) rfl rfl (fun _ => rfl)) ?_; rintro _ _ ⟨⟨cA, cc⟩, rfl, _, rfl⟩); (refine qe (E_hv1 (f := 10) ⟨_, Tryz.func10, rfl, by kernel_rfl⟩ (fun w1 hS1 => wake_start w1 cA cc (row_rd (hS1.at_ (A := row 3 1 cA 3 cc (([1, 2, 3] : List Int).map zv)) (by simp)))) rfl rfl (fun _ => rfl)) ?_; rintro _ _ ⟨⟨q0, Z0⟩, rfl, hq0, rfl⟩; dsimp only at hq0); (iterate 3 refine qp ?_); (refine qe (E_alloca rfl rf_zero) ?_; rintro _ _ ⟨b1, rfl, rfl⟩); (refine qw (E_storew (cs := rfc rs0 rp0) (ds := rfc (wkX 0) q0) rfl rfl rfl rfl (rfc_one _ _) rfl) ?_; rintro _ _ rfl); refine qp ?_; refine qz ?_; refine qq ?_; refine qs ?_; refine qp ?_; refine qf ?_; refine qz ?_; refine qF ?_; refine qx ?_; refine qs ?_; refine qp ?_; refine qz ?_; refine qq ?_; refine qs ?_; refine qp ?_; refine qz ?_; refine qb ?_)
  refine S_loop (X := Nat × (Rp × Option Addr × Nat × List Value) × Asn) (fun z => [(1, .pointer (some ⟨b1, 0, none⟩)), (3, .slice z.2.1.2.1 (wkM z.1).length z.2.1.2.2.1), (12, .int .i64 (z.1 : Int))]) (fun z => [z.2.2, pt b1 42 (rfc (wkX z.1) z.2.1.1)]) (fun z => z.1 ≤ 4 ∧ (∀ w', z.2.2.holds w' → RfR w' (wkX z.1) z.2.1.1) ∧ (z.1 = 4 → (∀ w', z.2.2.holds w' → Rd w' All 12 z.2.1.2.1 2 z.2.1.2.2.2) ∧ z.2.1.2.2.2[0]? = some (.int .i64 1) ∧ z.2.1.2.2.2[3]? = some (.int .u64 1))) (fun z => 4 - z.1) rfl (0, (q0, none, 0, []), Z0) ⟨Nat.zero_le _, hq0, fun h => absurd (show 0 = 4 from h) (by decide)⟩ (Sub.cons rfl (Sub.cons rfl (Sub.cons rfl Sub.nil))) (fun w hS => sub_st (H' := [Z0, pt b1 42 (rfc (wkX 0) q0)]) w hS) ?_
  rintro ⟨i, ⟨q, A, c, xs⟩, Z⟩ ⟨hi, hR, h4⟩ J hJ
  dsimp only at hi hR h4 ⊢
  rcases Nat.lt_or_ge i 4 with hil | hil
  · skip
    focus (refine qs ?_; refine qd ?_; refine qz ?_; refine qq ?_; refine qT ?_; refine qx ?_; refine qq ?_; refine qb ?_; refine qs ?_; refine qt (T_loads (ds := rfc (wkX i) q) rfl rfl rfl rfl rfl) ?_; (refine qe (E_hv1 (f := 14) ⟨_, Tryz.func14, rfl, by kernel_rfl⟩ (fun w1 hS1 => wake_tick w1 i hil q (hR w1 (hS1.at_ (A := Z) (by simp)))) rfl rfl (fun _ => rfl)) ?_; rintro _ _ ⟨⟨m, Z2⟩, rfl, ⟨hm, hR2⟩, rfl⟩; dsimp only at hm hR2); (iterate 4 refine qp ?_); (refine qw (E_storew (cs := rfc (wkX i) q) (ds := rfc (wkX (i + 1)) m.p) rfl rfl rfl rfl (rfc_one _ _) rfl) ?_; rintro _ _ rfl); refine qp ?_; refine qp ?_; refine qn ?_; refine qp ?_; refine qf ?_; refine qz ?_; refine qF ?_; refine qx ?_; refine RS_blk ?_; refine qr ?_; refine qt (T_addN rfl rfl (by unfold fits; omega)) ?_; refine qp ?_; refine qz ?_)
    have hml := s_len hm
    rw [hml]
    refine hJ (i + 1, (m.p, m.sA, m.sc, cellsL sgc m.S), Z2) _ _ ⟨by dsimp only; omega, fun w' h' => (hR2 w' h').rf, fun h5 => ?_⟩ (Sub.cons rfl (Sub.cons rfl (Sub.cons rfl Sub.nil))) (fun w' hS => sub_st (H' := [Z2, pt b1 42 (rfc (wkX (i + 1)) m.p)]) w' hS) (by show 4 - (i + 1) < _; omega)
    have h5 : i + 1 = 4 := h5
    rw [h5] at hm hR2 hml
    refine ⟨fun w' h' => ?_, (s_at hm 0 _ rfl).1, (s_at hm 0 _ rfl).2⟩
    have := (hR2 w' h').rs
    rwa [hml] at this
  obtain rfl : i = 4 := by omega
  obtain ⟨h41, h42, h43⟩ := h4 rfl
  obtain ⟨hTr⟩ : Nonempty (Kd (fun _ => True) [] w) := ⟨fun _ _ => trivial⟩
  refine RS_fact (fun w' hS => by obtain ⟨ad, e, _⟩ := (h41 w' (hS.at_ (A := Z) (by simp))).2 (by decide); exact (show A ≠ none by rw [e]; simp)) fun hne => ?_
  focus (refine qs ?_; refine qf ?_; refine qz ?_; refine qq ?_; refine qF ?_; refine S_exit rfl rfl ?_; refine qq ?_; refine qs ?_; (iterate 5 refine qp ?_); refine qt (T_ixM (sz := 12) rfl rfl rfl rfl rfl rfl hne (by decide)) ?_; refine qt (T_fap rfl rfl rfl rfl rfl hne) ?_; refine qt (T_ldr rfl rfl rfl (Srd.kn (As := []) (D := fun _ => True) (Z := Z) hTr (fun w' h' => h41 w' h'.2)) (by decide) h42) ?_; refine qf ?_; (iterate 3 refine qp ?_); refine qt (T_ixM (sz := 12) rfl rfl rfl rfl rfl rfl hne (by decide)) ?_; refine qt (T_fap rfl rfl rfl rfl rfl hne) ?_; refine qt (T_ldr rfl rfl rfl (Srd.kn (As := []) (D := fun _ => True) (Z := Z) hTr (fun w' h' => h41 w' h'.2)) (by decide) h43) ?_; refine qf ?_; refine qp ?_; refine qz ?_; refine qF ?_; refine qx ?_; refine qs ?_)
  focus (refine qt (T_loads (ds := rfc (wkX 4) q) rfl rfl rfl rfl rfl) ?_; refine qt (T_build5 rfl rfl rfl rfl rfl mg_builtW) ?_; (refine qe (E_hv1 (f := 24) ⟨_, Tryz.func24, rfl, by kernel_rfl⟩ (fun w1 hS1 => wake_take2 w1 q (hR w1 (hS1.at_ (A := Z) (by simp)))) rfl rfl (fun _ => rfl)) ?_; rintro _ _ ⟨⟨m, Z2⟩, rfl, ⟨hm, hR2, hne2⟩, rfl⟩; dsimp only at hm hR2 hne2 ⊢; rw [(s_len hm : m.S.length = 2)]); (iterate 5 refine qp ?_); (refine qw (E_storew (cs := rfc (wkX 4) q) (ds := rfc wkU m.p) rfl rfl rfl rfl (rfc_one _ _) rfl) ?_; rintro _ _ rfl); refine qp ?_; refine qp ?_; refine qn ?_; refine qp ?_; refine qd ?_; (iterate 7 refine qp ?_))
  have hml : m.S.length = 2 := s_len hm
  have h51 : ∀ w', K2 (fun _ => True) Z2 w' → Rd w' All 12 m.sA 2 (cellsL sgc m.S) := fun w' h' => by
    have := (hR2 w' h').rs
    rwa [hml] at this
  have h52 := (s_at hm 1 _ rfl).1
  focus (refine qt (T_ixM (sz := 12) rfl rfl rfl rfl rfl rfl hne2 (by decide)) ?_; refine qt (T_fap rfl rfl rfl rfl rfl hne2) ?_; refine qt (T_ldr rfl rfl rfl (Srd.kn (As := []) (D := fun _ => True) (Z := Z2) hTr h51) (by decide) h52) ?_; (iterate 4 refine qp ?_); refine qt (T_load (v := .int .u64 1) rfl rfl rfl rfl) ?_; refine qd ?_; refine qp ?_; refine qp ?_; refine qz ?_)
  exact hB _ _ _ _ _ rfl rfl fun w' hS => ⟨(), rfl, trivial, hS.sublist (List.nil_sublist _)⟩
end Go.Proofs.YtdeffdldifepkaaGreat
namespace Go.Proofs.YtdeffdldifepkaaGreat
open Go.RowKit Go.ChangeShapes Go.WideShapes Go.ChangeAt
open Asn (pt row rb)
set_option linter.unusedVariables false
set_option linter.unusedSimpArgs false
--@use N

/-- all of it can be read there, however long -/
structure RfW (w : World) (x : Rs) (p : Rp) : Prop where
  hn : p.Q.length = p.n
  hc : p.n ≤ p.c
  hm : p.n ≤ maxLen
  hQ : p.Q.map emv = x.es
  rq : Rd w All 3 p.A p.n (cellsL emc p.Q)
  bq : ∀ m ∈ p.Q, BsM w m
  hcn : x.cf.length = p.cn
  hcm : p.cn ≤ maxLen
  rc : Rd w All 1 p.cA p.cn (x.cf.map zv)
  hvn : x.votes.length = p.vn
  hvm : p.vn ≤ maxLen
  rv : Rd w All 1 p.vA p.vn (x.votes.map zv)
  hpn : x.peers.length = p.pn
  hpm : p.pn ≤ maxLen
  rp : Rd w All 3 p.pA p.pn (cellsL pec x.peers)
  hu : RsU x
theorem RfW.keep {w w' : World} {x : Rs} {p : Rp} (h : RfW w x p) (hk : Kp All w w') : RfW w' x p := ⟨h.hn, h.hc, h.hm, h.hQ, h.rq.keep hk, fun m hm => Bs.keep (h.bq m hm) hk, h.hcn, h.hcm, h.rc.keep hk, h.hvn, h.hvm, h.rv.keep hk, h.hpn, h.hpm, h.rp.keep hk, h.hu⟩
/-- nothing is large -/
structure Small (p : Rp) : Prop where
  n : p.n ≤ 200
  cn : p.cn ≤ 50
  vn : p.vn ≤ 50
  pn : p.pn ≤ 50
  d : ∀ m ∈ p.Q, m.2.2.2.2.length ≤ 5000
theorem RfW.rf {w : World} {x : Rs} {p : Rp} (h : RfW w x p) (s : Small p) : RfR w x p :=
  ⟨⟨h.hn, Nat.le_trans s.n (by decide), h.hc, h.hQ, h.rq, h.bq, fun m hm => Nat.le_trans (s.d m hm) (by decide), h.hcn, Nat.le_trans s.cn (by decide), h.rc⟩, h.hvn, Nat.le_trans s.vn (by decide), h.rv, h.hpn, Nat.le_trans s.pn (by decide), h.rp, h.hu⟩
section
variable {H : Type} {enc : TypeId × Value → H} {W : World}
set_option maxRecDepth 100000 in
theorem op_entryB {cs : List Value} (h : Op_ enc Tryz.prog W 59 cs) : ∃ m : Em, cs = emc m ∧ BsM W m ∧ m.1 < 18446744073709551616 := by
  obtain ⟨hl, hf⟩ := h.struct Tryz.underlying59
  have c0 : Tryz.prog.cellsOf 59 = 3 := by kernel_rfl
  have c1 : Tryz.prog.cellsOf 34 = 1 := by kernel_rfl
  have c2 : Tryz.prog.cellsOf 3 = 1 := by kernel_rfl
  have c3 : Tryz.prog.cellsOf 46 = 1 := by kernel_rfl
  rw [c0] at hl
  have g0 : Op_ enc Tryz.prog W 34 ((cs.drop 0).take (Tryz.prog.cellsOf 34)) := hf 0 _ rfl
  have g1 : Op_ enc Tryz.prog W 3 ((cs.drop 1).take (Tryz.prog.cellsOf 3)) := hf 1 _ rfl
  have g2 : Op_ enc Tryz.prog W 46 ((cs.drop 2).take (Tryz.prog.cellsOf 46)) := hf 2 _ rfl
  rw [c1] at g0
  rw [c2] at g1
  rw [c3] at g2
  obtain ⟨a, ha, hwa⟩ := Op_.int Tryz.underlying34 g0
  obtain ⟨b, hb, _⟩ := Op_.int Tryz.underlying3 g1
  obtain ⟨A, n, c, l, hc, hbs⟩ := Op_.bytes Tryz.underlying46 Tryz.underlying5 (by kernel_rfl) g2
  obtain ⟨k, rfl, hk⟩ := wf_u64 hwa
  have hln : l.length = n := by have := hbs.rd.1; simpa using this
  subst hln
  have hcap : l.length ≤ c := hbs.cap
  match cs, hl with
  | [u, v, w], _ =>
    simp at ha hb hc
    exact ⟨(k, b, A, c, l), by rw [ha, hb, hc]; rfl, hbs, hk⟩
set_option maxRecDepth 100000 in
theorem op_logB {cs : List Value} (h : Op_ enc Tryz.prog W 39 cs) : ∃ (a : At) (A : Option Addr) (c : Nat) (Q : List Em), cs = lgc a A Q.length c ∧ Rd W All 3 A Q.length (cellsL emc Q) ∧ (∀ m ∈ Q, BsM W m) ∧ Q.length ≤ c ∧ (c ≤ maxLen ∧ ∀ m ∈ Q, m.1 < 18446744073709551616) ∧ a.1 < 18446744073709551616 ∧ a.2 < 18446744073709551616 := by
  obtain ⟨hl, hf⟩ := h.struct Tryz.underlying39
  have c0 : Tryz.prog.cellsOf 39 = 3 := by kernel_rfl
  have c1 : Tryz.prog.cellsOf 36 = 2 := by kernel_rfl
  have c2 : Tryz.prog.cellsOf 37 = 1 := by kernel_rfl
  have c3 : Tryz.prog.cellsOf 34 = 1 := by kernel_rfl
  rw [c0] at hl
  have g0 : Op_ enc Tryz.prog W 36 ((cs.drop 0).take (Tryz.prog.cellsOf 36)) := hf 0 _ rfl
  have g1 : Op_ enc Tryz.prog W 37 ((cs.drop 2).take (Tryz.prog.cellsOf 37)) := hf 1 _ rfl
  rw [c1] at g0
  rw [c2] at g1
  obtain ⟨hl2, hf2⟩ := g0.struct Tryz.underlying36
  have g2 : Op_ enc Tryz.prog W 34 (((((cs.drop 0).take 2)).drop 0).take (Tryz.prog.cellsOf 34)) := hf2 0 _ rfl
  have g3 : Op_ enc Tryz.prog W 34 (((((cs.drop 0).take 2)).drop 1).take (Tryz.prog.cellsOf 34)) := hf2 1 _ rfl
  rw [c3] at g2 g3
  obtain ⟨i, hi, hwi⟩ := Op_.int Tryz.underlying34 g2
  obtain ⟨t, ht, hwt⟩ := Op_.int Tryz.underlying34 g3
  obtain ⟨i, rfl, hi2⟩ := wf_u64 hwi
  obtain ⟨t, rfl, ht2⟩ := wf_u64 hwt
  obtain ⟨A, n, c, xs, hcs, h1, h2, h3, h4⟩ := g1.slice Tryz.underlying37 (size := 3) (by kernel_rfl)
  obtain ⟨Q, hQ, rfl, hall⟩ := rows_of (n := 0) (size := 3) (f := emc) emc_len (fun m : Em => BsM W m ∧ m.1 < 18446744073709551616) _ _ h3.1 fun i hi => op_entryB (h4 i hi)
  subst hQ
  refine ⟨(i, t), A, c, Q, ?_, h3, fun m hm => (hall m hm).1, h1, ⟨h2, fun m hm => (hall m hm).2⟩, hi2, ht2⟩
  match cs, hl with
  | [u, v, w], _ =>
    simp at hi ht hcs
    rw [hi, ht, hcs]
    rfl
set_option maxRecDepth 100000 in
theorem op_peer {cs : List Value} (h : Op_ enc Tryz.prog W 112 cs) : ∃ m : Pe, cs = pec m ∧ m.2.1 < 18446744073709551616 ∧ m.2.2 < 18446744073709551616 := by
  obtain ⟨hl, hf⟩ := h.struct Tryz.underlying112
  have c0 : Tryz.prog.cellsOf 112 = 3 := by kernel_rfl
  have c1 : Tryz.prog.cellsOf 34 = 1 := by kernel_rfl
  have c2 : Tryz.prog.cellsOf 3 = 1 := by kernel_rfl
  rw [c0] at hl
  have g0 : Op_ enc Tryz.prog W 3 ((cs.drop 0).take (Tryz.prog.cellsOf 3)) := hf 0 _ rfl
  have g1 : Op_ enc Tryz.prog W 34 ((cs.drop 1).take (Tryz.prog.cellsOf 34)) := hf 1 _ rfl
  have g2 : Op_ enc Tryz.prog W 34 ((cs.drop 2).take (Tryz.prog.cellsOf 34)) := hf 2 _ rfl
  rw [c2] at g0
  rw [c1] at g1 g2
  obtain ⟨a, ha, _⟩ := Op_.int Tryz.underlying3 g0
  obtain ⟨b, hb, hwb⟩ := Op_.int Tryz.underlying34 g1
  obtain ⟨d, hd, hwd⟩ := Op_.int Tryz.underlying34 g2
  obtain ⟨k, rfl, hk⟩ := wf_u64 hwb
  obtain ⟨k2, rfl, hk2⟩ := wf_u64 hwd
  match cs, hl with
  | [u, v, w], _ =>
    simp at ha hb hd
    exact ⟨(a, k, k2), by rw [ha, hb, hd]; rfl, hk, hk2⟩
set_option maxRecDepth 100000 in
theorem op_raft {cs : List Value} (h : Op_ enc Tryz.prog W 42 cs) : ∃ (x : Rs) (p : Rp), cs = rfc x p ∧ RfW W x p := by
  obtain ⟨hl, hf⟩ := h.struct Tryz.underlying42
  have c0 : Tryz.prog.cellsOf 42 = 14 := by kernel_rfl
  have zint : Tryz.prog.cellsOf 3 = 1 := by kernel_rfl
  have zu64 : Tryz.prog.cellsOf 34 = 1 := by kernel_rfl
  have zlog : Tryz.prog.cellsOf 39 = 3 := by kernel_rfl
  have zcf : Tryz.prog.cellsOf 33 = 1 := by kernel_rfl
  have zints : Tryz.prog.cellsOf 31 = 1 := by kernel_rfl
  have zprs : Tryz.prog.cellsOf 40 = 1 := by kernel_rfl
  rw [c0] at hl
  have g0 : Op_ enc Tryz.prog W 3 ((cs.drop 0).take (Tryz.prog.cellsOf 3)) := hf 0 _ rfl
  rw [zint] at g0
  have g1 : Op_ enc Tryz.prog W 34 ((cs.drop 1).take (Tryz.prog.cellsOf 34)) := hf 1 _ rfl
  rw [zu64] at g1
  have g2 : Op_ enc Tryz.prog W 3 ((cs.drop 2).take (Tryz.prog.cellsOf 3)) := hf 2 _ rfl
  rw [zint] at g2
  have g3 : Op_ enc Tryz.prog W 39 ((cs.drop 3).take (Tryz.prog.cellsOf 39)) := hf 3 _ rfl
  rw [zlog] at g3
  have g4 : Op_ enc Tryz.prog W 33 ((cs.drop 6).take (Tryz.prog.cellsOf 33)) := hf 4 _ rfl
  rw [zcf] at g4
  have g5 : Op_ enc Tryz.prog W 34 ((cs.drop 7).take (Tryz.prog.cellsOf 34)) := hf 5 _ rfl
  rw [zu64] at g5
  have g6 : Op_ enc Tryz.prog W 3 ((cs.drop 8).take (Tryz.prog.cellsOf 3)) := hf 6 _ rfl
  rw [zint] at g6
  have g7 : Op_ enc Tryz.prog W 3 ((cs.drop 9).take (Tryz.prog.cellsOf 3)) := hf 7 _ rfl
  rw [zint] at g7
  have g8 : Op_ enc Tryz.prog W 3 ((cs.drop 10).take (Tryz.prog.cellsOf 3)) := hf 8 _ rfl
  rw [zint] at g8
  have g9 : Op_ enc Tryz.prog W 3 ((cs.drop 11).take (Tryz.prog.cellsOf 3)) := hf 9 _ rfl
  rw [zint] at g9
  have g10 : Op_ enc Tryz.prog W 31 ((cs.drop 12).take (Tryz.prog.cellsOf 31)) := hf 10 _ rfl
  rw [zints] at g10
  have g11 : Op_ enc Tryz.prog W 40 ((cs.drop 13).take (Tryz.prog.cellsOf 40)) := hf 11 _ rfl
  rw [zprs] at g11
  obtain ⟨me, e0, _⟩ := Op_.int Tryz.underlying3 g0
  obtain ⟨vt, e2, _⟩ := Op_.int Tryz.underlying3 g2
  obtain ⟨ro, e6, _⟩ := Op_.int Tryz.underlying3 g6
  obtain ⟨ld, e7, _⟩ := Op_.int Tryz.underlying3 g7
  obtain ⟨ck, e8, _⟩ := Op_.int Tryz.underlying3 g8
  obtain ⟨lim, e9, _⟩ := Op_.int Tryz.underlying3 g9
  obtain ⟨tm, e1, w1⟩ := Op_.int Tryz.underlying34 g1
  obtain ⟨tm, rfl, u1⟩ := wf_u64 w1
  obtain ⟨cm, e5, w5⟩ := Op_.int Tryz.underlying34 g5
  obtain ⟨cm, rfl, u5⟩ := wf_u64 w5
  obtain ⟨⟨p1, p2⟩, A, c, Q, e3, h31, h32, h33, h34, u31, u32⟩ := op_logB g3
  obtain ⟨hl4, hf4⟩ := g4.struct Tryz.underlying33
  have g4' : Op_ enc Tryz.prog W 31 ((((cs.drop 6).take 1).drop 0).take (Tryz.prog.cellsOf 31)) := hf4 0 _ rfl
  rw [zints] at g4'
  obtain ⟨cA, cn, cc, zs, e4, h41, h42, h43, _⟩ := Op_.ints (k := .i64) Tryz.underlying31 Tryz.underlying3 (by kernel_rfl) g4'
  obtain ⟨vA, vn, vc, vs, e10, h101, h102, h103, _⟩ := Op_.ints (k := .i64) Tryz.underlying31 Tryz.underlying3 (by kernel_rfl) g10
  obtain ⟨pA, pn, pc, xs, e11, h111, h112, h113, h114⟩ := g11.slice Tryz.underlying40 (size := 3) (by kernel_rfl)
  obtain ⟨L, hL, rfl, hall⟩ := rows_of (n := 0) (size := 3) (f := pec) pec_len (fun m : Pe => m.2.1 < 18446744073709551616 ∧ m.2.2 < 18446744073709551616) _ _ h113.1 fun i hi => op_peer (h114 i hi)
  have hlz : zs.length = cn := by have := h43.1; simpa using this
  have hlv : vs.length = vn := by have := h103.1; simpa using this
  subst hL
  match cs, hl with
  | [v0, v1, v2, v3, v4, v5, v6, v7, v8, v9, v10, v11, v12, v13], _ =>
    simp at e0 e1 e2 e3 e4 e5 e6 e7 e8 e9 e10 e11
    have e3 : v3 = .int .u64 (p1 : Int) ∧ v4 = .int .u64 (p2 : Int) ∧ v5 = .slice A Q.length c := by simpa [lgc] using e3
    refine ⟨⟨me, tm, vt, (p1, p2), Q.map emv, zs, cm, ro, ld, ck, lim, vs, L⟩, ⟨A, Q.length, c, Q, cA, cn, cc, vA, vn, vc, pA, L.length, pc⟩, ?_, ⟨rfl, h33, Nat.le_trans h33 h34.1, rfl, h31, h32, hlz, Nat.le_trans h41 h42, h43, hlv, Nat.le_trans h101 h102, h103, rfl, Nat.le_trans h111 h112, h113, ⟨u1, u31, u32, u5, hall⟩⟩⟩
    rw [e0, e1, e2, e3.1, e3.2.1, e3.2.2, e4, e5, e6, e7, e8, e9, e10, e11]
    rfl
set_option maxRecDepth 100000 in
theorem open_raft {r : Reach} {base : Nat} {v : Value} {d : DataW H} {p : List MemPlace} (hv : Value.okWide Tryz.prog W r base 42 v) (h : DataW.Trod enc Tryz.prog W 0 (fun _ => true) true 42 v d p) :
    ∃ (x : Rs) (p : Rp), v = .agg (rfc x p).toArray ∧ RfW W x p := by
  obtain ⟨Z, rfl, hZ⟩ := okWide_struct Tryz.underlying42 hv
  obtain ⟨x, p, hcs, h1⟩ := op_raft (Op_.of_trod h)
  refine ⟨x, p, ?_, h1⟩
  have e : Z = (Z.toList).toArray := by simp
  have hcs : Z.toList = rfc x p := hcs
  rw [e, hcs]
end
set_option maxRecDepth 100000 in
set_option maxHeartbeats 4000000 in
theorem large15_any (w : World) (x : Rs) (p : Rp) (h : RfW w x p) :
    Gives Tryz.prog 18 [.agg (rfc x p).toArray] [] w (X := Bool) (fun y => .bool y) (fun y => y = false ↔ Small p) (fun _ => []) := by
  refine gives_S Tryz.func18 rfl Tryz.ntmps18 Tryz.results18 (by simp) (St.enter w) (fun B hB => ?_)
  have hnm := h.hm
  have hln := h.hn
  have hcm := h.hcm
  have hvm := h.hvm
  have hpm := h.hpm
  unfold maxLen at hnm hcm hvm hpm
  have hne : 0 < p.n → p.A ≠ none := fun h0 => by obtain ⟨ad, e, _⟩ := h.rq.2 h0; rw [e]; simp
  by_cases h0 : 200 < p.n
  · focus (refine qs ?_; (refine qe (E_boxa (cs := rfc x p) rfl) ?_; rintro _ _ ⟨b1, rfl, rfl⟩); refine qp ?_; refine qz ?_; refine qq ?_; refine qs ?_; refine qp ?_; refine qp ?_; refine qt (T_load rfl rfl rfl rfl) ?_; refine qp ?_; refine qd ?_; refine qp ?_; (iterate 5 refine qk ?_); (iterate 2 refine qp ?_; refine qp ?_; (iterate 4 refine qk ?_)); refine qp ?_; refine qz ?_; refine qT ?_; refine qs ?_; refine qp ?_; refine qz ?_)
    exact hB _ _ _ _ _ rfl rfl fun w' hS => ⟨true, rfl, ⟨fun e => (by cases e), fun s => absurd s (fun s => by have := s.n; have := s.cn; have := s.vn; have := s.pn; omega)⟩, hS.sublist (List.nil_sublist _)⟩
  by_cases h1 : 50 < p.cn
  · focus (refine qs ?_; (refine qe (E_boxa (cs := rfc x p) rfl) ?_; rintro _ _ ⟨b1, rfl, rfl⟩); refine qp ?_; refine qz ?_; refine qq ?_; refine qs ?_; refine qp ?_; refine qp ?_; refine qt (T_load rfl rfl rfl rfl) ?_; refine qp ?_; refine qf ?_; (iterate 3 refine qp ?_); refine qt (T_load rfl rfl rfl rfl) ?_; refine qp ?_; refine qd ?_; (iterate 2 refine qp ?_; refine qp ?_; (iterate 4 refine qk ?_)); refine qp ?_; refine qz ?_; refine qT ?_; refine qs ?_; refine qp ?_; refine qz ?_)
    exact hB _ _ _ _ _ rfl rfl fun w' hS => ⟨true, rfl, ⟨fun e => (by cases e), fun s => absurd s (fun s => by have := s.n; have := s.cn; have := s.vn; have := s.pn; omega)⟩, hS.sublist (List.nil_sublist _)⟩
  by_cases h2 : 50 < p.vn
  · focus (refine qs ?_; (refine qe (E_boxa (cs := rfc x p) rfl) ?_; rintro _ _ ⟨b1, rfl, rfl⟩); refine qp ?_; refine qz ?_; refine qq ?_; refine qs ?_; (iterate 2 refine qp ?_; refine qp ?_; refine qt (T_load rfl rfl rfl rfl) ?_; refine qp ?_; refine qf ?_; refine qp ?_); refine qp ?_; refine qp ?_; refine qt (T_load rfl rfl rfl rfl) ?_; refine qp ?_; refine qd ?_; refine qp ?_; refine qp ?_; (iterate 4 refine qk ?_); refine qp ?_; refine qz ?_; refine qT ?_; refine qs ?_; refine qp ?_; refine qz ?_)
    exact hB _ _ _ _ _ rfl rfl fun w' hS => ⟨true, rfl, ⟨fun e => (by cases e), fun s => absurd s (fun s => by have := s.n; have := s.cn; have := s.vn; have := s.pn; omega)⟩, hS.sublist (List.nil_sublist _)⟩
  by_cases h3 : 50 < p.pn
  · focus (refine qs ?_; (refine qe (E_boxa (cs := rfc x p) rfl) ?_; rintro _ _ ⟨b1, rfl, rfl⟩); refine qp ?_; refine qz ?_; refine qq ?_; refine qs ?_; (iterate 3 refine qp ?_; refine qp ?_; refine qt (T_load rfl rfl rfl rfl) ?_; refine qp ?_; refine qf ?_; refine qp ?_); refine qp ?_; refine qp ?_; refine qt (T_load rfl rfl rfl rfl) ?_; refine qp ?_; refine qd ?_; refine qp ?_; refine qz ?_; refine qT ?_; refine qs ?_; refine qp ?_; refine qz ?_)
    exact hB _ _ _ _ _ rfl rfl fun w' hS => ⟨true, rfl, ⟨fun e => (by cases e), fun s => absurd s (fun s => by have := s.n; have := s.cn; have := s.vn; have := s.pn; omega)⟩, hS.sublist (List.nil_sublist _)⟩
  focus (refine qs ?_; (refine qe (E_boxa (cs := rfc x p) rfl) ?_; rintro _ _ ⟨b1, rfl, rfl⟩); refine qp ?_; refine qz ?_; refine qq ?_; refine qs ?_; (iterate 4 refine qp ?_; refine qp ?_; refine qt (T_load rfl rfl rfl rfl) ?_; refine qp ?_; refine qf ?_; refine qp ?_); refine qz ?_; refine qF ?_; refine qx ?_; refine qq ?_; refine qs ?_; refine qp ?_; refine qp ?_; refine qt (T_load rfl rfl rfl rfl) ?_; refine qp ?_; refine qp ?_; refine qz ?_; refine qb ?_)
  refine S_loop (X := Nat) (fun j => [(1, .pointer (some ⟨b1, 0, none⟩)), (31, .slice p.A p.n p.c), (32, .int .i64 (p.n : Int)), (33, .int .i64 (j : Int))]) (fun _ => [pt b1 42 (rfc x p)]) (fun j => j ≤ p.n ∧ ∀ i, i < j → (p.Q.getD i default).2.2.2.2.length ≤ 5000) (fun j => p.n - j) rfl 0 ⟨Nat.zero_le _, fun i hi => absurd hi (Nat.not_lt_zero _)⟩ (Sub.cons rfl (Sub.cons rfl (Sub.cons rfl (Sub.cons rfl Sub.nil)))) sub_st ?_
  rintro j ⟨hj, hok⟩ J hJ
  rcases Nat.lt_or_ge j p.n with hjl | hjl
  · have hne := hne (by omega)
    have hat := cellsL_at (f := emc) emc_len p.Q default j (by omega)
    obtain ⟨m, hm⟩ : ∃ m, p.Q.getD j default = m := ⟨_, rfl⟩
    rw [hm] at hat
    obtain ⟨t, ki, D, cd, bs⟩ := m
    by_cases h4 : 5000 < bs.length
    · focus (refine qs ?_; refine qd ?_; refine qz ?_; refine qq ?_; refine qT ?_; refine qx ?_; refine qq ?_; refine qb ?_; refine qs ?_; refine qt (T_ixM (sz := 3) (q := j) rfl rfl rfl rfl rfl rfl hne hjl) ?_; refine qt (T_lda (ds := emc (t, ki, D, cd, bs)) rfl rfl rfl (Srd.old h.rq (fun k _ => noOwns k)) rfl (by omega) hat) ?_; (refine qe (E_alloca rfl em_zero) ?_; rintro _ _ ⟨b4, rfl, rfl⟩); (refine qw (E_storew (cs := emc (0, 0, none, 0, [])) (ds := emc (t, ki, D, cd, bs)) rfl rfl rfl rfl (emc_one _) rfl) ?_; rintro _ _ rfl); refine qn ?_; refine qp ?_; refine qt (T_load (v := .slice D bs.length cd) rfl rfl rfl rfl) ?_; refine qp ?_; refine qd ?_; refine qz ?_; refine qT ?_; refine qs ?_; refine qp ?_; refine qz ?_)
      exact hB _ _ _ _ _ rfl rfl fun w' hS => ⟨true, rfl, ⟨fun e => (by cases e), fun s => absurd (s.d _ (show p.Q.getD j default ∈ p.Q by simp [List.getD, show j < p.Q.length by omega])) (by rw [hm]; show ¬ bs.length ≤ 5000; omega)⟩, hS.sublist (List.nil_sublist _)⟩
    · focus (refine qs ?_; refine qd ?_; refine qz ?_; refine qq ?_; refine qT ?_; refine qx ?_; refine qq ?_; refine qb ?_; refine qs ?_; refine qt (T_ixM (sz := 3) (q := j) rfl rfl rfl rfl rfl rfl hne hjl) ?_; refine qt (T_lda (ds := emc (t, ki, D, cd, bs)) rfl rfl rfl (Srd.old h.rq (fun k _ => noOwns k)) rfl (by omega) hat) ?_; (refine qe (E_alloca rfl em_zero) ?_; rintro _ _ ⟨b4, rfl, rfl⟩); (refine qw (E_storew (cs := emc (0, 0, none, 0, [])) (ds := emc (t, ki, D, cd, bs)) rfl rfl rfl rfl (emc_one _) rfl) ?_; rintro _ _ rfl); refine qn ?_; refine qp ?_; refine qt (T_load (v := .slice D bs.length cd) rfl rfl rfl rfl) ?_; refine qp ?_; refine qf ?_; refine qz ?_; refine qF ?_; refine qx ?_; refine RS_blk ?_; refine qr ?_; refine qt (T_addN rfl rfl (by unfold fits; omega)) ?_; refine qp ?_; refine qz ?_)
      refine hJ (j + 1) _ _ ⟨by omega, fun i hi => ?_⟩ (Sub.cons rfl (Sub.cons rfl (Sub.cons rfl (Sub.cons rfl Sub.nil)))) sub_st (by omega)
      rcases Nat.lt_or_ge i j with h5 | h5
      · exact hok i h5
      · rw [show i = j by omega, hm]
        show bs.length ≤ 5000
        omega
  · skip
    focus (refine qs ?_; refine qf ?_; refine qz ?_; refine qq ?_; refine qF ?_; refine S_exit rfl rfl ?_; refine qs ?_; refine qp ?_; refine qz ?_)
    refine hB _ _ _ _ _ rfl rfl fun w' hS => ⟨false, rfl, ⟨fun _ => ⟨by omega, by omega, by omega, by omega, fun m hm => ?_⟩, fun _ => rfl⟩, hS.sublist (List.nil_sublist _)⟩
    obtain ⟨i, hi, rfl⟩ := List.getElem_of_mem hm
    have := hok i (by omega)
    simpa [List.getD, hi] using this
theorem large15_k (w : World) (x : Rs) (p : Rp) (h : RfW w x p) (r : Bool) (hr : r = false ↔ Small p) :
    Gives Tryz.prog 18 [.agg (rfc x p).toArray] [] w (X := Unit) (fun _ => .bool r) (fun _ => True) (fun _ => []) :=
  (large15_any w x p h).mono fun u w' ⟨y, he, hy, hS⟩ => by
    obtain rfl : y = r := by cases y <;> cases r <;> simp_all
    exact ⟨(), he, trivial, hS⟩
end Go.Proofs.YtdeffdldifepkaaGreat
