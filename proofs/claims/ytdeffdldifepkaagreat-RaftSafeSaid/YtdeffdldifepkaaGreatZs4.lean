/- Lemmas of the proof, part 4. -/
import Derived.Test.YtdeffdldifepkaaGreatZs3
set_option maxRecDepth 100000
set_option maxHeartbeats 4000000
namespace Go.Proofs.YtdeffdldifepkaaGreat
open Go.RowKit
open Asn (pt row rb)
set_option linter.unusedVariables false
set_option linter.unusedSimpArgs false
def iy (m:Mm) (n:Nat) (A:Option Addr) (c:Nat):Mm:=⟨⟨m.p.A,m.p.n,m.p.c,m.p.Q,m.p.cA,m.p.cn,m.p.cc,A,n,c,m.p.pA,m.p.pn,m.p.pc⟩,m.S,m.sA,m.sc,m.i⟩
theorem xW (l:List Int) (n:Int):(bg l n).length≤l.length+1:=by
 unfold bg
 split
 ·omega
 ·have:=C.uI l n
  simp
  omega
theorem vN (w:World) (A:Option Addr) (n c:Nat) (ms:List Int) (m:Int) (h:Rd w bC 1 A n (ms.map zv)) (hn:n≤1000) (hu:C.mI ms) (r:Bool) (hr:decide (m∈ms)=r):
  Gives Tryz.prog 163 [.slice A n c,zv m] [] w (X:=Unit) (fun _=> .tuple #[.int .i64 (C.cut ms m:Int),.bool r]) (fun _=>True) (fun _=>[]):=hr▸C.oq w A n c ms m h hn hu
theorem iz (w:World) (g:Nat) (x:Rs) (m:Mm) (hS0:St w (ar (mP g x m)) (mP g x m) w) (D:Kw) (hD:Kd D (mP g x m) w) (h: ∀ w',D w'→McR w' x m) (hl:McL x m) (h5:(aJ x).length≤5) (hup:C.mI x.votes) (hvm:x.votes.length≤900) (who:Int) (r:Bool) (hr:C.dD (aJ x) (bg x.votes who)=r):
  Gives Tryz.prog 172 [.pointer (some ⟨g,0,none⟩),.int .i64 who] (mP g x m) w (X:=(Option Addr×Nat)×Asn) (fun _=> .bool r) (fun _=>True) (fun y=>mP g {x with votes:=bg x.votes who} (iy m (bg x.votes who).length y.1.1 y.1.2)++[y.2]):=by
 refine aP Tryz.func172 O Tryz.ntmps172 Tryz.results172 (by simp) hS0 (fun B hB=>?_)
 have hvn:=hl.hvn
 have hvl:=xW x.votes who
 have hcl:C.cut x.votes who≤m.p.vn:=by rw[← hvn];exact C.uI _ _
 cases hin:decide (who∈x.votes)
 ·have e1:bg x.votes who=x.votes.take (C.cut x.votes who)++who::x.votes.drop (C.cut x.votes who):=if_neg (of_decide_eq_false hin)
  have e2:(bg x.votes who).length=m.p.vn+1:=by rw[e1];simp;omega
  have e3:(bg x.votes who).map zv=(x.votes.map zv).take (C.cut x.votes who)++zv who::(x.votes.map zv).drop (C.cut x.votes who):=by rw[e1,List.map_append,List.map_cons,List.map_take,List.map_drop]
  focus (refine qs ?_;refine qp ?_;refine qn ?_;refine qp ?_;refine qt (ac O) ?_;refine qp ?_;refine qp ?_;refine qt (ah O O O O) ?_;refine qp ?_;refine qh zB (fun w1 hS1=>vN w1 m.p.vA m.p.vn m.p.vc x.votes who (ce (hS1.at_ (A:=row 3 1 m.p.vA m.p.vn m.p.vc (x.votes.map zv)) (by simp))) (by omega) hup _ hin) ?_;(iterate 5 refine qp ?_);refine qz ?_;refine qq ?_;refine qs ?_;refine qp ?_;refine qt (aR O) ?_;refine qz ?_;refine qT ?_;refine qr ?_;refine qp ?_;refine qp ?_;refine qt (ac O) ?_;refine qp ?_;refine qp ?_;refine qt (ah O O O O) ?_;refine qp ?_;refine qp ?_;(refine qe (d7 (m:=1) (vs:=[zv who]) O O O O O O O (by simp[zv,Value.oneCell']) (by decide)) ?_;rintro _ _ ⟨vb,rfl,rfl⟩);(refine qe (Dn (A1:=row 3 1 m.p.vA m.p.vn m.p.vc (x.votes.map zv)) (A2:=pt vb 3 [zv who]) (f:=184) F6 (fun w1 hS1 hS2=>C.pJ w1 m.p.vA m.p.vn m.p.vc vb (C.cut x.votes who) (x.votes.map zv) (zv who) hcl (by omega) (C.kz _) O hS2) O O (fun _=>O)) ?_;rintro _ _ ⟨⟨AV,cV⟩,rfl,_,rfl⟩);refine qt (ac O) ?_;refine qp ?_;refine qp ?_;(refine qw (aw (cs:=aD x m) (cs':=aD x (iy m (m.p.vn+1) AV cV)) O O O O O O (by show _<16;omega)) ?_;rintro _ _ rfl);refine qz ?_;refine qq ?_)
  rw[← e3]
  rw[← e2]
  refine dS [pt g 89 (aD x (iy m (bg x.votes who).length AV cV))] 9 ?_
  refine dp 0 ?_
  refine dp 2 ?_
  refine dt 3 O (ac O) ?_
  refine dp 4 ?_
  refine dp 5 ?_
  refine dl 6 ?_
  refine dE 1 O (bB (f:=43) pk (fun w1 hS1=>du w1 g x (iy m (bg x.votes who).length AV cV) (bJ hS1 (by simp)) D (hD.call0 hS1) (fun w2 h2=>(h w2 h2).lg.like O O O O O O O O) (aJ x) O) O O (fun _=>O)) ?_
  rintro _ _ ⟨⟨⟨A3,K3,c3⟩,Z3⟩,rfl,hI3,rfl⟩
  refine nx ?_
  refine dE 7 O (aq (f:=111) sI (fun w1 hS1=>m6 w1 A3 AV (aJ x).length c3 (bg x.votes who).length cV (aJ x) (bg x.votes who) (hI3 w1 ⟨hD.at_ hS1,hS1.at_ (A:=Z3) (by simp)⟩) (ce (hS1.at_ (A:=row 3 1 AV (bg x.votes who).length cV ((bg x.votes who).map zv)) (by simp))) (by omega) (by omega) _ hr) O O (fun _=>O)) ?_
  rintro _ _ ⟨_,rfl,_,rfl⟩
  refine nx ?_
  refine dp 8 ?_
  refine dn ?_
  skip
  skip
  have hfin: ∀ w',St w (ar (mP g x m)) [Z3,pt g 89 (aD x (iy m (bg x.votes who).length AV cV)),row 3 1 AV (bg x.votes who).length cV ((bg x.votes who).map zv),row 112 3 m.p.pA m.p.pn m.p.pc (ab bp x.peers),row 65 12 m.sA m.S.length m.sc (ab bK m.S)] w'→ ∃ y:(Option Addr×Nat)×Asn,.bool r=Value.bool r∧True∧St w (ar (mP g x m)) (mP g {x with votes:=bg x.votes who} (iy m (bg x.votes who).length y.1.1 y.1.2)++[y.2]) w':=fun w' hS=>⟨((AV,cV),Z3),O,trivial,hS.perm (List.perm_append_comm (l₁:=[Z3]))⟩
  exact hB _ _ _ _ _ O O fun w' hS=>hfin w' (ae (H':=[Z3,pt g 89 (aD x (iy m (bg x.votes who).length AV cV)),row 3 1 AV (bg x.votes who).length cV ((bg x.votes who).map zv),row 112 3 m.p.pA m.p.pn m.p.pc (ab bp x.peers),row 65 12 m.sA m.S.length m.sc (ab bK m.S)]) w' hS)
 ·have e1:bg x.votes who=x.votes:=if_pos (of_decide_eq_true hin)
  obtain⟨AV,hAV⟩: ∃ A,m.p.vA=A:=⟨_,O⟩
  obtain⟨cV,hcV⟩: ∃ A,m.p.vc=A:=⟨_,O⟩
  have e4:iy m (bg x.votes who).length AV cV=m:=by rw[e1,hvn, ← hAV, ← hcV];rfl
  focus (refine qs ?_;refine qp ?_;refine qn ?_;refine qp ?_;refine qt (ac O) ?_;refine qp ?_;refine qp ?_;refine qt (ah O O O O) ?_;refine qp ?_;refine qh zB (fun w1 hS1=>vN w1 m.p.vA m.p.vn m.p.vc x.votes who (ce (hS1.at_ (A:=row 3 1 m.p.vA m.p.vn m.p.vc (x.votes.map zv)) (by simp))) (by omega) hup _ hin) ?_;refine qp ?_;(iterate 2 refine qp ?_;refine qd ?_);refine qz ?_;refine qq ?_;refine qs ?_;refine qd ?_;refine qt (aR O) ?_;refine qz ?_;refine qF ?_;refine qx ?_;refine qq ?_)
  refine eu (H':=[pt g 89 (aD x (iy m (bg x.votes who).length AV cV)),row 3 1 AV (bg x.votes who).length cV ((bg x.votes who).map zv),row 112 3 m.p.pA m.p.pn m.p.pc (ab bp x.peers),row 65 12 m.sA m.S.length m.sc (ab bK m.S)]) (fun w1 hS1=>?_) ?_
  ·rw[e4,e1,hvn, ← hAV, ← hcV]
   exact ae (H':=[pt g 89 (aD x m),row 3 1 m.p.vA m.p.vn m.p.vc (x.votes.map zv),row 112 3 m.p.pA m.p.pn m.p.pc (ab bp x.peers),row 65 12 m.sA m.S.length m.sc (ab bK m.S)]) w1 hS1
  refine dS [pt g 89 (aD x (iy m (bg x.votes who).length AV cV))] 9 ?_
  refine dp 0 ?_
  refine dp 2 ?_
  refine dt 3 O (ac O) ?_
  refine dp 4 ?_
  refine dp 5 ?_
  refine dl 6 ?_
  refine dE 1 O (bB (f:=43) pk (fun w1 hS1=>du w1 g x (iy m (bg x.votes who).length AV cV) (bJ hS1 (by simp)) D (hD.call0 hS1) (fun w2 h2=>(h w2 h2).lg.like O O O O O O O O) (aJ x) O) O O (fun _=>O)) ?_
  rintro _ _ ⟨⟨⟨A3,K3,c3⟩,Z3⟩,rfl,hI3,rfl⟩
  refine nx ?_
  refine dE 7 O (aq (f:=111) sI (fun w1 hS1=>m6 w1 A3 AV (aJ x).length c3 (bg x.votes who).length cV (aJ x) (bg x.votes who) (hI3 w1 ⟨hD.at_ hS1,hS1.at_ (A:=Z3) (by simp)⟩) (ce (hS1.at_ (A:=row 3 1 AV (bg x.votes who).length cV ((bg x.votes who).map zv)) (by simp))) (by omega) (by omega) _ hr) O O (fun _=>O)) ?_
  rintro _ _ ⟨_,rfl,_,rfl⟩
  refine nx ?_
  refine dp 8 ?_
  refine dn ?_
  skip
  skip
  have hfin: ∀ w',St w (ar (mP g x m)) [Z3,pt g 89 (aD x (iy m (bg x.votes who).length AV cV)),row 3 1 AV (bg x.votes who).length cV ((bg x.votes who).map zv),row 112 3 m.p.pA m.p.pn m.p.pc (ab bp x.peers),row 65 12 m.sA m.S.length m.sc (ab bK m.S)] w'→ ∃ y:(Option Addr×Nat)×Asn,.bool r=Value.bool r∧True∧St w (ar (mP g x m)) (mP g {x with votes:=bg x.votes who} (iy m (bg x.votes who).length y.1.1 y.1.2)++[y.2]) w':=fun w' hS=>⟨((AV,cV),Z3),O,trivial,hS.perm (List.perm_append_comm (l₁:=[Z3]))⟩
  exact hB _ _ _ _ _ O O fun w' hS=>hfin w' (ae (H':=[Z3,pt g 89 (aD x (iy m (bg x.votes who).length AV cV)),row 3 1 AV (bg x.votes who).length cV ((bg x.votes who).map zv),row 112 3 m.p.pA m.p.pn m.p.pc (ab bp x.peers),row 65 12 m.sA m.S.length m.sc (ab bK m.S)]) w' hS)
theorem p9 (w:World) (g:Nat) (x:Rs) (m:Mm) (hS0:St w (ar (mP g x m)) (mP g x m) w) (D:Kw) (hD:Kd D (mP g x m) w) (h: ∀ w',D w'→McR w' x m) (hl:McL x m) (h5:(aJ x).length≤5) (hup:C.mI x.votes) (hvm:x.votes.length≤900) (htm:x.term≤4611686018427387904) (y:Ms) (q:Mp) (hr2:x.role≠2):Mth g x x m [] m.i D 143 [.agg (aW y q).toArray] w:=by
 unfold Mth
 refine bO Tryz.func143 O Tryz.ntmps143 Tryz.results143 (by simp) hS0 (fun B hE hB=>?_)
 focus (refine qs ?_;(refine qe (ap (cs:=aW y q) O) ?_;rintro _ _ ⟨b3,rfl,rfl⟩);refine qz ?_;refine qq ?_)
 refine dS [pt b3 65 (aW y q),pt g 89 (aD x m)] 27 ?_
 refine dp 0 ?_
 refine dt 1 O (ac O) ?_
 refine dp 2 ?_
 refine dp 3 ?_
 refine dl 4 ?_
 refine eI 5 ?_
 refine dp 6 ?_
 refine dk 7 ?_
 refine dk 8 ?_
 refine dp 9 ?_
 refine dp 10 ?_
 refine dk 11 ?_
 refine dk 12 ?_
 refine dk 13 ?_
 refine dk 14 ?_
 refine dk 15 ?_
 refine dk 16 ?_
 refine dk 17 ?_
 refine dk 18 ?_
 refine dk 19 ?_
 refine dp 20 ?_
 refine dp 21 ?_
 refine dk 22 ?_
 refine dk 23 ?_
 refine dk 24 ?_
 refine dk 25 ?_
 refine dp 26 ?_
 refine dn ?_
 skip
 focus (refine qF ?_;refine qx ?_)
 have hfin:=fun(w':World)=>eg (w:=w) (M:=ar (mP g x m)) (g:=g) (x2:=x) (m2:=m) (D:=D) (ms:=m.S.map Prod.fst++[]) (ib:=m.i) ⟨by simp,O,hl,fun w2 h2=>h w2 h2.1⟩ (w':=w')
 first
 |exact hE _ _ fun w' hS=>hfin w' (ae w' hS)
 |exact hB _ _ _ _ O fun w' hS=>hfin w' (ae w' hS)
theorem qc (w:World) (g:Nat) (x:Rs) (m:Mm) (hS0:St w (ar (mP g x m)) (mP g x m) w) (D:Kw) (hD:Kd D (mP g x m) w) (h: ∀ w',D w'→McR w' x m) (hl:McL x m) (h5:(aJ x).length≤5) (hup:C.mI x.votes) (hvm:x.votes.length≤900) (htm:x.term≤4611686018427387904) (y:Ms) (q:Mp) (hr2:x.role=2) (hok:y.ok=false):Mth g x x m [] m.i D 143 [.agg (aW y q).toArray] w:=by
 unfold Mth
 refine bO Tryz.func143 O Tryz.ntmps143 Tryz.results143 (by simp) hS0 (fun B hE hB=>?_)
 rw[show aW y q=aW {y with ok:=false} q by rw[← hok]]
 focus (refine qs ?_;(refine qe (ap (cs:=aW {y with ok:=false} q) O) ?_;rintro _ _ ⟨b3,rfl,rfl⟩);refine qz ?_;refine qq ?_)
 refine dS [pt b3 65 (aW {y with ok:=false} q),pt g 89 (aD x m)] 27 ?_
 refine dp 0 ?_
 refine dt 1 O (ac O) ?_
 refine dp 2 ?_
 refine dp 3 ?_
 refine dl 4 ?_
 refine cZ 5 ?_
 refine dp 6 ?_
 refine dp 7 ?_
 refine dl 8 ?_
 refine dp 9 ?_
 refine dp 10 ?_
 refine dk 11 ?_
 refine dk 12 ?_
 refine dk 13 ?_
 refine dk 14 ?_
 refine dk 15 ?_
 refine dk 16 ?_
 refine dk 17 ?_
 refine dk 18 ?_
 refine dk 19 ?_
 refine dp 20 ?_
 refine dp 21 ?_
 refine dk 22 ?_
 refine dk 23 ?_
 refine dk 24 ?_
 refine dk 25 ?_
 refine dp 26 ?_
 refine dn ?_
 skip
 focus (refine qF ?_;refine qx ?_)
 have hfin:=fun(w':World)=>eg (w:=w) (M:=ar (mP g x m)) (g:=g) (x2:=x) (m2:=m) (D:=D) (ms:=m.S.map Prod.fst++[]) (ib:=m.i) ⟨by simp,O,hl,fun w2 h2=>h w2 h2.1⟩ (w':=w')
 first
 |exact hE _ _ fun w' hS=>hfin w' (ae w' hS)
 |exact hB _ _ _ _ O fun w' hS=>hfin w' (ae w' hS)
theorem qg (w:World) (g:Nat) (x:Rs) (m:Mm) (hS0:St w (ar (mP g x m)) (mP g x m) w) (D:Kw) (hD:Kd D (mP g x m) w) (h: ∀ w',D w'→McR w' x m) (hl:McL x m) (h5:(aJ x).length≤5) (hup:C.mI x.votes) (hvm:x.votes.length≤900) (htm:x.term≤4611686018427387904) (y:Ms) (q:Mp) (hr2:x.role=2) (hok:y.ok=true) (hyt:y.tm≠x.term+1):Mth g x x m [] m.i D 143 [.agg (aW y q).toArray] w:=by
 unfold Mth
 refine bO Tryz.func143 O Tryz.ntmps143 Tryz.results143 (by simp) hS0 (fun B hE hB=>?_)
 rw[show aW y q=aW {y with ok:=true} q by rw[← hok]]
 focus (refine qs ?_;(refine qe (ap (cs:=aW {y with ok:=true} q) O) ?_;rintro _ _ ⟨b3,rfl,rfl⟩);refine qz ?_;refine qq ?_)
 refine dS [pt b3 65 (aW {y with ok:=true} q),pt g 89 (aD x m)] 27 ?_
 refine dp 0 ?_
 refine dt 1 O (ac O) ?_
 refine dp 2 ?_
 refine dp 3 ?_
 refine dl 4 ?_
 refine cZ 5 ?_
 refine dp 6 ?_
 refine dp 7 ?_
 refine dl 8 ?_
 refine dp 9 ?_
 refine dp 10 ?_
 refine dp 11 ?_
 refine dt 12 O (ah (v:= .int .u64 (y.tm:Int)) O O O O) ?_
 refine dp 13 ?_
 refine dt 14 O (ac O) ?_
 refine dp 15 ?_
 refine dp 16 ?_
 refine dl 17 ?_
 (refine dt 18 O (aI O O (by unfold aH;omega)) ?_)
 refine eI 19 ?_
 refine dp 20 ?_
 refine dp 21 ?_
 refine dk 22 ?_
 refine dk 23 ?_
 refine dk 24 ?_
 refine dk 25 ?_
 refine dp 26 ?_
 refine dn ?_
 skip
 focus (refine qF ?_;refine qx ?_)
 have hfin:=fun(w':World)=>eg (w:=w) (M:=ar (mP g x m)) (g:=g) (x2:=x) (m2:=m) (D:=D) (ms:=m.S.map Prod.fst++[]) (ib:=m.i) ⟨by simp,O,hl,fun w2 h2=>h w2 h2.1⟩ (w':=w')
 first
 |exact hE _ _ fun w' hS=>hfin w' (ae w' hS)
 |exact hB _ _ _ _ O fun w' hS=>hfin w' (ae w' hS)
theorem tp (w:World) (g:Nat) (x:Rs) (m:Mm) (hS0:St w (ar (mP g x m)) (mP g x m) w) (D:Kw) (hD:Kd D (mP g x m) w) (h: ∀ w',D w'→McR w' x m) (hl:McL x m) (h5:(aJ x).length≤5) (hup:C.mI x.votes) (hvm:x.votes.length≤900) (htm:x.term≤4611686018427387904) (y:Ms) (q:Mp) (hr2:x.role=2) (hok:y.ok=true) (hyt:y.tm=x.term+1) (hmj:C.dD (aJ x) (bg x.votes y.F)=false):Mth g x {x with votes:=bg x.votes y.F} m [] m.i D 143 [.agg (aW y q).toArray] w:=by
 unfold Mth
 refine bO Tryz.func143 O Tryz.ntmps143 Tryz.results143 (by simp) hS0 (fun B hE hB=>?_)
 rw[show aW y q=aW {y with ok:=true} q by rw[← hok]]
 refine ez ?_
 focus (refine qs ?_;(refine qe (ap (cs:=aW {y with ok:=true} q) O) ?_;rintro _ _ ⟨b3,rfl,rfl⟩);refine qz ?_;refine qq ?_)
 refine dS [pt b3 65 (aW {y with ok:=true} q),pt g 89 (aD x m)] 27 ?_
 refine dp 0 ?_
 refine dt 1 O (ac O) ?_
 refine dp 2 ?_
 refine dp 3 ?_
 refine dl 4 ?_
 refine cZ 5 ?_
 refine dp 6 ?_
 refine dp 7 ?_
 refine dl 8 ?_
 refine dp 9 ?_
 refine dp 10 ?_
 refine dp 11 ?_
 refine dt 12 O (ah (v:= .int .u64 (y.tm:Int)) O O O O) ?_
 refine dp 13 ?_
 refine dt 14 O (ac O) ?_
 refine dp 15 ?_
 refine dp 16 ?_
 refine dl 17 ?_
 (refine dt 18 O (aI O O (by unfold aH;omega)) ?_)
 refine cZ 19 ?_
 refine dp 20 ?_
 refine dp 21 ?_
 refine dp 22 ?_
 refine dp 23 ?_
 refine dt 24 O (ah (v:= .int .i64 y.F) O O O O) ?_
 refine dE 25 O (cq (f:=172) (D:=D) (Z:=zN) (mP g x m) (fun z:(Option Addr×Nat)×Asn=>mP g {x with votes:=bg x.votes y.F} (iy m (bg x.votes y.F).length z.1.1 z.1.2)) hD ux (fun w1 _ hk hS1=>iz w1 g x m hS1 (K2 D zN) hk (fun w2 h2=>h w2 h2.1) hl h5 hup hvm y.F false hmj) O O) ?_
 rintro _ _ ⟨⟨⟨AV,cV⟩,ZV⟩,Z1,rfl,_,hold,hnew,rfl⟩;dsimp only[List.cons_append,List.nil_append]
 refine dV ?_
 refine dp 26 ?_
 refine dn ?_
 skip
 focus (refine qF ?_;refine qx ?_)
 have hfin:=fun(w':World)=>bR (w:=w) (M:=ar (mP g x m)) (g:=g) (x2:={x with votes:=bg x.votes y.F}) (m2:=(iy m (bg x.votes y.F).length AV cV)) (Z:=Z1) (D:=D) (ms:=m.S.map Prod.fst++[]) (ib:=m.i) ⟨by show m.S.map Prod.fst=_;simp,O,⟨O,hl.hpn⟩,fun w2 h2=>⟨(h w2 h2.1).lg.like O O O O O O O O,(h w2 h2.1).ms⟩⟩ (w':=w')
 first
 |exact hE _ _ fun w' hS=>hfin w' (ae w' hS)
 |exact hB _ _ _ _ O fun w' hS=>hfin w' (ae w' hS)
theorem lE (w:World) (g:Nat) (x:Rs) (m:Mm) (hS0:St w (ar (mP g x m)) (mP g x m) w) (D:Kw) (hD:Kd D (mP g x m) w) (h: ∀ w',D w'→McR w' x m) (hl:McL x m) (h5:(aJ x).length≤5) (hup:C.mI x.votes) (hvm:x.votes.length≤900) (htm:x.term≤4611686018427387904) (y:Ms) (q:Mp) (hr2:x.role=2) (hok:y.ok=true) (hyt:y.tm=x.term+1) (hmj:C.dD (aJ x) (bg x.votes y.F)=true) (hmj2:C.dD (aJ x) [x.me]=false) (hSm:m.S.length≤800):Mth g x (bf {x with votes:=bg x.votes y.F}) m ((dr x).flatMap (fun n=>[{gL with K:=3,F:=x.me,T:=n,tm:=x.term+1,pl:=lastP x}])) m.i D 143 [.agg (aW y q).toArray] w:=by
 unfold Mth
 refine bO Tryz.func143 O Tryz.ntmps143 Tryz.results143 (by simp) hS0 (fun B hE hB=>?_)
 rw[show aW y q=aW {y with ok:=true} q by rw[← hok]]
 refine ez ?_
 focus (refine qs ?_;(refine qe (ap (cs:=aW {y with ok:=true} q) O) ?_;rintro _ _ ⟨b3,rfl,rfl⟩);refine qz ?_;refine qq ?_)
 refine dS [pt b3 65 (aW {y with ok:=true} q),pt g 89 (aD x m)] 27 ?_
 refine dp 0 ?_
 refine dt 1 O (ac O) ?_
 refine dp 2 ?_
 refine dp 3 ?_
 refine dl 4 ?_
 refine cZ 5 ?_
 refine dp 6 ?_
 refine dp 7 ?_
 refine dl 8 ?_
 refine dp 9 ?_
 refine dp 10 ?_
 refine dp 11 ?_
 refine dt 12 O (ah (v:= .int .u64 (y.tm:Int)) O O O O) ?_
 refine dp 13 ?_
 refine dt 14 O (ac O) ?_
 refine dp 15 ?_
 refine dp 16 ?_
 refine dl 17 ?_
 (refine dt 18 O (aI O O (by unfold aH;omega)) ?_)
 refine cZ 19 ?_
 refine dp 20 ?_
 refine dp 21 ?_
 refine dp 22 ?_
 refine dp 23 ?_
 refine dt 24 O (ah (v:= .int .i64 y.F) O O O O) ?_
 refine dE 25 O (cq (f:=172) (D:=D) (Z:=zN) (mP g x m) (fun z:(Option Addr×Nat)×Asn=>mP g {x with votes:=bg x.votes y.F} (iy m (bg x.votes y.F).length z.1.1 z.1.2)) hD ux (fun w1 _ hk hS1=>iz w1 g x m hS1 (K2 D zN) hk (fun w2 h2=>h w2 h2.1) hl h5 hup hvm y.F true hmj) O O) ?_
 rintro _ _ ⟨⟨⟨AV,cV⟩,ZV⟩,Z1,rfl,_,hold,hnew,rfl⟩;dsimp only[List.cons_append,List.nil_append]
 refine dV ?_
 refine dp 26 ?_
 refine dn ?_
 skip
 focus (refine qT ?_;refine qr ?_;refine qp ?_;(refine qe (cq (f:=112) (D:=D) (Z:=Z1) (mP g {x with votes:=bg x.votes y.F} (iy m (bg x.votes y.F).length AV cV)) (fun z:Nat×(List (Ms×Mp)×Option Addr×Nat)×Asn=>mP g (bf {x with votes:=bg x.votes y.F}) (be (aL (iy m (bg x.votes y.F).length AV cV) z.1) z.2.1)) hD zw (fun w1 _ hk hS1=>vK w1 g {x with votes:=bg x.votes y.F} (iy m (bg x.votes y.F).length AV cV) hS1 (K2 D Z1) hk (fun w2 h2=>⟨(h w2 h2.1).lg.like O O O O O O O O,(h w2 h2.1).ms⟩) ⟨O,hl.hpn⟩ htm h5 hSm hmj2) O O) ?_;rintro _ _ ⟨⟨bv,⟨N,AN,cN⟩,ZN⟩,Z',rfl,⟨hI1,hI2⟩,hold2,hnew2,rfl⟩;dsimp only[List.cons_append,List.nil_append] at hI1 hI2 ⊢);refine qz ?_)
 have hfin:=fun(w':World)=>bR (w:=w) (M:=ar (mP g x m)) (g:=g) (x2:=(bf {x with votes:=bg x.votes y.F})) (m2:=(be (aL (iy m (bg x.votes y.F).length AV cV) bv) (N,AN,cN))) (Z:=Z') (D:=D) (ms:=m.S.map Prod.fst++((dr x).flatMap (fun n=>[{gL with K:=3,F:=x.me,T:=n,tm:=x.term+1,pl:=lastP x}]))) (ib:=m.i) ⟨by rw[← (show N.map Prod.fst=(dr x).flatMap (fun n=>[{gL with K:=3,F:=x.me,T:=n,tm:=x.term+1,pl:=lastP x}]) from hI1)];exact List.map_append,O,⟨O,hl.hpn⟩,fun w2 h2=>⟨(h w2 h2.1).lg.like O O O O O O O O,fun s hs=>by
   rcases List.mem_append.1 hs with hs|hs
   ·exact(h w2 h2.1).ms s hs
   ·exact hI2 w2 (hnew2 w2 h2) s hs⟩⟩ (w':=w')
 first
 |exact hE _ _ fun w' hS=>hfin w' (ae w' hS)
 |exact hB _ _ _ _ O fun w' hS=>hfin w' (ae w' hS)
section
variable {P:Program} {n:Nat} {w0:World} {M:Nat→Prop} {T:aF} {As H H1 Hr:List Asn} {dd:Option Tmp} {tt:TypeId} {pos:String} {af:Array Edge} {g:Option (Nat×Bool)} {x y z:Operand} {ts:Array TypeId} {f:FuncId} {xs:Array Operand} {vs vs':List Value} {X:Type} {V:X→Value} {I:X→Prop} {Z:Asn} {C:X→Asn} {D:Kw}
theorem zV [HasTab P] {t kt et:TypeId} {b:Nat} {f:Int→Option Value} {s:Int} {v:Value} {i ki:Ti} (hx:az T x=some (.map (some b))) (hy:az T y=some (zk s)) (hz:az T z=some v) (ht:ty P t=some i) (hi:i.desc= .map kt et) (hk:ty P kt=some ki) (hki:ki.desc= .int .i64):
  Ef P n w0 M T (D8 b f::H) ⟨none,.insert t x y z,tt,pos,af,g⟩ (fun _ H'=>H'=D8 b (fun r=>if r=s then some v else f r)::H):=(il (hr:=inferInstance) (tt:=tt) (pos:=pos) (af:=af) (g:=g) hx hy hz ht hi hk hki).same fun a w ha=>O
theorem zW {first:List Value} {E:Value→List Asn→Prop} (hx:az T x=some (.func (.func f) first.toArray #[])) (h:Ef P n w0 M T H ⟨dd,.call ⟨.value (.func f),(first.map Operand.const).toArray++xs,ts⟩,tt,pos,af,g⟩ E):
  Ef P n w0 M T H ⟨dd,.call ⟨.value x,xs,ts⟩,tt,pos,af,g⟩ E:=h.same fun a w ha=>by
 have e3:(first.map Operand.const).map a.eval=first:=by
  rw[List.map_map]
  conv=>rhs;rw[← List.map_id first]
  rfl
 have e2:(((first.map Operand.const).toArray++xs).map a.eval)=first.toArray++xs.map a.eval:=by
  rw[Array.map_append,List.map_toArray,e3]
 have e1:(a.eval (.func f))= .func (.func f) #[] #[]:=rfl
 simp[execOp,resolve,Deferred.ofValue,invoke,ha.eval hx,e2,e1]
theorem fg (T:aF) (us:List Value) (xs:Array Operand) (first:List Value) (hx:cg T xs.toList=some us):cg T ((first.map Operand.const).toArray++xs).toList=some (first++us):=by
 rw[Array.toList_append]
 induction first with
 |nil=>simpa using hx
 |cons u l ih=>
  have ih':cg T ((l.map Operand.const)++xs.toList)=some (l++us):=by simpa using ih
  simp[cg,az,ih']
theorem lq (first:List Value) (L:List Asn) (Q:X→List Asn) [h1:RemL H L H1] [h2:RemC H1 Z Hr] (hD:Kd D As w0) (hf:Fn_ P f) (hx0:az T x=some (.func (.func f) first.toArray #[]))
  (hc: ∀ w1,St w0 (ar As) (L++Z::Hr) w1→Kd (K2 D Z) L w1→St w1 (ar L) L w1→Gives P f vs' L w1 V I (fun x=>Q x++[C x])) (hx:cg T ((first.map Operand.const).toArray++xs).toList=some vs) (hv:vs=vs'):
  Ef P n w0 (ar As) T H ⟨dd,.call ⟨.value x,xs,ts⟩,tt,pos,af,g⟩ (fun u H'=> ∃ x Z',u=V x∧I x∧(∀ w,K2 D Z' w→K2 D Z w)∧(∀ w,K2 D Z' w→K2 (K2 D Z) (C x) w)∧H'=Q x++Z'::Hr):=
 zW hx0 (cq L Q hD hf hc hx hv)
theorem jY [HasTab P] {s:TypeId} {gb off m:Nat} {xs ds:List Value} {i:Ti} (hx:az T x=some (.pointer (some ⟨gb,off,none⟩))) (hs:ty P s=some i) (hi:fZ i.desc=true) (hr: ∀ w,St w0 M H w→Rd w bC 1 (some ⟨gb,0,none⟩) m xs) (hl:ds.length=i.size) (h0:0<m) (hd:(xs.drop off).take i.size=ds):
  Tk P n w0 M T H ⟨dd,.load s x,tt,pos,af,g⟩ (.agg ds.toArray):= .mk fun a w ha hS=>
 (ko (w0:=w) (M:=ar []) (H:=[]) (n:=n) (T:=T) hx hs hi (hr w hS) (fun k _=>ao k) hl h0 hd).run a w ha (St.enter w)
theorem ew {w:World} {b m j:Nat} {xs:List Value} {v:Value} (h:Rd w bC 1 (some ⟨b,0,none⟩) m xs) (hv:xs[j]? =some v):w.cell? ⟨b,j,none⟩=some v:=by
 have hl:=(List.getElem?_eq_some_iff.1 hv).1
 obtain⟨ad,e,_,hc⟩:=h.2 (by have:=h.1;omega)
 injection e with e
 subst e
 have:=hc j v hv
 rwa [d3,Nat.zero_add] at this
end
def wO (g:Nat) (r:Int):Option Value:=if r=7 then some (Value.func (.func 148) #[.pointer (some ⟨g,0,none⟩)] #[]) else if r=6 then some (Value.func (.func 147) #[.pointer (some ⟨g,0,none⟩)] #[]) else if r=5 then some (Value.func (.func 146) #[.pointer (some ⟨g,0,none⟩)] #[]) else if r=4 then some (Value.func (.func 145) #[.pointer (some ⟨g,0,none⟩)] #[]) else if r=3 then some (Value.func (.func 144) #[.pointer (some ⟨g,0,none⟩)] #[]) else if r=2 then some (Value.func (.func 143) #[.pointer (some ⟨g,0,none⟩)] #[]) else if r=1 then some (Value.func (.func 142) #[.pointer (some ⟨g,0,none⟩)] #[]) else none
theorem iA (w:World) (g:Nat):
  Gives Tryz.prog 73 [.pointer (some ⟨g,0,none⟩)] [] w (X:=Nat) (fun b=> .map (some b)) (fun _=>True) (fun b=>[D8 b (wO g)]):=by
 refine aP Tryz.func73 O Tryz.ntmps73 Tryz.results73 (by simp) (St.enter w) (fun B hB=>?_)
 repeat' (first|refine bM O ?_ O O|refine ax ?_|refine aa (gV O O) ?_ O O|refine au O ?_|refine al O O ?_|(refine an uw ?_ O O;rintro _ _ ⟨b3,rfl,rfl⟩)|(refine bh (zV O O O O O O O) ?_ O;rintro _ _ rfl))
 exact hB _ _ _ _ _ O O fun w' hS=>⟨b3,O,trivial,hS⟩
theorem mg (w:World) (g:Nat) (x:Rs) (m:Mm) (hS0:St w (ar (mP g x m)) (mP g x m) w) (D:Kw) (hD:Kd D (mP g x m) w) (h: ∀ w',D w'→McR w' x m) (hl:McL x m) (y:Ms) (q:Mp) (bx:Nat) (hbx: ∀ w',D w'→Rd w' bC 1 (some ⟨bx,0,none⟩) 12 (aW y q)) (hn: ¬ x.term<y.tm∨y.K=1∨(y.K=2∧y.ok=true)) (x2:Rs) (ms:List Ms) (ib:Bool) (fk:FuncId) (hfk:Fn_ Tryz.prog fk) (hfv:(wO g y.K).getD .nilFunc= .func (.func fk) #[.pointer (some ⟨g,0,none⟩)] #[])
  (hM: ∀ (w1:World) (D1:Kw),St w1 (ar (mP g x m)) (mP g x m) w1→Kd D1 (mP g x m) w1→(∀ w',D1 w'→D w')→Mth g x x2 m ms ib D1 fk [.agg (aW y q).toArray] w1):Mth g x x2 m ms ib D 71 [.pointer (some ⟨bx,0,none⟩)] w:=by
 unfold Mth
 refine bO Tryz.func71 O Tryz.ntmps71 Tryz.results71 (by simp) hS0 (fun B hE hB=>?_)
 refine ez ?_
 rcases hn with hn|hn|⟨hn,hok⟩
 ·skip
  focus (refine qq ?_;refine qq ?_;(refine dQ 23 ?_;(refine dp 0 ?_);(refine dt 1 O (cT (v:= .int .u64 (y.tm:Int)) O O O (fun w1 hS1=>ew (j:=3) (hbx w1 (hD.at_ hS1)) O)) ?_);(refine dp 2 ?_);(refine dt 3 O (ac O) ?_);(refine dp 4 ?_);(refine dp 5 ?_);(refine dl 6 ?_);(refine eI 7 ?_);(refine dp 8 ?_);(refine dk 9 ?_);(refine dk 10 ?_);(refine dk 11 ?_);(refine dp 12 ?_);(refine dp 13 ?_);(refine dk 14 ?_);(refine dk 15 ?_);(refine dk 16 ?_);(refine dk 17 ?_);(refine dk 18 ?_);(refine dk 19 ?_);(refine dk 20 ?_);(refine dk 21 ?_);(refine dp 22 ?_);refine dn ?_);refine qF ?_;refine qx ?_)
  refine dS [] 7 ?_
  refine dp 0 ?_
  refine dp 2 ?_
  refine dt 3 O (cT (v:= .int .i64 y.K) O O O (fun w1 hS1=>ew (j:=0) (hbx w1 (hD.at_ hS1)) O)) ?_
  refine dt 5 O (jY (m:=12) (xs:=aW y q) (ds:=aW y q) O O O (fun w1 hS1=>hbx w1 (hD.at_ hS1)) O (by decide) O) ?_
  refine dE 1 O (bB (f:=73) Ar (fun w1 hS1=>iA w1 g) O O (fun _=>O)) ?_
  rintro _ _ ⟨bm,rfl,_,rfl⟩
  refine gF ae ?_
  refine dt 4 O (gA (b:=bm) (s:=y.K) (f:=wO g) O O O O O O O hfv) ?_
  refine dE 6 O (lq (D:=D) (Z:=zN) (f:=fk) [.pointer (some ⟨g,0,none⟩)] (mP g x m) (fun z:Mm×Asn=>mP g x2 z.1) hD hfk O (fun w1 _ hk hS1=>hM w1 (K2 D zN) hS1 hk (fun w2 h2=>h2.1)) (fg _ [.agg (aW y q).toArray] _ [.pointer (some ⟨g,0,none⟩)] O) O) ?_
  rintro _ _ ⟨⟨m2,Z2⟩,Z',rfl,⟨hI1,hI2,hI3,hI4⟩,hold,hnew,rfl⟩;dsimp only[List.cons_append,List.nil_append] at hI1 hI2 hI3 hI4 ⊢
  refine dV ?_
  refine dn ?_
  skip
  skip
  have hfin:=fun(w':World)=>bR (w:=w) (M:=ar (mP g x m)) (g:=g) (x2:=x2) (m2:=m2) (Z:=Z') (D:=D) (ms:=m.S.map Prod.fst++ms) (ib:=ib) ⟨hI1,hI2,hI3,fun w3 h3=>hI4 w3 (hnew w3 h3)⟩ (w':=w')
  first
  |exact hE _ _ fun w' hS=>hfin w' (ae w' hS)
  |exact hB _ _ _ _ O fun w' hS=>hfin w' (ae w' hS)
 ·skip
  by_cases hlt:x.term<y.tm
  ·focus (refine qq ?_;refine qq ?_;(refine dQ 23 ?_;(refine dp 0 ?_);(refine dt 1 O (cT (v:= .int .u64 (y.tm:Int)) O O O (fun w1 hS1=>ew (j:=3) (hbx w1 (hD.at_ hS1)) O)) ?_);(refine dp 2 ?_);(refine dt 3 O (ac O) ?_);(refine dp 4 ?_);(refine dp 5 ?_);(refine dl 6 ?_);(refine cZ 7 ?_);(refine dp 8 ?_);(refine dp 9 ?_);(refine dt 10 O (cT (v:= .int .i64 y.K) O O O (fun w1 hS1=>ew (j:=0) (hbx w1 (hD.at_ hS1)) O)) ?_);(refine eI 11 ?_);(refine dp 12 ?_);(refine dp 13 ?_);(refine dk 14 ?_);(refine dk 15 ?_);(refine dk 16 ?_);(refine dk 17 ?_);(refine dk 18 ?_);(refine dk 19 ?_);(refine dk 20 ?_);(refine dk 21 ?_);(refine dp 22 ?_);refine dn ?_);refine qF ?_;refine qx ?_)
   refine dS [] 7 ?_
   refine dp 0 ?_
   refine dp 2 ?_
   refine dt 3 O (cT (v:= .int .i64 y.K) O O O (fun w1 hS1=>ew (j:=0) (hbx w1 (hD.at_ hS1)) O)) ?_
   refine dt 5 O (jY (m:=12) (xs:=aW y q) (ds:=aW y q) O O O (fun w1 hS1=>hbx w1 (hD.at_ hS1)) O (by decide) O) ?_
   refine dE 1 O (bB (f:=73) Ar (fun w1 hS1=>iA w1 g) O O (fun _=>O)) ?_
   rintro _ _ ⟨bm,rfl,_,rfl⟩
   refine gF ae ?_
   refine dt 4 O (gA (b:=bm) (s:=y.K) (f:=wO g) O O O O O O O hfv) ?_
   refine dE 6 O (lq (D:=D) (Z:=zN) (f:=fk) [.pointer (some ⟨g,0,none⟩)] (mP g x m) (fun z:Mm×Asn=>mP g x2 z.1) hD hfk O (fun w1 _ hk hS1=>hM w1 (K2 D zN) hS1 hk (fun w2 h2=>h2.1)) (fg _ [.agg (aW y q).toArray] _ [.pointer (some ⟨g,0,none⟩)] O) O) ?_
   rintro _ _ ⟨⟨m2,Z2⟩,Z',rfl,⟨hI1,hI2,hI3,hI4⟩,hold,hnew,rfl⟩;dsimp only[List.cons_append,List.nil_append] at hI1 hI2 hI3 hI4 ⊢
   refine dV ?_
   refine dn ?_
   skip
   skip
   have hfin:=fun(w':World)=>bR (w:=w) (M:=ar (mP g x m)) (g:=g) (x2:=x2) (m2:=m2) (Z:=Z') (D:=D) (ms:=m.S.map Prod.fst++ms) (ib:=ib) ⟨hI1,hI2,hI3,fun w3 h3=>hI4 w3 (hnew w3 h3)⟩ (w':=w')
   first
   |exact hE _ _ fun w' hS=>hfin w' (ae w' hS)
   |exact hB _ _ _ _ O fun w' hS=>hfin w' (ae w' hS)
  ·focus (refine qq ?_;refine qq ?_;(refine dQ 23 ?_;(refine dp 0 ?_);(refine dt 1 O (cT (v:= .int .u64 (y.tm:Int)) O O O (fun w1 hS1=>ew (j:=3) (hbx w1 (hD.at_ hS1)) O)) ?_);(refine dp 2 ?_);(refine dt 3 O (ac O) ?_);(refine dp 4 ?_);(refine dp 5 ?_);(refine dl 6 ?_);(refine eI 7 ?_);(refine dp 8 ?_);(refine dk 9 ?_);(refine dk 10 ?_);(refine dk 11 ?_);(refine dp 12 ?_);(refine dp 13 ?_);(refine dk 14 ?_);(refine dk 15 ?_);(refine dk 16 ?_);(refine dk 17 ?_);(refine dk 18 ?_);(refine dk 19 ?_);(refine dk 20 ?_);(refine dk 21 ?_);(refine dp 22 ?_);refine dn ?_);refine qF ?_;refine qx ?_)
   refine dS [] 7 ?_
   refine dp 0 ?_
   refine dp 2 ?_
   refine dt 3 O (cT (v:= .int .i64 y.K) O O O (fun w1 hS1=>ew (j:=0) (hbx w1 (hD.at_ hS1)) O)) ?_
   refine dt 5 O (jY (m:=12) (xs:=aW y q) (ds:=aW y q) O O O (fun w1 hS1=>hbx w1 (hD.at_ hS1)) O (by decide) O) ?_
   refine dE 1 O (bB (f:=73) Ar (fun w1 hS1=>iA w1 g) O O (fun _=>O)) ?_
   rintro _ _ ⟨bm,rfl,_,rfl⟩
   refine gF ae ?_
   refine dt 4 O (gA (b:=bm) (s:=y.K) (f:=wO g) O O O O O O O hfv) ?_
   refine dE 6 O (lq (D:=D) (Z:=zN) (f:=fk) [.pointer (some ⟨g,0,none⟩)] (mP g x m) (fun z:Mm×Asn=>mP g x2 z.1) hD hfk O (fun w1 _ hk hS1=>hM w1 (K2 D zN) hS1 hk (fun w2 h2=>h2.1)) (fg _ [.agg (aW y q).toArray] _ [.pointer (some ⟨g,0,none⟩)] O) O) ?_
   rintro _ _ ⟨⟨m2,Z2⟩,Z',rfl,⟨hI1,hI2,hI3,hI4⟩,hold,hnew,rfl⟩;dsimp only[List.cons_append,List.nil_append] at hI1 hI2 hI3 hI4 ⊢
   refine dV ?_
   refine dn ?_
   skip
   skip
   have hfin:=fun(w':World)=>bR (w:=w) (M:=ar (mP g x m)) (g:=g) (x2:=x2) (m2:=m2) (Z:=Z') (D:=D) (ms:=m.S.map Prod.fst++ms) (ib:=ib) ⟨hI1,hI2,hI3,fun w3 h3=>hI4 w3 (hnew w3 h3)⟩ (w':=w')
   first
   |exact hE _ _ fun w' hS=>hfin w' (ae w' hS)
   |exact hB _ _ _ _ O fun w' hS=>hfin w' (ae w' hS)
 ·skip
  by_cases hlt:x.term<y.tm
  ·focus (refine qq ?_;refine qq ?_;(refine dQ 23 ?_;(refine dp 0 ?_);(refine dt 1 O (cT (v:= .int .u64 (y.tm:Int)) O O O (fun w1 hS1=>ew (j:=3) (hbx w1 (hD.at_ hS1)) O)) ?_);(refine dp 2 ?_);(refine dt 3 O (ac O) ?_);(refine dp 4 ?_);(refine dp 5 ?_);(refine dl 6 ?_);(refine cZ 7 ?_);(refine dp 8 ?_);(refine dp 9 ?_);(refine dt 10 O (cT (v:= .int .i64 y.K) O O O (fun w1 hS1=>ew (j:=0) (hbx w1 (hD.at_ hS1)) O)) ?_);(refine cZ 11 ?_);(refine dp 12 ?_);(refine dp 13 ?_);(refine dp 14 ?_);(refine dt 15 O (cT (v:= .int .i64 y.K) O O O (fun w1 hS1=>ew (j:=0) (hbx w1 (hD.at_ hS1)) O)) ?_);(refine cZ 16 ?_);(refine dp 17 ?_);(refine dp 18 ?_);((refine dt 19 O (cT (v:= .bool true) O O O (fun w1 hS1=>ew (j:=8) (hbx w1 (hD.at_ hS1)) (by rw[← hok];rfl))) ?_));(refine dp 20 ?_);(refine dt 21 O (aR O) ?_);(refine dp 22 ?_);refine dn ?_);refine qF ?_;refine qx ?_)
   refine dS [] 7 ?_
   refine dp 0 ?_
   refine dp 2 ?_
   refine dt 3 O (cT (v:= .int .i64 y.K) O O O (fun w1 hS1=>ew (j:=0) (hbx w1 (hD.at_ hS1)) O)) ?_
   refine dt 5 O (jY (m:=12) (xs:=aW y q) (ds:=aW y q) O O O (fun w1 hS1=>hbx w1 (hD.at_ hS1)) O (by decide) O) ?_
   refine dE 1 O (bB (f:=73) Ar (fun w1 hS1=>iA w1 g) O O (fun _=>O)) ?_
   rintro _ _ ⟨bm,rfl,_,rfl⟩
   refine gF ae ?_
   refine dt 4 O (gA (b:=bm) (s:=y.K) (f:=wO g) O O O O O O O hfv) ?_
   refine dE 6 O (lq (D:=D) (Z:=zN) (f:=fk) [.pointer (some ⟨g,0,none⟩)] (mP g x m) (fun z:Mm×Asn=>mP g x2 z.1) hD hfk O (fun w1 _ hk hS1=>hM w1 (K2 D zN) hS1 hk (fun w2 h2=>h2.1)) (fg _ [.agg (aW y q).toArray] _ [.pointer (some ⟨g,0,none⟩)] O) O) ?_
   rintro _ _ ⟨⟨m2,Z2⟩,Z',rfl,⟨hI1,hI2,hI3,hI4⟩,hold,hnew,rfl⟩;dsimp only[List.cons_append,List.nil_append] at hI1 hI2 hI3 hI4 ⊢
   refine dV ?_
   refine dn ?_
   skip
   skip
   have hfin:=fun(w':World)=>bR (w:=w) (M:=ar (mP g x m)) (g:=g) (x2:=x2) (m2:=m2) (Z:=Z') (D:=D) (ms:=m.S.map Prod.fst++ms) (ib:=ib) ⟨hI1,hI2,hI3,fun w3 h3=>hI4 w3 (hnew w3 h3)⟩ (w':=w')
   first
   |exact hE _ _ fun w' hS=>hfin w' (ae w' hS)
   |exact hB _ _ _ _ O fun w' hS=>hfin w' (ae w' hS)
  ·focus (refine qq ?_;refine qq ?_;(refine dQ 23 ?_;(refine dp 0 ?_);(refine dt 1 O (cT (v:= .int .u64 (y.tm:Int)) O O O (fun w1 hS1=>ew (j:=3) (hbx w1 (hD.at_ hS1)) O)) ?_);(refine dp 2 ?_);(refine dt 3 O (ac O) ?_);(refine dp 4 ?_);(refine dp 5 ?_);(refine dl 6 ?_);(refine eI 7 ?_);(refine dp 8 ?_);(refine dk 9 ?_);(refine dk 10 ?_);(refine dk 11 ?_);(refine dp 12 ?_);(refine dp 13 ?_);(refine dk 14 ?_);(refine dk 15 ?_);(refine dk 16 ?_);(refine dk 17 ?_);(refine dk 18 ?_);(refine dk 19 ?_);(refine dk 20 ?_);(refine dk 21 ?_);(refine dp 22 ?_);refine dn ?_);refine qF ?_;refine qx ?_)
   refine dS [] 7 ?_
   refine dp 0 ?_
   refine dp 2 ?_
   refine dt 3 O (cT (v:= .int .i64 y.K) O O O (fun w1 hS1=>ew (j:=0) (hbx w1 (hD.at_ hS1)) O)) ?_
   refine dt 5 O (jY (m:=12) (xs:=aW y q) (ds:=aW y q) O O O (fun w1 hS1=>hbx w1 (hD.at_ hS1)) O (by decide) O) ?_
   refine dE 1 O (bB (f:=73) Ar (fun w1 hS1=>iA w1 g) O O (fun _=>O)) ?_
   rintro _ _ ⟨bm,rfl,_,rfl⟩
   refine gF ae ?_
   refine dt 4 O (gA (b:=bm) (s:=y.K) (f:=wO g) O O O O O O O hfv) ?_
   refine dE 6 O (lq (D:=D) (Z:=zN) (f:=fk) [.pointer (some ⟨g,0,none⟩)] (mP g x m) (fun z:Mm×Asn=>mP g x2 z.1) hD hfk O (fun w1 _ hk hS1=>hM w1 (K2 D zN) hS1 hk (fun w2 h2=>h2.1)) (fg _ [.agg (aW y q).toArray] _ [.pointer (some ⟨g,0,none⟩)] O) O) ?_
   rintro _ _ ⟨⟨m2,Z2⟩,Z',rfl,⟨hI1,hI2,hI3,hI4⟩,hold,hnew,rfl⟩;dsimp only[List.cons_append,List.nil_append] at hI1 hI2 hI3 hI4 ⊢
   refine dV ?_
   refine dn ?_
   skip
   skip
   have hfin:=fun(w':World)=>bR (w:=w) (M:=ar (mP g x m)) (g:=g) (x2:=x2) (m2:=m2) (Z:=Z') (D:=D) (ms:=m.S.map Prod.fst++ms) (ib:=ib) ⟨hI1,hI2,hI3,fun w3 h3=>hI4 w3 (hnew w3 h3)⟩ (w':=w')
   first
   |exact hE _ _ fun w' hS=>hfin w' (ae w' hS)
   |exact hB _ _ _ _ O fun w' hS=>hfin w' (ae w' hS)
theorem DO {b t:Nat} {y:Ms} {q:Mp} {w:World} (h:(pt b t (aW y q)).holds w):Rd w bC 1 (some ⟨b,0,none⟩) 12 (aW y q):=
 (Srd.pt (w0:=w) (M:=fun k=>k=b) (H:=[pt b t (aW y q)]) (g:=b) (t:=t) (n:=12) (size:=1) (off:=0) (cs:=aW y q) (ds:=aW y q) O (fun j u hj=>by rw[Nat.zero_add];exact hj)).rd w ⟨Kp.refl _ _,fun A hA=>by
  obtain rfl:A=pt b t (aW y q):=by simpa using hA
  refine⟨h,fun k hk=>?_⟩
  obtain rfl:k=b:=hk
  exact⟨.inl O,(Array.getElem?_eq_some_iff.1 h).1⟩,List.pairwise_singleton _ _⟩
theorem xX {g:Nat} {x x2:Rs} {m:Mm} {ms:List Ms} {ib:Bool} {D:Kw} {f:FuncId} {args:List Value} {w:World} (hms:m.S=[]) (h:Mth g x x2 m ms ib D f args w):
  Gives Tryz.prog f (.pointer (some ⟨g,0,none⟩)::args) (mP g x m) w (X:=Mm×Asn) (fun _=> .tuple #[]) (fun y=>y.1.S.map Prod.fst=ms∧y.1.i=ib∧McL x2 y.1∧ ∀ w',K2 D y.2 w'→McR w' x2 y.1) (fun y=>mP g x2 y.1++[y.2]):=by
 unfold Mth at h
 rw[hms] at h
 exact h
def lF (x:Rs) (y:Ms):Bool:=dm y&&decide (y.T=x.me)&&ea y.es&&(!decide (y.K=7)||C.right y.cf)
theorem vO (w:World) (x:Rs) (p:Rp) (y:Ms) (q:Mp) (hm:MsR w y q) (hd: ∀ m∈q.Q,m.2.2.2.2.length≤100000) (hqn:q.n≤100000) (hcn:q.cn≤100000) (r:Bool) (hr:lF x y=r):
  Gives Tryz.prog 70 [.agg (aZ x p).toArray,.agg (aW y q).toArray] [] w (X:=Unit) (fun _=> .bool r) (fun _=>True) (fun _=>[]):=by
 refine aP Tryz.func70 O Tryz.ntmps70 Tryz.results70 (by simp) (St.enter w) (fun B hB=>?_)
 unfold lF at hr
 cases h1:dm y
 ·obtain rfl:r=false:=by rw[← hr,h1];rfl
  repeat' (first|refine bM O ?_ O O|refine ax ?_|refine aU ?_ O O|refine aa (ai (ds:=aW y q) O O O O O) ?_ O O|refine au O ?_|refine al O O ?_|(refine an (ap (cs:=aZ x p) O) ?_ O O;rintro _ _ ⟨b2,rfl,rfl⟩)|(refine an (ap (cs:=aW y q) O) ?_ O O;rintro _ _ ⟨b3,rfl,rfl⟩)|(refine an (aq (f:=45) zr (fun w hS=>fa w y q (hm.keep hS.kpO) _ h1) O O (fun _=>O)) ?_ O O;rintro _ _ ⟨_,rfl,_,rfl⟩))
  exact hB _ _ _ _ _ O O (qE O)
 by_cases h4:y.T=x.me
 rotate_left
 ·obtain rfl:r=false:=by rw[← hr,decide_eq_false h4];simp
  repeat' (first|refine aa (aB O (by omega)) ?_ O O|refine bM O ?_ O O|refine ax ?_|refine aU ?_ O O|refine aa (ai (ds:=aW y q) O O O O O) ?_ O O|refine aa (ah O O O O) ?_ O O|refine au O ?_|refine al O O ?_|(refine an (ap (cs:=aZ x p) O) ?_ O O;rintro _ _ ⟨b2,rfl,rfl⟩)|(refine an (ap (cs:=aW y q) O) ?_ O O;rintro _ _ ⟨b3,rfl,rfl⟩)|(refine an (aq (f:=45) zr (fun w hS=>fa w y q (hm.keep hS.kpO) _ h1) O O (fun _=>O)) ?_ O O;rintro _ _ ⟨_,rfl,_,rfl⟩))
  exact hB _ _ _ _ _ O O (qE O)
 cases h2:ea y.es
 ·obtain rfl:r=false:=by rw[← hr,h2];simp
  repeat' (first|refine aa (ay O (by omega)) ?_ O O|refine bM O ?_ O O|refine ax ?_|refine aU ?_ O O|refine aa (ai (ds:=aW y q) O O O O O) ?_ O O|refine aa (ah O O O O) ?_ O O|refine au O ?_|refine al O O ?_|(refine an (ap (cs:=aZ x p) O) ?_ O O;rintro _ _ ⟨b2,rfl,rfl⟩)|(refine an (ap (cs:=aW y q) O) ?_ O O;rintro _ _ ⟨b3,rfl,rfl⟩)|(refine an (aq (f:=45) zr (fun w hS=>fa w y q (hm.keep hS.kpO) _ h1) O O (fun _=>O)) ?_ O O;rintro _ _ ⟨_,rfl,_,rfl⟩)|(refine an (aq (f:=96) Dw (fun w hS=>jg w q.A q.c q.n q.Q y.es hm.hn hm.hQ (hm.keep hS.kpO).rq (hm.keep hS.kpO).bq hd (by omega) _ h2) O O (fun _=>O)) ?_ O O;rintro _ _ ⟨_,rfl,_,rfl⟩))
  exact hB _ _ _ _ _ O O (qE O)
 by_cases h7:y.K=7
 rotate_left
 ·obtain rfl:r=true:=by rw[← hr,h1,decide_eq_true h4,h2,decide_eq_false h7];rfl
  repeat' (first|refine aa (ay O (by omega)) ?_ O O|refine bM O ?_ O O|refine ax ?_|refine aU ?_ O O|refine aa (ai (ds:=aW y q) O O O O O) ?_ O O|refine aa (ah O O O O) ?_ O O|refine au O ?_|refine al O O ?_|(refine an (ap (cs:=aZ x p) O) ?_ O O;rintro _ _ ⟨b2,rfl,rfl⟩)|(refine an (ap (cs:=aW y q) O) ?_ O O;rintro _ _ ⟨b3,rfl,rfl⟩)|(refine an (aq (f:=45) zr (fun w hS=>fa w y q (hm.keep hS.kpO) _ h1) O O (fun _=>O)) ?_ O O;rintro _ _ ⟨_,rfl,_,rfl⟩)|(refine an (aq (f:=96) Dw (fun w hS=>jg w q.A q.c q.n q.Q y.es hm.hn hm.hQ (hm.keep hS.kpO).rq (hm.keep hS.kpO).bq hd (by omega) _ h2) O O (fun _=>O)) ?_ O O;rintro _ _ ⟨_,rfl,_,rfl⟩))
  exact hB _ _ _ _ _ O O (qE O)
 cases h3:C.right y.cf
 ·obtain rfl:r=false:=by rw[← hr,h3,decide_eq_true h7];simp
  focus (refine qs ?_;(refine qe (ap (cs:=aZ x p) O) ?_;rintro _ _ ⟨b2,rfl,rfl⟩);(refine qe (ap (cs:=aW y q) O) ?_;rintro _ _ ⟨b3,rfl,rfl⟩);refine qp ?_;refine qn ?_;refine qt (ai (ds:=aW y q) O O O O O) ?_;refine qh zr (fun w hS=>fa w y q (hm.keep hS.kpO) _ h1) ?_;(iterate 3 refine qp ?_);refine qt (ah O O O O) ?_;refine qp ?_;refine qt (ah O O O O) ?_;(iterate 3 refine qd ?_);refine qp ?_;refine qt (ah O O O O) ?_;refine qh Dw (fun w hS=>jg w q.A q.c q.n q.Q y.es hm.hn hm.hQ (hm.keep hS.kpO).rq (hm.keep hS.kpO).bq hd (by omega) _ h2) ?_;refine qd ?_;refine qd ?_;refine qp ?_;refine qt (ah O O O O) ?_;refine qf ?_;refine qp ?_;refine qp ?_;refine qt (ai (ds:=[.slice q.cA q.cn q.cc]) O O O O O) ?_;refine qh Dv (fun w hS=>p6 w q.cA q.cn q.cc y.cf (hm.keep hS.kpO).rc (by omega) _ h3) ?_;(iterate 4 refine qp ?_);refine qz ?_)
  exact hB _ _ _ _ _ O O (qE O)
 ·obtain rfl:r=true:=by rw[← hr,h1,decide_eq_true h4,h2,h3];simp
  focus (refine qs ?_;(refine qe (ap (cs:=aZ x p) O) ?_;rintro _ _ ⟨b2,rfl,rfl⟩);(refine qe (ap (cs:=aW y q) O) ?_;rintro _ _ ⟨b3,rfl,rfl⟩);refine qp ?_;refine qn ?_;refine qt (ai (ds:=aW y q) O O O O O) ?_;refine qh zr (fun w hS=>fa w y q (hm.keep hS.kpO) _ h1) ?_;(iterate 3 refine qp ?_);refine qt (ah O O O O) ?_;refine qp ?_;refine qt (ah O O O O) ?_;(iterate 3 refine qd ?_);refine qp ?_;refine qt (ah O O O O) ?_;refine qh Dw (fun w hS=>jg w q.A q.c q.n q.Q y.es hm.hn hm.hQ (hm.keep hS.kpO).rq (hm.keep hS.kpO).bq hd (by omega) _ h2) ?_;refine qd ?_;refine qd ?_;refine qp ?_;refine qt (ah O O O O) ?_;refine qf ?_;refine qp ?_;refine qp ?_;refine qt (ai (ds:=[.slice q.cA q.cn q.cc]) O O O O O) ?_;refine qh Dv (fun w hS=>p6 w q.cA q.cn q.cc y.cf (hm.keep hS.kpO).rc (by omega) _ h3) ?_;(iterate 4 refine qp ?_);refine qz ?_)
  exact hB _ _ _ _ _ O O (qE O)
theorem rU (w:World) (x:Rs) (p:Rp) (h:RfR w x p) (y:Ms) (q:Mp) (Dm:Kw) (hDm:Kd Dm [] w) (hm: ∀ w',Dm w'→MsR w' y q) (hd: ∀ m∈q.Q,m.2.2.2.2.length≤100000) (hqn:q.n≤100000) (hcn:q.cn≤100000) (hck:cz x=true) (hgd:lF x y=true) (x2:Rs) (ms:List Ms) (ib:Bool) (hu2:RsU x2) (hv2:x2.votes.length≤900) (hp2:x2.peers.length≤900)
  (hT: ∀ (w1:World) (g:Nat) (m:Mm) (D:Kw) (bx:Nat),St w1 (ar (mP g x m)) (mP g x m) w1→Kd D (mP g x m) w1→(∀ w',D w'→McR w' x m)→McL x m→m.S=[]→m.i=false→(∀ w',D w'→Rd w' bC 1 (some ⟨bx,0,none⟩) 12 (aW y q))→(∀ w',D w'→MsR w' y q)→Mth g x x2 m ms ib D 71 [.pointer (some ⟨bx,0,none⟩)] w1):
  Gives Tryz.prog 24 [.agg (aZ x p).toArray,.agg (aW y q).toArray] [] w (X:=Mm×Asn) (fun z=> .tuple #[.agg (aZ x2 z.1.p).toArray,.slice z.1.sA z.1.S.length z.1.sc,.bool ib,zi 0]) (fun z=>z.1.S.map Prod.fst=ms∧ ∀ w',K2 Dm z.2 w'→SrvR w' x2 z.1) (fun z=>[z.2]):=by
 refine cX Tryz.func24 O Tryz.ntmps24 Tryz.results24 (by simp) (St.enter w) (fun B hB=>?_)
 focus (refine qs ?_;(refine qe (ap (cs:=aZ x p) O) ?_;rintro _ _ ⟨b2,rfl,rfl⟩);(refine qe (ap (cs:=aW y q) O) ?_;rintro _ _ ⟨b3,rfl,rfl⟩);(refine qe (am O ch) ?_;rintro _ _ ⟨b4,rfl,rfl⟩);(iterate 3 refine qp ?_);refine qz ?_;refine qq ?_;refine qb ?_;refine qs ?_;refine qt (ai (ds:=aZ x p) O O O O O) ?_;refine qh wK (fun w1 hS1=>dR w1 x p (h.keep hS1.kpO) true hck) ?_;refine qp ?_;refine qp ?_;refine qz ?_;refine qF ?_;refine qs ?_;refine qt (ai (ds:=aZ x p) O O O O O) ?_;refine qt (ai (ds:=aW y q) O O O O O) ?_;refine qh GN (fun w1 hS1=>vO w1 x p y q (hm w1 (hDm.at_ hS1)) hd hqn hcn true hgd) ?_;refine qt (aR O) ?_;refine qp ?_;refine qz ?_;refine qF ?_;refine qx ?_;refine aK ?_;refine qs ?_;refine qt (ai (ds:=aZ x p) O O O O O) ?_;refine qt (gV O O) ?_;(refine qe (bB (f:=39) FG (fun w1 hS1=>mf w1 x p (h.keep hS1.kpO) (KL Dm [pt b3 65 (aW y q)]) (Kd.subL (As':=[]) hDm hS1 (by simp)) 71 [.pointer (some ⟨b3,0,none⟩)] GO x2 ms ib hu2 hv2 hp2 (fun w2 g m D hS2 hk hd2 hml hms hmi=>xX hms (hT w2 g m D b3 hS2 hk (fun w3 h3=>(hd2 w3 h3).2) hml hms hmi (fun w3 h3=>DO ((hd2 w3 h3).1.2 (pt b3 65 (aW y q)) (by simp))) (fun w3 h3=>hm w3 (hd2 w3 h3).1.1)))) O O (fun _=>O)) ?_;rintro _ _ ⟨⟨m2,Z2⟩,rfl,⟨hI1,hI2⟩,rfl⟩;dsimp only at hI1 hI2);(iterate 4 refine qp ?_);(refine qw (aj (cs:=aZ x p) (ds:=aZ x2 m2.p) O O O O (bn _ _) O) ?_;rintro _ _ rfl);refine qp ?_;refine qp ?_;refine qn ?_;refine qt (ai (ds:=aZ x2 m2.p) O O O O O) ?_;refine qp ?_;refine qp ?_;(refine qw (aj (cs:=aZ dy df) (ds:=aZ x2 m2.p) O O O O (bn _ _) O) ?_;rintro _ _ rfl);(iterate 3 refine qp ?_);refine qz ?_)
 refine hB _ _ _ _ _ O (.cell O O O inferInstance O (.tmp O (.tmp O (.tmp O .nil)))) fun w' hS=>⟨(m2,zA (pt b3 65 (aW y q)) Z2),O,⟨hI1,fun w3 h3=>hI2 w3 ⟨⟨h3.1,fun A hA=>by
  obtain rfl:A=pt b3 65 (aW y q):=by simpa using hA
  exact iY h3.2⟩,gZ h3.2⟩⟩,fT (ae (H':=[pt b3 65 (aW y q),Z2]) w' hS)⟩
deriving instance DecidableEq for Rs
deriving instance DecidableEq for Ms
def yW:Ms:=⟨2,2,1,1,(0,0),[],0,true,0,[],[]⟩
def qW:Mp:=⟨none,0,0,none,0,0,none,0,0,[]⟩
theorem tr:Tryz.prog.built 65 [(0,.int .i64 2),(1,.int .i64 2),(2,.int .i64 1),(3,.int .u64 1),(7,.bool true)]=some (aW yW qW).toArray:=by kernel_rfl
theorem xY (w:World) {x:Ms} (h1:x.es=[]) (h2:x.cf=[]) (h3:x.dt=[]):MsR w x qW:=by
 obtain⟨a1,a2,a3,a4,a5,es,a7,a8,a9,cf,dt⟩:=x
 dsimp only at h1 h2 h3
 subst h1 h2 h3
 exact⟨O,Nat.zero_le _,O,Rd.none_,fun m hm=>absurd hm (by simp[qW]),O,Nat.zero_le _,Rd.none_,Bs.nil _ _,Nat.zero_le _⟩
def fm (i:Nat):Rs:=if i<4 then ⟨1,0,0,(0,0),[],[1,2,3],0,1,0,(i:Int),4,[],[]⟩ else ⟨1,0,0,(0,0),[],[1,2,3],0,2,0,0,4,[1],[]⟩
def zX (i:Nat):List Ms:=if i<4 then [] else [{gL with K:=1,F:=1,T:=2,tm:=1},{gL with K:=1,F:=1,T:=3,tm:=1}]
def xZ:Rs:=⟨1,1,1,(0,0),[],[1,2,3],0,3,0,0,4,[1],[]⟩
def DP:List Ms:=[{gL with K:=3,F:=1,T:=2,tm:=1},{gL with K:=3,F:=1,T:=3,tm:=1}]
theorem m7 (i:Nat) (h:i≤4):RsU (fm i):=by
 have:i=0∨i=1∨i=2∨i=3∨i=4:=by omega
 rcases this with rfl|rfl|rfl|rfl|rfl<;>exact⟨by decide,by decide,by decide,by decide,fun p hp=>absurd hp (by decide+revert)⟩
theorem tu (w:World) (i:Nat) (hi:i<4) (p:Rp) (h:RfR w (fm i) p):
  Gives Tryz.prog 14 [.agg (aZ (fm i) p).toArray,.int .i64 4] [] w (X:=Mm×Asn) (fun y=> .tuple #[.agg (aZ (fm (i+1)) y.1.p).toArray,.slice y.1.sA y.1.S.length y.1.sc,zi 0]) (fun y=>y.1.S.map Prod.fst=zX (i+1)∧ ∀ w',y.2.holds w'→SrvR w' (fm (i+1)) y.1) (fun y=>[y.2]):=by
 have:i=0∨i=1∨i=2∨i=3:=by omega
 rcases this with rfl|rfl|rfl|rfl
 ·refine kN w (fm 0) p h 4 (by decide+kernel) (by decide) (by decide) (fm 1) (zX 1) (m7 _ (by decide)) (by decide) (by decide) (fun w1 g m D bl hS hD hM hL hm0 hbl=>?_)
  rw[show fm 1={fm 0 with clock:=(fm 0).clock+1} from by decide+kernel]
  exact jC w1 g (fm 0) m hS D hD hM hL bl 4 hbl (by decide) (by decide) (by decide) (by decide)
 ·refine kN w (fm 1) p h 4 (by decide+kernel) (by decide) (by decide) (fm 2) (zX 2) (m7 _ (by decide)) (by decide) (by decide) (fun w1 g m D bl hS hD hM hL hm0 hbl=>?_)
  rw[show fm 2={fm 1 with clock:=(fm 1).clock+1} from by decide+kernel]
  exact jC w1 g (fm 1) m hS D hD hM hL bl 4 hbl (by decide) (by decide) (by decide) (by decide)
 ·refine kN w (fm 2) p h 4 (by decide+kernel) (by decide) (by decide) (fm 3) (zX 3) (m7 _ (by decide)) (by decide) (by decide) (fun w1 g m D bl hS hD hM hL hm0 hbl=>?_)
  rw[show fm 3={fm 2 with clock:=(fm 2).clock+1} from by decide+kernel]
  exact jC w1 g (fm 2) m hS D hD hM hL bl 4 hbl (by decide) (by decide) (by decide) (by decide)
 ·refine kN w (fm 3) p h 4 (by decide+kernel) (by decide) (by decide) (fm 4) (zX 4) (m7 _ (by decide)) (by decide) (by decide) (fun w1 g m D bl hS hD hM hL hm0 hbl=>?_)
  rw[show fm 4=bF {fm 3 with clock:=0,limit:=4} from by decide+kernel,show zX 4=(dr (fm 3)).flatMap (fun n=>[{gL with K:=1,F:=(fm 3).me,T:=n,tm:=(fm 3).term+1,pl:=lastP (fm 3)}]) from by decide+kernel]
  exact oP w1 g (fm 3) m hS D hD hM hL bl 4 hbl (by decide) (by decide) (by decide) (by decide) (by decide+kernel) (by decide+kernel) (by decide) (by decide+kernel) (by rw[hm0];decide)
theorem tv (w:World) (p:Rp) (h:RfR w (fm 4) p):
  Gives Tryz.prog 24 [.agg (aZ (fm 4) p).toArray,.agg (aW yW qW).toArray] [] w (X:=Mm×Asn) (fun z=> .tuple #[.agg (aZ xZ z.1.p).toArray,.slice z.1.sA z.1.S.length z.1.sc,.bool false,zi 0]) (fun z=>z.1.S.map Prod.fst=DP∧ ∀ w',K2 (fun _=>True) z.2 w'→SrvR w' xZ z.1) (fun z=>[z.2]):=by
 refine rU w (fm 4) p h yW qW (fun _=>True) (fun _ _=>trivial) (fun w' _=>xY w' O O O) (fun m hm=>absurd hm (by simp[qW])) (by decide) (by decide) (by decide+kernel) (by decide+kernel) xZ DP false ⟨by decide,by decide,by decide,by decide,fun p hp=>absurd hp (by simp[xZ])⟩ (by decide) (by decide) (fun w1 g m D bx hS hD hM hL hm0 hmi hbx hmq=>?_)
 refine mg w1 g (fm 4) m hS D hD hM hL yW qW bx hbx (.inr (.inr ⟨O,O⟩)) xZ DP false 143 DI O (fun w2 D2 hS2 hD2 hk2=>?_)
 rw[show xZ=bf {fm 4 with votes:=bg (fm 4).votes yW.F} from by decide+kernel,show DP=(dr (fm 4)).flatMap (fun n=>[{gL with K:=3,F:=(fm 4).me,T:=n,tm:=(fm 4).term+1,pl:=lastP (fm 4)}]) from by decide+kernel, ← hmi]
 exact lE w2 g (fm 4) m hS2 D2 hD2 (fun w' h'=>hM w' (hk2 w' h')) hL (by decide+kernel) (by simp[C.mI,fm]) (by decide) (by decide) yW qW (by decide) O (by decide) (by decide+kernel) (by decide+kernel) (by rw[hm0];decide)
theorem tw (w:World):
  Gives Tryz.prog 36 [] [] w (X:=Option Addr×Nat) (fun x=>C.jM x.1 3 x.2) (fun _=>True) (fun x=>[row 3 1 x.1 3 x.2 (([1,2,3]:List Int).map zv)]):=by
 refine cX Tryz.func36 O Tryz.ntmps36 Tryz.results36 (by simp) (St.enter w) (fun B hB=>?_)
 focus (refine qs ?_;(refine qe (am O C.dO) ?_;rintro _ _ ⟨b4,rfl,rfl⟩);refine qn ?_;(refine qe (zn (m:=3) (vs:=[zv 1,zv 2,zv 3]) O O O O O O O (by simp[zv,Value.oneCell']) (by decide) O) ?_;rintro _ _ ⟨bl,rfl,rfl⟩);refine qt (gH O (C.kY _ _ _)) ?_;(refine qw (aj (cs:=[.slice none 0 0]) (ds:=[.slice (some ⟨bl,0,none⟩) 3 3]) O O O O (C.eB _ _ _) O) ?_;rintro _ _ rfl);refine qz ?_)
 refine hB _ _ _ _ _ O (.cell O O O inferInstance O .nil) fun w' hS=>⟨(some ⟨bl,0,none⟩,3),O,trivial,ae (H':=[row 3 1 (some ⟨bl,0,none⟩) 3 3 [zv 1,zv 2,zv 3]]) w' hS⟩
theorem qj (w:World) (cA:Option Addr) (cc:Nat) (h:Rd w bC 1 cA 3 (([1,2,3]:List Int).map zv)):
  Gives Tryz.prog 10 [.int .i64 1,.int .u64 0,.int .i64 0,.agg (aE (0,0) none 0 0).toArray,C.jM cA 3 cc,.int .i64 4] [] w (X:=Rp×Asn) (fun y=> .tuple #[.agg (aZ (fm 0) y.1).toArray,zi 0]) (fun y=> ∀ w',y.2.holds w'→RfR w' (fm 0) y.1) (fun y=>[y.2]):=
 (oN w 1 0 0 (0,0) [] [1,2,3] 4 none 0 0 [] cA 3 cc ⟨⟨O,Nat.le_of_ble_eq_true O,Nat.le_refl _,O,Rd.none_,fun m hm=>absurd hm (by simp),fun m hm=>absurd hm (by simp),O,Nat.le_of_ble_eq_true O,h⟩,O,Nat.le_of_ble_eq_true O,Rd.none_,O,Nat.le_of_ble_eq_true O,Rd.none_,m7 0 (by decide)⟩ (by decide+kernel)).mono fun u w' ⟨q,he,⟨hq,h1,h2,h3,h4⟩,hS⟩=>⟨(q,pj (yP (fm 0) q)),he,fun w2 h5=>p8 (lM h5) hq (by rw[h1];decide) (by rw[h2];decide) (by rw[h3];decide) (by rw[h4];decide) (fun e he=>absurd he (by simp[fm])) (m7 0 (by decide)),eU (L:=yP (fm 0) q) (H:=[]) hS⟩
theorem zY {S:List (Ms×Mp)} {l:List Ms} (h:S.map Prod.fst=l) (j:Nat) (y:Ms) (hy:l[j]? =some y):(ab bK S)[j*12]? =some (.int .i64 y.K)∧(ab bK S)[j*12+3]? =some (.int .u64 (y.tm:Int)):=by
 have hj:j<S.length:=by
  have:=(List.getElem?_eq_some_iff.1 hy).1
  rw[← h,List.length_map] at this
  exact this
 have e:(S.getD j (gL,qW)).1=y:=by
  rw[← h,List.getElem?_map] at hy
  simp[List.getD,hj] at hy ⊢
  exact hy
 have h0:=bi (f:=bK) jy S (gL,qW) j hj 0 (.int .i64 y.K) (by rw[← e];rfl)
 exact⟨h0,bi (f:=bK) jy S (gL,qW) j hj 3 (.int .u64 (y.tm:Int)) (by rw[← e];rfl)⟩
theorem rV {S:List (Ms×Mp)} {l:List Ms} (h:S.map Prod.fst=l):S.length=l.length:=by rw[← h,List.length_map]
theorem qo (w:World) (p:Rp) (h:RfR w (fm 4) p):
  Gives Tryz.prog 24 [.agg (aZ (fm 4) p).toArray,.agg (aW yW qW).toArray] [] w (X:=Mm×Asn) (fun z=> .tuple #[.agg (aZ xZ z.1.p).toArray,.slice z.1.sA z.1.S.length z.1.sc,.bool false,zi 0]) (fun z=>z.1.S.map Prod.fst=DP∧(∀ w',K2 (fun _=>True) z.2 w'→SrvR w' xZ z.1)∧z.1.sA≠none) (fun z=>[z.2]):=
 (tv w p h).mono fun u w' ⟨z,he,⟨hm,hR⟩,hS⟩=>⟨z,he,⟨hm,hR,by
  obtain⟨ad,e,_⟩:=((hR w' ⟨trivial,hS.at_ (A:=z.2) (by simp)⟩).rs).2 (by rw[rV hm];decide)
  rw[e];simp⟩,hS⟩
theorem oQ (w:World):Gives Tryz.prog 9 [] [] w (X:=Unit) (fun _=> .bool true) (fun _=>True) (fun _=>[]):=by
 refine aP Tryz.func9 O Tryz.ntmps9 Tryz.results9 (by simp) (St.enter w) (fun B hB=>?_)
 focus (refine qs ?_;refine qp ?_;refine qn ?_;refine qt (bu eG) ?_;(refine qe (bB (f:=36) GH (fun w hS=>tw w) O O (fun _=>O)) ?_;rintro _ _ ⟨⟨cA,cc⟩,rfl,_,rfl⟩);(refine qe (bB (f:=10) FD (fun w1 hS1=>qj w1 cA cc (ce (hS1.at_ (A:=row 3 1 cA 3 cc (([1,2,3]:List Int).map zv)) (by simp)))) O O (fun _=>O)) ?_;rintro _ _ ⟨⟨q0,Z0⟩,rfl,hq0,rfl⟩;dsimp only at hq0);(iterate 3 refine qp ?_);(refine qe (am O ch) ?_;rintro _ _ ⟨b1,rfl,rfl⟩);(refine qw (aj (cs:=aZ dy df) (ds:=aZ (fm 0) q0) O O O O (bn _ _) O) ?_;rintro _ _ rfl);refine qp ?_;refine qz ?_;refine qq ?_;refine qs ?_;refine qp ?_;refine qf ?_;refine qz ?_;refine qF ?_;refine qx ?_;refine qs ?_;refine qp ?_;refine qz ?_;refine qq ?_;refine qs ?_;refine qp ?_;refine qz ?_;refine qb ?_)
 refine bV (X:=Nat×(Rp×Option Addr×Nat×List Value)×Asn) (fun z=>[(1,.pointer (some ⟨b1,0,none⟩)),(3,.slice z.2.1.2.1 (zX z.1).length z.2.1.2.2.1),(12,.int .i64 (z.1:Int))]) (fun z=>[z.2.2,pt b1 42 (aZ (fm z.1) z.2.1.1)]) (fun z=>z.1≤4∧(∀ w',z.2.2.holds w'→RfR w' (fm z.1) z.2.1.1)∧(z.1=4→(∀ w',z.2.2.holds w'→Rd w' bC 12 z.2.1.2.1 2 z.2.1.2.2.2)∧z.2.1.2.2.2[0]? =some (.int .i64 1)∧z.2.1.2.2.2[3]? =some (.int .u64 1))) (fun z=>4-z.1) O (0,(q0,none,0,[]),Z0) ⟨Nat.zero_le _,hq0,fun h=>absurd (show 0=4 from h) (by decide)⟩ (Sub.cons O (Sub.cons O (Sub.cons O Sub.nil))) (fun w hS=>ae (H':=[Z0,pt b1 42 (aZ (fm 0) q0)]) w hS) ?_
 rintro⟨i,⟨q,A,c,xs⟩,Z⟩ ⟨hi,hR,h4⟩ J hJ
 dsimp only at hi hR h4 ⊢
 rcases Nat.lt_or_ge i 4 with hil|hil
 ·skip
  focus (refine qs ?_;refine qd ?_;refine qz ?_;refine qq ?_;refine qT ?_;refine qx ?_;refine qq ?_;refine qb ?_;refine qs ?_;refine qt (ai (ds:=aZ (fm i) q) O O O O O) ?_;(refine qe (bB (f:=14) Gn (fun w1 hS1=>tu w1 i hil q (hR w1 (hS1.at_ (A:=Z) (by simp)))) O O (fun _=>O)) ?_;rintro _ _ ⟨⟨m,Z2⟩,rfl,⟨hm,hR2⟩,rfl⟩;dsimp only at hm hR2);(iterate 4 refine qp ?_);(refine qw (aj (cs:=aZ (fm i) q) (ds:=aZ (fm (i+1)) m.p) O O O O (bn _ _) O) ?_;rintro _ _ rfl);refine qp ?_;refine qp ?_;refine qn ?_;refine qp ?_;refine qf ?_;refine qz ?_;refine qF ?_;refine qx ?_;refine aK ?_;refine qr ?_;refine qt (aI O O (by unfold aH;omega)) ?_;refine qp ?_;refine qz ?_)
  have hml:=rV hm
  rw[hml]
  refine hJ (i+1,(m.p,m.sA,m.sc,ab bK m.S),Z2) _ _ ⟨by dsimp only;omega,fun w' h'=>(hR2 w' h').rf,fun h5=>?_⟩ (Sub.cons O (Sub.cons O (Sub.cons O Sub.nil))) (fun w' hS=>ae (H':=[Z2,pt b1 42 (aZ (fm (i+1)) m.p)]) w' hS) (by show 4-(i+1)<_;omega)
  have h5:i+1=4:=h5
  rw[h5] at hm hR2 hml
  refine⟨fun w' h'=>?_,(zY hm 0 _ O).1,(zY hm 0 _ O).2⟩
  have:=(hR2 w' h').rs
  rwa [hml] at this
 obtain rfl:i=4:=by omega
 obtain⟨h41,h42,h43⟩:=h4 O
 obtain⟨hTr⟩:Nonempty (Kd (fun _=>True) [] w):=⟨fun _ _=>trivial⟩
 refine iI (fun w' hS=>by obtain⟨ad,e,_⟩:=(h41 w' (hS.at_ (A:=Z) (by simp))).2 (by decide);exact(show A≠none by rw[e];simp)) fun hne=>?_
 repeat' (first|refine aa (aB O (by omega)) ?_ O O|refine bM O ?_ O O|refine ax ?_|refine aa (bH (sz:=12) O O O O O O hne (by decide)) ?_ O O|refine aa (dx O O O O O hne) ?_ O O|refine aa (bN O O O (Srd.kn (As:=[]) (D:=fun _=>True) (Z:=Z) hTr (fun w' h'=>h41 w' h'.2)) (by decide) h42) ?_ O O|refine aa (bN O O O (Srd.kn (As:=[]) (D:=fun _=>True) (Z:=Z) hTr (fun w' h'=>h41 w' h'.2)) (by decide) h43) ?_ O O|refine au O ?_|refine al O O ?_|refine aA O O ?_|refine bE O O ?_|refine aM O ?_)
 focus (refine qt (ai (ds:=aZ (fm 4) q) O O O O O) ?_;refine qt (jk O O O O O tr) ?_;(refine qe (bB (f:=24) FE (fun w1 hS1=>qo w1 q (hR w1 (hS1.at_ (A:=Z) (by simp)))) O O (fun _=>O)) ?_;rintro _ _ ⟨⟨m,Z2⟩,rfl,⟨hm,hR2,hne2⟩,rfl⟩;dsimp only at hm hR2 hne2 ⊢;rw[(rV hm:m.S.length=2)]);(iterate 5 refine qp ?_);(refine qw (aj (cs:=aZ (fm 4) q) (ds:=aZ xZ m.p) O O O O (bn _ _) O) ?_;rintro _ _ rfl);refine qp ?_;refine qp ?_;refine qn ?_;refine qp ?_;refine qd ?_;(iterate 7 refine qp ?_))
 have hml:m.S.length=2:=rV hm
 have h51: ∀ w',K2 (fun _=>True) Z2 w'→Rd w' bC 12 m.sA 2 (ab bK m.S):=fun w' h'=>by
  have:=(hR2 w' h').rs
  rwa [hml] at this
 have h52:=(zY hm 1 _ O).1
 focus (refine qt (bH (sz:=12) O O O O O O hne2 (by decide)) ?_;refine qt (dx O O O O O hne2) ?_;refine qt (bN O O O (Srd.kn (As:=[]) (D:=fun _=>True) (Z:=Z2) hTr h51) (by decide) h52) ?_;(iterate 4 refine qp ?_);refine qt (ah (v:= .int .u64 1) O O O O) ?_;refine qd ?_;refine qp ?_;refine qp ?_;refine qz ?_)
 exact hB _ _ _ _ _ O O (qE O)
end Go.Proofs.YtdeffdldifepkaaGreat
namespace Go.Proofs.YtdeffdldifepkaaGreat
open Go.RowKit Go.ChangeShapes Go.WideShapes Go.ChangeAt
open Asn (pt row rb)
set_option linter.unusedVariables false
set_option linter.unusedSimpArgs false
structure RfW (w:World) (x:Rs) (p:Rp):Prop where
 hn:p.Q.length=p.n
 hc:p.n≤p.c
 hm:p.n≤maxLen
 hQ:p.Q.map bA=x.es
 rq:Rd w bC 3 p.A p.n (ab aN p.Q)
 bq: ∀ m∈p.Q,mz w m
 hcn:x.cf.length=p.cn
 hcm:p.cn≤maxLen
 rc:Rd w bC 1 p.cA p.cn (x.cf.map zv)
 hvn:x.votes.length=p.vn
 hvm:p.vn≤maxLen
 rv:Rd w bC 1 p.vA p.vn (x.votes.map zv)
 hpn:x.peers.length=p.pn
 hpm:p.pn≤maxLen
 rp:Rd w bC 3 p.pA p.pn (ab bp x.peers)
 hu:RsU x
theorem RfW.keep {w w':World} {x:Rs} {p:Rp} (h:RfW w x p) (hk:Kp bC w w'):RfW w' x p:=⟨h.hn,h.hc,h.hm,h.hQ,h.rq.keep hk,fun m hm=>Bs.keep (h.bq m hm) hk,h.hcn,h.hcm,h.rc.keep hk,h.hvn,h.hvm,h.rv.keep hk,h.hpn,h.hpm,h.rp.keep hk,h.hu⟩
structure Small (p:Rp):Prop where
 n:p.n≤200
 cn:p.cn≤50
 vn:p.vn≤50
 pn:p.pn≤50
 d: ∀ m∈p.Q,m.2.2.2.2.length≤5000
theorem RfW.rf {w:World} {x:Rs} {p:Rp} (h:RfW w x p) (s:Small p):RfR w x p:=
 ⟨⟨h.hn,Nat.le_trans s.n (by decide),h.hc,h.hQ,h.rq,h.bq,fun m hm=>Nat.le_trans (s.d m hm) (by decide),h.hcn,Nat.le_trans s.cn (by decide),h.rc⟩,h.hvn,Nat.le_trans s.vn (by decide),h.rv,h.hpn,Nat.le_trans s.pn (by decide),h.rp,h.hu⟩
section
variable {H:Type} {enc:TypeId×Value→H} {W:World}
end
end Go.Proofs.YtdeffdldifepkaaGreat
namespace Go.Proofs.YtdeffdldifepkaaGreat
open Go.RowKit
open Asn (pt row rb)
set_option linter.unusedVariables false
set_option linter.unusedSimpArgs false
theorem iB {x:Rs} (h:cz x=true):br x.base x.es=true:=by
 cases hr:br x.base x.es
 ·simp[cz,eL,hr] at h
 ·rfl
theorem GR (w:World):RfR w dy df:=⟨⟨O,Nat.zero_le _,Nat.le_refl _,O,Rd.none_,fun m hm=>absurd hm (by simp[df]),fun m hm=>absurd hm (by simp[df]),O,Nat.zero_le _,Rd.none_⟩,O,Nat.zero_le _,Rd.none_,O,Nat.zero_le _,Rd.none_,⟨by decide,by decide,by decide,by decide,fun p hp=>absurd hp (by simp[dy])⟩⟩
theorem rW {x:Rs} {p:Rp} {w:World} (h:LgR w x p):Kd (fun w'=>LgR w' x p) [] w:=fun w' hk=>h.keep (hk.mono fun k _ _=>ao k)
theorem jm (w:World) (x:Rs) (p:Rp) (h:LgR w x p):
  Gives Tryz.prog 50 [.agg (aE x.base p.A p.n p.c).toArray] [] w (X:=Unit) (fun _=> .agg (aO (lastP x)).toArray) (fun _=>True) (fun _=>[]):=nF w x.base p.A p.c p.n p.Q x.es h.hn h.hQ h.rq (Nat.le_trans h.hm (by decide)) (lastP x) O
end Go.Proofs.YtdeffdldifepkaaGreat
namespace Go.Proofs.YtdeffdldifepkaaGreat
open Go.RowKit Go.ChangeShapes Go.WideShapes Go.ChangeAt
open Asn (pt row rb)
set_option linter.unusedVariables false
set_option linter.unusedSimpArgs false
def Gv (x:Rs):Rs:=⟨x.me,x.term,x.vote,x.base,x.es,x.cf,x.base.1,1,0,0,x.limit,[],[]⟩
def GS (p:Rp):Rp:=⟨p.A,p.n,p.c,p.Q,p.cA,p.cn,p.cc,none,0,0,none,0,0⟩
theorem RfR.st {w:World} {x:Rs} {p:Rp} (h:RfR w x p):RfR w (Gv x) (GS p):=
 ⟨h.lg.like O O O O O O O O,O,Nat.zero_le _,Rd.none_,O,Nat.zero_le _,Rd.none_,⟨h.hu.tm,h.hu.b1,h.hu.b2,h.hu.b1,fun p hp=>absurd hp (by simp[Gv])⟩⟩
theorem rX (l:List UInt8):(C.cI l).length≤5:=by
 unfold C.cI
 split
 ·rename_i h
  unfold C.jJ at h
  split at h
  ·cases h
  ·split at h
   ·rename_i h2
    exact(C.io h2.2).2
   ·cases h
 ·exact Nat.zero_le _
theorem dG {x:Rs} (h:C.right x.cf=true) (idx:Nat):(iQ x idx).length≤5:=by
 unfold iQ
 split
 ·exact rX _
 ·exact(C.io h).2
theorem kO {x:Rs} (h:cz x=true):C.right x.cf=true:=by
 cases hr:C.right x.cf
 ·simp[cz,hr] at h
 ·rfl
theorem zZ {x:Rs} (h:cz x=true):(aJ x).length≤5:=dG (kO h) _
end Go.Proofs.YtdeffdldifepkaaGreat
namespace Go.Proofs.YtdeffdldifepkaaGreat
open Go.RowKit
open Asn (pt row rb)
set_option linter.unusedVariables false
set_option linter.unusedSimpArgs false
theorem vP (w:World) (A A2:Option Addr) (n c n2 c2:Nat) (ms:List Int) (l:List (Int×Nat)) (h:Rd w bC 1 A n (ms.map zv)) (h2:Rd w bC 2 A2 n2 (C.pK l)) (hn:n≤900) (hn2:n2≤900) (r:Nat) (hr:kI ms l=r):
  Gives Tryz.prog 131 [C.jM A n c,.slice A2 n2 c2] [] w (X:=Unit) (fun _=> .int .u64 (r:Int)) (fun _=>True) (fun _=>[]):=
 (C.xx w A A2 n c n2 c2 ms l h h2 hn hn2).mono fun u w' ⟨y,he,hy,hS⟩=>⟨(),by
  rw[he]
  have hy:(if C.right ms=true then C.sO (ms.map (C.dH l)) y else y=0):=hy
  unfold kI at hr
  split at hr
  ·rename_i h3
   rw[if_pos h3] at hy
   rw[← hr,C.zK hy];rfl
  ·rename_i h3
   rw[if_neg h3] at hy
   rw[← hr,hy];rfl,trivial,hS⟩
theorem oR (a:Int) (n:Nat):Tryz.prog.built 168 [(0,.int .i64 a),(1,.int .u64 (n:Int))]=some ([zv a,C.uv n]:List Value).toArray:=by kernel_rfl
def oS (x:Rs) (j:Nat):List (Int×Nat):=(x.me,(lastP x).1)::(x.peers.take j).map fun p=>(p.1,p.2.2)
theorem vQ (x:Rs):oS x x.peers.length=iZ x:=by unfold oS iZ;rw[List.take_length]
theorem tx (x:Rs) (j:Nat) (hj:j<x.peers.length) (q:Pe) (hq:x.peers.getD j default=q):C.pK (oS x (j+1))=C.pK (oS x j)++[zv q.1,C.uv q.2.2]:=by
 have e:x.peers.take (j+1)=x.peers.take j++[q]:=by rw[List.take_succ_eq_append_getElem hj];simp[← hq,List.getD,hj]
 unfold oS C.pK
 rw[e,List.map_append, ← List.cons_append,List.flatMap_append]
 rfl
theorem x9 (x y:Rs) (h:y={x with commit:=i0 x}):dI x=if (fv y.base y.es (lastP y).1).2.2=true∧(fv y.base y.es (lastP y).1).1≤y.commit∧(C.right (aJ y)&&decide (y.me∈aJ y))=false then fl y else y:=by
 rw[h];rfl
theorem jn (w:World) (g:Nat) (x:Rs) (m:Mm) (hS0:St w (ar (mP g x m)) (mP g x m) w) (D:Kw) (hD:Kd D (mP g x m) w) (h: ∀ w',D w'→McR w' x m) (hl:McL x m) (h5:(aJ x).length≤5) (hp5:x.peers.length≤800):
  Mth g x (dI x) m [] m.i D 56 [] w:=by
 unfold Mth
 refine bO Tryz.func56 O Tryz.ntmps56 Tryz.results56 (by simp) hS0 (fun B hE hB=>?_)
 have hpl:=hl.hpn
 have hw:=(h w hD.now).lg
 have hn1:=hw.hm
 obtain⟨n,hn⟩: ∃ n,kI (aJ x) (iZ x)=n:=⟨_,O⟩
 obtain⟨⟨t,tq⟩,ht⟩: ∃ z,eC x.base x.es n=z:=⟨_,O⟩
 obtain⟨y1,hy1⟩: ∃ y,y=({x with commit:=i0 x}:Rs):=⟨_,O⟩
 have hcr:=x9 x y1 hy1
 have hyM: ∀ w',D w'→McR w' y1 m:=fun w' h'=>by rw[hy1];exact⟨(h w' h').lg.like O O O O O O O O,(h w' h').ms⟩
 have hyL:McL y1 m:=by rw[hy1];exact⟨hl.hvn,hl.hpn⟩
 have hy5:(aJ y1).length≤5:=by rw[hy1];exact h5
 have hyv:y1.votes=x.votes:=by rw[hy1]
 have hyp:y1.peers=x.peers:=by rw[hy1]
 rw[hcr] at hE hB
 have htail:RS Tryz.prog B 111 w (ar (mP g x m)) [.code (c1 (c2 (c2 (c2 (c2 (dM Tryz.f56)))))),.code (c2 (c2 (c2 (c2 (c2 (dM Tryz.f56))))))] [(0,.pointer (some ⟨g,0,none⟩))] [pt g 89 (aD y1 m),row 3 1 m.p.vA m.p.vn m.p.vc (y1.votes.map zv),row 112 3 m.p.pA m.p.pn m.p.pc (ab bp y1.peers),row 65 12 m.sA m.S.length m.sc (ab bK m.S)]:=by
  obtain⟨⟨ri,rbs,rq⟩,hs⟩: ∃ z,fv y1.base y1.es (lastP y1).1=z:=⟨_,O⟩
  obtain⟨N,hN⟩: ∃ N,rbs.length=N:=⟨_,O⟩
  have hw1:=(hyM w hD.now).lg
  rw[hs] at hE hB
  refine ez ?_
  refine dS [pt g 89 (aD y1 m)] 16 ?_
  refine dp 0 ?_
  refine dt 1 O (ac O) ?_
  refine dp 2 ?_
  refine dp 3 ?_
  refine dt 4 O (ai (ds:=aE y1.base m.p.A m.p.n m.p.c) O O O O O) ?_
  refine dp 5 ?_
  refine dE 6 O (aq (f:=59) pE (fun w1 hS1=>ef w1 g y1 m (bJ hS1 (by simp)) (hyM w1 (hD.at_ hS1)).lg) O O (fun _=>O)) ?_
  rintro _ _ ⟨_,rfl,_,rfl⟩
  refine nx ?_
  refine dt 7 O (cW (xs:=aO (lastP y1)) O O O O O O) ?_
  refine dE 8 O (bB (f:=49) Eb (fun w1 hS1=>nH w1 y1.base m.p.A m.p.c m.p.n m.p.Q y1.es hw1.hn hw1.hQ (hyM w1 (hD.at_ hS1)).lg.rq (hyM w1 (hD.at_ hS1)).lg.dt hw1.hm hw1.hd (lastP y1).1 ri rbs _ N hN hs) O O (fun _=>O)) ?_
  rintro _ _ ⟨⟨Ab,cb⟩,rfl,_,rfl⟩
  refine nx ?_
  refine dp 9 ?_
  refine dp 10 ?_
  refine dp 11 ?_
  refine dp 12 ?_
  refine dp 13 ?_
  refine dp 14 ?_
  refine dp 15 ?_
  refine dn ?_
  skip
  focus (refine qq ?_)
  cases rq
  ·rw[if_neg (fun e=>by cases e.1)] at hE hB
   refine dS [pt g 89 (aD y1 m)] 21 ?_
   refine dp 0 ?_
   refine dp 1 ?_
   refine dk 2 ?_
   refine dk 3 ?_
   refine dk 4 ?_
   refine dk 5 ?_
   refine dk 6 ?_
   refine dk 7 ?_
   refine dk 8 ?_
   refine dp 9 ?_
   refine dp 10 ?_
   refine dk 11 ?_
   refine dk 12 ?_
   refine dk 13 ?_
   refine dk 14 ?_
   refine dk 15 ?_
   refine dk 16 ?_
   refine dk 17 ?_
   refine dk 18 ?_
   refine dk 19 ?_
   refine dp 20 ?_
   refine dn ?_
   skip
   focus (refine qF ?_;refine qx ?_)
   have hfin:=fun(w':World)=>eg (w:=w) (M:=ar (mP g x m)) (g:=g) (x2:=y1) (m2:=m) (D:=D) (ms:=m.S.map Prod.fst++[]) (ib:=m.i) ⟨by simp,O,⟨hyL.hvn,hyL.hpn⟩,fun w2 h2=>hyM w2 h2.1⟩ (w':=w')
   first
   |exact hE _ _ fun w' hS=>hfin w' (ae w' hS)
   |exact hB _ _ _ _ O fun w' hS=>hfin w' (ae w' hS)
  by_cases hat:ri≤y1.commit
  rotate_left
  ·rw[if_neg (fun e=>hat e.2.1)] at hE hB
   refine dS [pt g 89 (aD y1 m)] 21 ?_
   refine dp 0 ?_
   refine dp 1 ?_
   refine dp 2 ?_
   refine dp 3 ?_
   refine dt 4 O (ac O) ?_
   refine dp 5 ?_
   refine dp 6 ?_
   refine dl 7 ?_
   refine eI 8 ?_
   refine dp 9 ?_
   refine dp 10 ?_
   refine dk 11 ?_
   refine dk 12 ?_
   refine dk 13 ?_
   refine dk 14 ?_
   refine dk 15 ?_
   refine dk 16 ?_
   refine dk 17 ?_
   refine dk 18 ?_
   refine dk 19 ?_
   refine dp 20 ?_
   refine dn ?_
   skip
   focus (refine qF ?_;refine qx ?_)
   have hfin:=fun(w':World)=>eg (w:=w) (M:=ar (mP g x m)) (g:=g) (x2:=y1) (m2:=m) (D:=D) (ms:=m.S.map Prod.fst++[]) (ib:=m.i) ⟨by simp,O,⟨hyL.hvn,hyL.hpn⟩,fun w2 h2=>hyM w2 h2.1⟩ (w':=w')
   first
   |exact hE _ _ fun w' hS=>hfin w' (ae w' hS)
   |exact hB _ _ _ _ O fun w' hS=>hfin w' (ae w' hS)
  cases hq:(C.right (aJ y1)&&decide (y1.me∈aJ y1))
  rotate_left
  ·rw[hq,if_neg (fun e=>by cases e.2.2)] at hE hB
   refine dS [pt g 89 (aD y1 m)] 21 ?_
   refine dp 0 ?_
   refine dp 1 ?_
   refine dp 2 ?_
   refine dp 3 ?_
   refine dt 4 O (ac O) ?_
   refine dp 5 ?_
   refine dp 6 ?_
   refine dl 7 ?_
   refine cZ 8 ?_
   refine dp 9 ?_
   refine dp 10 ?_
   refine dp 11 ?_
   refine dp 13 ?_
   refine dt 14 O (ac O) ?_
   refine dp 15 ?_
   refine dp 16 ?_
   refine dl 17 ?_
   refine dE 12 O (bB (f:=43) pk (fun w1 hS1=>du w1 g y1 m (bJ hS1 (by simp)) D (hD.call0 hS1) (fun w2 h2=>(hyM w2 h2).lg) (aJ y1) O) O O (fun _=>O)) ?_
   rintro _ _ ⟨⟨⟨A3,K3,c3⟩,Z3⟩,rfl,hI3,rfl⟩
   refine nx ?_
   refine dE 18 O (aq (f:=42) zq (fun w1 hS1=>jB w1 A3 (aJ y1).length c3 (aJ y1) y1.me (hI3 w1 ⟨hD.at_ hS1,hS1.at_ (A:=Z3) (by simp)⟩) (by omega) true hq) O O (fun _=>O)) ?_
   rintro _ _ ⟨_,rfl,_,rfl⟩
   refine nx ?_
   refine dt 19 O (aR O) ?_
   refine dp 20 ?_
   refine dn ?_
   skip
   focus (refine qF ?_;refine qx ?_)
   have hfin:=fun(w':World)=>eg (w:=w) (M:=ar (mP g x m)) (g:=g) (x2:=y1) (m2:=m) (D:=D) (ms:=m.S.map Prod.fst++[]) (ib:=m.i) ⟨by simp,O,⟨hyL.hvn,hyL.hpn⟩,fun w2 h2=>hyM w2 h2.1⟩ (w':=w')
   first
   |exact hE _ _ fun w' hS=>hfin w' (ae w' hS)
   |exact hB _ _ _ _ O fun w' hS=>hfin w' (ae w' hS)
  rw[hq,if_pos ⟨O,hat,O⟩] at hE hB
  refine dS [pt g 89 (aD y1 m)] 21 ?_
  refine dp 0 ?_
  refine dp 1 ?_
  refine dp 2 ?_
  refine dp 3 ?_
  refine dt 4 O (ac O) ?_
  refine dp 5 ?_
  refine dp 6 ?_
  refine dl 7 ?_
  refine cZ 8 ?_
  refine dp 9 ?_
  refine dp 10 ?_
  refine dp 11 ?_
  refine dp 13 ?_
  refine dt 14 O (ac O) ?_
  refine dp 15 ?_
  refine dp 16 ?_
  refine dl 17 ?_
  refine dE 12 O (bB (f:=43) pk (fun w1 hS1=>du w1 g y1 m (bJ hS1 (by simp)) D (hD.call0 hS1) (fun w2 h2=>(hyM w2 h2).lg) (aJ y1) O) O O (fun _=>O)) ?_
  rintro _ _ ⟨⟨⟨A3,K3,c3⟩,Z3⟩,rfl,hI3,rfl⟩
  refine nx ?_
  refine dE 18 O (aq (f:=42) zq (fun w1 hS1=>jB w1 A3 (aJ y1).length c3 (aJ y1) y1.me (hI3 w1 ⟨hD.at_ hS1,hS1.at_ (A:=Z3) (by simp)⟩) (by omega) false hq) O O (fun _=>O)) ?_
  rintro _ _ ⟨_,rfl,_,rfl⟩
  refine nx ?_
  refine dt 19 O (aR O) ?_
  refine cZ 20 ?_
  refine dn ?_
  skip
  focus (refine qT ?_;refine qr ?_;refine qp ?_)
  focus ((refine qe (fF (f:=72) (mP g y1 m) (fun _:Unit=>mP g (fl y1) (dU m)) Ds (fun w1 hS1 hS2=>fX w1 g y1 m hS2) O O) ?_;rintro _ _ ⟨_,rfl,_,rfl⟩;dsimp only[List.cons_append,List.nil_append]);refine qz ?_)
  have hfin:=fun(w':World)=>eg (w:=w) (M:=ar (mP g x m)) (g:=g) (x2:=(fl y1)) (m2:=(dU m)) (D:=D) (ms:=m.S.map Prod.fst++[]) (ib:=m.i) ⟨by simp[dU],O,⟨O,O⟩,fun w2 h2=>⟨(hyM w2 h2.1).lg.like O O O O O O O O,(hyM w2 h2.1).ms⟩⟩ (w':=w')
  first
  |exact hE _ _ fun w' hS=>hfin w' (ae w' hS)
  |exact hB _ _ _ _ O fun w' hS=>hfin w' (ae w' hS)
 refine ez ?_
 refine eS m.p.pA m.p.pn m.p.pc fun _ _ hne _=>?_
 focus (refine qq ?_)
 refine dS [pt g 89 (aD x m)] 11 ?_
 refine dp 0 ?_
 refine dt 1 O (ac O) ?_
 refine dp 2 ?_
 refine dp 3 ?_
 refine dl 4 ?_
 refine dp 5 ?_
 refine dE 6 O (aq (f:=59) pE (fun w1 hS1=>ef w1 g x m (bJ hS1 (by simp)) (h w1 (hD.at_ hS1)).lg) O O (fun _=>O)) ?_
 rintro _ _ ⟨_,rfl,_,rfl⟩
 refine nx ?_
 refine dt 7 O (cW (xs:=aO (lastP x)) O O O O O O) ?_
 refine dt 8 O (bS O O (oR _ _)) ?_
 refine dE 9 O (cK (vs:=[.agg ([zv x.me,C.uv (lastP x).1]:List Value).toArray]) (size:=2) (ds:=[zv x.me,C.uv (lastP x).1]) O O O O O O (by simp[aV]) O (by omega)) ?_
 rintro _ _ ⟨vb,rfl,rfl⟩
 refine nx ?_
 refine dp 10 ?_
 refine dn ?_
 skip
 focus (refine qq ?_;refine qs ?_;refine qp ?_;refine qt (ac O) ?_;refine qp ?_;refine qp ?_;refine qt (ah O O O O) ?_;refine qp ?_;refine qp ?_;refine qz ?_;refine qb ?_)
 refine bV (X:=Nat×Option Addr×Nat) (fun z=>[(0,.pointer (some ⟨g,0,none⟩)),(2,.slice z.2.1 (z.1+1) z.2.2),(25,.slice m.p.pA m.p.pn m.p.pc),(26,.int .i64 (m.p.pn:Int)),(27,.int .i64 (z.1:Int))]) (fun z=>[row 168 2 z.2.1 (z.1+1) z.2.2 (C.pK (oS x z.1)),zN,pt g 89 (aD x m),row 3 1 m.p.vA m.p.vn m.p.vc (x.votes.map zv),row 112 3 m.p.pA m.p.pn m.p.pc (ab bp x.peers),row 65 12 m.sA m.S.length m.sc (ab bK m.S)]) (fun z=>z.1≤m.p.pn) (fun z=>m.p.pn-z.1) O (0,some ⟨vb,0,none⟩,1) (Nat.zero_le _) (Sub.cons O (Sub.cons O (Sub.cons O (Sub.cons O (Sub.cons O Sub.nil))))) (fun w' hS=>?_) ?_
 ·have h1:=ae (H':=[pt vb 168 [zv x.me,C.uv (lastP x).1],zN,pt g 89 (aD x m),row 3 1 m.p.vA m.p.vn m.p.vc (x.votes.map zv),row 112 3 m.p.pA m.p.pn m.p.pc (ab bp x.peers),row 65 12 m.sA m.S.length m.sc (ab bK m.S)]) w' hS
  exact St.rowOf (e:=168) (size:=2) (g:=vb) (n:=1) (m:=1) h1 Upd.here (Nat.le_refl _) (by unfold maxLen;omega) (by simp)
 rintro⟨j,A5,c5⟩ hj J hJ
 dsimp only at hj ⊢
 rcases Nat.lt_or_ge j m.p.pn with hjl|hjl
 ·have hne':=hne (by omega)
  have hat:=bi (f:=bp) d2 x.peers default j (by omega)
  obtain⟨q,hq⟩: ∃ q,x.peers.getD j default=q:=⟨_,O⟩
  rw[hq] at hat
  have hnx:=tx x j (by omega) q hq
  focus (refine qs ?_;refine qd ?_;refine qz ?_;refine qq ?_;refine qT ?_;refine qx ?_;refine qq ?_;refine qb ?_;refine qs ?_;refine qt (bH (sz:=3) O O O O O O hne' hjl) ?_;refine qt (cw (ds:=bp q) O O O (Srd.row (n:=m.p.pn) (c:=m.p.pc)) O (by omega) hat) ?_;(refine qe (am O jx) ?_;rintro _ _ ⟨b4,rfl,rfl⟩);(refine qw (aj (cs:=bp (0,0,0)) (ds:=bp q) O O O O (gQ _) O) ?_;rintro _ _ rfl);refine qz ?_;refine qr ?_;refine qp ?_;(iterate 2 refine qp ?_;refine qt (ah O O O O) ?_);refine qt (bS O O (oR _ _)) ?_;(refine qe (cK (vs:=[.agg ([zv q.1,C.uv q.2.2]:List Value).toArray]) (size:=2) (ds:=[zv q.1,C.uv q.2.2]) O O O O O O (by simp[aV]) O (by omega)) ?_;rintro _ _ ⟨vq,rfl,rfl⟩);(refine qe (gd (sz:=2) (m:=j+1) (c:=c5) (A:=A5) O O O O O O O (by decide) (Srd.pt (n:=1) (g:=vq) (ds:=[zv q.1,C.uv q.2.2]) O (fun j u hj=>by rw[Nat.zero_add];exact hj)) (by simp[zv,C.uv,Value.oneCell']) (by show (j+1+1)*16≤_;omega) (by unfold maxLen;omega)) ?_;rintro _ _ ⟨A7,c7,rfl,rfl⟩);refine qp ?_;refine qz ?_;refine aK ?_;refine qr ?_;refine qt (aI O O (by unfold aH;omega)) ?_;refine qp ?_;refine qz ?_)
  refine hJ (j+1,A7,c7) _ _ (by show j+1≤_;omega) (Sub.cons O (Sub.cons O (Sub.cons O (Sub.cons O (Sub.cons O Sub.nil))))) (fun w' hS=>?_) (by show m.p.pn-(j+1)<_;omega)
  dsimp only
  rw[hnx]
  exact ae (H':=[row 168 2 A7 (j+1+1) c7 (C.pK (oS x j)++[zv q.1,C.uv q.2.2]),zN,pt g 89 (aD x m),row 3 1 m.p.vA m.p.vn m.p.vc (x.votes.map zv),row 112 3 m.p.pA m.p.pn m.p.pc (ab bp x.peers),row 65 12 m.sA m.S.length m.sc (ab bK m.S)]) w' hS
 obtain rfl:j=m.p.pn:=by omega
 rw[show oS x m.p.pn=iZ x by rw[← hpl];exact vQ x]
 by_cases h1:x.commit<n
 ·by_cases h2:t=x.term
  ·have hc:i0 x=n:=by unfold i0;rw[hn,ht];exact if_pos ⟨h1,h2⟩
   repeat' (first|refine aa (ay O (by omega)) ?_ O O|refine aa (aB O (by omega)) ?_ O O|refine bM O ?_ O O|refine ax ?_|refine aa (ac O) ?_ O O|refine aa (ai (ds:=aE x.base m.p.A m.p.n m.p.c) O O O O O) ?_ O O|refine aa (ah O O O O) ?_ O O|refine au O ?_|refine al O O ?_|refine aC O O ?_|refine aA O O ?_|refine bE O O ?_|(refine an (bB (f:=43) pk (fun w1 hS1=>du w1 g x m (bJ hS1 (by simp)) D (hD.call0 hS1) (fun w2 h2=>(h w2 h2).lg) (aJ x) O) O O (fun _=>O)) ?_ O O;rintro _ _ ⟨⟨⟨A3,K3,c3⟩,Z3⟩,rfl,hI3,rfl⟩)|(refine an (aq (f:=131) zy (fun w1 hS1=>vP w1 A3 A5 (aJ x).length c3 (m.p.pn+1) c5 (aJ x) (iZ x) (hI3 w1 ⟨hD.at_ hS1,hS1.at_ (A:=Z3) (by simp)⟩) (ce (hS1.at_ (A:=row 168 2 A5 (m.p.pn+1) c5 (C.pK (iZ x))) (by simp))) (by omega) (by omega) n hn) O O (fun _=>O)) ?_ O O;rintro _ _ ⟨_,rfl,_,rfl⟩)|(refine an (aq (f:=51) wL (fun w1 hS1=>g6 w1 x.base m.p.A m.p.c m.p.n m.p.Q x.es hw.hn hw.hQ (h w1 (hD.at_ hS1)).lg.rq hn1 n _ ht) O O (fun _=>O)) ?_ O O;rintro _ _ ⟨_,rfl,_,rfl⟩)|(refine bh (aw (cs:=aD x m) (cs':=aD y1 m) O O O O O (by rw[hy1,hc];rfl) (by show _<16;omega)) ?_ O;rintro _ _ rfl))
   exact iD (Sub.cons O Sub.nil) (eu (fun w' hS=>by rw[hyv,hyp];exact ae (H':=[pt g 89 (aD y1 m),row 3 1 m.p.vA m.p.vn m.p.vc (x.votes.map zv),row 112 3 m.p.pA m.p.pn m.p.pc (ab bp x.peers),row 65 12 m.sA m.S.length m.sc (ab bK m.S)]) w' hS) htail)
  ·have hc:y1=x:=by rw[hy1];unfold i0;rw[hn,ht,if_neg (fun e=>h2 e.2)]
   repeat' (first|refine aa (ay O (by omega)) ?_ O O|refine aa (aB O (by omega)) ?_ O O|refine bM O ?_ O O|refine ax ?_|refine aa (ac O) ?_ O O|refine aa (ai (ds:=aE x.base m.p.A m.p.n m.p.c) O O O O O) ?_ O O|refine aa (ah O O O O) ?_ O O|refine au O ?_|refine al O O ?_|refine aA O O ?_|refine bE O O ?_|refine aM O ?_|(refine an (bB (f:=43) pk (fun w1 hS1=>du w1 g x m (bJ hS1 (by simp)) D (hD.call0 hS1) (fun w2 h2=>(h w2 h2).lg) (aJ x) O) O O (fun _=>O)) ?_ O O;rintro _ _ ⟨⟨⟨A3,K3,c3⟩,Z3⟩,rfl,hI3,rfl⟩)|(refine an (aq (f:=131) zy (fun w1 hS1=>vP w1 A3 A5 (aJ x).length c3 (m.p.pn+1) c5 (aJ x) (iZ x) (hI3 w1 ⟨hD.at_ hS1,hS1.at_ (A:=Z3) (by simp)⟩) (ce (hS1.at_ (A:=row 168 2 A5 (m.p.pn+1) c5 (C.pK (iZ x))) (by simp))) (by omega) (by omega) n hn) O O (fun _=>O)) ?_ O O;rintro _ _ ⟨_,rfl,_,rfl⟩)|(refine an (aq (f:=51) wL (fun w1 hS1=>g6 w1 x.base m.p.A m.p.c m.p.n m.p.Q x.es hw.hn hw.hQ (h w1 (hD.at_ hS1)).lg.rq hn1 n _ ht) O O (fun _=>O)) ?_ O O;rintro _ _ ⟨_,rfl,_,rfl⟩))
   exact iD (Sub.cons O Sub.nil) (eu (fun w' hS=>by rw[hc];exact ae (H':=[pt g 89 (aD x m),row 3 1 m.p.vA m.p.vn m.p.vc (x.votes.map zv),row 112 3 m.p.pA m.p.pn m.p.pc (ab bp x.peers),row 65 12 m.sA m.S.length m.sc (ab bK m.S)]) w' hS) htail)
 ·have hc:y1=x:=by rw[hy1];unfold i0;rw[hn,ht,if_neg (fun e=>h1 e.1)]
  focus (refine qs ?_;refine qf ?_;refine qz ?_;refine qq ?_;refine qF ?_;refine bE O O ?_;refine qs ?_;refine qp ?_;(refine qe (bB (f:=43) pk (fun w1 hS1=>du w1 g x m (bJ hS1 (by simp)) D (hD.call0 hS1) (fun w2 h2=>(h w2 h2).lg) (aJ x) O) O O (fun _=>O)) ?_;rintro _ _ ⟨⟨⟨A3,K3,c3⟩,Z3⟩,rfl,hI3,rfl⟩);refine qp ?_;refine qh zy (fun w1 hS1=>vP w1 A3 A5 (aJ x).length c3 (m.p.pn+1) c5 (aJ x) (iZ x) (hI3 w1 ⟨hD.at_ hS1,hS1.at_ (A:=Z3) (by simp)⟩) (ce (hS1.at_ (A:=row 168 2 A5 (m.p.pn+1) c5 (C.pK (iZ x))) (by simp))) (by omega) (by omega) n hn) ?_;refine qp ?_;refine qz ?_;refine qq ?_;refine qs ?_;refine qp ?_;refine qt (ac O) ?_;refine qp ?_;refine qp ?_;refine qt (ai (ds:=aE x.base m.p.A m.p.n m.p.c) O O O O O) ?_;refine qp ?_;refine qh wL (fun w1 hS1=>g6 w1 x.base m.p.A m.p.c m.p.n m.p.Q x.es hw.hn hw.hQ (h w1 (hD.at_ hS1)).lg.rq hn1 n _ ht) ?_;(iterate 5 refine qp ?_);refine qn ?_;refine qp ?_;refine qp ?_;refine qt (ac O) ?_;refine qp ?_;refine qp ?_;refine qt (ah O O O O) ?_;refine qf ?_;refine qp ?_;(iterate 7 refine qk ?_);refine qp ?_;refine qz ?_;refine qF ?_;refine qx ?_;refine qq ?_)
  exact iD (Sub.cons O Sub.nil) (eu (fun w' hS=>by rw[hc];exact ae (H':=[pt g 89 (aD x m),row 3 1 m.p.vA m.p.vn m.p.vc (x.votes.map zv),row 112 3 m.p.pA m.p.pn m.p.pc (ab bp x.peers),row 65 12 m.sA m.S.length m.sc (ab bK m.S)]) w' hS) htail)
theorem oT (x:Rs) (n:Int):(ff x n).length≤1:=by
 unfold ff
 split
 ·exact Nat.zero_le _
 ·split<;>exact Nat.le_refl _
theorem oU (w:World) (g:Nat) (x:Rs) (m:Mm) (hS0:St w (ar (mP g x m)) (mP g x m) w) (D:Kw) (hD:Kd D (mP g x m) w) (h: ∀ w',D w'→McR w' x m) (hl:McL x m) (huA:RsU x) (hpn:m.p.pn≤900) (h5:(aJ x).length≤5) (hSm:m.S.length≤800):
  Gives Tryz.prog 41 [.pointer (some ⟨g,0,none⟩)] (mP g x m) w (X:=(List (Ms×Mp)×Option Addr×Nat)×Asn) (fun _=> .tuple #[]) (fun y=>y.1.1.map Prod.fst=kH x∧ ∀ w',K2 D y.2 w'→ ∀ s∈y.1.1,MsR w' s.1 s.2) (fun y=>mP g x (be m y.1)++[y.2]):=by
 refine kw Tryz.func41 O Tryz.ntmps41 Tryz.results41 (by simp) hS0 (fun B hE0 hR0 hEM=>?_)
 have hfl:(dr x).length≤5:=Nat.le_trans (List.length_filter_le _ _) h5
 have hnl:(aJ x).length≤5:=h5
 have h1:=h
 focus (refine qs ?_;(refine qe (fo (v:= .pointer (some ⟨g,0,none⟩)) O O) ?_;rintro _ _ ⟨b1,rfl,rfl⟩);refine qn ?_;refine qt (ah O O O O) ?_;(refine qe (bB (f:=57) Ed (fun w1 hS1=>gR w1 g) O O (fun _=>O)) ?_;rintro _ _ ⟨b2,rfl,_,rfl⟩);refine qz ?_;refine qb ?_)
 refine ez ?_
 refine kv (D0:=KL D [pt b2 87 [.pointer (some ⟨g,0,none⟩)]]) (R0:=fun w'=>tW w' g x (be m ([],m.sA,m.sc))) (R:=fun w'=>w'.cell? ⟨g,0,none⟩=some (.int .i64 x.me)) (es:=(dr x).map fun n=>[zv n]) (ps:=[5]) (X:=(List (Ms×Mp)×Option Addr×Nat)×Asn) (fun y=>y.2::mP g x (be m y.1)) (fun i y=>y.1.1.map Prod.fst=((dr x).take i).flatMap (ff x)∧ ∀ w',K2 D y.2 w'→ ∀ s∈y.1.1,MsR w' s.1 s.2) (fun i y=>False) (([],m.sA,m.sc),zN) [pt b2 87 [.pointer (some ⟨g,0,none⟩)],pt b1 87 [.pointer (some ⟨g,0,none⟩)]] O O xj (by kernel_rfl) (fun e he=>?_) ⟨O,fun _ _ s hs=>absurd hs (by simp)⟩ (fun w' hS=>?_) (fun w' hS=>?_) (fun w' hS=>hD.subL hS (by simp)) (fun w' hw=>lk (hw (pt g 89 (aD x (be m ([],m.sA,m.sc)))) (by simp))) (fun i y w' _ hw=>rT (x:=x) (hw (pt g 89 (aD x (be m y.1))) (by simp))) (fun j y w' hx hj hS=>?_) (fun y Dd hy=>?_) (fun y Dd j hj hy=>absurd hy id)
 ·obtain⟨n,_,rfl⟩:=List.mem_map.1 he
  rfl
 ·rw[kM]
  exact ae (H':=[zN,pt g 89 (aD x m),row 3 1 m.p.vA m.p.vn m.p.vc (x.votes.map zv),row 112 3 m.p.pA m.p.pn m.p.pc (ab bp x.peers),row 65 12 m.sA m.S.length m.sc (ab bK m.S),pt b2 87 [.pointer (some ⟨g,0,none⟩)],pt b1 87 [.pointer (some ⟨g,0,none⟩)]]) w' hS
 ·exact gr w' g b2 x (be m ([],m.sA,m.sc)) _ (fun w2 h2=>(h1 w2 h2.1).lg) (fun w2 h2=>kL (t:=87) (h2.2 (pt b2 87 [.pointer (some ⟨g,0,none⟩)]) (by simp))) (aJ x) O (by omega)
 ·rw[List.length_map] at hj
  obtain⟨n,hn⟩: ∃ n,(dr x).getD j 0=n:=⟨_,O⟩
  have htk:(dr x).take (j+1)=(dr x).take j++[n]:=by rw[List.take_succ_eq_append_getElem hj];simp[List.getD,hj, ← hn]
  have hge:((dr x).map fun n=>[zv n]).getD j []=[zv n]:=by rw[← hn];simp[List.getD,hj]
  rw[hge]
  obtain⟨⟨N,AN,cN⟩,Zy⟩:=y
  obtain⟨hx1,hx2⟩:=hx
  dsimp only at hx1 hx2
  have hNl:N.length≤5:=by
   have e1:N.length=(((dr x).take j).flatMap (ff x)).length:=by rw[← hx1,List.length_map]
   rw[e1]
   refine Nat.le_trans (jl (fun a=>?_) _) ?_
   ·exact oT x a
   ·rw[List.length_take]
    omega
  intro l2 rA rB Ba Bb J hfull hbeg hend hret
  have hC1:=dh (b:=b1) (As:=rA::Zy::mP g x (be m (N,AN,cN))) hfull O
  have hDr:Kd D (rA::Zy::mP g x (be m (N,AN,cN))) w':=hD.to hfull
  have hms: ∀ w2,K2 D Zy w2→McR w2 x (be m (N,AN,cN)):=fun w2 h2=>⟨(h1 w2 h2.1).lg,fun s hs=>by
   rcases List.mem_append.1 hs with hs|hs
   ·exact(h1 w2 h2.1).ms s hs
   ·exact hx2 w2 h2 s hs⟩
  have hSl:(be m (N,AN,cN)).S.length≤900:=by
   show (m.S++N).length≤900
   rw[List.length_append]
   have:m.S.length≤800:=hSm
   omega
  focus (refine qr ?_;refine qp ?_;refine qz ?_)
  refine hbeg _ (Zy::mP g x (be m (N,AN,cN))) _ ?_ ae
  have hlA:McL x (be m (N,AN,cN)):=⟨hl.hvn,hl.hpn⟩
  have hpnA:(be m (N,AN,cN)).p.pn≤900:=hpn
  focus (refine qb ?_;refine qr ?_;refine qt (cB (v:= .pointer (some ⟨g,0,none⟩)) O O O hC1 (fun k hk=>hk) O) ?_;refine qp ?_;(refine qe (cq (f:=60) (D:=D) (Z:=Zy) (mP g x (be m (N,AN,cN))) (fun z:(List (Ms×Mp)×Option Addr×Nat)×Asn=>mP g x (be (be m (N,AN,cN)) z.1)) hDr Ee (fun w1 _ hk hS1=>kK w1 g x (be m (N,AN,cN)) hS1 (K2 D Zy) hk (fun w2 h2=>hms w2 h2) hlA hpnA huA hSl n) O O) ?_;rintro _ _ ⟨⟨⟨N2,A2,c2⟩,C2⟩,Z',rfl,⟨hI1,hI2⟩,hold,hnew,rfl⟩;dsimp only[List.cons_append,List.nil_append] at hI1 hI2 ⊢);refine qz ?_;refine aK ?_)
  refine hend ((N++N2,A2,c2),Z') _ _ ⟨?_,fun w2 h2 s hs=>?_⟩ ?_
  ·dsimp only
   rw[htk,List.flatMap_append,List.map_append,hx1,hI1]
   simp
  ·rcases List.mem_append.1 hs with hs|hs
   ·exact hx2 w2 (hold w2 h2) s hs
   ·exact hI2 w2 (hnew w2 h2) s hs
  ·have e:be (be m (N,AN,cN)) (N2,A2,c2)=be m (N++N2,A2,c2):=by simp[be,List.append_assoc]
   dsimp only
   rw[← e]
   exact ae
 ·simp only[List.cons_append,List.nil_append]
  focus (refine aK ?_)
  refine hEM _ _ _ _ inferInstance fun w' hS=>⟨(y.1,y.2),?_,?_⟩
  ·rw[List.length_map,List.take_length] at hy
   exact hy
  ·exact(ae (H':=y.2::mP g x (be m y.1)) w' hS).perm (List.perm_append_comm (l₁:=[y.2]))
theorem vR (x:Rs) (n:Int):(fV x n).length≤1:=by
 unfold fV
 split
 ·exact Nat.zero_le _
 ·split
  ·exact oT x n
  ·exact Nat.zero_le _
theorem jZ (x:Rs):(dI x).peers.length≤x.peers.length:=by
 unfold dI
 split
 ·exact Nat.zero_le _
 ·exact Nat.le_refl _
def dw (m:Mm) (A:Option Addr) (n c:Nat) (Q:List Em):Mm:=⟨⟨A,n,c,Q,m.p.cA,m.p.cn,m.p.cc,m.p.vA,m.p.vn,m.p.vc,m.p.pA,m.p.pn,m.p.pc⟩,m.S,m.sA,m.sc,m.i⟩
def fA (x:Rs) (b:At) (es:List En):Rs:={x with base:=b,es:=es}
theorem tz (w:World) (g:Nat) (x:Rs) (m:Mm) (hS0:St w (ar (mP g x m)) (mP g x m) w) (D:Kw) (hD:Kd D (mP g x m) w) (h: ∀ w',D w'→McR w' x m) (hl:McL x m) (bl:Nat) (b:At) (es:List En) (A:Option Addr) (n c:Nat) (Q:List Em) (hbl: ∀ w',D w'→Rd w' bC 1 (some ⟨bl,0,none⟩) 3 (aE b A n c)) (hlg: ∀ w',D w'→LgR w' (fA x b es) (dw m A n c Q).p)
  (hpn:m.p.pn≤800) (h5:(aJ (fA x b es)).length≤5) (hSm:m.S.length≤800) (hu2:RsU (dI (fA x b es))) (h52:(aJ (dI (fA x b es))).length≤5):
  Mth g x (dI (fA x b es)) m ((dr (dI (fA x b es))).flatMap (fV (dI (fA x b es)))) m.i D 55 [.pointer (some ⟨bl,0,none⟩)] w:=by
 unfold Mth
 refine kw Tryz.func55 O Tryz.ntmps55 Tryz.results55 (by simp) hS0 (fun B hE0 hR0 hEM=>?_)
 obtain⟨x1,hx1⟩: ∃ y,y=fA x b es:=⟨_,O⟩
 obtain⟨m1,hm1⟩: ∃ y,y=dw m A n c Q:=⟨_,O⟩
 rw[← hx1] at hEM hE0 hR0 hlg h5 hu2 h52
 rw[← hm1] at hlg
 obtain⟨x2,hx2⟩: ∃ y,y=dI x1:=⟨_,O⟩
 rw[← hx2] at hEM hE0 hR0 hu2 h52
 have hM1: ∀ w',D w'→McR w' x1 m1:=fun w' h'=>⟨hlg w' h',by rw[hm1];exact(h w' h').ms⟩
 have hL1:McL x1 m1:=by rw[hx1,hm1];exact⟨hl.hvn,hl.hpn⟩
 have hp1:x1.peers.length≤800:=by rw[hx1];show x.peers.length≤800;rw[hl.hpn];exact hpn
 have hcv: ∀ b1 w',St w (ar (mP g x m)) [pt b1 87 [.pointer (some ⟨g,0,none⟩)],pt g 89 (aD x1 m1),row 3 1 m.p.vA m.p.vn m.p.vc (x.votes.map zv),row 112 3 m.p.pA m.p.pn m.p.pc (ab bp x.peers),row 65 12 m.sA m.S.length m.sc (ab bK m.S)] w'→St w (ar (mP g x m)) ([zN,pt g 89 (aD x1 m1),row 3 1 m1.p.vA m1.p.vn m1.p.vc (x1.votes.map zv),row 112 3 m1.p.pA m1.p.pn m1.p.pc (ab bp x1.peers),row 65 12 m1.sA m1.S.length m1.sc (ab bK m1.S),pt b1 87 [.pointer (some ⟨g,0,none⟩)]]) w':=fun b1 w' hS=>dN (by
  have h9:=ae (H':=[pt g 89 (aD x1 m1),row 3 1 m.p.vA m.p.vn m.p.vc (x.votes.map zv),row 112 3 m.p.pA m.p.pn m.p.pc (ab bp x.peers),row 65 12 m.sA m.S.length m.sc (ab bK m.S),pt b1 87 [.pointer (some ⟨g,0,none⟩)]]) w' hS
  rw[hx1,hm1] at h9 ⊢
  exact h9)
 have hcm: ∀ (w1:World),St w1 (ar (mP g x1 m1)) (mP g x1 m1) w1→Kd (K2 D zN) (mP g x1 m1) w1→Gives Tryz.prog 56 [.pointer (some ⟨g,0,none⟩)] (mP g x1 m1) w1 (X:=Mm×Asn) (fun _=> .tuple #[]) (fun y=>y.1.S.map Prod.fst=m1.S.map Prod.fst++[]∧y.1.i=m1.i∧McL x2 y.1∧ ∀ w',K2 (K2 D zN) y.2 w'→McR w' x2 y.1) (fun y=>mP g x2 y.1++[y.2]):=fun w1 hS1 hk=>by
  have h9:=jn w1 g x1 m1 hS1 (K2 D zN) hk (fun w2 h2=>hM1 w2 h2.1) hL1 h5 hp1
  unfold Mth at h9
  rw[← hx2] at h9
  exact h9
 focus (refine qs ?_;(refine qe (fo (v:= .pointer (some ⟨g,0,none⟩)) O O) ?_;rintro _ _ ⟨b1,rfl,rfl⟩);refine qn ?_;refine qt (ah O O O O) ?_;refine qt (jY (m:=3) (xs:=aE b A n c) (ds:=aE b A n c) O O O (fun w1 hS1=>hbl w1 (hD.at_ hS1)) O (by decide) O) ?_;refine qt (ac O) ?_;refine qp ?_;refine qp ?_;(refine qw (gJ (gb:=g) (t:=89) (cs:=aD x m) (ds:=aE b A n c) (cs':=aD x1 m1) O O O O (bD _ _ _ _) (by rw[hx1,hm1];rfl) (by show 3+3≤16;omega)) ?_;rintro _ _ rfl);refine qn ?_;refine qt (ah O O O O) ?_;(refine qe (Ef.pre (hcv b1) (cq (f:=56) (D:=D) (Z:=zN) (mP g x1 m1) (fun z:Mm×Asn=>mP g x2 z.1) hD FJ (fun w1 _ hk hS1=>hcm w1 hS1 hk) O O)) ?_;rintro _ _ ⟨⟨m2,C2⟩,Z0,rfl,⟨hm2S,hm2i,hl2,hm2R⟩,hold0,hnew0,rfl⟩;dsimp only[List.cons_append,List.nil_append] at hm2S hm2i hl2 hm2R ⊢);refine qn ?_;refine qt (ah O O O O) ?_;(refine qe (bB (f:=57) Ed (fun w1 hS1=>gR w1 g) O O (fun _=>O)) ?_;rintro _ _ ⟨b2,rfl,_,rfl⟩);refine qz ?_;refine qb ?_)
 have hm2S:m2.S.map Prod.fst=m.S.map Prod.fst:=by rw[hm2S,List.append_nil,hm1];rfl
 have hm2i:m2.i=m.i:=by rw[hm2i,hm1];rfl
 have hSm2:m2.S.length≤800:=by
  have:=congrArg List.length hm2S
  rw[List.length_map,List.length_map] at this
  omega
 have hpn2:m2.p.pn≤900:=by
  have h7:=jZ x1
  rw[← hx2,hl2.hpn] at h7
  omega
 have h1: ∀ w',KL D [Z0] w'→McR w' x2 m2:=fun w' h'=>hm2R w' (hnew0 w' ⟨h'.1,h'.2 Z0 (by simp)⟩)
 have huA:=hu2
 have hfl:(dr x2).length≤5:=Nat.le_trans (List.length_filter_le _ _) h52
 have hnl:(aJ x2).length≤5:=h52
 refine ez ?_
 refine kv (D0:=KL D [pt b2 87 [.pointer (some ⟨g,0,none⟩)],Z0]) (R0:=fun w'=>tW w' g x2 (be m2 ([],m2.sA,m2.sc))) (R:=fun w'=>w'.cell? ⟨g,0,none⟩=some (.int .i64 x2.me)) (es:=(dr x2).map fun n=>[zv n]) (ps:=[14]) (X:=(List (Ms×Mp)×Option Addr×Nat)×Asn) (fun y=>y.2::mP g x2 (be m2 y.1)) (fun i y=>y.1.1.map Prod.fst=((dr x2).take i).flatMap (fV x2)∧ ∀ w',K2 (KL D [Z0]) y.2 w'→ ∀ s∈y.1.1,MsR w' s.1 s.2) (fun i y=>False) (([],m2.sA,m2.sc),zN) [pt b2 87 [.pointer (some ⟨g,0,none⟩)],pt b1 87 [.pointer (some ⟨g,0,none⟩)],Z0] O O xj (by kernel_rfl) (fun e he=>?_) ⟨O,fun _ _ s hs=>absurd hs (by simp)⟩ (fun w' hS=>?_) (fun w' hS=>?_) (fun w' hS=>hD.subL hS (by simp)) (fun w' hw=>lk (hw (pt g 89 (aD x2 (be m2 ([],m2.sA,m2.sc)))) (by simp))) (fun i y w' _ hw=>rT (x:=x2) (hw (pt g 89 (aD x2 (be m2 y.1))) (by simp))) (fun j y w' hx hj hS=>?_) (fun y Dd hy=>?_) (fun y Dd j hj hy=>absurd hy id)
 ·obtain⟨n,_,rfl⟩:=List.mem_map.1 he
  rfl
 ·rw[kM]
  exact ae (H':=[zN,pt g 89 (aD x2 m2),row 3 1 m2.p.vA m2.p.vn m2.p.vc (x2.votes.map zv),row 112 3 m2.p.pA m2.p.pn m2.p.pc (ab bp x2.peers),row 65 12 m2.sA m2.S.length m2.sc (ab bK m2.S),pt b2 87 [.pointer (some ⟨g,0,none⟩)],pt b1 87 [.pointer (some ⟨g,0,none⟩)],Z0]) w' hS
 ·exact gr w' g b2 x2 (be m2 ([],m2.sA,m2.sc)) _ (fun w2 h2=>(h1 w2 ⟨h2.1,fun A hA=>h2.2 A (List.mem_cons_of_mem _ hA)⟩).lg) (fun w2 h2=>kL (t:=87) (h2.2 (pt b2 87 [.pointer (some ⟨g,0,none⟩)]) (by simp))) (aJ x2) O (by omega)
 ·rw[List.length_map] at hj
  obtain⟨n,hn⟩: ∃ n,(dr x2).getD j 0=n:=⟨_,O⟩
  have htk:(dr x2).take (j+1)=(dr x2).take j++[n]:=by rw[List.take_succ_eq_append_getElem hj];simp[List.getD,hj, ← hn]
  have hge:((dr x2).map fun n=>[zv n]).getD j []=[zv n]:=by rw[← hn];simp[List.getD,hj]
  rw[hge]
  obtain⟨⟨N,AN,cN⟩,Zy⟩:=y
  obtain⟨hx1,hx2⟩:=hx
  dsimp only at hx1 hx2
  have hNl:N.length≤5:=by
   have e1:N.length=(((dr x2).take j).flatMap (fV x2)).length:=by rw[← hx1,List.length_map]
   rw[e1]
   refine Nat.le_trans (jl (fun a=>?_) _) ?_
   ·exact vR x2 a
   ·rw[List.length_take]
    omega
  intro l2 rA rB Ba Bb J hfull hbeg hend hret
  have hC1:=dh (b:=b1) (As:=rA::Zy::mP g x2 (be m2 (N,AN,cN))) hfull O
  have hDr:Kd (KL D [Z0]) (rA::Zy::mP g x2 (be m2 (N,AN,cN))) w':=hD.subL hfull (by simp)
  have hms: ∀ w2,K2 (KL D [Z0]) Zy w2→McR w2 x2 (be m2 (N,AN,cN)):=fun w2 h2=>⟨(h1 w2 h2.1).lg,fun s hs=>by
   rcases List.mem_append.1 hs with hs|hs
   ·exact(h1 w2 h2.1).ms s hs
   ·exact hx2 w2 h2 s hs⟩
  have hSl:(be m2 (N,AN,cN)).S.length≤900:=by
   show (m2.S++N).length≤900
   rw[List.length_append]
   have:m2.S.length≤800:=hSm2
   omega
  focus (refine qr ?_;refine qp ?_;refine qz ?_)
  refine hbeg _ (Zy::mP g x2 (be m2 (N,AN,cN))) _ ?_ ae
  have hlA:McL x2 (be m2 (N,AN,cN)):=⟨hl2.hvn,hl2.hpn⟩
  have hpnA:(be m2 (N,AN,cN)).p.pn≤900:=hpn2
  have hlpA:x2.peers.length=(be m2 (N,AN,cN)).p.pn:=hl2.hpn
  obtain⟨P,hP⟩: ∃ P,rS x2 (be m2 (N,AN,cN)) n=P:=⟨_,O⟩
  have hnm:fV x2 n=match x2.peers.find? (fun p=>decide (p.1=n)) with
   |none=>[]
   |some p=>if p.2.1≤(lastP x2).1 then ff x2 n else []:=rfl
  have hw2:=(h1 w' hDr.now).lg
  cases hf:x2.peers.find? (fun p=>decide (p.1=n)) with
  |none=>
   rw[hf] at hnm
   dsimp only at hnm
   obtain rfl:P=none:=by rw[← hP,rS,jz hf];rfl
   focus (refine qb ?_;refine qs ?_;refine qt (cB (v:= .pointer (some ⟨g,0,none⟩)) O O O hC1 (fun k hk=>hk) O) ?_;refine qp ?_;refine qh tT (fun w1 hS1=>gi w1 g x2 (be m2 (N,AN,cN)) (bJ hS1 (by simp)) ((Srd.row (n:=(be m2 (N,AN,cN)).p.pn) (c:=(be m2 (N,AN,cN)).p.pc)).rd w1 hS1) hlpA hpnA n _ hP) ?_;refine qp ?_;refine qz ?_;refine qq ?_)
   refine iG ([pt g 89 (aD x2 (be m2 (N,AN,cN))),row 112 3 (be m2 (N,AN,cN)).p.pA (be m2 (N,AN,cN)).p.pn (be m2 (N,AN,cN)).p.pc (ab bp x2.peers)]) ae (by kernel_rfl) O (by kernel_rfl) (by kernel_rfl) (by kernel_rfl:_=12) ?_
   refine dp 0 ?_
   refine dt 1 O (lp (r:=false) O O O O O) ?_
   refine dp 2 ?_
   refine dk 3 ?_
   refine dk 4 ?_
   refine dk 5 ?_
   refine dk 6 ?_
   refine dk 7 ?_
   refine dk 8 ?_
   refine dk 9 ?_
   refine dk 10 ?_
   refine dp 11 ?_
   refine dn ?_
   skip
   focus (refine qF ?_;refine qx ?_;refine aK ?_)
   refine hend ((N,AN,cN),Zy) _ _ ⟨?_,hx2⟩ ae
   dsimp only
   rw[htk,List.flatMap_append,hx1,List.flatMap_cons,List.flatMap_nil,hnm]
   simp
  |some q=>
   rw[hf] at hnm
   obtain⟨i,hil,hix,hgi,_⟩:=jA hf
   obtain rfl:P=pa (be m2 (N,AN,cN)).p.pA (i*3):=by rw[← hP,rS,hix,if_pos (by omega)];rfl
   obtain⟨kqw,kqn,kqm⟩:=q
   dsimp only at hnm
   have hat:=bi (f:=bp) d2 x2.peers default i hil
   rw[hgi] at hat
   have hat1:(ab bp x2.peers)[i*3+1]? =some (.int .u64 (kqn:Int)):=hat 1 _ O
   refine eS (be m2 (N,AN,cN)).p.pA (be m2 (N,AN,cN)).p.pn (be m2 (N,AN,cN)).p.pc fun _ _ hneR _=>?_
   have hne:(be m2 (N,AN,cN)).p.pA≠none:=hneR (by omega)
   obtain⟨AP,hAP⟩: ∃ A,pa (be m2 (N,AN,cN)).p.pA (i*3)=some A:=by
    cases hpA:(be m2 (N,AN,cN)).p.pA with
    |none=>exact absurd hpA hne
    |some ad=>exact⟨_,O⟩
   focus (refine qb ?_;refine qs ?_;refine qt (cB (v:= .pointer (some ⟨g,0,none⟩)) O O O hC1 (fun k hk=>hk) O) ?_;refine qp ?_;refine qh tT (fun w1 hS1=>gi w1 g x2 (be m2 (N,AN,cN)) (bJ hS1 (by simp)) ((Srd.row (n:=(be m2 (N,AN,cN)).p.pn) (c:=(be m2 (N,AN,cN)).p.pc)).rd w1 hS1) hlpA hpnA n _ hP) ?_;refine qp ?_;refine qz ?_;refine qq ?_)
   by_cases hle:kqn≤(lastP x2).1
   ·rw[if_pos hle] at hnm
    refine iG ([pt g 89 (aD x2 (be m2 (N,AN,cN))),row 112 3 (be m2 (N,AN,cN)).p.pA (be m2 (N,AN,cN)).p.pn (be m2 (N,AN,cN)).p.pc (ab bp x2.peers)]) ae (by kernel_rfl) O (by kernel_rfl) (by kernel_rfl) (by kernel_rfl:_=12) ?_
    refine dp 0 ?_
    (refine dt 1 O (lp (r:=true) O O O O (by rw[hAP];rfl)) ?_)
    refine dp 2 ?_
    refine dp 3 ?_
    refine dt 4 O (eW O hne) ?_
    refine dt 5 O (dx O O O O O hne) ?_
    refine dt 6 O (bN (v:= .int .u64 (kqn:Int)) O O O (Srd.row (n:=(be m2 (N,AN,cN)).p.pn) (c:=(be m2 (N,AN,cN)).p.pc)) (by omega) hat1) ?_
    refine dt 7 O (cB (v:= .pointer (some ⟨g,0,none⟩)) O O O hC1 (fun k hk=>hk) O) ?_
    refine dE 8 O (aq (f:=59) pE (fun w1 hS1=>ef w1 g x2 (be m2 (N,AN,cN)) (bJ hS1 (by simp)) (h1 w1 (hDr.at_ hS1)).lg) O O (fun _=>O)) ?_
    rintro _ _ ⟨_,rfl,_,rfl⟩
    refine nx ?_
    refine dt 9 O (cW (xs:=aO (lastP x2)) O O O O O O) ?_
    refine cZ 10 ?_
    refine cZ 11 ?_
    refine dn ?_
    skip
    focus (refine qT ?_;refine qr ?_;refine qt (cB (v:= .pointer (some ⟨g,0,none⟩)) O O O hC1 (fun k hk=>hk) O) ?_;refine qp ?_;(refine qe (cq (f:=60) (D:=(KL D [Z0])) (Z:=Zy) (mP g x2 (be m2 (N,AN,cN))) (fun z:(List (Ms×Mp)×Option Addr×Nat)×Asn=>mP g x2 (be (be m2 (N,AN,cN)) z.1)) hDr Ee (fun w1 _ hk hS1=>kK w1 g x2 (be m2 (N,AN,cN)) hS1 (K2 (KL D [Z0]) Zy) hk (fun w2 h2=>hms w2 h2) hlA hpnA huA hSl n) O O) ?_;rintro _ _ ⟨⟨⟨N2,A2,c2⟩,C2⟩,Z',rfl,⟨hI1,hI2⟩,hold,hnew,rfl⟩;dsimp only[List.cons_append,List.nil_append] at hI1 hI2 ⊢);refine qz ?_;refine aK ?_)
    refine hend ((N++N2,A2,c2),Z') _ _ ⟨?_,fun w2 h2 s hs=>?_⟩ ?_
    ·dsimp only
     rw[htk,List.flatMap_append,List.map_append,hx1,hI1,List.flatMap_cons,List.flatMap_nil,hnm,List.append_nil]
    ·rcases List.mem_append.1 hs with hs|hs
     ·exact hx2 w2 (hold w2 h2) s hs
     ·exact hI2 w2 (hnew w2 h2) s hs
    ·have e:be (be m2 (N,AN,cN)) (N2,A2,c2)=be m2 (N++N2,A2,c2):=by simp[be,List.append_assoc]
     dsimp only
     rw[← e]
     exact ae
   ·rw[if_neg hle] at hnm
    refine iG ([pt g 89 (aD x2 (be m2 (N,AN,cN))),row 112 3 (be m2 (N,AN,cN)).p.pA (be m2 (N,AN,cN)).p.pn (be m2 (N,AN,cN)).p.pc (ab bp x2.peers)]) ae (by kernel_rfl) O (by kernel_rfl) (by kernel_rfl) (by kernel_rfl:_=12) ?_
    refine dp 0 ?_
    (refine dt 1 O (lp (r:=true) O O O O (by rw[hAP];rfl)) ?_)
    refine dp 2 ?_
    refine dp 3 ?_
    refine dt 4 O (eW O hne) ?_
    refine dt 5 O (dx O O O O O hne) ?_
    refine dt 6 O (bN (v:= .int .u64 (kqn:Int)) O O O (Srd.row (n:=(be m2 (N,AN,cN)).p.pn) (c:=(be m2 (N,AN,cN)).p.pc)) (by omega) hat1) ?_
    refine dt 7 O (cB (v:= .pointer (some ⟨g,0,none⟩)) O O O hC1 (fun k hk=>hk) O) ?_
    refine dE 8 O (aq (f:=59) pE (fun w1 hS1=>ef w1 g x2 (be m2 (N,AN,cN)) (bJ hS1 (by simp)) (h1 w1 (hDr.at_ hS1)).lg) O O (fun _=>O)) ?_
    rintro _ _ ⟨_,rfl,_,rfl⟩
    refine nx ?_
    refine dt 9 O (cW (xs:=aO (lastP x2)) O O O O O O) ?_
    refine eI 10 ?_
    refine dp 11 ?_
    refine dn ?_
    skip
    focus (refine qF ?_;refine qx ?_;refine aK ?_)
    refine hend ((N,AN,cN),Zy) _ _ ⟨?_,hx2⟩ ae
    dsimp only
    rw[htk,List.flatMap_append,hx1,List.flatMap_cons,List.flatMap_nil,hnm]
    simp
 ·simp only[List.cons_append,List.nil_append]
  focus (refine aK ?_)
  refine hEM _ _ _ _ inferInstance fun w' hS=>⟨(be m2 y.1,zA Z0 y.2),?_,?_⟩
  ·rw[List.length_map,List.take_length] at hy
   refine⟨?_,hm2i,⟨hl2.hvn,hl2.hpn⟩,fun w2 h2=>?_⟩
   ·show (m2.S++y.1.1).map Prod.fst=_
    rw[List.map_append,hm2S,hy.1]
   ·have h3:KL D [Z0] w2:=⟨h2.1,fun A hA=>by
     obtain rfl:A=Z0:=by simpa using hA
     exact iY h2.2⟩
    refine⟨(h1 w2 h3).lg,fun s hs=>?_⟩
    rcases List.mem_append.1 hs with hs|hs
    ·exact(h1 w2 h3).ms s hs
    ·exact hy.2 w2 ⟨h3,gZ h2.2⟩ s hs
  ·exact(fT (ae (H':=Z0::y.2::mP g x2 (be m2 y.1)) w' hS)).perm (List.perm_append_comm (l₁:=[zA Z0 y.2]))
def kP (x:Rs) (d:List UInt8):Bool:=((fv x.base x.es (lastP x).1).2.2&&decide (x.commit<(fv x.base x.es (lastP x).1).1))|| !decide ((eC x.base x.es x.commit).1=x.term)|| !decide (C.kW (aJ x) (C.cI d)=0)
def wP (x:Rs) (k:Int) (d:List UInt8):Int×At×At×List En:=app x.base x.es (x.term,k,d)
def eJ (x:Rs) (k:Int) (d:List UInt8):Int:=
 if (¬ k=2∧ ¬ k=3)∨1024<d.length∨(k=3∧gm d=false) then 2 else if ¬ x.role=4 then 251 else if k=3∧kP x d=true then 252 else (wP x k d).1
def gj (x:Rs) (k:Int) (d:List UInt8):Rs:=if eJ x k d=0 then dI (fA x (wP x k d).2.2.1 (wP x k d).2.2.2) else dy
def tA (x:Rs) (k:Int) (d:List UInt8):List Ms:=if eJ x k d=0 then (dr (gj x k d)).flatMap (fV (gj x k d)) else []
def oV (x:Rs) (k:Int) (d:List UInt8):At:=if eJ x k d=0 then (wP x k d).2.1 else (0,0)
theorem g8 {x:Rs} {k:Int} {d:List UInt8} {e:Int} (h:eJ x k d=e) (h0:e≠0):gj x k d=dy∧tA x k d=[]∧oV x k d=(0,0):=
 ⟨if_neg (h▸h0),if_neg (h▸h0),if_neg (h▸h0)⟩
theorem DQ {b:Nat} {a:At} {A:Option Addr} {n c:Nat} {w:World} (h:(pt b 39 (aE a A n c)).holds w):Rd w bC 1 (some ⟨b,0,none⟩) 3 (aE a A n c):=
 (Srd.pt (w0:=w) (M:=fun k=>k=b) (H:=[pt b 39 (aE a A n c)]) (g:=b) (t:=39) (n:=3) (size:=1) (off:=0) (cs:=aE a A n c) (ds:=aE a A n c) O (fun j u hj=>by rw[Nat.zero_add];exact hj)).rd w ⟨Kp.refl _ _,fun A' hA=>by
  obtain rfl:A'=pt b 39 (aE a A n c):=by simpa using hA
  refine⟨h,fun k hk=>?_⟩
  obtain rfl:k=b:=hk
  exact⟨.inl O,(Array.getElem?_eq_some_iff.1 h).1⟩,List.pairwise_singleton _ _⟩
theorem rY (x:Rs):(dI x).cf=x.cf:=by
 unfold dI
 split<;>rfl
theorem qy (x:Rs):(dI x).votes.length≤x.votes.length:=by
 unfold dI
 split
 ·exact Nat.zero_le _
 ·exact Nat.le_refl _
theorem jD {x:Rs} (h:cz x=true):x.peers.length≤5:=by
 have h1:di x (lastP x).1=true:=by
  simp only[cz,Bool.and_eq_true] at h
  exact h.2
 by_cases h4:x.role=4
 ·rw[rP _ _ h4,Bool.and_eq_true] at h1
  rw[nG _ _ _ h1.2]
  exact rO _
 ·simp only[di,Bool.and_eq_true,if_neg h4,decide_eq_true_eq] at h1
  omega
theorem ya {a:At} {l:List En} {y:En} {e:Int} {p b:At} {r:List En} (hd1: ∀ e∈l,e.2.2.length≤100000) (hd2:y.2.2.length≤100000) (h:app a l y=(e,p,b,r)) (he:e=0):r.length≤17∧ ∀ e∈r,e.2.2.length≤100000:=by
 subst he
 unfold app at h
 split at h
 ·rename_i hr
  split at h
  ·split at h
   ·simp at h
   ·simp only[Prod.mk.injEq,true_and] at h
    obtain⟨_,_,rfl⟩:=h
    have:l.length≤16:=by
     simp only[br,Bool.and_eq_true,decide_eq_true_eq] at hr
     exact hr.1.1.2
    refine⟨by rw[List.length_append,List.length_singleton];omega,fun e he=>?_⟩
    rcases List.mem_append.1 he with he|he
    ·exact hd1 e he
    ·rw[List.mem_singleton.1 he]
     exact hd2
  ·simp at h
 ·simp at h
theorem lH (w:World):SrvR w dy ⟨df,[],none,0,false⟩:=⟨GR w,Rd.none_,fun s hs=>absurd hs (by simp),Nat.zero_le _⟩
theorem nJ (w:World) (A A2:Option Addr) (n c n2 c2:Nat) (ms ks:List Int) (h:Rd w bC 1 A n (ms.map zv)) (h2:Rd w bC 1 A2 n2 (ks.map zv)) (hn:n≤1000) (hn2:n2≤1000) (r:Int) (hr:C.kW ms ks=r):
  Gives Tryz.prog 52 [C.jM A n c,C.jM A2 n2 c2] [] w (X:=Unit) (fun _=> .int .i64 r) (fun _=>True) (fun _=>[]):=hr▸C.uG w A A2 n c n2 c2 ms ks h h2 hn hn2
theorem dK (w:World) (e:Int):
  Gives Tryz.prog 46 [.int .i64 e] [] w (X:=Unit) (fun _=> .tuple #[.agg (aZ dy df).toArray,.slice none 0 0,.agg (aO (0,0)).toArray,.int .i64 e]) (fun _=>True) (fun _=>[]):=by
 refine cX Tryz.func46 O Tryz.ntmps46 Tryz.results46 (by simp) (St.enter w) (fun B hB=>?_)
 focus (refine qs ?_;(refine qe (am O ch) ?_;rintro _ _ ⟨b2,rfl,rfl⟩);refine qp ?_;(refine qe (am O ba) ?_;rintro _ _ ⟨b4,rfl,rfl⟩);refine qp ?_;refine qn ?_;refine qt (bu lh) ?_;refine qt (bu bY) ?_;refine qp ?_;(refine qw (aj (cs:=aZ dy df) (ds:=aZ dy df) O O O O (bn _ _) O) ?_;rintro _ _ rfl);refine qp ?_;(refine qw (aj (cs:=aO (0,0)) (ds:=aO (0,0)) O O O O (aQ _) O) ?_;rintro _ _ rfl);refine qp ?_;refine qz ?_)
 refine hB _ _ _ _ _ O (.cell O O O inferInstance O (.tmp O (.cell O O O inferInstance O (.tmp O .nil)))) fun w' hS=>⟨(),O,trivial,hS.sublist (List.nil_sublist _)⟩
theorem gS (w:World) (x:Rs) (p:Rp) (h:RfR w x p) (k:Int) (dA:Option Addr) (dn dc:Nat) (d:List UInt8) (hd:Bs w bC dA dn dc d) (hdn:dn≤90000) (hck:cz x=true) (hu2:RsU (gj x k d)):
  Gives Tryz.prog 16 [.agg (aZ x p).toArray,.int .i64 k,.slice dA dn dc] [] w (X:=Mm×Asn) (fun y=> .tuple #[.agg (aZ (gj x k d) y.1.p).toArray,.slice y.1.sA y.1.S.length y.1.sc,.agg (aO (oV x k d)).toArray,.int .i64 (eJ x k d)]) (fun y=>y.1.S.map Prod.fst=tA x k d∧ ∀ w',y.2.holds w'→SrvR w' (gj x k d) y.1) (fun y=>[y.2]):=by
 refine cX Tryz.func16 O Tryz.ntmps16 Tryz.results16 (by simp) (St.enter w) (fun B hB=>?_)
 have hdl:d.length=dn:=by have:=hd.rd.1;simpa using this
 subst hdl
 have hcf:=kO hck
 have hn5:(aJ x).length≤1000:=Nat.le_trans (zZ hck) (by decide)
 have hd5:(C.cI d).length≤1000:=Nat.le_trans (rX d) (by decide)
 obtain⟨q,hq⟩: ∃ q,gm d=q:=⟨_,O⟩
 focus (refine qs ?_;(refine qe (ap (cs:=aZ x p) O) ?_;rintro _ _ ⟨b3,rfl,rfl⟩);(refine qe (am O ch) ?_;rintro _ _ ⟨b6,rfl,rfl⟩);refine qp ?_;(refine qe (am O ba) ?_;rintro _ _ ⟨b8,rfl,rfl⟩);refine qp ?_;refine qn ?_;refine qp ?_;refine qz ?_;refine qq ?_;refine qs ?_;refine qt (ai (ds:=aZ x p) O O O O O) ?_;refine qh wK (fun w1 hS1=>dR w1 x p (h.keep hS1.kpO) true hck) ?_;refine qp ?_;refine qz ?_;refine qF ?_;refine qx ?_;refine qq ?_)
 refine eo (X:=Nat×Option Addr×Nat) (fun y=>[(1,.int .i64 k),(2,.slice dA d.length dc),(3,.pointer (some ⟨b3,0,none⟩)),(6,.pointer (some ⟨b6,0,none⟩)),(8,.pointer (some ⟨b8,0,none⟩)),(10,.func (.func 46) #[] #[]),(11,.pointer (some ⟨y.1,0,none⟩))]) (fun y=>[pt y.1 59 (aN (x.term,k,y.2.1,y.2.2,d)),row 5 1 y.2.1 d.length y.2.2 (d.map bv),pt b3 42 (aZ x p),pt b6 42 (aZ dy df),pt b8 36 (aO (0,0))]) (fun _=>True) (fun J2 hJ2=>?_) (fun y _=>?_)
 ·skip
  refine dS [pt b3 42 (aZ x p)] 8 ?_
  refine dp 0 ?_
  refine dl 1 ?_
  refine dp 2 ?_
  refine dp 3 ?_
  refine fb 4 6 (by decide) O O (bB (f:=47) FH (fun w1 hS1=>jh w1 dA d.length dc (d.map bv) (hd.keep hS1.kpO).rd (kC _) (by omega)) O O (fun _=>O)) (am O cu) ?_ ?_ O O O O (by kernel_rfl)
  ·rintro _ _ ⟨⟨A4,c4⟩,rfl,_,rfl⟩
   refine nx ?_
   refine dt 5 O (ku O O O (mV _ _ _ _ _)) ?_
   refine dE 6 O (am O cu) ?_
   rintro _ _ ⟨b11,rfl,rfl⟩
   refine nx ?_
   refine dE 7 O (aj (cs:=aN (0,0,none,0,[])) (ds:=aN (x.term,k,A4,c4,d)) O O O O (cC _) O) ?_
   rintro _ _ rfl
   refine nx ?_
   refine dn ?_
   exact hJ2 (b11,A4,c4) _ _ trivial (Sub.cons O (Sub.cons O (Sub.cons O (Sub.cons O (Sub.cons O (Sub.cons O (Sub.cons O Sub.nil))))))) ae
  ·rintro _ _ ⟨b11,rfl,rfl⟩
   refine nx ?_
   refine dE 4 O (bB (f:=47) FH (fun w1 hS1=>jh w1 dA d.length dc (d.map bv) (hd.keep hS1.kpO).rd (kC _) (by omega)) O O (fun _=>O)) ?_
   rintro _ _ ⟨⟨A4,c4⟩,rfl,_,rfl⟩
   refine nx ?_
   refine dt 5 O (ku O O O (mV _ _ _ _ _)) ?_
   refine dE 7 O (aj (cs:=aN (0,0,none,0,[])) (ds:=aN (x.term,k,A4,c4,d)) O O O O (cC _) O) ?_
   rintro _ _ rfl
   refine nx ?_
   refine dn ?_
   exact hJ2 (b11,A4,c4) _ _ trivial (Sub.cons O (Sub.cons O (Sub.cons O (Sub.cons O (Sub.cons O (Sub.cons O (Sub.cons O Sub.nil))))))) ae
 obtain⟨b11,A4,c4⟩:=y
 dsimp only
 refine au O ?_
 refine eo (X:=Nat×Option Addr×Nat) (fun z=>[(1,.int .i64 k),(2,.slice dA d.length dc),(3,.pointer (some ⟨b3,0,none⟩)),(6,.pointer (some ⟨b6,0,none⟩)),(8,.pointer (some ⟨b8,0,none⟩)),(10,.func (.func 46) #[] #[]),(11,.pointer (some ⟨b11,0,none⟩)),(12,.pointer (some ⟨z.1,0,none⟩)),(13,.bool q)]) (fun z=>[pt b11 59 (aN (x.term,k,A4,c4,d)),row 5 1 A4 d.length c4 (d.map bv),pt z.1 33 [.slice z.2.1 (C.cI d).length z.2.2],row 3 1 z.2.1 (C.cI d).length z.2.2 ((C.cI d).map zv),pt b3 42 (aZ x p),pt b6 42 (aZ dy df),pt b8 36 (aO (0,0))]) (fun _=>True) (fun J3 hJ3=>?_) (fun z _=>?_)
 ·skip
  focus (refine qr ?_;refine qt (ai (ds:=aN (x.term,k,A4,c4,d)) O O O O O) ?_;(refine qe (bB (f:=48) Ea (fun w1 hS1=>jw w1 (x.term,k,A4,c4,d) (vi (e:=5) hS1 (by simp) O) (by show d.length≤_;omega) q hq _ O _ O) O O (fun _=>O)) ?_;rintro _ _ ⟨⟨A5,c5⟩,rfl,_,rfl⟩);(iterate 3 refine qp ?_);(refine qe (am O C.dO) ?_;rintro _ _ ⟨b12,rfl,rfl⟩);(refine qw (aj (cs:=[.slice none 0 0]) (ds:=[.slice A5 (C.cI d).length c5]) O O O O (C.eB _ _ _) O) ?_;rintro _ _ rfl);refine qp ?_;refine qz ?_)
  exact hJ3 (b12,A5,c5) _ _ trivial (Sub.cons O (Sub.cons O (Sub.cons O (Sub.cons O (Sub.cons O (Sub.cons O (Sub.cons O (Sub.cons O (Sub.cons O Sub.nil))))))))) ae
 obtain⟨b12,A5,c5⟩:=z
 dsimp only
 refine au O ?_
 refine eo (X:=Unit) (fun _=>[(1,.int .i64 k),(3,.pointer (some ⟨b3,0,none⟩)),(6,.pointer (some ⟨b6,0,none⟩)),(8,.pointer (some ⟨b8,0,none⟩)),(10,.func (.func 46) #[] #[]),(11,.pointer (some ⟨b11,0,none⟩)),(12,.pointer (some ⟨b12,0,none⟩))]) (fun _=>[pt b11 59 (aN (x.term,k,A4,c4,d)),row 5 1 A4 d.length c4 (d.map bv),pt b12 33 [.slice A5 (C.cI d).length c5],row 3 1 A5 (C.cI d).length c5 ((C.cI d).map zv),pt b3 42 (aZ x p),pt b6 42 (aZ dy df),pt b8 36 (aO (0,0))]) (fun _=>(k=2∨k=3)∧ ¬ ((¬ k=2∧ ¬ k=3)∨1024<d.length∨(k=3∧gm d=false))∧x.role=4) (fun J4 hJ4=>?_) (fun _ hI=>?_)
 ·by_cases hk:k=2∨k=3
  rotate_left
  ·have hk2: ¬ k=2:=fun e=>hk (Or.inl e)
   have hk3: ¬ k=3:=fun e=>hk (Or.inr e)
   have hC:eJ x k d=2:=if_pos (Or.inl ⟨hk2,hk3⟩)
   obtain⟨e1,e2,e3⟩:=g8 hC (by decide)
   rw[e1,e2,e3,hC] at hB
   focus (refine qb ?_;refine qq ?_;refine qs ?_;(iterate 2 refine qp ?_;refine qd ?_;refine qp ?_);refine qp ?_;refine qz ?_;refine qT ?_;refine qx ?_;refine qT ?_;refine qs ?_;refine qp ?_;(refine qe (f0 (pre:=[]) O (aq (f:=46) tS (fun w1 _=>dK w1 2) O O (fun _=>O))) ?_;rintro _ _ ⟨_,rfl,_,rfl⟩);(iterate 4 refine qp ?_);(refine qw (aj (cs:=aZ dy df) (ds:=aZ dy df) O O O O (bn _ _) O) ?_;rintro _ _ rfl);refine qp ?_;(refine qw (aj (cs:=aO (0,0)) (ds:=aO (0,0)) O O O O (aQ _) O) ?_;rintro _ _ rfl);refine qp ?_;refine qz ?_)
   refine hB _ _ _ _ _ O (.cell O O O inferInstance O (.tmp O (.cell O O O inferInstance O (.tmp O .nil)))) fun w' hS=>⟨(⟨df,[],none,0,false⟩,zN),O,⟨O,fun w2 _=>lH w2⟩,dN (hS.sublist (List.nil_sublist _))⟩
  by_cases hdm:1024<d.length
  ·have hC:eJ x k d=2:=if_pos (Or.inr (Or.inl hdm))
   obtain⟨e1,e2,e3⟩:=g8 hC (by decide)
   rw[e1,e2,e3,hC] at hB
   rcases hk with rfl|rfl
   ·skip
    focus (refine qb ?_;refine qq ?_;refine qs ?_;refine qp ?_;refine qf ?_;refine qp ?_;refine qk ?_;refine qk ?_;refine qp ?_;refine qp ?_;refine qz ?_;refine qF ?_;refine qs ?_;refine qp ?_;refine qp ?_;refine qd ?_;refine qp ?_;refine qz ?_;refine qT ?_;refine qx ?_;refine qT ?_;refine qs ?_;refine qp ?_;(refine qe (f0 (pre:=[]) O (aq (f:=46) tS (fun w1 _=>dK w1 2) O O (fun _=>O))) ?_;rintro _ _ ⟨_,rfl,_,rfl⟩);(iterate 4 refine qp ?_);(refine qw (aj (cs:=aZ dy df) (ds:=aZ dy df) O O O O (bn _ _) O) ?_;rintro _ _ rfl);refine qp ?_;(refine qw (aj (cs:=aO (0,0)) (ds:=aO (0,0)) O O O O (aQ _) O) ?_;rintro _ _ rfl);refine qp ?_;refine qz ?_)
    refine hB _ _ _ _ _ O (.cell O O O inferInstance O (.tmp O (.cell O O O inferInstance O (.tmp O .nil)))) fun w' hS=>⟨(⟨df,[],none,0,false⟩,zN),O,⟨O,fun w2 _=>lH w2⟩,dN (hS.sublist (List.nil_sublist _))⟩
   ·skip
    repeat' (first|refine aa (ay O (by omega)) ?_ O O|refine aa (aB O (by omega)) ?_ O O|refine bM O ?_ O O|refine ax ?_|refine au O ?_|refine al O O ?_|refine aC O O ?_|refine aA O O ?_|refine aG O ?_|refine aM O ?_|(refine an (f0 (pre:=[]) O (aq (f:=46) tS (fun w1 _=>dK w1 2) O O (fun _=>O))) ?_ O O;rintro _ _ ⟨_,rfl,_,rfl⟩)|(refine bh (aj (cs:=aZ dy df) (ds:=aZ dy df) O O O O (bn _ _) O) ?_ O;rintro _ _ rfl)|(refine bh (aj (cs:=aO (0,0)) (ds:=aO (0,0)) O O O O (aQ _) O) ?_ O;rintro _ _ rfl))
    refine hB _ _ _ _ _ O (.cell O O O inferInstance O (.tmp O (.cell O O O inferInstance O (.tmp O .nil)))) fun w' hS=>⟨(⟨df,[],none,0,false⟩,zN),O,⟨O,fun w2 _=>lH w2⟩,dN (hS.sublist (List.nil_sublist _))⟩
  by_cases hkq:k=3∧q=false
  ·have hC:eJ x k d=2:=if_pos (Or.inr (Or.inr ⟨hkq.1,by rw[hq];exact hkq.2⟩))
   obtain⟨e1,e2,e3⟩:=g8 hC (by decide)
   rw[e1,e2,e3,hC] at hB
   obtain⟨rfl,rfl⟩:=hkq
   repeat' (first|refine aa (ay O (by omega)) ?_ O O|refine aa (aB O (by omega)) ?_ O O|refine bM O ?_ O O|refine ax ?_|refine aa (aR O) ?_ O O|refine au O ?_|refine al O O ?_|refine aC O O ?_|refine aA O O ?_|refine aG O ?_|(refine an (f0 (pre:=[]) O (aq (f:=46) tS (fun w1 _=>dK w1 2) O O (fun _=>O))) ?_ O O;rintro _ _ ⟨_,rfl,_,rfl⟩)|(refine bh (aj (cs:=aZ dy df) (ds:=aZ dy df) O O O O (bn _ _) O) ?_ O;rintro _ _ rfl)|(refine bh (aj (cs:=aO (0,0)) (ds:=aO (0,0)) O O O O (aQ _) O) ?_ O;rintro _ _ rfl))
   refine hB _ _ _ _ _ O (.cell O O O inferInstance O (.tmp O (.cell O O O inferInstance O (.tmp O .nil)))) fun w' hS=>⟨(⟨df,[],none,0,false⟩,zN),O,⟨O,fun w2 _=>lH w2⟩,dN (hS.sublist (List.nil_sublist _))⟩
  have hok: ¬ ((¬ k=2∧ ¬ k=3)∨1024<d.length∨(k=3∧gm d=false)):=by
   rw[hq]
   rintro(e|e|e)
   ·omega
   ·exact hdm e
   ·exact hkq e
  by_cases hr4:x.role=4
  rotate_left
  ·have hC:eJ x k d=251:=by unfold eJ;rw[if_neg hok,if_pos hr4]
   obtain⟨e1,e2,e3⟩:=g8 hC (by decide)
   rw[e1,e2,e3,hC] at hB
   rcases hk with rfl|rfl
   ·skip
    repeat' (first|refine aa (ay O (by omega)) ?_ O O|refine aa (aB O (by omega)) ?_ O O|refine bM O ?_ O O|refine ax ?_|refine aU ?_ O O|refine aa (ah O O O O) ?_ O O|refine au O ?_|refine al O O ?_|refine aC O O ?_|refine aA O O ?_|refine aG O ?_|(refine an (f0 (pre:=[]) O (aq (f:=46) tS (fun w1 _=>dK w1 251) O O (fun _=>O))) ?_ O O;rintro _ _ ⟨_,rfl,_,rfl⟩)|(refine bh (aj (cs:=aZ dy df) (ds:=aZ dy df) O O O O (bn _ _) O) ?_ O;rintro _ _ rfl)|(refine bh (aj (cs:=aO (0,0)) (ds:=aO (0,0)) O O O O (aQ _) O) ?_ O;rintro _ _ rfl))
    refine hB _ _ _ _ _ O (.cell O O O inferInstance O (.tmp O (.cell O O O inferInstance O (.tmp O .nil)))) fun w' hS=>⟨(⟨df,[],none,0,false⟩,zN),O,⟨O,fun w2 _=>lH w2⟩,dN (hS.sublist (List.nil_sublist _))⟩
   ·obtain rfl:q=true:=by
     cases q
     ·exact absurd ⟨O,O⟩ hkq
     ·rfl
    repeat' (first|refine aa (ay O (by omega)) ?_ O O|refine aa (aB O (by omega)) ?_ O O|refine bM O ?_ O O|refine ax ?_|refine aa (ah O O O O) ?_ O O|refine aa (aR O) ?_ O O|refine au O ?_|refine al O O ?_|refine aC O O ?_|refine aA O O ?_|refine aG O ?_|(refine an (f0 (pre:=[]) O (aq (f:=46) tS (fun w1 _=>dK w1 251) O O (fun _=>O))) ?_ O O;rintro _ _ ⟨_,rfl,_,rfl⟩)|(refine bh (aj (cs:=aZ dy df) (ds:=aZ dy df) O O O O (bn _ _) O) ?_ O;rintro _ _ rfl)|(refine bh (aj (cs:=aO (0,0)) (ds:=aO (0,0)) O O O O (aQ _) O) ?_ O;rintro _ _ rfl))
    refine hB _ _ _ _ _ O (.cell O O O inferInstance O (.tmp O (.cell O O O inferInstance O (.tmp O .nil)))) fun w' hS=>⟨(⟨df,[],none,0,false⟩,zN),O,⟨O,fun w2 _=>lH w2⟩,dN (hS.sublist (List.nil_sublist _))⟩
  rcases hk with rfl|rfl
  ·skip
   repeat' (first|refine aa (aB O (by omega)) ?_ O O|refine bM O ?_ O O|refine ax ?_|refine aU ?_ O O|refine aa (ah O O O O) ?_ O O|refine au O ?_|refine al O O ?_|refine aA O O ?_|refine aG O ?_|refine aK ?_|refine aM O ?_)
   exact hJ4 () _ _ ⟨Or.inl O,hok,hr4⟩ (Sub.cons O (Sub.cons O (Sub.cons O (Sub.cons O (Sub.cons O (Sub.cons O (Sub.cons O Sub.nil))))))) ae
  ·obtain rfl:q=true:=by
    cases q
    ·exact absurd ⟨O,O⟩ hkq
    ·rfl
   repeat' (first|refine aa (ay O (by omega)) ?_ O O|refine aa (aB O (by omega)) ?_ O O|refine bM O ?_ O O|refine ax ?_|refine aa (ah O O O O) ?_ O O|refine aa (aR O) ?_ O O|refine au O ?_|refine al O O ?_|refine aA O O ?_|refine aG O ?_|refine aK ?_|refine aM O ?_)
   exact hJ4 () _ _ ⟨Or.inr O,hok,hr4⟩ (Sub.cons O (Sub.cons O (Sub.cons O (Sub.cons O (Sub.cons O (Sub.cons O (Sub.cons O Sub.nil))))))) ae
 obtain⟨hk,hok,hr4⟩:=hI
 refine au O ?_
 refine eo (X:=Unit) (fun _=>[(3,.pointer (some ⟨b3,0,none⟩)),(6,.pointer (some ⟨b6,0,none⟩)),(8,.pointer (some ⟨b8,0,none⟩)),(10,.func (.func 46) #[] #[]),(11,.pointer (some ⟨b11,0,none⟩))]) (fun _=>[pt b11 59 (aN (x.term,k,A4,c4,d)),row 5 1 A4 d.length c4 (d.map bv),pt b3 42 (aZ x p),pt b6 42 (aZ dy df),pt b8 36 (aO (0,0))]) (fun _=> ¬ (k=3∧kP x d=true)) (fun J5 hJ5=>?_) (fun _ hch=>?_)
 ·by_cases hk3:k=3
  rotate_left
  ·skip
   focus (refine qs ?_;refine qp ?_;refine qf ?_;refine qz ?_;refine qF ?_;refine qx ?_)
   exact hJ5 () _ _ (fun e=>hk3 e.1) (Sub.cons O (Sub.cons O (Sub.cons O (Sub.cons O (Sub.cons O Sub.nil))))) ae
  subst hk3
  obtain⟨⟨ri,rbs,rq⟩,hCf⟩: ∃ z,fv x.base x.es (lastP x).1=z:=⟨_,O⟩
  obtain⟨⟨t,tq⟩,hT⟩: ∃ z,eC x.base x.es x.commit=z:=⟨_,O⟩
  obtain⟨st,hst⟩: ∃ z,C.kW (aJ x) (C.cI d)=z:=⟨_,O⟩
  have hcg:kP x d=((rq&&decide (x.commit<ri))|| !decide (t=x.term)|| !decide (st=0)):=by unfold kP;rw[hCf,hT,hst]
  focus (refine qs ?_;refine qp ?_;refine qd ?_;refine qz ?_;refine qT ?_;refine qq ?_)
  refine dS [pt b3 42 (aZ x p)] 14 ?_
  refine dp 0 ?_
  refine dt 1 O (ai (ds:=aE x.base p.A p.n p.c) O O O O O) ?_
  refine dp 2 ?_
  refine dt 3 O (ai (ds:=aE x.base p.A p.n p.c) O O O O O) ?_
  refine dE 4 O (aq (f:=50) zu (fun w1 hS1=>jm w1 x p (h.keep hS1.kpO).lg) O O (fun _=>O)) ?_
  rintro _ _ ⟨_,rfl,_,rfl⟩
  refine nx ?_
  refine dt 5 O (cW (xs:=aO (lastP x)) O O O O O O) ?_
  refine dE 6 O (bB (f:=49) Eb (fun w1 hS1=>nH w1 x.base p.A p.c p.n p.Q x.es h.lg.hn h.lg.hQ (h.keep hS1.kpO).lg.rq (h.keep hS1.kpO).lg.dt h.lg.hm h.lg.hd (lastP x).1 ri rbs _ _ O hCf) O O (fun _=>O)) ?_
  rintro _ _ ⟨⟨Ab,cb⟩,rfl,_,rfl⟩
  refine nx ?_
  refine dp 7 ?_
  refine dp 8 ?_
  refine dp 9 ?_
  refine dp 10 ?_
  refine dp 11 ?_
  refine dp 12 ?_
  refine dp 13 ?_
  refine dn ?_
  skip
  focus (refine qs ?_;refine qp ?_;refine qt (ai (ds:=aE x.base p.A p.n p.c) O O O O O) ?_;refine qp ?_;refine qt (ah O O O O) ?_;(refine qe (aq (f:=51) wL (fun w1 hS1=>g6 w1 x.base p.A p.c p.n p.Q x.es h.lg.hn h.lg.hQ (h.keep hS1.kpO).lg.rq h.lg.hm x.commit _ hT) O O (fun _=>O)) ?_;rintro _ _ ⟨_,rfl,_,rfl⟩;dsimp only);(iterate 5 refine qp ?_);refine qz ?_;refine qq ?_)
  cases rq
  ·skip
   by_cases htt:t=x.term
   rotate_left
   ·have hv:kP x d=true:=by rw[hcg];simp[htt]
    have hC:eJ x 3 d=252:=by unfold eJ;rw[if_neg hok,if_neg (fun e=>e hr4),if_pos ⟨O,hv⟩]
    obtain⟨e1,e2,e3⟩:=g8 hC (by decide)
    rw[e1,e2,e3,hC] at hB
    refine dS [pt b3 42 (aZ x p),pt b12 33 [.slice A5 (C.cI d).length c5]] 24 ?_
    refine dp 0 ?_
    refine dp 1 ?_
    refine dk 2 ?_
    refine dk 3 ?_
    refine dk 4 ?_
    refine dk 5 ?_
    refine dp 6 ?_
    refine dp 7 ?_
    refine dp 8 ?_
    refine dp 9 ?_
    refine dl 10 ?_
    refine cZ 11 ?_
    refine dp 12 ?_
    refine dp 13 ?_
    refine dk 14 ?_
    refine dk 15 ?_
    refine dk 16 ?_
    refine dk 17 ?_
    refine dk 18 ?_
    refine dk 19 ?_
    refine dk 20 ?_
    refine dk 21 ?_
    refine dk 22 ?_
    refine dp 23 ?_
    refine dn ?_
    skip
    focus (refine qT ?_;refine qs ?_;refine qp ?_;(refine qe (f0 (pre:=[]) O (aq (f:=46) tS (fun w1 _=>dK w1 252) O O (fun _=>O))) ?_;rintro _ _ ⟨_,rfl,_,rfl⟩);(iterate 4 refine qp ?_);(refine qw (aj (cs:=aZ dy df) (ds:=aZ dy df) O O O O (bn _ _) O) ?_;rintro _ _ rfl);refine qp ?_;(refine qw (aj (cs:=aO (0,0)) (ds:=aO (0,0)) O O O O (aQ _) O) ?_;rintro _ _ rfl);refine qp ?_;refine qz ?_)
    refine hB _ _ _ _ _ O (.cell O O O inferInstance O (.tmp O (.cell O O O inferInstance O (.tmp O .nil)))) fun w' hS=>⟨(⟨df,[],none,0,false⟩,zN),O,⟨O,fun w2 _=>lH w2⟩,dN (hS.sublist (List.nil_sublist _))⟩
   by_cases hs0:st=0
   rotate_left
   ·have hv:kP x d=true:=by rw[hcg];simp[hs0]
    have hC:eJ x 3 d=252:=by unfold eJ;rw[if_neg hok,if_neg (fun e=>e hr4),if_pos ⟨O,hv⟩]
    obtain⟨e1,e2,e3⟩:=g8 hC (by decide)
    rw[e1,e2,e3,hC] at hB
    refine dS [pt b3 42 (aZ x p),pt b12 33 [.slice A5 (C.cI d).length c5]] 24 ?_
    refine dp 0 ?_
    refine dp 1 ?_
    refine dk 2 ?_
    refine dk 3 ?_
    refine dk 4 ?_
    refine dk 5 ?_
    refine dp 6 ?_
    refine dp 7 ?_
    refine dp 8 ?_
    refine dp 9 ?_
    refine dl 10 ?_
    refine eI 11 ?_
    refine dp 12 ?_
    refine dp 13 ?_
    refine dt 14 O (ai (ds:=aZ x p) O O O O O) ?_
    refine dp 15 ?_
    refine dt 16 O (ai (ds:=aE x.base p.A p.n p.c) O O O O O) ?_
    refine dt 20 O (ai (ds:=[.slice A5 (C.cI d).length c5]) O O O O O) ?_
    refine dE 17 O (aq (f:=50) zu (fun w1 hS1=>jm w1 x p (h.keep hS1.kpO).lg) O O (fun _=>O)) ?_
    rintro _ _ ⟨_,rfl,_,rfl⟩
    refine nx ?_
    refine dt 18 O (cW (xs:=aO (lastP x)) O O O O O O) ?_
    refine dE 19 O (bB (f:=53) An (fun w1 hS1=>iv w1 x p (fun w'=>LgR w' x p) (rW (h.keep hS1.kpO).lg) (fun _ h=>h) _ (aJ x) O) O O (fun _=>O)) ?_
    rintro _ _ ⟨⟨⟨A6,K6,c6⟩,Z6⟩,rfl,hI6,rfl⟩;dsimp only at hI6
    refine nx ?_
    refine dE 21 O (aq (f:=52) Ec (fun w1 hS1=>nJ w1 A6 A5 (aJ x).length c6 (C.cI d).length c5 (aJ x) (C.cI d) (hI6 w1 ⟨(h.keep hS1.kpO).lg,hS1.at_ (A:=Z6) (by simp)⟩) (ce (hS1.at_ (A:=row 3 1 A5 (C.cI d).length c5 ((C.cI d).map zv)) (by simp))) hn5 hd5 _ hst) O O (fun _=>O)) ?_
    rintro _ _ ⟨_,rfl,_,rfl⟩
    refine nx ?_
    refine cZ 22 ?_
    refine cZ 23 ?_
    refine dn ?_
    skip
    focus (refine qT ?_;refine qs ?_;refine qp ?_;(refine qe (f0 (pre:=[]) O (aq (f:=46) tS (fun w1 _=>dK w1 252) O O (fun _=>O))) ?_;rintro _ _ ⟨_,rfl,_,rfl⟩);(iterate 4 refine qp ?_);(refine qw (aj (cs:=aZ dy df) (ds:=aZ dy df) O O O O (bn _ _) O) ?_;rintro _ _ rfl);refine qp ?_;(refine qw (aj (cs:=aO (0,0)) (ds:=aO (0,0)) O O O O (aQ _) O) ?_;rintro _ _ rfl);refine qp ?_;refine qz ?_)
    refine hB _ _ _ _ _ O (.cell O O O inferInstance O (.tmp O (.cell O O O inferInstance O (.tmp O .nil)))) fun w' hS=>⟨(⟨df,[],none,0,false⟩,zN),O,⟨O,fun w2 _=>lH w2⟩,dN (hS.sublist (List.nil_sublist _))⟩
   have hv: ¬ ((3:Int)=3∧kP x d=true):=by rw[hcg];simp[htt,hs0]
   refine dS [pt b3 42 (aZ x p),pt b12 33 [.slice A5 (C.cI d).length c5]] 24 ?_
   refine dp 0 ?_
   refine dp 1 ?_
   refine dk 2 ?_
   refine dk 3 ?_
   refine dk 4 ?_
   refine dk 5 ?_
   refine dp 6 ?_
   refine dp 7 ?_
   refine dp 8 ?_
   refine dp 9 ?_
   refine dl 10 ?_
   refine eI 11 ?_
   refine dp 12 ?_
   refine dp 13 ?_
   refine dt 14 O (ai (ds:=aZ x p) O O O O O) ?_
   refine dp 15 ?_
   refine dt 16 O (ai (ds:=aE x.base p.A p.n p.c) O O O O O) ?_
   refine dt 20 O (ai (ds:=[.slice A5 (C.cI d).length c5]) O O O O O) ?_
   refine dE 17 O (aq (f:=50) zu (fun w1 hS1=>jm w1 x p (h.keep hS1.kpO).lg) O O (fun _=>O)) ?_
   rintro _ _ ⟨_,rfl,_,rfl⟩
   refine nx ?_
   refine dt 18 O (cW (xs:=aO (lastP x)) O O O O O O) ?_
   refine dE 19 O (bB (f:=53) An (fun w1 hS1=>iv w1 x p (fun w'=>LgR w' x p) (rW (h.keep hS1.kpO).lg) (fun _ h=>h) _ (aJ x) O) O O (fun _=>O)) ?_
   rintro _ _ ⟨⟨⟨A6,K6,c6⟩,Z6⟩,rfl,hI6,rfl⟩;dsimp only at hI6
   refine nx ?_
   refine dE 21 O (aq (f:=52) Ec (fun w1 hS1=>nJ w1 A6 A5 (aJ x).length c6 (C.cI d).length c5 (aJ x) (C.cI d) (hI6 w1 ⟨(h.keep hS1.kpO).lg,hS1.at_ (A:=Z6) (by simp)⟩) (ce (hS1.at_ (A:=row 3 1 A5 (C.cI d).length c5 ((C.cI d).map zv)) (by simp))) hn5 hd5 _ hst) O O (fun _=>O)) ?_
   rintro _ _ ⟨_,rfl,_,rfl⟩
   refine nx ?_
   refine eI 22 ?_
   refine dp 23 ?_
   refine dn ?_
   skip
   focus (refine qF ?_;refine qx ?_)
   exact hJ5 () _ _ hv (Sub.cons O (Sub.cons O (Sub.cons O (Sub.cons O (Sub.cons O Sub.nil))))) ae
  ·by_cases hri:x.commit<ri
   ·have hv:kP x d=true:=by rw[hcg];simp[hri]
    have hC:eJ x 3 d=252:=by unfold eJ;rw[if_neg hok,if_neg (fun e=>e hr4),if_pos ⟨O,hv⟩]
    obtain⟨e1,e2,e3⟩:=g8 hC (by decide)
    rw[e1,e2,e3,hC] at hB
    refine dS [pt b3 42 (aZ x p),pt b12 33 [.slice A5 (C.cI d).length c5]] 24 ?_
    refine dp 0 ?_
    refine dp 1 ?_
    refine dp 2 ?_
    refine dp 3 ?_
    refine dl 4 ?_
    refine cZ 5 ?_
    refine dp 6 ?_
    refine dp 7 ?_
    refine dk 8 ?_
    refine dk 9 ?_
    refine dk 10 ?_
    refine dk 11 ?_
    refine dp 12 ?_
    refine dp 13 ?_
    refine dk 14 ?_
    refine dk 15 ?_
    refine dk 16 ?_
    refine dk 17 ?_
    refine dk 18 ?_
    refine dk 19 ?_
    refine dk 20 ?_
    refine dk 21 ?_
    refine dk 22 ?_
    refine dp 23 ?_
    refine dn ?_
    skip
    focus (refine qT ?_;refine qs ?_;refine qp ?_;(refine qe (f0 (pre:=[]) O (aq (f:=46) tS (fun w1 _=>dK w1 252) O O (fun _=>O))) ?_;rintro _ _ ⟨_,rfl,_,rfl⟩);(iterate 4 refine qp ?_);(refine qw (aj (cs:=aZ dy df) (ds:=aZ dy df) O O O O (bn _ _) O) ?_;rintro _ _ rfl);refine qp ?_;(refine qw (aj (cs:=aO (0,0)) (ds:=aO (0,0)) O O O O (aQ _) O) ?_;rintro _ _ rfl);refine qp ?_;refine qz ?_)
    refine hB _ _ _ _ _ O (.cell O O O inferInstance O (.tmp O (.cell O O O inferInstance O (.tmp O .nil)))) fun w' hS=>⟨(⟨df,[],none,0,false⟩,zN),O,⟨O,fun w2 _=>lH w2⟩,dN (hS.sublist (List.nil_sublist _))⟩
   by_cases htt:t=x.term
   rotate_left
   ·have hv:kP x d=true:=by rw[hcg];simp[htt]
    have hC:eJ x 3 d=252:=by unfold eJ;rw[if_neg hok,if_neg (fun e=>e hr4),if_pos ⟨O,hv⟩]
    obtain⟨e1,e2,e3⟩:=g8 hC (by decide)
    rw[e1,e2,e3,hC] at hB
    refine dS [pt b3 42 (aZ x p),pt b12 33 [.slice A5 (C.cI d).length c5]] 24 ?_
    refine dp 0 ?_
    refine dp 1 ?_
    refine dp 2 ?_
    refine dp 3 ?_
    refine dl 4 ?_
    refine eI 5 ?_
    refine dp 6 ?_
    refine dp 7 ?_
    refine dp 8 ?_
    refine dp 9 ?_
    refine dl 10 ?_
    refine cZ 11 ?_
    refine dp 12 ?_
    refine dp 13 ?_
    refine dk 14 ?_
    refine dk 15 ?_
    refine dk 16 ?_
    refine dk 17 ?_
    refine dk 18 ?_
    refine dk 19 ?_
    refine dk 20 ?_
    refine dk 21 ?_
    refine dk 22 ?_
    refine dp 23 ?_
    refine dn ?_
    skip
    focus (refine qT ?_;refine qs ?_;refine qp ?_;(refine qe (f0 (pre:=[]) O (aq (f:=46) tS (fun w1 _=>dK w1 252) O O (fun _=>O))) ?_;rintro _ _ ⟨_,rfl,_,rfl⟩);(iterate 4 refine qp ?_);(refine qw (aj (cs:=aZ dy df) (ds:=aZ dy df) O O O O (bn _ _) O) ?_;rintro _ _ rfl);refine qp ?_;(refine qw (aj (cs:=aO (0,0)) (ds:=aO (0,0)) O O O O (aQ _) O) ?_;rintro _ _ rfl);refine qp ?_;refine qz ?_)
    refine hB _ _ _ _ _ O (.cell O O O inferInstance O (.tmp O (.cell O O O inferInstance O (.tmp O .nil)))) fun w' hS=>⟨(⟨df,[],none,0,false⟩,zN),O,⟨O,fun w2 _=>lH w2⟩,dN (hS.sublist (List.nil_sublist _))⟩
   by_cases hs0:st=0
   rotate_left
   ·have hv:kP x d=true:=by rw[hcg];simp[hs0]
    have hC:eJ x 3 d=252:=by unfold eJ;rw[if_neg hok,if_neg (fun e=>e hr4),if_pos ⟨O,hv⟩]
    obtain⟨e1,e2,e3⟩:=g8 hC (by decide)
    rw[e1,e2,e3,hC] at hB
    refine dS [pt b3 42 (aZ x p),pt b12 33 [.slice A5 (C.cI d).length c5]] 24 ?_
    refine dp 0 ?_
    refine dp 1 ?_
    refine dp 2 ?_
    refine dp 3 ?_
    refine dl 4 ?_
    refine eI 5 ?_
    refine dp 6 ?_
    refine dp 7 ?_
    refine dp 8 ?_
    refine dp 9 ?_
    refine dl 10 ?_
    refine eI 11 ?_
    refine dp 12 ?_
    refine dp 13 ?_
    refine dt 14 O (ai (ds:=aZ x p) O O O O O) ?_
    refine dp 15 ?_
    refine dt 16 O (ai (ds:=aE x.base p.A p.n p.c) O O O O O) ?_
    refine dt 20 O (ai (ds:=[.slice A5 (C.cI d).length c5]) O O O O O) ?_
    refine dE 17 O (aq (f:=50) zu (fun w1 hS1=>jm w1 x p (h.keep hS1.kpO).lg) O O (fun _=>O)) ?_
    rintro _ _ ⟨_,rfl,_,rfl⟩
    refine nx ?_
    refine dt 18 O (cW (xs:=aO (lastP x)) O O O O O O) ?_
    refine dE 19 O (bB (f:=53) An (fun w1 hS1=>iv w1 x p (fun w'=>LgR w' x p) (rW (h.keep hS1.kpO).lg) (fun _ h=>h) _ (aJ x) O) O O (fun _=>O)) ?_
    rintro _ _ ⟨⟨⟨A6,K6,c6⟩,Z6⟩,rfl,hI6,rfl⟩;dsimp only at hI6
    refine nx ?_
    refine dE 21 O (aq (f:=52) Ec (fun w1 hS1=>nJ w1 A6 A5 (aJ x).length c6 (C.cI d).length c5 (aJ x) (C.cI d) (hI6 w1 ⟨(h.keep hS1.kpO).lg,hS1.at_ (A:=Z6) (by simp)⟩) (ce (hS1.at_ (A:=row 3 1 A5 (C.cI d).length c5 ((C.cI d).map zv)) (by simp))) hn5 hd5 _ hst) O O (fun _=>O)) ?_
    rintro _ _ ⟨_,rfl,_,rfl⟩
    refine nx ?_
    refine cZ 22 ?_
    refine cZ 23 ?_
    refine dn ?_
    skip
    focus (refine qT ?_;refine qs ?_;refine qp ?_;(refine qe (f0 (pre:=[]) O (aq (f:=46) tS (fun w1 _=>dK w1 252) O O (fun _=>O))) ?_;rintro _ _ ⟨_,rfl,_,rfl⟩);(iterate 4 refine qp ?_);(refine qw (aj (cs:=aZ dy df) (ds:=aZ dy df) O O O O (bn _ _) O) ?_;rintro _ _ rfl);refine qp ?_;(refine qw (aj (cs:=aO (0,0)) (ds:=aO (0,0)) O O O O (aQ _) O) ?_;rintro _ _ rfl);refine qp ?_;refine qz ?_)
    refine hB _ _ _ _ _ O (.cell O O O inferInstance O (.tmp O (.cell O O O inferInstance O (.tmp O .nil)))) fun w' hS=>⟨(⟨df,[],none,0,false⟩,zN),O,⟨O,fun w2 _=>lH w2⟩,dN (hS.sublist (List.nil_sublist _))⟩
   have hv: ¬ ((3:Int)=3∧kP x d=true):=by rw[hcg];simp[htt,hs0];omega
   refine dS [pt b3 42 (aZ x p),pt b12 33 [.slice A5 (C.cI d).length c5]] 24 ?_
   refine dp 0 ?_
   refine dp 1 ?_
   refine dp 2 ?_
   refine dp 3 ?_
   refine dl 4 ?_
   refine eI 5 ?_
   refine dp 6 ?_
   refine dp 7 ?_
   refine dp 8 ?_
   refine dp 9 ?_
   refine dl 10 ?_
   refine eI 11 ?_
   refine dp 12 ?_
   refine dp 13 ?_
   refine dt 14 O (ai (ds:=aZ x p) O O O O O) ?_
   refine dp 15 ?_
   refine dt 16 O (ai (ds:=aE x.base p.A p.n p.c) O O O O O) ?_
   refine dt 20 O (ai (ds:=[.slice A5 (C.cI d).length c5]) O O O O O) ?_
   refine dE 17 O (aq (f:=50) zu (fun w1 hS1=>jm w1 x p (h.keep hS1.kpO).lg) O O (fun _=>O)) ?_
   rintro _ _ ⟨_,rfl,_,rfl⟩
   refine nx ?_
   refine dt 18 O (cW (xs:=aO (lastP x)) O O O O O O) ?_
   refine dE 19 O (bB (f:=53) An (fun w1 hS1=>iv w1 x p (fun w'=>LgR w' x p) (rW (h.keep hS1.kpO).lg) (fun _ h=>h) _ (aJ x) O) O O (fun _=>O)) ?_
   rintro _ _ ⟨⟨⟨A6,K6,c6⟩,Z6⟩,rfl,hI6,rfl⟩;dsimp only at hI6
   refine nx ?_
   refine dE 21 O (aq (f:=52) Ec (fun w1 hS1=>nJ w1 A6 A5 (aJ x).length c6 (C.cI d).length c5 (aJ x) (C.cI d) (hI6 w1 ⟨(h.keep hS1.kpO).lg,hS1.at_ (A:=Z6) (by simp)⟩) (ce (hS1.at_ (A:=row 3 1 A5 (C.cI d).length c5 ((C.cI d).map zv)) (by simp))) hn5 hd5 _ hst) O O (fun _=>O)) ?_
   rintro _ _ ⟨_,rfl,_,rfl⟩
   refine nx ?_
   refine eI 22 ?_
   refine dp 23 ?_
   refine dn ?_
   skip
   focus (refine qF ?_;refine qx ?_)
   exact hJ5 () _ _ hv (Sub.cons O (Sub.cons O (Sub.cons O (Sub.cons O (Sub.cons O Sub.nil))))) ae
 obtain⟨⟨e,pa_,bb_,r⟩,hap⟩: ∃ z,wP x k d=z:=⟨_,O⟩
 obtain⟨K,hK⟩: ∃ K,r.length=K:=⟨_,O⟩
 have hap2:app x.base x.es (bA (x.term,k,A4,c4,d))=(e,pa_,bb_,r):=hap
 have hCe:eJ x k d=e:=by unfold eJ;rw[if_neg hok,if_neg (fun e=>e hr4),if_neg hch,hap]
 by_cases hne:e=0
 rotate_left
 ·have hC:=hCe
  obtain⟨e1,e2,e3⟩:=g8 hC (by exact hne)
  rw[e1,e2,e3,hC] at hB
  focus (refine qs ?_;refine qp ?_;refine qt (ai (ds:=aE x.base p.A p.n p.c) O O O O O) ?_;refine qt (ai (ds:=aN (x.term,k,A4,c4,d)) O O O O O) ?_;(refine qe (eD (f:=54) Aq (fun w1 hS1=>ju w1 x.base p.A p.c p.n p.Q x.es h.lg.hn h.lg.hQ (h.keep hS1.kpO).lg.rq (h.keep hS1.kpO).lg.dt h.lg.hm h.lg.hd (x.term,k,A4,c4,d) (ce (hS1.at_ (A:=row 5 1 A4 d.length c4 (d.map bv)) (by simp))) (by show d.length≤_;omega) e pa_ bb_ r K hK hap2) O O) ?_;rintro _ _ ⟨⟨⟨A12,c12⟩,P12⟩,rfl,_,rfl⟩;dsimp only[List.cons_append,List.nil_append]);(iterate 4 refine qp ?_);(refine qe (am O bP) ?_;rintro _ _ ⟨b19,rfl,rfl⟩);(refine qe (am O ba) ?_;rintro _ _ ⟨b20,rfl,rfl⟩);(refine qw (aj (cs:=aE (0,0) none 0 0) (ds:=aE bb_ A12 K c12) O O O O (bD _ _ _ _) O) ?_;rintro _ _ rfl);(refine qw (aj (cs:=aO (0,0)) (ds:=aO pa_) O O O O (aQ _) O) ?_;rintro _ _ rfl);refine qp ?_;refine qz ?_;refine qq ?_;refine qs ?_;refine qp ?_;refine qd ?_;refine qz ?_;refine qT ?_;refine qs ?_;refine qp ?_;refine qp ?_;(refine qe (f0 (pre:=[]) O (aq (f:=46) tS (fun w1 _=>dK w1 e) O O (fun _=>O))) ?_;rintro _ _ ⟨_,rfl,_,rfl⟩);(iterate 4 refine qp ?_);(refine qw (aj (cs:=aZ dy df) (ds:=aZ dy df) O O O O (bn _ _) O) ?_;rintro _ _ rfl);refine qp ?_;(refine qw (aj (cs:=aO (0,0)) (ds:=aO (0,0)) O O O O (aQ _) O) ?_;rintro _ _ rfl);refine qp ?_;refine qz ?_)
  refine hB _ _ _ _ _ O (.cell O O O inferInstance O (.tmp O (.cell O O O inferInstance O (.tmp O .nil)))) fun w' hS=>⟨(⟨df,[],none,0,false⟩,zN),O,⟨O,fun w2 _=>lH w2⟩,dN (hS.sublist (List.nil_sublist _))⟩
 subst hne
 obtain⟨hr0,hrd⟩:=ya (hd1:=fun e he=>h.lg.ed e he) (hd2:=by show d.length≤100000;omega) hap2 O
 have hRR:gj x k d=dI (fA x bb_ r):=by unfold gj;rw[if_pos hCe,hap]
 have hMM:tA x k d=(dr (dI (fA x bb_ r))).flatMap (fV (dI (fA x bb_ r))):=by unfold tA;rw[if_pos hCe,hRR]
 have hAA:oV x k d=pa_:=by unfold oV;rw[if_pos hCe,hap]
 rw[hRR] at hu2
 rw[hRR,hMM,hAA,hCe] at hB
 obtain⟨x2,hx2⟩: ∃ y,y=dI (fA x bb_ r):=⟨_,O⟩
 have hcf2:C.right x2.cf=true:=by rw[hx2,rY];exact hcf
 have h52:(aJ x2).length≤5:=dG hcf2 _
 have hp2:x2.peers.length≤900:=by rw[hx2];exact Nat.le_trans (jZ _) (Nat.le_trans (show (fA x bb_ r).peers.length≤5 from jD (x:=x) hck) (by decide))
 have hv2:x2.votes.length≤900:=by rw[hx2];exact Nat.le_trans (qy _) (h.hvn▸h.hvm)
 rw[← hx2] at hB hu2
 have hpr:=fun(w2:World) (g:Nat) (m:Mm) (D:Kw) hS2 hk h hl bl A n c Q hbl hlg hpn h5 hSm hu2 h52=>tz w2 g x m hS2 D hk h hl bl bb_ r A n c Q hbl hlg hpn h5 hSm hu2 h52
 rw[← hx2] at hpr
 focus (refine qs ?_;refine qp ?_;refine qt (ai (ds:=aE x.base p.A p.n p.c) O O O O O) ?_;refine qt (ai (ds:=aN (x.term,k,A4,c4,d)) O O O O O) ?_;(refine qe (eD (f:=54) Aq (fun w1 hS1=>ju w1 x.base p.A p.c p.n p.Q x.es h.lg.hn h.lg.hQ (h.keep hS1.kpO).lg.rq (h.keep hS1.kpO).lg.dt h.lg.hm h.lg.hd (x.term,k,A4,c4,d) (ce (hS1.at_ (A:=row 5 1 A4 d.length c4 (d.map bv)) (by simp))) (by show d.length≤_;omega) 0 pa_ bb_ r K hK hap2) O O) ?_;rintro _ _ ⟨⟨⟨A12,c12⟩,P12⟩,rfl,_,rfl⟩;dsimp only[List.cons_append,List.nil_append]);(iterate 4 refine qp ?_);(refine qe (am O bP) ?_;rintro _ _ ⟨b19,rfl,rfl⟩);(refine qe (am O ba) ?_;rintro _ _ ⟨b20,rfl,rfl⟩);(refine qw (aj (cs:=aE (0,0) none 0 0) (ds:=aE bb_ A12 K c12) O O O O (bD _ _ _ _) O) ?_;rintro _ _ rfl);(refine qw (aj (cs:=aO (0,0)) (ds:=aO pa_) O O O O (aQ _) O) ?_;rintro _ _ rfl);refine qp ?_;refine qz ?_;refine qq ?_;refine qs ?_;refine qp ?_;refine qf ?_;refine qz ?_;refine qF ?_;refine qx ?_;refine qs ?_;refine qt (ai (ds:=aZ x p) O O O O O) ?_;refine qt (gV O O) ?_)
 (refine qe (bB (f:=39) FG (fun w1 hS1=>mf w1 x p (h.keep hS1.kpO) (KL (fun _=>True) [pt b19 39 (aE bb_ A12 K c12),row 59 3 A12 K c12 (ab aN P12.1),dq 5 (P12.1.map cR)]) (Kd.subL (As':=[]) (fun _ _=>trivial) hS1 (by simp)) 55 [.pointer (some ⟨b19,0,none⟩)] GL x2 ((dr x2).flatMap (fV x2)) false hu2 hv2 hp2 (fun w2 g m D hS2 hk hd hml hms hmi=>vM hms hmi (hpr w2 g m D hS2 hk (fun w3 h3=>(hd w3 h3).2) hml b19 A12 K c12 P12.1 (fun w3 h3=>DQ ((hd w3 h3).1.2 (pt b19 39 (aE bb_ A12 K c12)) (by simp))) (fun w3 h3=>jX (x:=fA x bb_ r) (p:=(dw m A12 K c12 P12.1).p) ((hd w3 h3).1.2 (row 59 3 A12 K c12 (ab aN P12.1)) (by simp)) ((hd w3 h3).1.2 (dq 5 (P12.1.map cR)) (by simp)) (hd w3 h3).2.lg.rc P12.2.1 ((pS P12.2.1).trans hK) (hd w3 h3).2.lg.hcn (by show K≤1000;omega) (hd w3 h3).2.lg.hcm hrd) (by rw[← hml.hpn];exact Nat.le_trans (jD hck) (by decide)) (dG (x:=fA x bb_ r) hcf _) (by rw[hms];decide) hu2 h52))) O O (fun _=>O)) ?_;rintro _ _ ⟨⟨m2,Z2⟩,rfl,⟨hI1,hI2⟩,rfl⟩;dsimp only at hI1 hI2)
 focus ((iterate 4 refine qp ?_);(refine qw (aj (cs:=aZ x p) (ds:=aZ x2 m2.p) O O O O (bn _ _) O) ?_;rintro _ _ rfl);refine qp ?_;refine qp ?_;refine qz ?_;refine qq ?_)
 refine dS [pt b3 42 (aZ x2 m2.p),pt b20 36 (aO pa_)] 7 ?_
 refine dt 0 O (ai (ds:=aZ x2 m2.p) O O O O O) ?_
 refine dp 1 ?_
 refine dt 2 O (ai (ds:=aO pa_) O O O O O) ?_
 refine dE 3 O (aj (cs:=aZ dy df) (ds:=aZ x2 m2.p) O O O O (bn _ _) O) ?_
 rintro _ _ rfl
 refine nx ?_
 refine dp 4 ?_
 refine dE 5 O (aj (cs:=aO (0,0)) (ds:=aO pa_) O O O O (aQ _) O) ?_
 rintro _ _ rfl
 refine nx ?_
 refine dp 6 ?_
 refine dn ?_
 skip
 skip
 refine hB _ _ _ _ _ O (.cell O O O inferInstance O (.tmp O (.cell O O O inferInstance O (.tmp O .nil)))) fun w' hS=>⟨(m2,zA (pt b19 39 (aE bb_ A12 K c12)) (zA (row 59 3 A12 K c12 (ab aN P12.1)) (zA (dq 5 (P12.1.map cR)) Z2))),O,⟨hI1,fun w3 h3=>hI2 w3 ⟨⟨trivial,fun A hA=>by
  rcases List.mem_cons.1 hA with rfl|hA
  ·exact iY h3
  rcases List.mem_cons.1 hA with rfl|hA
  ·exact iY (gZ h3)
  obtain rfl:A=dq 5 (P12.1.map cR):=by simpa using hA
  exact iY (gZ (gZ h3))⟩,gZ (gZ (gZ h3))⟩⟩,fT ((fT ((fT (ae (H':=[dq 5 (P12.1.map cR),Z2,row 59 3 A12 K c12 (ab aN P12.1),pt b19 39 (aE bb_ A12 K c12)]) w' hS)).perm (List.Perm.swap _ _ _))).perm (List.Perm.swap _ _ _))⟩
def lr (x:Rs) (idx:Nat):Rs:={x with base:=(lC x.base x.es idx).2.1,es:=(lC x.base x.es idx).2.2,cf:=iQ x idx}
theorem yb {a:At} {l:List En} {idx:Nat} {e:Int} {b:At} {r:List En} (hr:br a l=true) (h1:a.1≤idx) (h2:idx≤a.1+l.length) (h:lC a l idx=(e,b,r)):e=0∧r.length≤l.length∧ ∀ y∈r,y∈l:=by
 unfold lC at h
 rw[if_pos hr] at h
 have hf:d5 a l idx=(((idx-a.1:Nat):Int),db a l (idx-a.1)):=if_pos ⟨h1,h2⟩
 rw[hf,if_neg (by omega)] at h
 simp only[Prod.mk.injEq] at h
 obtain⟨rfl,_,rfl⟩:=h
 exact⟨O,by rw[List.length_drop];omega,fun y hy=>List.mem_of_mem_drop hy⟩
theorem oW (w:World) (x:Rs) (p:Rp) (h:RfR w x p) (idx:Nat) (hck:cz x=true) (hlm:idx<x.base.1∨x.commit<idx):
  Gives Tryz.prog 33 [.agg (aZ x p).toArray,.int .u64 (idx:Int)] [] w (X:=Unit) (fun _=> .tuple #[.agg (aZ dy df).toArray,zi 2]) (fun _=>True) (fun _=>[]):=by
 refine cX Tryz.func33 O Tryz.ntmps33 Tryz.results33 (by simp) (St.enter w) (fun B hB=>?_)
 by_cases hl4:idx<x.base.1
 ·focus (refine qs ?_;(refine qe (ap (cs:=aZ x p) O) ?_;rintro _ _ ⟨b2,rfl,rfl⟩);(refine qe (am O ch) ?_;rintro _ _ ⟨b4,rfl,rfl⟩);refine qp ?_;refine qz ?_;refine qq ?_;refine qb ?_;refine qs ?_;refine qt (ai (ds:=aZ x p) O O O O O) ?_;refine qh wK (fun w1 hS1=>dR w1 x p (h.keep hS1.kpO) true hck) ?_;refine qp ?_;refine qp ?_;refine qz ?_;refine qF ?_;refine qs ?_;(iterate 4 refine qp ?_);refine qt (ah O O O O) ?_;refine qd ?_;refine qd ?_;(iterate 4 refine qk ?_);refine qd ?_;refine qd ?_;refine qz ?_;refine qT ?_;refine qs ?_;refine qt (bu lh) ?_;(refine qw (aj (cs:=aZ dy df) (ds:=aZ dy df) O O O O (bn _ _) O) ?_;rintro _ _ rfl);refine qp ?_;refine qz ?_)
  refine hB _ _ _ _ _ O (.cell O O O inferInstance O (.tmp O .nil)) fun w' hS=>⟨(),O,trivial,hS.sublist (List.nil_sublist _)⟩
 ·focus (refine qs ?_;(refine qe (ap (cs:=aZ x p) O) ?_;rintro _ _ ⟨b2,rfl,rfl⟩);(refine qe (am O ch) ?_;rintro _ _ ⟨b4,rfl,rfl⟩);refine qp ?_;refine qz ?_;refine qq ?_;refine qb ?_;refine qs ?_;refine qt (ai (ds:=aZ x p) O O O O O) ?_;refine qh wK (fun w1 hS1=>dR w1 x p (h.keep hS1.kpO) true hck) ?_;refine qp ?_;refine qp ?_;refine qz ?_;refine qF ?_;refine qs ?_;(iterate 4 refine qp ?_);refine qt (ah O O O O) ?_;refine qf ?_;(iterate 3 refine qp ?_);refine qt (ah O O O O) ?_;(iterate 3 refine qd ?_);refine qz ?_;refine qT ?_;refine qs ?_;refine qt (bu lh) ?_;(refine qw (aj (cs:=aZ dy df) (ds:=aZ dy df) O O O O (bn _ _) O) ?_;rintro _ _ rfl);refine qp ?_;refine qz ?_)
  refine hB _ _ _ _ _ O (.cell O O O inferInstance O (.tmp O .nil)) fun w' hS=>⟨(),O,trivial,hS.sublist (List.nil_sublist _)⟩
theorem qA (w:World) (x:Rs) (p:Rp) (h:RfR w x p) (idx:Nat) (hck:cz x=true) (hl1:x.base.1≤idx) (hl2:idx≤x.commit) (hu2:RsU (lr x idx)):
  Gives Tryz.prog 33 [.agg (aZ x p).toArray,.int .u64 (idx:Int)] [] w (X:=Rp×Asn) (fun y=> .tuple #[.agg (aZ (lr x idx) y.1).toArray,zi 0]) (fun y=> ∀ w',y.2.holds w'→RfR w' (lr x idx) y.1) (fun y=>[y.2]):=by
 refine cX Tryz.func33 O Tryz.ntmps33 Tryz.results33 (by simp) (St.enter w) (fun B hB=>?_)
 have n1:=h.lg.hm
 have n2:=h.lg.hcm
 have n3:=h.hvm
 have n4:=h.hpm
 have hdd:=h.lg.ed
 obtain⟨ms,hms⟩: ∃ ms,iQ x idx=ms:=⟨_,O⟩
 have hm5:ms.length≤5:=by rw[← hms];exact dG (kO hck) _
 obtain⟨⟨e,bb,rr⟩,hcp⟩: ∃ z,lC x.base x.es idx=z:=⟨_,O⟩
 have hlast:idx≤x.base.1+x.es.length:=by
  have h1:x.commit≤(lastP x).1:=by
   simp only[cz,Bool.and_eq_true,decide_eq_true_eq] at hck
   exact hck.1.1.1.1.1.2
  rw[lastP,if_pos (iB hck)] at h1
  exact Nat.le_trans hl2 h1
 obtain⟨he0,hrl,hrm⟩:=yb (iB hck) hl1 hlast hcp
 subst he0
 have hX:lr x idx={x with base:=bb,es:=rr,cf:=ms}:=by unfold lr;rw[hcp,hms]
 rw[hX] at hB hu2
 have hrd: ∀ y∈rr,y.2.2.length≤100000:=fun y hy=>hdd y (hrm y hy)
 have hln:=h.lg.ln
 focus (refine qs ?_;(refine qe (ap (cs:=aZ x p) O) ?_;rintro _ _ ⟨b2,rfl,rfl⟩);(refine qe (am O ch) ?_;rintro _ _ ⟨b4,rfl,rfl⟩);refine qp ?_;refine qz ?_;refine qq ?_;refine qb ?_;refine qs ?_;refine qt (ai (ds:=aZ x p) O O O O O) ?_;refine qh wK (fun w1 hS1=>dR w1 x p (h.keep hS1.kpO) true hck) ?_;refine qp ?_;refine qp ?_;refine qz ?_;refine qF ?_;refine qs ?_;(iterate 4 refine qp ?_);refine qt (ah O O O O) ?_;refine qf ?_;(iterate 3 refine qp ?_);refine qt (ah O O O O) ?_;refine qf ?_;refine qp ?_;refine qp ?_;refine qz ?_;refine qF ?_;refine qx ?_;refine aK ?_;refine qs ?_;refine qt (ai (ds:=aZ x p) O O O O O) ?_;(refine qe (eD (f:=37) FF (fun w hS=>ji w x p (h.keep hS.kpO)) O O) ?_;rintro _ _ ⟨q,rfl,⟨hq,hqn,hqc,hqv,hqp⟩,rfl⟩;dsimp only[List.cons_append,List.nil_append]);(refine qw (aj (cs:=aZ x p) (ds:=aZ x q) O O O O (bn _ _) O) ?_;rintro _ _ rfl);refine qn ?_)
 have hlq: ∀ w3,KL (fun _=>True) [row 59 3 q.A q.n q.c (ab aN q.Q),dq 5 (q.Q.map cR),row 3 1 q.cA q.cn q.cc (x.cf.map zv)] w3→LgR w3 x q:=fun w3 h3=>jX (h3.2 (row 59 3 q.A q.n q.c (ab aN q.Q)) (by simp)) (h3.2 (dq 5 (q.Q.map cR)) (by simp)) (ce (h3.2 (row 3 1 q.cA q.cn q.cc (x.cf.map zv)) (by simp))) hq.hQ hq.hn hq.hcn (by omega) (by omega) hdd
 focus (refine qt (ai (ds:=aZ x q) O O O O O) ?_;refine qp ?_;(refine qe (bB (f:=53) An (fun w1 hS1=>iv w1 x q (KL (fun _=>True) [row 59 3 q.A q.n q.c (ab aN q.Q),dq 5 (q.Q.map cR),row 3 1 q.cA q.cn q.cc (x.cf.map zv)]) (Kd.subL (As':=[]) (fun _ _=>trivial) hS1 (by simp)) hlq idx ms hms) O O (fun _=>O)) ?_;rintro _ _ ⟨⟨⟨A6,K6,c6⟩,Z6⟩,rfl,hI6,rfl⟩;dsimp only at hI6);(refine qe (am O C.dO) ?_;rintro _ _ ⟨b6,rfl,rfl⟩);(refine qw (aj (cs:=[.slice none 0 0]) (ds:=[.slice A6 ms.length c6]) O O O O (C.eB _ _ _) O) ?_;rintro _ _ rfl);refine qn ?_;refine qp ?_;refine qt (ai (ds:=aE x.base q.A q.n q.c) O O O O O) ?_;refine qp ?_)
 focus ((refine qe (eD (f:=100) Dx (fun w1 hS1=>mW w1 x.base q.A q.c q.n q.Q x.es hq.hn hq.hQ (ce (hS1.at_ (A:=row 59 3 q.A q.n q.c (ab aN q.Q)) (by simp))) ((SDt.own (e:=5) (D:=q.Q.map cR) (by simp)).rd w1 hS1) (ep (hS1.at_ (A:=row 59 3 q.A q.n q.c (ab aN q.Q)) (by simp))).1 (by omega) (fun m hm=>hdd (bA m) (by rw[← hq.hQ];exact List.mem_map.2 ⟨m,hm,O⟩)) idx 0 bb rr hcp) O O) ?_;rintro _ _ ⟨⟨⟨A7,c7⟩,P7⟩,rfl,⟨hP7,hc7⟩,rfl⟩;dsimp only[List.cons_append,List.nil_append] at hP7 hc7 ⊢);(iterate 3 refine qp ?_);(refine qe (am O bP) ?_;rintro _ _ ⟨b7,rfl,rfl⟩);(refine qw (aj (cs:=aE (0,0) none 0 0) (ds:=aE bb A7 rr.length c7) O O O O (bD _ _ _ _) O) ?_;rintro _ _ rfl);refine qp ?_;refine qz ?_;refine qq ?_;refine qs ?_;refine qp ?_;refine qf ?_;refine qz ?_;refine qF ?_;refine qx ?_;refine qq ?_)
 refine dS [pt b7 39 (aE bb A7 rr.length c7),pt b6 33 [.slice A6 ms.length c6]] 6 ?_
 refine dt 0 O (ai (ds:=aE bb A7 rr.length c7) O O O O O) ?_
 refine dt 1 O (ai (ds:=[.slice A6 ms.length c6]) O O O O O) ?_
 refine dp 2 ?_
 refine dE 3 O (gJ (gb:=b2) (t:=42) (cs:=aZ x q) (ds:=aE bb A7 rr.length c7) (cs':=aZ {x with base:=bb,es:=rr} ⟨A7,rr.length,c7,P7,q.cA,q.cn,q.cc,q.vA,q.vn,q.vc,q.pA,q.pn,q.pc⟩) O O O O (bD _ _ _ _) O (by show 3+3≤14;omega)) ?_
 rintro _ _ rfl
 refine nx ?_
 refine dp 4 ?_
 refine dE 5 O (gJ (gb:=b2) (t:=42) (cs:=aZ {x with base:=bb,es:=rr} ⟨A7,rr.length,c7,P7,q.cA,q.cn,q.cc,q.vA,q.vn,q.vc,q.pA,q.pn,q.pc⟩) (ds:=[.slice A6 ms.length c6]) (cs':=aZ {x with base:=bb,es:=rr,cf:=ms} ⟨A7,rr.length,c7,P7,A6,ms.length,c6,q.vA,q.vn,q.vc,q.pA,q.pn,q.pc⟩) O O O O (C.eB _ _ _) O (by show 6+1≤14;omega)) ?_
 rintro _ _ rfl
 refine nx ?_
 refine dn ?_
 skip
 focus (refine qs ?_;refine qt (ai (ds:=aZ {x with base:=bb,es:=rr,cf:=ms} ⟨A7,rr.length,c7,P7,A6,ms.length,c6,q.vA,q.vn,q.vc,q.pA,q.pn,q.pc⟩) O O O O O) ?_;(refine qw (aj (cs:=aZ dy df) (ds:=aZ {x with base:=bb,es:=rr,cf:=ms} ⟨A7,rr.length,c7,P7,A6,ms.length,c6,q.vA,q.vn,q.vc,q.pA,q.pn,q.pc⟩) O O O O (bn _ _) O) ?_;rintro _ _ rfl);refine qp ?_;refine qz ?_)
 refine hB _ _ _ _ _ O (.cell O O O inferInstance O (.tmp O .nil)) fun w' hS=>⟨(⟨A7,rr.length,c7,P7,A6,ms.length,c6,q.vA,q.vn,q.vc,q.pA,q.pn,q.pc⟩,pj ([row 59 3 A7 rr.length c7 (ab aN P7),dq 5 (P7.map cR),row 59 3 q.A q.n q.c (ab aN q.Q),dq 5 (q.Q.map cR),row 3 1 q.cA q.cn q.cc (x.cf.map zv),Z6,row 3 1 q.vA q.vn q.vc (x.votes.map zv),row 112 3 q.pA q.pn q.pc (ab bp x.peers)])),O,fun w3 h3=>?_,eU (L:=[row 59 3 A7 rr.length c7 (ab aN P7),dq 5 (P7.map cR),row 59 3 q.A q.n q.c (ab aN q.Q),dq 5 (q.Q.map cR),row 3 1 q.cA q.cn q.cc (x.cf.map zv),Z6,row 3 1 q.vA q.vn q.vc (x.votes.map zv),row 112 3 q.pA q.pn q.pc (ab bp x.peers)]) (H:=[]) (ae (H':=[row 59 3 A7 rr.length c7 (ab aN P7),dq 5 (P7.map cR),row 59 3 q.A q.n q.c (ab aN q.Q),dq 5 (q.Q.map cR),row 3 1 q.cA q.cn q.cc (x.cf.map zv),Z6,row 3 1 q.vA q.vn q.vc (x.votes.map zv),row 112 3 q.pA q.pn q.pc (ab bp x.peers)]) w' hS)⟩
 have h4:=lM h3
 have hlg:LgR w3 {x with base:=bb,es:=rr,cf:=ms} ⟨A7,rr.length,c7,P7,A6,ms.length,c6,q.vA,q.vn,q.vc,q.pA,q.pn,q.pc⟩:=jX (h4 (row 59 3 A7 rr.length c7 (ab aN P7)) (by simp)) (h4 (dq 5 (P7.map cR)) (by simp)) (hI6 w3 ⟨⟨trivial,fun A hA=>h4 A (by simp at hA ⊢;rcases hA with rfl|rfl|rfl<;>simp)⟩,h4 Z6 (by simp)⟩) hP7 (by rw[← hP7,List.length_map]) O (by show rr.length≤1000;omega) (by show ms.length≤900;omega) hrd
 exact⟨hlg,hq.hvn,by show q.vn≤900;omega,ce (h4 (row 3 1 q.vA q.vn q.vc (x.votes.map zv)) (by simp)),hq.hpn,by show q.pn≤900;omega,ce (h4 (row 112 3 q.pA q.pn q.pc (ab bp x.peers)) (by simp)),hu2⟩
instance:Inhabited Ms:=⟨gL⟩
instance:Inhabited Mp:=⟨⟨none,0,0,none,0,0,none,0,0,[]⟩⟩
theorem z0 {ms:List Int} {L:List (Int×Nat)} {n b:Nat} (h:kI ms L=n) (hb: ∀ q∈L,q.2<b) (h0:0<b:=by decide):n<b:=by
 have hi: ∀ m,C.dH L m<b:=fun m=>by
  rcases Nat.lt_or_ge (C.dH L m) b with h1|h1
  ·exact h1
  ·rcases(C.k8 m b L 0).1 h1 with h2|⟨q,hq,_,h3⟩
   ·omega
   ·have:=hb q hq;omega
 rw[← h]
 unfold kI
 split
 ·unfold C.sP
  have key: ∀ (k:List Int) (c:Nat),c<b→k.foldl (fun b m=>if ms.length<2*ms.countP (fun x=>decide (C.dH L m≤C.dH L x)) then max b (C.dH L m) else b) c<b:=by
   intro k
   induction k with
   |nil=>exact fun c hc=>hc
   |cons m k ih=>
    intro c hc
    rw[List.foldl_cons]
    refine ih _ ?_
    split
    ·have:=hi m;omega
    ·exact hc
  exact key _ 0 h0
 ·exact h0
theorem vS {a:At} {l:List En} {y:En} {p b:At} {r:List En} (h:app a l y=(0,p,b,r)):b=a∧r=l++[y]:=by
 unfold app at h
 split at h
 ·split at h
  ·split at h
   ·simp at h
   ·simp only[Prod.mk.injEq,true_and] at h
    exact⟨h.2.1.symm,h.2.2.symm⟩
  ·simp at h
 ·simp at h
theorem oX {x:Rs} (h:cz x=true):di x (lastP x).1=true:=by
 simp only[cz,Bool.and_eq_true] at h
 exact h.2
end Go.Proofs.YtdeffdldifepkaaGreat
namespace Go.Proofs.YtdeffdldifepkaaGreat
open Go.RowKit Go.ChangeShapes Go.WideShapes Go.ChangeAt
open Asn (pt row rb)
set_option linter.unusedVariables false
set_option linter.unusedSimpArgs false
theorem Ge:RsU dy:=⟨by decide,by decide,by decide,by decide,fun p hp=>by cases hp⟩
theorem qB {x:Rs} (h:RsU x):RsU (dI x):=by
 have hc:i0 x<18446744073709551616:=by
  unfold i0
  split
  ·exact z0 O (fun q hq=>by
    unfold iZ at hq
    rcases List.mem_cons.1 hq with rfl|hq
    ·have:=oM x;exact Nat.lt_of_le_of_lt this (by decide)
    ·obtain⟨z,hz,rfl⟩:=List.mem_map.1 hq
     exact(h.pe z hz).2)
  ·exact h.cm
 unfold dI
 split
 ·exact⟨h.tm,h.b1,h.b2,hc,fun p hp=>by cases hp⟩
 ·exact⟨h.tm,h.b1,h.b2,hc,h.pe⟩
theorem nK {x:Rs} {k:Int} {d:List UInt8} (h:RsU x) (hck:cz x=true):RsU (gj x k d):=by
 unfold gj
 split
 ·rename_i h0
  have h1:(wP x k d).1=0:=by
   unfold eJ at h0
   split at h0
   ·cases h0
   ·split at h0
    ·cases h0
    ·split at h0
     ·cases h0
     ·exact h0
  obtain⟨⟨e,pa,bb,r⟩,hap⟩: ∃ z,wP x k d=z:=⟨_,O⟩
  rw[hap] at h1 ⊢
  obtain rfl:e=0:=h1
  obtain⟨hb,_⟩:=vS hap
  refine qB ⟨h.tm,?_,?_,h.cm,h.pe⟩
  ·show bb.1<_;rw[hb];exact h.b1
  ·show bb.2<_;rw[hb];exact h.b2
 ·exact Ge
end Go.Proofs.YtdeffdldifepkaaGreat
namespace Go.Proofs.YtdeffdldifepkaaGreat
open Go.RowKit
open Asn (pt row rb)
set_option linter.unusedVariables false
set_option linter.unusedSimpArgs false
def vT (m:Mm) (A:Option Addr) (n c:Nat):Mm:=⟨⟨m.p.A,m.p.n,m.p.c,m.p.Q,m.p.cA,m.p.cn,m.p.cc,none,0,0,A,n,c⟩,m.S,m.sA,m.sc,m.i⟩
theorem tB (a:Int) (n:Nat):Tryz.prog.built 112 [(0,.int .i64 a),(1,.int .u64 (n:Int))]=some (bp (a,n,0)).toArray:=by kernel_rfl
theorem tC (n:Nat):Tryz.prog.built 59 [(0,.int .u64 (n:Int)),(1,.int .i64 1)]=some (aN (n,1,none,0,[])).toArray:=by kernel_rfl
theorem oY (w:World) (g:Nat) (x:Rs) (m:Mm) (hS0:St w (ar (mP g x m)) (mP g x m) w) (D:Kw) (hD:Kd D (mP g x m) w) (h: ∀ w',D w'→McR w' x m) (hl:McL x m) (hcf:C.right x.cf=true) (htm:x.term≤4611686018427387904) (hes:x.es.length≤900) (hlt:(lastP x).1≤18446744073709551614) (hu2:(nX x).1=0→RsU (fx x)) (hSm:m.S.length≤800):
  Mth g x (da x) m (eH x) m.i D 165 [] w:=by
 unfold Mth
 refine bO Tryz.func165 O Tryz.ntmps165 Tryz.results165 (by simp) hS0 (fun B hE hB=>?_)
 have hw1:=(h w hD.now).lg
 have hn1:=hw1.hm
 obtain⟨K0,hK0⟩: ∃ K,(fj x.me).length=K:=⟨_,O⟩
 have hK5:K0≤5:=by rw[← hK0];exact List.length_filter_le _ _
 obtain⟨⟨e,pp,bb,r⟩,hap⟩: ∃ z,app x.base x.es (bA (x.term,1,none,0,[]))=z:=⟨_,O⟩
 obtain⟨K,hK⟩: ∃ K,r.length=K:=⟨_,O⟩
 have hapE:nX x=(e,pp,bb,r):=hap
 focus (refine qs ?_;(iterate 5 refine qp ?_);refine qt (ac O) ?_;refine qp ?_;refine qp ?_;refine qt (ah (v:= .int .i64 x.me) O O O O) ?_;refine qt (ac O) ?_;refine qp ?_;refine qp ?_;(refine qw (aw (cs:=aD x m) (cs':=aD {x with role:=4} m) O O O O O O (by show _<16;omega)) ?_;rintro _ _ rfl);refine qt (ac O) ?_;refine qp ?_;refine qp ?_;(refine qw (aw (cs:=aD {x with role:=4} m) (cs':=aD {x with role:=4,leader:=x.me} m) O O O O O O (by show _<16;omega)) ?_;rintro _ _ rfl);refine qt (ac O) ?_;refine qp ?_;refine qp ?_;(refine qw (aw (cs:=aD {x with role:=4,leader:=x.me} m) (cs':=aD {x with role:=4,leader:=x.me,clock:=0} m) O O O O O O (by show _<16;omega)) ?_;rintro _ _ rfl);refine qt (ac O) ?_;refine qp ?_;refine qp ?_;(refine qw (aw (cs:=aD {x with role:=4,leader:=x.me,clock:=0} m) (cs':=aD {x with role:=4,leader:=x.me,clock:=0} (iy m 0 none 0)) O O O O O O (by show _<16;omega)) ?_;rintro _ _ rfl);refine qn ?_;refine qp ?_;refine qt (ac O) ?_;refine qp ?_;refine qp ?_;(refine qw (aw (cs:=aD {x with role:=4,leader:=x.me,clock:=0} (iy m 0 none 0)) (cs':=aD {x with role:=4,leader:=x.me,clock:=0} (vT m none 0 0)) O O O O O O (by show _<16;omega)) ?_;rintro _ _ rfl);refine qz ?_;refine qq ?_;refine qs ?_;refine qp ?_;refine qt (ac O) ?_;refine qp ?_;refine qp ?_;refine qt (ah (v:= .int .i64 x.me) O O O O) ?_;(refine qe (eD (f:=159) zz (fun w1 hS1=>jV w1 x.me _ O K0 hK0) O O) ?_;rintro _ _ ⟨⟨LA,lc⟩,rfl,_,rfl⟩;dsimp only[List.cons_append,List.nil_append]);refine qp ?_;refine qp ?_;refine qz ?_;refine qb ?_)
 refine eS LA K0 lc fun _ _ hneL _=>?_
 refine bV (X:=Nat×Option Addr×Nat) (fun z=>[(0,.pointer (some ⟨g,0,none⟩)),(37,.slice LA K0 lc),(38,.int .i64 (K0:Int)),(39,.int .i64 (z.1:Int))]) (fun z=>[pt g 89 (aD {x with role:=4,leader:=x.me,clock:=0} (vT m z.2.1 z.1 z.2.2)),row 112 3 z.2.1 z.1 z.2.2 (ab bp (((fj x.me).take z.1).map (fun n=>((n,(lastP x).1+1,0):Pe)))),row 3 1 LA K0 lc ((fj x.me).map zv),row 65 12 m.sA m.S.length m.sc (ab bK m.S)]) (fun z=>z.1≤K0) (fun z=>K0-z.1) O (0,none,0) (Nat.zero_le _) (Sub.cons O (Sub.cons O (Sub.cons O (Sub.cons O Sub.nil)))) (fun w' hS=>?_) ?_
 ·exact ae (H':=[pt g 89 (aD {x with role:=4,leader:=x.me,clock:=0} (vT m none 0 0)),row 112 3 none 0 0 [],row 3 1 LA K0 lc ((fj x.me).map zv),row 65 12 m.sA m.S.length m.sc (ab bK m.S)]) w' (hS.nilrow 112 3)
 rintro⟨j,A5,c5⟩ hj J hJ
 dsimp only at hj ⊢
 rcases Nat.lt_or_ge j K0 with hjl|hjl
 ·have hneL':=hneL (by omega)
  obtain⟨n,hn⟩: ∃ n,(fj x.me).getD j 0=n:=⟨_,O⟩
  have hat:((fj x.me).map zv)[j]? =some (zv n):=by rw[List.getElem?_map, ← hn,List.getD_eq_getElem?_getD,List.getElem?_eq_getElem (by omega)];rfl
  have hnx:ab bp (((fj x.me).take (j+1)).map (fun n=>((n,(lastP x).1+1,0):Pe)))=ab bp (((fj x.me).take j).map (fun n=>((n,(lastP x).1+1,0):Pe)))++bp (n,(lastP x).1+1,0):=by
   have e1:(fj x.me).take (j+1)=(fj x.me).take j++[n]:=by rw[List.take_succ_eq_append_getElem (by omega)];simp[← hn,List.getD,show j<(fj x.me).length by omega]
   rw[e1,List.map_append,dC]
   simp[ab]
  focus (refine qs ?_;refine qd ?_;refine qz ?_;refine qq ?_;refine qT ?_;refine qx ?_;refine qq ?_;refine qb ?_;refine qs ?_;refine qt (fS O O O O O O hneL' hjl) ?_;refine qt (bN (v:=zv n) O O O (Srd.row (n:=K0) (c:=lc)) (by omega) hat) ?_;refine qp ?_;refine qz ?_)
  refine dS [pt g 89 (aD {x with role:=4,leader:=x.me,clock:=0} (vT m A5 j c5))] 18 ?_
  refine dp 0 ?_
  refine dp 1 ?_
  refine dt 2 O (ac O) ?_
  refine dp 3 ?_
  refine dp 4 ?_
  refine dt 5 O (ah (v:= .slice A5 j c5) O O O O) ?_
  refine dp 6 ?_
  refine dp 7 ?_
  refine dE 8 O (aq (f:=59) pE (fun w1 hS1=>ef w1 g {x with role:=4,leader:=x.me,clock:=0} (vT m A5 j c5) (bJ hS1 (by simp)) ((h w1 (hD.at_ hS1)).lg.like O O O O O O O O)) O O (fun _=>O)) ?_
  rintro _ _ ⟨_,rfl,_,rfl⟩
  refine nx ?_
  refine dt 9 O (cW (xs:=aO (lastP x)) O O O O O O) ?_
  (refine dt 10 O (aI O O (by unfold aH;omega)) ?_)
  refine dt 11 O (bS O O (tB _ _)) ?_
  refine dE 12 O (cK (vs:=[.agg (bp (n,(lastP x).1+1,0)).toArray]) (size:=3) (ds:=bp (n,(lastP x).1+1,0)) O O O O O O (by simp[aV,d2]) O (by omega)) ?_
  rintro _ _ ⟨vq,rfl,rfl⟩
  refine nx ?_
  refine dE 13 O (gd (sz:=3) (m:=j) (c:=c5) (A:=A5) O O O O O O O (by decide) (Srd.pt (n:=1) (g:=vq) (ds:=bp (n,(lastP x).1+1,0)) O (fun j u hj=>by rw[Nat.zero_add];exact hj)) (gQ _) (by show (j+1)*24≤_;omega) (by unfold maxLen;omega)) ?_
  rintro _ _ ⟨A7,c7,rfl,rfl⟩
  refine nx ?_
  refine dt 14 O (ac O) ?_
  refine dp 15 ?_
  refine dp 16 ?_
  refine dE 17 O (aw (cs:=aD {x with role:=4,leader:=x.me,clock:=0} (vT m A5 j c5)) (cs':=aD {x with role:=4,leader:=x.me,clock:=0} (vT m A7 (j+1) c7)) O O O O O O (by show _<16;omega)) ?_
  rintro _ _ rfl
  refine dV ?_
  refine dn ?_
  skip
  focus (refine aK ?_;refine qr ?_;refine qt (aI O O (by unfold aH;omega)) ?_;refine qp ?_;refine qz ?_)
  refine hJ (j+1,A7,c7) _ _ (by show j+1≤_;omega) (Sub.cons O (Sub.cons O (Sub.cons O (Sub.cons O Sub.nil)))) (fun w' hS=>?_) (by show K0-(j+1)<_;omega)
  dsimp only
  rw[hnx]
  exact ae (H':=[pt g 89 (aD {x with role:=4,leader:=x.me,clock:=0} (vT m A7 (j+1) c7)),row 112 3 A7 (j+1) c7 (ab bp (((fj x.me).take j).map (fun n=>((n,(lastP x).1+1,0):Pe)))++bp (n,(lastP x).1+1,0)),row 3 1 LA K0 lc ((fj x.me).map zv),row 65 12 m.sA m.S.length m.sc (ab bK m.S)]) w' hS
 obtain rfl:j=K0:=by omega
 rw[List.take_of_length_le (by omega)]
 obtain⟨x1,hx1⟩: ∃ y,y=tc x:=⟨_,O⟩
 obtain⟨m1,hm1⟩: ∃ y,y=vT m A5 j c5:=⟨_,O⟩
 have hM1: ∀ w',D w'→McR w' x1 m1:=fun w' h'=>by rw[hx1,hm1];exact⟨(h w' h').lg.like O O O O O O O O,(h w' h').ms⟩
 have hw2:=(hM1 w hD.now).lg
 have hap1:app x1.base x1.es (bA (x1.term,1,none,0,[]))=(e,pp,bb,r):=by rw[hx1];exact hap
 have hL1:McL x1 m1:=by rw[hx1,hm1];exact⟨O,by show ((fj x.me).map _).length=j;rw[List.length_map];exact hK0⟩
 refine eu (H':=[pt g 89 (aD x1 m1),row 3 1 m1.p.vA m1.p.vn m1.p.vc (x1.votes.map zv),row 112 3 m1.p.pA m1.p.pn m1.p.pc (ab bp x1.peers),row 65 12 m1.sA m1.S.length m1.sc (ab bK m1.S)]) (fun w' hS=>?_) ?_
 ·have h9:=ae (H':=[pt g 89 (aD {x with role:=4,leader:=x.me,clock:=0} (vT m A5 j c5)),row 3 1 none 0 0 [],row 112 3 A5 j c5 (ab bp ((fj x.me).map (fun n=>((n,(lastP x).1+1,0):Pe)))),row 65 12 m.sA m.S.length m.sc (ab bK m.S)]) w' (hS.nilrow 3 1)
  rw[hx1,hm1]
  exact h9
 focus (refine qs ?_;refine qf ?_;refine qz ?_;refine qq ?_;refine qF ?_;refine bE O O ?_;refine qq ?_)
 refine eo (X:=((Option Addr×Nat)×Sh r)×Nat×Nat) (fun z=>[(0,.pointer (some ⟨g,0,none⟩)),(4,.pointer (some ⟨z.2.1,0,none⟩)),(5,.pointer (some ⟨z.2.2,0,none⟩)),(6,zi e)]) (fun z=>[row 59 3 z.1.1.1 K z.1.1.2 (ab aN z.1.2.1),dq 5 (z.1.2.1.map cR),pt z.2.1 39 (aE bb z.1.1.1 K z.1.1.2),pt g 89 (aD x1 m1),row 3 1 m1.p.vA m1.p.vn m1.p.vc (x1.votes.map zv),row 112 3 m1.p.pA m1.p.pn m1.p.pc (ab bp x1.peers),row 65 12 m1.sA m1.S.length m1.sc (ab bK m1.S)]) (fun _=>True) (fun J2 hJ2=>?_) (fun z _=>?_)
 ·skip
  refine dS [pt g 89 (aD x1 m1)] 21 ?_
  refine dp 0 ?_
  refine dt 1 O (ac O) ?_
  refine dp 2 ?_
  refine dp 3 ?_
  refine dt 4 O (ai (ds:=aE x1.base m1.p.A m1.p.n m1.p.c) O O O O O) ?_
  refine dp 5 ?_
  refine dt 6 O (ac O) ?_
  refine dp 7 ?_
  refine dp 8 ?_
  refine dt 9 O (ah (v:= .int .u64 (x1.term:Int)) O O O O) ?_
  refine dt 10 O (bS O O (tC _)) ?_
  refine lY #[U,U,U,U,U,U,U,U,U,U,U,U,U,U,U,U,U,U,Y,Y,Y] (fun x:Option Addr×Nat×Sh r×Nat×Nat=>[(76,zi e),(75,.agg (aO pp).toArray),(74,.agg (aE bb x.1 K x.2.1).toArray),(61,.tuple #[.agg (aE bb x.1 K x.2.1).toArray,.agg (aO pp).toArray,zi e]),(5,.pointer (some ⟨x.2.2.2.2,0,none⟩)),(4,.pointer (some ⟨x.2.2.2.1,0,none⟩)),(73,.tuple #[.agg (aE bb x.1 K x.2.1).toArray,.agg (aO pp).toArray,zi e]),(0,.pointer (some ⟨g,0,none⟩)),(66,.agg (aE x1.base m1.p.A m1.p.n m1.p.c).toArray),(72,.agg (aN (x1.term,1,none,0,[])).toArray)]) (fun x:Option Addr×Nat×Sh r×Nat×Nat=>[pt x.2.2.2.2 36 (aO (0,0)),pt x.2.2.2.1 39 (aE (0,0) none 0 0),row 59 3 x.1 K x.2.1 (ab aN x.2.2.1.1),dq 5 (x.2.2.1.1.map cR),pt g 89 (aD x1 m1),row 3 1 m1.p.vA m1.p.vn m1.p.vc (x1.votes.map zv),row 112 3 m1.p.pA m1.p.pn m1.p.pc (ab bp x1.peers),row 65 12 m1.sA m1.S.length m1.sc (ab bK m1.S)]) (fun nd0=>?_) (fun x=>?_)
  refine ct #[U,U,U,U,U,U,U,U,U,U,U,U,U,U,U,U,U,Y,Y,Y,Y] (fun x:Option Addr×Nat×Sh r×Nat=>[(76,zi e),(75,.agg (aO pp).toArray),(74,.agg (aE bb x.1 K x.2.1).toArray),(61,.tuple #[.agg (aE bb x.1 K x.2.1).toArray,.agg (aO pp).toArray,zi e]),(4,.pointer (some ⟨x.2.2.2,0,none⟩)),(73,.tuple #[.agg (aE bb x.1 K x.2.1).toArray,.agg (aO pp).toArray,zi e]),(0,.pointer (some ⟨g,0,none⟩)),(66,.agg (aE x1.base m1.p.A m1.p.n m1.p.c).toArray),(72,.agg (aN (x1.term,1,none,0,[])).toArray)]) (fun x:Option Addr×Nat×Sh r×Nat=>[pt x.2.2.2 39 (aE (0,0) none 0 0),row 59 3 x.1 K x.2.1 (ab aN x.2.2.1.1),dq 5 (x.2.2.1.1.map cR),pt g 89 (aD x1 m1),row 3 1 m1.p.vA m1.p.vn m1.p.vc (x1.votes.map zv),row 112 3 m1.p.pA m1.p.pn m1.p.pc (ab bp x1.peers),row 65 12 m1.sA m1.S.length m1.sc (ab bK m1.S)]) (fun x=>?_) (fun nd1=>?_)
  ·skip
   obtain⟨A12,c12,P12,b4⟩:=x
   try dsimp only
   refine dE 17 O (am O ba) ?_
   rintro _ _ ⟨b5,rfl,rfl⟩
   refine nx ?_
   have h:=nd0 (A12,c12,P12,b4,b5)
   try dsimp only at h
   exact Da h
  refine ct #[U,U,U,U,U,U,U,U,U,U,U,U,U,U,U,U,Y,U,Y,Y,Y] (fun x:Option Addr×Nat×Sh r×Nat=>[(76,zi e),(75,.agg (aO pp).toArray),(74,.agg (aE bb x.1 K x.2.1).toArray),(61,.tuple #[.agg (aE bb x.1 K x.2.1).toArray,.agg (aO pp).toArray,zi e]),(5,.pointer (some ⟨x.2.2.2,0,none⟩)),(73,.tuple #[.agg (aE bb x.1 K x.2.1).toArray,.agg (aO pp).toArray,zi e]),(0,.pointer (some ⟨g,0,none⟩)),(66,.agg (aE x1.base m1.p.A m1.p.n m1.p.c).toArray),(72,.agg (aN (x1.term,1,none,0,[])).toArray)]) (fun x:Option Addr×Nat×Sh r×Nat=>[pt x.2.2.2 36 (aO (0,0)),row 59 3 x.1 K x.2.1 (ab aN x.2.2.1.1),dq 5 (x.2.2.1.1.map cR),pt g 89 (aD x1 m1),row 3 1 m1.p.vA m1.p.vn m1.p.vc (x1.votes.map zv),row 112 3 m1.p.pA m1.p.pn m1.p.pc (ab bp x1.peers),row 65 12 m1.sA m1.S.length m1.sc (ab bK m1.S)]) (fun x=>?_) (fun nd2=>?_)
  ·skip
   obtain⟨A12,c12,P12,b5⟩:=x
   try dsimp only
   refine dE 16 O (am O bP) ?_
   rintro _ _ ⟨b4,rfl,rfl⟩
   refine nx ?_
   have h:=nd0 (A12,c12,P12,b4,b5)
   try dsimp only at h
   exact Da h
  refine ct #[U,U,U,U,U,U,U,U,U,U,U,U,U,U,U,U,Y,Y,Y,Y,Y] (fun x:Option Addr×Nat×Sh r=>[(76,zi e),(75,.agg (aO pp).toArray),(74,.agg (aE bb x.1 K x.2.1).toArray),(61,.tuple #[.agg (aE bb x.1 K x.2.1).toArray,.agg (aO pp).toArray,zi e]),(73,.tuple #[.agg (aE bb x.1 K x.2.1).toArray,.agg (aO pp).toArray,zi e]),(0,.pointer (some ⟨g,0,none⟩)),(66,.agg (aE x1.base m1.p.A m1.p.n m1.p.c).toArray),(72,.agg (aN (x1.term,1,none,0,[])).toArray)]) (fun x:Option Addr×Nat×Sh r=>[row 59 3 x.1 K x.2.1 (ab aN x.2.2.1),dq 5 (x.2.2.1.map cR),pt g 89 (aD x1 m1),row 3 1 m1.p.vA m1.p.vn m1.p.vc (x1.votes.map zv),row 112 3 m1.p.pA m1.p.pn m1.p.pc (ab bp x1.peers),row 65 12 m1.sA m1.S.length m1.sc (ab bK m1.S)]) (fun x=>?_) (fun nd3=>?_)
  ·skip
   obtain⟨A12,c12,P12⟩:=x
   try dsimp only
   refine fb 16 17 (by decide) O O (am O bP) (am O ba) ?_ ?_ O O O O (by kernel_rfl)
   ·rintro _ _ ⟨b4,rfl,rfl⟩
    refine nx ?_
    have h:=nd1 (A12,c12,P12,b4)
    try dsimp only at h
    exact Da h
   ·rintro _ _ ⟨b5,rfl,rfl⟩
    refine nx ?_
    have h:=nd2 (A12,c12,P12,b5)
    try dsimp only at h
    exact Da h
  refine ct #[U,U,U,U,U,U,U,U,U,U,U,Y,Y,Y,Y,Y,U,U,Y,Y,Y] (fun x:Nat×Nat=>[(5,.pointer (some ⟨x.2,0,none⟩)),(4,.pointer (some ⟨x.1,0,none⟩)),(0,.pointer (some ⟨g,0,none⟩)),(66,.agg (aE x1.base m1.p.A m1.p.n m1.p.c).toArray),(72,.agg (aN (x1.term,1,none,0,[])).toArray)]) (fun x:Nat×Nat=>[pt x.2 36 (aO (0,0)),pt x.1 39 (aE (0,0) none 0 0),pt g 89 (aD x1 m1),row 3 1 m1.p.vA m1.p.vn m1.p.vc (x1.votes.map zv),row 112 3 m1.p.pA m1.p.pn m1.p.pc (ab bp x1.peers),row 65 12 m1.sA m1.S.length m1.sc (ab bK m1.S)]) (fun x=>?_) (fun nd4=>?_)
  ·skip
   obtain⟨b4,b5⟩:=x
   try dsimp only
   refine dE 11 O (eD (f:=54) Aq (fun w1 hS1=>ju w1 x1.base m1.p.A m1.p.c m1.p.n m1.p.Q x1.es hw2.hn hw2.hQ (hM1 w1 (hD.at_ hS1)).lg.rq (hM1 w1 (hD.at_ hS1)).lg.dt hw2.hm hw2.hd (x1.term,1,none,0,[]) Rd.none_ (Nat.zero_le _) e pp bb r K hK hap1) O O) ?_
   rintro _ _ ⟨⟨⟨A12,c12⟩,P12⟩,rfl,_,rfl⟩;dsimp only[List.cons_append,List.nil_append]
   refine nx ?_
   refine dp 12 ?_
   refine dp 13 ?_
   refine dp 14 ?_
   refine dp 15 ?_
   have h:=nd0 (A12,c12,P12,b4,b5)
   try dsimp only at h
   exact Da h
  refine ct #[U,U,U,U,U,U,U,U,U,U,U,Y,Y,Y,Y,Y,U,Y,Y,Y,Y] (fun x:Nat=>[(4,.pointer (some ⟨x,0,none⟩)),(0,.pointer (some ⟨g,0,none⟩)),(66,.agg (aE x1.base m1.p.A m1.p.n m1.p.c).toArray),(72,.agg (aN (x1.term,1,none,0,[])).toArray)]) (fun x:Nat=>[pt x 39 (aE (0,0) none 0 0),pt g 89 (aD x1 m1),row 3 1 m1.p.vA m1.p.vn m1.p.vc (x1.votes.map zv),row 112 3 m1.p.pA m1.p.pn m1.p.pc (ab bp x1.peers),row 65 12 m1.sA m1.S.length m1.sc (ab bK m1.S)]) (fun x=>?_) (fun nd5=>?_)
  ·skip
   revert x;intro b4
   try dsimp only
   refine fb 11 17 (by decide) O O (eD (f:=54) Aq (fun w1 hS1=>ju w1 x1.base m1.p.A m1.p.c m1.p.n m1.p.Q x1.es hw2.hn hw2.hQ (hM1 w1 (hD.at_ hS1)).lg.rq (hM1 w1 (hD.at_ hS1)).lg.dt hw2.hm hw2.hd (x1.term,1,none,0,[]) Rd.none_ (Nat.zero_le _) e pp bb r K hK hap1) O O) (am O ba) ?_ ?_ O O O O (by kernel_rfl)
   ·rintro _ _ ⟨⟨⟨A12,c12⟩,P12⟩,rfl,_,rfl⟩;dsimp only[List.cons_append,List.nil_append]
    refine nx ?_
    refine dp 12 ?_
    refine dp 13 ?_
    refine dp 14 ?_
    refine dp 15 ?_
    have h:=nd1 (A12,c12,P12,b4)
    try dsimp only at h
    exact Da h
   ·rintro _ _ ⟨b5,rfl,rfl⟩
    refine nx ?_
    have h:=nd4 (b4,b5)
    try dsimp only at h
    exact Da h
  refine ct #[U,U,U,U,U,U,U,U,U,U,U,Y,Y,Y,Y,Y,Y,U,Y,Y,Y] (fun x:Nat=>[(5,.pointer (some ⟨x,0,none⟩)),(0,.pointer (some ⟨g,0,none⟩)),(66,.agg (aE x1.base m1.p.A m1.p.n m1.p.c).toArray),(72,.agg (aN (x1.term,1,none,0,[])).toArray)]) (fun x:Nat=>[pt x 36 (aO (0,0)),pt g 89 (aD x1 m1),row 3 1 m1.p.vA m1.p.vn m1.p.vc (x1.votes.map zv),row 112 3 m1.p.pA m1.p.pn m1.p.pc (ab bp x1.peers),row 65 12 m1.sA m1.S.length m1.sc (ab bK m1.S)]) (fun x=>?_) (fun nd6=>?_)
  ·skip
   revert x;intro b5
   try dsimp only
   refine fb 11 16 (by decide) O O (eD (f:=54) Aq (fun w1 hS1=>ju w1 x1.base m1.p.A m1.p.c m1.p.n m1.p.Q x1.es hw2.hn hw2.hQ (hM1 w1 (hD.at_ hS1)).lg.rq (hM1 w1 (hD.at_ hS1)).lg.dt hw2.hm hw2.hd (x1.term,1,none,0,[]) Rd.none_ (Nat.zero_le _) e pp bb r K hK hap1) O O) (am O bP) ?_ ?_ O O O O (by kernel_rfl)
   ·rintro _ _ ⟨⟨⟨A12,c12⟩,P12⟩,rfl,_,rfl⟩;dsimp only[List.cons_append,List.nil_append]
    refine nx ?_
    refine dp 12 ?_
    refine dp 13 ?_
    refine dp 14 ?_
    refine dp 15 ?_
    have h:=nd2 (A12,c12,P12,b5)
    try dsimp only at h
    exact Da h
   ·rintro _ _ ⟨b4,rfl,rfl⟩
    refine nx ?_
    have h:=nd4 (b4,b5)
    try dsimp only at h
    exact Da h
  refine ct #[U,U,U,U,U,U,U,U,U,U,U,Y,Y,Y,Y,Y,Y,Y,Y,Y,Y] (fun _:Unit=>[(0,.pointer (some ⟨g,0,none⟩)),(66,.agg (aE x1.base m1.p.A m1.p.n m1.p.c).toArray),(72,.agg (aN (x1.term,1,none,0,[])).toArray)]) (fun _:Unit=>[pt g 89 (aD x1 m1),row 3 1 m1.p.vA m1.p.vn m1.p.vc (x1.votes.map zv),row 112 3 m1.p.pA m1.p.pn m1.p.pc (ab bp x1.peers),row 65 12 m1.sA m1.S.length m1.sc (ab bK m1.S)]) (fun x=>?_) (fun nd7=>?_)
  ·skip
   obtain⟨⟩:=x
   try dsimp only
   refine rk 11 16 17 O O O (eD (f:=54) Aq (fun w1 hS1=>ju w1 x1.base m1.p.A m1.p.c m1.p.n m1.p.Q x1.es hw2.hn hw2.hQ (hM1 w1 (hD.at_ hS1)).lg.rq (hM1 w1 (hD.at_ hS1)).lg.dt hw2.hm hw2.hd (x1.term,1,none,0,[]) Rd.none_ (Nat.zero_le _) e pp bb r K hK hap1) O O) (am O bP) (am O ba) ?_ ?_ ?_ O O O O O O (by kernel_rfl)
   ·rintro _ _ ⟨⟨⟨A12,c12⟩,P12⟩,rfl,_,rfl⟩;dsimp only[List.cons_append,List.nil_append]
    refine nx ?_
    refine dp 12 ?_
    refine dp 13 ?_
    refine dp 14 ?_
    refine dp 15 ?_
    have h:=nd3 (A12,c12,P12)
    try dsimp only at h
    exact Da h
   ·rintro _ _ ⟨b4,rfl,rfl⟩
    refine nx ?_
    have h:=nd5 (b4)
    try dsimp only at h
    exact Da h
   ·rintro _ _ ⟨b5,rfl,rfl⟩
    refine nx ?_
    have h:=nd6 (b5)
    try dsimp only at h
    exact Da h
  have h:=nd7 ()
  try dsimp only at h
  exact Da h
  obtain⟨A12,c12,P12,b4,b5⟩:=x
  try dsimp only
  refine dE 18 O (aj (cs:=aE (0,0) none 0 0) (ds:=aE bb A12 K c12) O O O O (bD _ _ _ _) O) ?_
  rintro _ _ rfl
  refine nx ?_
  refine dE 19 O (aj (cs:=aO (0,0)) (ds:=aO pp) O O O O (aQ _) O) ?_
  rintro _ _ rfl
  refine nx ?_
  refine dp 20 ?_
  refine dn ?_
  exact hJ2 (((A12,c12),P12),b4,b5) _ _ trivial (Sub.cons O (Sub.cons O (Sub.cons O (Sub.cons O Sub.nil)))) ae
 obtain⟨⟨⟨A12,c12⟩,P12⟩,b4,b5⟩:=z
 dsimp only
 have hlead:da x=if e=0 then fx x else fl x1:=by unfold da;rw[hapE,hx1]
 have hleadM:eH x=if e=0 then kH (fx x) else []:=by unfold eH;rw[hapE]
 rw[hlead,hleadM] at hE hB
 by_cases he:e=0
 rotate_left
 ·rw[if_neg he,if_neg he] at hE hB
  refine ez ?_
  focus (refine qq ?_;refine qs ?_;refine qp ?_;refine qd ?_;refine qz ?_;refine qT ?_;refine qs ?_;refine qp ?_;(refine qe (fF (f:=72) (mP g x1 m1) (fun _:Unit=>mP g (fl x1) (dU m1)) Ds (fun w1 hS1 hS2=>fX w1 g x1 m1 hS2) O O) ?_;rintro _ _ ⟨_,rfl,_,rfl⟩;dsimp only[List.cons_append,List.nil_append]);refine qz ?_)
  have hfin:=fun(w':World)=>bR (w:=w) (M:=ar (mP g x m)) (g:=g) (x2:=(fl x1)) (m2:=(dU m1)) (Z:=zN) (D:=D) (ms:=m.S.map Prod.fst++[]) (ib:=m.i) ⟨by rw[hm1];simp[dU,vT],by rw[hm1];rfl,⟨O,O⟩,fun w2 h2=>⟨(hM1 w2 h2.1).lg.like O O O O O O O O,(hM1 w2 h2.1).ms⟩⟩ (w':=w')
  first
  |exact hE _ _ fun w' hS=>hfin w' (ae w' hS)
  |exact hB _ _ _ _ O fun w' hS=>hfin w' (ae w' hS)
 subst he
 rw[if_pos O,if_pos O] at hE hB
 have hao:=xD hap
 have hn1x:m.p.n≤900:=by rw[← hw1.ln];exact hes
 obtain⟨xA,hxA⟩: ∃ y,y=fA x1 bb r:=⟨_,O⟩
 obtain⟨mA,hmA⟩: ∃ y,y=dw m1 A12 K c12 P12.1:=⟨_,O⟩
 obtain⟨Z0,hZ0⟩: ∃ Z,Z=zA (row 59 3 A12 K c12 (ab aN P12.1)) (dq 5 (P12.1.map cR)):=⟨_,O⟩
 have hldx:fx x=dI xA:=by unfold fx;rw[hapE,hxA,hx1];rfl
 have hMA: ∀ w',K2 D Z0 w'→McR w' xA mA:=fun w' h'=>by
  have h2:=h'.2
  rw[hZ0] at h2
  rw[hxA,hmA]
  refine⟨jX (iY h2) (gZ h2) (hM1 w' h'.1).lg.rc P12.2.1 (by show P12.1.length=K;rw[← List.length_map (f:=bA),P12.2.1];exact hK) (hM1 w' h'.1).lg.hcn (by show K≤1000;rw[← hK];have:=hao.1;omega) (hM1 w' h'.1).lg.hcm (fun y hy=>?_),(hM1 w' h'.1).ms⟩
  rcases hao.2 y hy with hy|rfl
  ·exact hw1.ed y hy
  ·exact Nat.zero_le _
 have hLA:McL xA mA:=by rw[hxA,hmA];exact⟨hL1.hvn,hL1.hpn⟩
 have hcfA:C.right xA.cf=true:=by rw[hxA,hx1];exact hcf
 have hpA:xA.peers.length≤800:=by
  rw[hxA,hx1]
  show ((fj x.me).map _).length≤800
  rw[List.length_map];omega
 obtain⟨x2,hx2⟩: ∃ y,y=dI xA:=⟨_,O⟩
 have hu2:=hu2 (by rw[hapE])
 rw[hldx, ← hx2] at hu2 hE hB
 have hcv: ∀ w',St w (ar (mP g x m)) [row 59 3 A12 K c12 (ab aN P12.1),dq 5 (P12.1.map cR),pt b4 39 (aE bb A12 K c12),pt g 89 (aD xA mA),row 3 1 m1.p.vA m1.p.vn m1.p.vc (x1.votes.map zv),row 112 3 m1.p.pA m1.p.pn m1.p.pc (ab bp x1.peers),row 65 12 m1.sA m1.S.length m1.sc (ab bK m1.S)] w'→St w (ar (mP g x m)) [Z0,pt g 89 (aD xA mA),row 3 1 mA.p.vA mA.p.vn mA.p.vc (xA.votes.map zv),row 112 3 mA.p.pA mA.p.pn mA.p.pc (ab bp xA.peers),row 65 12 mA.sA mA.S.length mA.sc (ab bK mA.S)] w':=fun w' hS=>by
  have h9:=fT (ae (H':=[row 59 3 A12 K c12 (ab aN P12.1),dq 5 (P12.1.map cR),pt g 89 (aD xA mA),row 3 1 m1.p.vA m1.p.vn m1.p.vc (x1.votes.map zv),row 112 3 m1.p.pA m1.p.pn m1.p.pc (ab bp x1.peers),row 65 12 m1.sA m1.S.length m1.sc (ab bK m1.S)]) w' hS)
  rw[hZ0]
  rw[hxA,hmA] at h9 ⊢
  exact h9
 have hcm: ∀ (w1:World),St w1 (ar (mP g xA mA)) (mP g xA mA) w1→Kd (K2 D Z0) (mP g xA mA) w1→Gives Tryz.prog 56 [.pointer (some ⟨g,0,none⟩)] (mP g xA mA) w1 (X:=Mm×Asn) (fun _=> .tuple #[]) (fun y=>y.1.S.map Prod.fst=mA.S.map Prod.fst++[]∧y.1.i=mA.i∧McL x2 y.1∧ ∀ w',K2 (K2 D Z0) y.2 w'→McR w' x2 y.1) (fun y=>mP g x2 y.1++[y.2]):=fun w1 hS1 hk=>by
  have h9:=jn w1 g xA mA hS1 (K2 D Z0) hk hMA hLA (dG hcfA _) hpA
  unfold Mth at h9
  rw[← hx2] at h9
  exact h9
 focus (refine qq ?_;refine qs ?_;refine qp ?_;refine qf ?_;refine qz ?_;refine qF ?_;refine qx ?_;refine qs ?_;refine qp ?_;refine qt (ai (ds:=aE bb A12 K c12) O O O O O) ?_;refine qt (ac O) ?_;refine qp ?_;refine qp ?_;(refine qw (gJ (gb:=g) (t:=89) (cs:=aD x1 m1) (ds:=aE bb A12 K c12) (cs':=aD xA mA) O O O O (bD _ _ _ _) (by rw[hxA,hmA];rfl) (by show 3+3≤16;omega)) ?_;rintro _ _ rfl);refine qn ?_;refine qp ?_;(refine qe (Ef.pre hcv (cq (f:=56) (D:=D) (Z:=Z0) (mP g xA mA) (fun z:Mm×Asn=>mP g x2 z.1) hD FJ (fun w1 _ hk hS1=>hcm w1 hS1 hk) O O)) ?_;rintro _ _ ⟨⟨m2,C2⟩,Z1,rfl,⟨hm2S,hm2i,hl2,hm2R⟩,hold0,hnew0,rfl⟩;dsimp only[List.cons_append,List.nil_append] at hm2S hm2i hl2 hm2R ⊢);refine qz ?_;refine qr ?_;refine qp ?_)
 have hm2S:m2.S.map Prod.fst=m.S.map Prod.fst:=by rw[hm2S,List.append_nil,hmA,hm1];rfl
 have hm2i:m2.i=m.i:=by rw[hm2i,hmA,hm1];rfl
 have hSm2:m2.S.length≤800:=by
  have:=congrArg List.length hm2S
  rw[List.length_map,List.length_map] at this
  omega
 have hpn2:m2.p.pn≤900:=by
  have h7:=jZ xA
  rw[← hx2,hl2.hpn] at h7
  omega
 have hcf2:C.right x2.cf=true:=by rw[hx2,rY];exact hcfA
 have hM2: ∀ w',K2 D Z1 w'→McR w' x2 m2:=fun w' h'=>hm2R w' (hnew0 w' h')
 focus ((refine qe (cq (f:=41) (D:=D) (Z:=Z1) (mP g x2 m2) (fun z:(List (Ms×Mp)×Option Addr×Nat)×Asn=>mP g x2 (be m2 z.1)) hD Gr (fun w1 _ hk hS1=>oU w1 g x2 m2 hS1 (K2 D Z1) hk hM2 hl2 hu2 hpn2 (dG hcf2 _) hSm2) O O) ?_;rintro _ _ ⟨⟨⟨N,AN,cN⟩,ZN⟩,Z2,rfl,⟨hI1,hI2⟩,hold2,hnew2,rfl⟩;dsimp only[List.cons_append,List.nil_append] at hI1 hI2 ⊢);refine qz ?_)
 have hfin:=fun(w':World)=>bR (w:=w) (M:=ar (mP g x m)) (g:=g) (x2:=x2) (m2:=(be m2 (N,AN,cN))) (Z:=Z2) (D:=D) (ms:=m.S.map Prod.fst++kH x2) (ib:=m.i) ⟨by show (m2.S++N).map Prod.fst=_;rw[List.map_append,hm2S,hI1],hm2i,⟨hl2.hvn,hl2.hpn⟩,fun w2 h2=>⟨(hM2 w2 (hold2 w2 h2)).lg,fun s hs=>by
   rcases List.mem_append.1 hs with hs|hs
   ·exact(hM2 w2 (hold2 w2 h2)).ms s hs
   ·exact hI2 w2 (hnew2 w2 h2) s hs⟩⟩ (w':=w')
 first
 |exact hE _ _ fun w' hS=>hfin w' (ae w' hS)
 |exact hB _ _ _ _ O fun w' hS=>hfin w' (ae w' hS)
theorem m8 (w:World) (g:Nat) (x:Rs) (m:Mm) (hS0:St w (ar (mP g x m)) (mP g x m) w) (D:Kw) (hD:Kd D (mP g x m) w) (h: ∀ w',D w'→McR w' x m) (hl:McL x m) (htm:x.term<4611686018427387904) (hcf:C.right x.cf=true) (hes:x.es.length≤900) (hlt:(lastP x).1≤18446744073709551614) (hSm:m.S.length≤800) (hu2:(nX (bf x)).1=0→RsU (fx (bf x))) (hmj:C.dD (aJ x) [x.me]=true):
  Mth g x (da (bf x)) m (eH (bf x)) m.i D 112 [] w:=by
 unfold Mth
 refine bO Tryz.func112 O Tryz.ntmps112 Tryz.results112 (by simp) hS0 (fun B hE hB=>?_)
 focus (refine qs ?_;(refine qe (fo (v:= .pointer (some ⟨g,0,none⟩)) O O) ?_;rintro _ _ ⟨b1,rfl,rfl⟩);refine qn ?_;refine qt (ah O O O O) ?_;refine qt (ac O) ?_;refine qp ?_;refine qp ?_;refine qt (ah O O O O) ?_;refine qt (aI O O (by unfold aH;omega)) ?_;refine qt (ac O) ?_;refine qp ?_;refine qp ?_;(refine qw (aw (cs:=aD x m) (cs':=aD {x with term:=x.term+1} m) O O O O O O (by show _<16;omega)) ?_;rintro _ _ rfl);refine qz ?_;refine qq ?_)
 refine eo (X:=Nat) (fun bl=>[(1,.pointer (some ⟨b1,0,none⟩))]) (fun bl=>pt b1 87 [.pointer (some ⟨g,0,none⟩)]::mP g (bf x) (aL m bl)) (fun _=>True) (fun J hJ=>?_) (fun bl _=>?_)
 ·skip
  refine fG ([pt b1 87 [.pointer (some ⟨g,0,none⟩)],tX g (.int .i64 x.me)]) ((fun w1 hS1=>eR (ae (H':=[pt g 89 (aD {x with term:=x.term+1} m),pt b1 87 [.pointer (some ⟨g,0,none⟩)]]) w1 hS1) O)) (by kernel_rfl) O (by kernel_rfl) (by kernel_rfl:_=31) ?_
  refine dl 0 ?_
  refine dl 1 ?_
  refine dl 2 ?_
  refine dl 3 ?_
  refine dl 4 ?_
  refine dt 5 O (ac O) ?_
  refine dp 6 ?_
  refine dp 7 ?_
  refine dt 8 O (cT O O O (fun w1 hS1=>hS1.at_ (A:=tX g (.int .i64 x.me)) (by simp))) ?_
  refine dl 9 ?_
  refine dt 10 O (ac O) ?_
  refine dp 11 ?_
  refine dp 12 ?_
  refine dt 13 O (cT O O O (fun w1 hS1=>hS1.at_ (A:=tX g (.int .i64 x.me)) (by simp))) ?_
  refine dt 15 O (ac O) ?_
  refine dp 16 ?_
  refine dp 17 ?_
  refine fb 14 18 (by decide) O O (d7 (m:=1) (vs:=[zv x.me]) O O O O O O O (by simp[zv,Value.oneCell']) (by decide)) (aw (cs:=aD {x with term:=x.term+1} m) (cs':=aD {x with term:=x.term+1,role:=3} m) O O O O O O (by show _<16;omega)) ?_ ?_ O O O O (by kernel_rfl)
  ·rintro _ _ ⟨bl,rfl,rfl⟩
   first|refine aY (fun w1 hS1=>eR (ae (H':=[pt g 89 (aD {x with term:=x.term+1} m),pt b1 87 [.pointer (some ⟨g,0,none⟩)]]) w1 hS1) O) ?_|refine aY (fun w1 hS1=>eR (ae (H':=[pt g 89 (aD {x with term:=x.term+1,role:=3} m),pt b1 87 [.pointer (some ⟨g,0,none⟩)]]) w1 hS1) O) ?_|refine aY (fun w1 hS1=>eR (ae (H':=[pt g 89 (aD {x with term:=x.term+1,role:=3,vote:=x.me} m),pt b1 87 [.pointer (some ⟨g,0,none⟩)]]) w1 hS1) O) ?_
   refine dE 18 O (aw (cs:=aD {x with term:=x.term+1} m) (cs':=aD {x with term:=x.term+1,role:=3} m) O O O O O O (by show _<16;omega)) ?_
   rintro _ _ rfl
   refine aY (fun w1 hS1=>eR (ae (H':=[pt g 89 (aD {x with term:=x.term+1,role:=3} m),pt b1 87 [.pointer (some ⟨g,0,none⟩)]]) w1 hS1) O) ?_
   refine dt 19 O (ac O) ?_
   refine dp 20 ?_
   refine dp 21 ?_
   refine dE 22 O (aw (cs:=aD {x with term:=x.term+1,role:=3} m) (cs':=aD {x with term:=x.term+1,role:=3,vote:=x.me} m) O O O O O O (by show _<16;omega)) ?_
   rintro _ _ rfl
   refine aY (fun w1 hS1=>eR (ae (H':=[pt g 89 (aD {x with term:=x.term+1,role:=3,vote:=x.me} m),pt b1 87 [.pointer (some ⟨g,0,none⟩)]]) w1 hS1) O) ?_
   refine dt 23 O (ac O) ?_
   refine dp 24 ?_
   refine dp 25 ?_
   refine dE 26 O (aw (cs:=aD {x with term:=x.term+1,role:=3,vote:=x.me} m) (cs':=aD {x with term:=x.term+1,role:=3,vote:=x.me} (aL m bl)) O O O O O O (by show _<16;omega)) ?_
   rintro _ _ rfl
   refine aY (fun w1 hS1=>eR (ae (H':=[pt g 89 (aD {x with term:=x.term+1,role:=3,vote:=x.me} (aL m bl)),pt b1 87 [.pointer (some ⟨g,0,none⟩)]]) w1 hS1) O) ?_
   refine dt 27 O (ac O) ?_
   refine dp 28 ?_
   refine dp 29 ?_
   refine dE 30 O (aw (cs:=aD {x with term:=x.term+1,role:=3,vote:=x.me} (aL m bl)) (cs':=aD (bf x) (aL m bl)) O O O O O O (by show _<16;omega)) ?_
   rintro _ _ rfl
   refine aY (fun w1 hS1=>eR (ae (H':=[pt g 89 (aD (bf x) (aL m bl)),pt b1 87 [.pointer (some ⟨g,0,none⟩)]]) w1 hS1) O) ?_
   refine dn ?_
   exact hJ bl _ _ trivial (Sub.cons O Sub.nil) (fun w1 hS1=>eP (ae (H':=[pt bl 3 [zv x.me],pt g 89 (aD (bf x) (aL m bl)),row 112 3 m.p.pA m.p.pn m.p.pc (ab bp x.peers),row 65 12 m.sA m.S.length m.sc (ab bK m.S),pt b1 87 [.pointer (some ⟨g,0,none⟩)]]) w1 hS1))
  ·rintro _ _ rfl
   refine aY (fun w1 hS1=>eR (ae (H':=[pt g 89 (aD {x with term:=x.term+1,role:=3} m),pt b1 87 [.pointer (some ⟨g,0,none⟩)]]) w1 hS1) O) ?_
   refine dt 19 O (ac O) ?_
   refine dp 20 ?_
   refine dp 21 ?_
   refine fb 14 22 (by decide) O O (d7 (m:=1) (vs:=[zv x.me]) O O O O O O O (by simp[zv,Value.oneCell']) (by decide)) (aw (cs:=aD {x with term:=x.term+1,role:=3} m) (cs':=aD {x with term:=x.term+1,role:=3,vote:=x.me} m) O O O O O O (by show _<16;omega)) ?_ ?_ O O O O (by kernel_rfl)
   ·rintro _ _ ⟨bl,rfl,rfl⟩
    first|refine aY (fun w1 hS1=>eR (ae (H':=[pt g 89 (aD {x with term:=x.term+1} m),pt b1 87 [.pointer (some ⟨g,0,none⟩)]]) w1 hS1) O) ?_|refine aY (fun w1 hS1=>eR (ae (H':=[pt g 89 (aD {x with term:=x.term+1,role:=3} m),pt b1 87 [.pointer (some ⟨g,0,none⟩)]]) w1 hS1) O) ?_|refine aY (fun w1 hS1=>eR (ae (H':=[pt g 89 (aD {x with term:=x.term+1,role:=3,vote:=x.me} m),pt b1 87 [.pointer (some ⟨g,0,none⟩)]]) w1 hS1) O) ?_
    refine dE 22 O (aw (cs:=aD {x with term:=x.term+1,role:=3} m) (cs':=aD {x with term:=x.term+1,role:=3,vote:=x.me} m) O O O O O O (by show _<16;omega)) ?_
    rintro _ _ rfl
    refine aY (fun w1 hS1=>eR (ae (H':=[pt g 89 (aD {x with term:=x.term+1,role:=3,vote:=x.me} m),pt b1 87 [.pointer (some ⟨g,0,none⟩)]]) w1 hS1) O) ?_
    refine dt 23 O (ac O) ?_
    refine dp 24 ?_
    refine dp 25 ?_
    refine dE 26 O (aw (cs:=aD {x with term:=x.term+1,role:=3,vote:=x.me} m) (cs':=aD {x with term:=x.term+1,role:=3,vote:=x.me} (aL m bl)) O O O O O O (by show _<16;omega)) ?_
    rintro _ _ rfl
    refine aY (fun w1 hS1=>eR (ae (H':=[pt g 89 (aD {x with term:=x.term+1,role:=3,vote:=x.me} (aL m bl)),pt b1 87 [.pointer (some ⟨g,0,none⟩)]]) w1 hS1) O) ?_
    refine dt 27 O (ac O) ?_
    refine dp 28 ?_
    refine dp 29 ?_
    refine dE 30 O (aw (cs:=aD {x with term:=x.term+1,role:=3,vote:=x.me} (aL m bl)) (cs':=aD (bf x) (aL m bl)) O O O O O O (by show _<16;omega)) ?_
    rintro _ _ rfl
    refine aY (fun w1 hS1=>eR (ae (H':=[pt g 89 (aD (bf x) (aL m bl)),pt b1 87 [.pointer (some ⟨g,0,none⟩)]]) w1 hS1) O) ?_
    refine dn ?_
    exact hJ bl _ _ trivial (Sub.cons O Sub.nil) (fun w1 hS1=>eP (ae (H':=[pt bl 3 [zv x.me],pt g 89 (aD (bf x) (aL m bl)),row 112 3 m.p.pA m.p.pn m.p.pc (ab bp x.peers),row 65 12 m.sA m.S.length m.sc (ab bK m.S),pt b1 87 [.pointer (some ⟨g,0,none⟩)]]) w1 hS1))
   ·rintro _ _ rfl
    refine aY (fun w1 hS1=>eR (ae (H':=[pt g 89 (aD {x with term:=x.term+1,role:=3,vote:=x.me} m),pt b1 87 [.pointer (some ⟨g,0,none⟩)]]) w1 hS1) O) ?_
    refine dE 14 O (d7 (m:=1) (vs:=[zv x.me]) O O O O O O O (by simp[zv,Value.oneCell']) (by decide)) ?_
    rintro _ _ ⟨bl,rfl,rfl⟩
    first|refine aY (fun w1 hS1=>eR (ae (H':=[pt g 89 (aD {x with term:=x.term+1} m),pt b1 87 [.pointer (some ⟨g,0,none⟩)]]) w1 hS1) O) ?_|refine aY (fun w1 hS1=>eR (ae (H':=[pt g 89 (aD {x with term:=x.term+1,role:=3} m),pt b1 87 [.pointer (some ⟨g,0,none⟩)]]) w1 hS1) O) ?_|refine aY (fun w1 hS1=>eR (ae (H':=[pt g 89 (aD {x with term:=x.term+1,role:=3,vote:=x.me} m),pt b1 87 [.pointer (some ⟨g,0,none⟩)]]) w1 hS1) O) ?_
    refine dt 23 O (ac O) ?_
    refine dp 24 ?_
    refine dp 25 ?_
    refine dE 26 O (aw (cs:=aD {x with term:=x.term+1,role:=3,vote:=x.me} m) (cs':=aD {x with term:=x.term+1,role:=3,vote:=x.me} (aL m bl)) O O O O O O (by show _<16;omega)) ?_
    rintro _ _ rfl
    refine aY (fun w1 hS1=>eR (ae (H':=[pt g 89 (aD {x with term:=x.term+1,role:=3,vote:=x.me} (aL m bl)),pt b1 87 [.pointer (some ⟨g,0,none⟩)]]) w1 hS1) O) ?_
    refine dt 27 O (ac O) ?_
    refine dp 28 ?_
    refine dp 29 ?_
    refine dE 30 O (aw (cs:=aD {x with term:=x.term+1,role:=3,vote:=x.me} (aL m bl)) (cs':=aD (bf x) (aL m bl)) O O O O O O (by show _<16;omega)) ?_
    rintro _ _ rfl
    refine aY (fun w1 hS1=>eR (ae (H':=[pt g 89 (aD (bf x) (aL m bl)),pt b1 87 [.pointer (some ⟨g,0,none⟩)]]) w1 hS1) O) ?_
    refine dn ?_
    exact hJ bl _ _ trivial (Sub.cons O Sub.nil) (fun w1 hS1=>eP (ae (H':=[pt bl 3 [zv x.me],pt g 89 (aD (bf x) (aL m bl)),row 112 3 m.p.pA m.p.pn m.p.pc (ab bp x.peers),row 65 12 m.sA m.S.length m.sc (ab bK m.S),pt b1 87 [.pointer (some ⟨g,0,none⟩)]]) w1 hS1))
 have h5:(aJ x).length≤5:=dG hcf _
 have h1: ∀ w',D w'→McR w' (bf x) (aL m bl):=fun w' h'=>⟨(h w' h').lg.like O O O O O O O O,(h w' h').ms⟩
 focus (refine qq ?_;refine qq ?_)
 refine dS [pt b1 87 [.pointer (some ⟨g,0,none⟩)],pt g 89 (aD (bf x) (aL m bl))] 8 ?_
 refine dl 0 ?_
 refine dl 2 ?_
 refine dt 3 O (ac O) ?_
 refine dp 4 ?_
 refine dp 5 ?_
 refine dl 6 ?_
 refine dE 1 O (bB (f:=43) pk (fun w1 hS1=>du w1 g (bf x) (aL m bl) (bJ hS1 (by simp)) D (hD.call0 hS1) (fun w2 h2=>(h1 w2 h2).lg) (aJ x) O) O O (fun _=>O)) ?_
 rintro _ _ ⟨⟨⟨A3,K3,c3⟩,Z3⟩,rfl,hI3,rfl⟩
 refine nx ?_
 refine dE 7 O (aq (f:=111) sI (fun w1 hS1=>m6 w1 A3 (some ⟨bl,0,none⟩) (aJ x).length c3 1 1 (aJ x) [x.me] (hI3 w1 ⟨hD.at_ hS1,hS1.at_ (A:=Z3) (by simp)⟩) (ce (hS1.at_ (A:=row 3 1 (aL m bl).p.vA (aL m bl).p.vn (aL m bl).p.vc ((bf x).votes.map zv)) (by simp))) (by omega) (by omega) _ hmj) O O (fun _=>O)) ?_
 rintro _ _ ⟨_,rfl,_,rfl⟩
 refine nx ?_
 refine dn ?_
 skip
 have hcall: ∀ (w1:World),St w1 (ar (mP g (bf x) (aL m bl))) (mP g (bf x) (aL m bl)) w1→Kd (K2 D zN) (mP g (bf x) (aL m bl)) w1→Gives Tryz.prog 165 ([.pointer (some ⟨g,0,none⟩)]) (mP g (bf x) (aL m bl)) w1 (X:=Mm×Asn) (fun _=> .tuple #[]) (fun y=>y.1.S.map Prod.fst=(aL m bl).S.map Prod.fst++eH (bf x)∧y.1.i=m.i∧McL (da (bf x)) y.1∧ ∀ w',K2 (K2 D zN) y.2 w'→McR w' (da (bf x)) y.1) (fun y=>mP g (da (bf x)) y.1++[y.2]):=fun w1 hS1 hk=>by
  have h9:=oY w1 g (bf x) (aL m bl) hS1 (K2 D zN) hk (fun w2 h2=>h1 w2 h2.1) ⟨O,hl.hpn⟩ hcf (by show x.term+1≤_;omega) hes hlt hu2 hSm
  unfold Mth at h9
  exact h9
 refine ez ?_
 focus (refine qT ?_;refine qs ?_;refine qt (ah O O O O) ?_;(refine qe (cq (f:=165) (D:=D) (Z:=zN) (mP g (bf x) (aL m bl)) (fun z:Mm×Asn=>mP g (da (bf x)) z.1) hD DJ (fun w1 _ hk hS1=>hcall w1 hS1 hk) O O) ?_;rintro _ _ ⟨⟨m2,C2⟩,Z1,rfl,⟨hm2S,hm2i,hl2,hm2R⟩,hold0,hnew0,rfl⟩;dsimp only[List.cons_append,List.nil_append] at hm2S hm2i hl2 hm2R ⊢);refine qz ?_)
 have hfin:=fun(w':World)=>bR (w:=w) (M:=ar (mP g x m)) (g:=g) (x2:=(da (bf x))) (m2:=m2) (Z:=Z1) (D:=D) (ms:=m.S.map Prod.fst++eH (bf x)) (ib:=m.i) ⟨hm2S,hm2i,hl2,fun w2 h2=>hm2R w2 (hnew0 w2 h2)⟩ (w':=w')
 first
 |exact hE _ _ fun w' hS=>hfin w' (ae w' hS)
 |exact hB _ _ _ _ O fun w' hS=>hfin w' (ae w' hS)
theorem yc (w:World) (g:Nat) (x:Rs) (m:Mm) (hS0:St w (ar (mP g x m)) (mP g x m) w) (D:Kw) (hD:Kd D (mP g x m) w) (h: ∀ w',D w'→McR w' x m) (hl:McL x m) (htm:x.term<4611686018427387904) (hcf:C.right x.cf=true) (hes:x.es.length≤900) (hlt:(lastP x).1≤18446744073709551614) (hSm:m.S.length≤800) (hu2:(nX (bf (bF x))).1=0→RsU (fx (bf (bF x)))) (hmj:C.dD (aJ x) [x.me]=true):
  Mth g x (da (bf (bF x))) m (eH (bf (bF x))) m.i D 44 [] w:=by
 unfold Mth
 refine bO Tryz.func44 O Tryz.ntmps44 Tryz.results44 (by simp) hS0 (fun B hE hB=>?_)
 focus (refine qs ?_;(refine qe (fo (v:= .pointer (some ⟨g,0,none⟩)) O O) ?_;rintro _ _ ⟨b1,rfl,rfl⟩);refine qz ?_;refine qq ?_)
 refine eo (X:=Nat) (fun bl=>[(1,.pointer (some ⟨b1,0,none⟩))]) (fun bl=>pt b1 87 [.pointer (some ⟨g,0,none⟩)]::mP g (bF x) (aL m bl)) (fun _=>True) (fun J hJ=>?_) (fun bl _=>?_)
 ·skip
  refine fG ([pt b1 87 [.pointer (some ⟨g,0,none⟩)],tX g (.int .i64 x.me)]) ((fun w1 hS1=>eR (ae (H':=[pt g 89 (aD x m),pt b1 87 [.pointer (some ⟨g,0,none⟩)]]) w1 hS1) O)) (by kernel_rfl) O (by kernel_rfl) (by kernel_rfl:_=21) ?_
  refine dl 0 ?_
  refine dl 1 ?_
  refine dl 2 ?_
  refine dl 3 ?_
  refine dt 4 O (ac O) ?_
  refine dp 5 ?_
  refine dp 6 ?_
  refine dt 7 O (cT O O O (fun w1 hS1=>hS1.at_ (A:=tX g (.int .i64 x.me)) (by simp))) ?_
  refine dt 9 O (ac O) ?_
  refine dp 10 ?_
  refine dp 11 ?_
  refine fb 8 12 (by decide) O O (d7 (m:=1) (vs:=[zv x.me]) O O O O O O O (by simp[zv,Value.oneCell']) (by decide)) (aw (cs:=aD x m) (cs':=aD {x with role:=2} m) O O O O O O (by show _<16;omega)) ?_ ?_ O O O O (by kernel_rfl)
  ·rintro _ _ ⟨bl,rfl,rfl⟩
   first|refine aY (fun w1 hS1=>eR (ae (H':=[pt g 89 (aD x m),pt b1 87 [.pointer (some ⟨g,0,none⟩)]]) w1 hS1) O) ?_|refine aY (fun w1 hS1=>eR (ae (H':=[pt g 89 (aD {x with role:=2} m),pt b1 87 [.pointer (some ⟨g,0,none⟩)]]) w1 hS1) O) ?_
   refine dE 12 O (aw (cs:=aD x m) (cs':=aD {x with role:=2} m) O O O O O O (by show _<16;omega)) ?_
   rintro _ _ rfl
   refine aY (fun w1 hS1=>eR (ae (H':=[pt g 89 (aD {x with role:=2} m),pt b1 87 [.pointer (some ⟨g,0,none⟩)]]) w1 hS1) O) ?_
   refine dt 13 O (ac O) ?_
   refine dp 14 ?_
   refine dp 15 ?_
   refine dE 16 O (aw (cs:=aD {x with role:=2} m) (cs':=aD {x with role:=2} (aL m bl)) O O O O O O (by show _<16;omega)) ?_
   rintro _ _ rfl
   refine aY (fun w1 hS1=>eR (ae (H':=[pt g 89 (aD {x with role:=2} (aL m bl)),pt b1 87 [.pointer (some ⟨g,0,none⟩)]]) w1 hS1) O) ?_
   refine dt 17 O (ac O) ?_
   refine dp 18 ?_
   refine dp 19 ?_
   refine dE 20 O (aw (cs:=aD {x with role:=2} (aL m bl)) (cs':=aD (bF x) (aL m bl)) O O O O O O (by show _<16;omega)) ?_
   rintro _ _ rfl
   refine aY (fun w1 hS1=>eR (ae (H':=[pt g 89 (aD (bF x) (aL m bl)),pt b1 87 [.pointer (some ⟨g,0,none⟩)]]) w1 hS1) O) ?_
   refine dn ?_
   exact hJ bl _ _ trivial (Sub.cons O Sub.nil) (fun w1 hS1=>eP (ae (H':=[pt bl 3 [zv x.me],pt g 89 (aD (bF x) (aL m bl)),row 112 3 m.p.pA m.p.pn m.p.pc (ab bp x.peers),row 65 12 m.sA m.S.length m.sc (ab bK m.S),pt b1 87 [.pointer (some ⟨g,0,none⟩)]]) w1 hS1))
  ·rintro _ _ rfl
   refine aY (fun w1 hS1=>eR (ae (H':=[pt g 89 (aD {x with role:=2} m),pt b1 87 [.pointer (some ⟨g,0,none⟩)]]) w1 hS1) O) ?_
   refine dE 8 O (d7 (m:=1) (vs:=[zv x.me]) O O O O O O O (by simp[zv,Value.oneCell']) (by decide)) ?_
   rintro _ _ ⟨bl,rfl,rfl⟩
   first|refine aY (fun w1 hS1=>eR (ae (H':=[pt g 89 (aD x m),pt b1 87 [.pointer (some ⟨g,0,none⟩)]]) w1 hS1) O) ?_|refine aY (fun w1 hS1=>eR (ae (H':=[pt g 89 (aD {x with role:=2} m),pt b1 87 [.pointer (some ⟨g,0,none⟩)]]) w1 hS1) O) ?_
   refine dt 13 O (ac O) ?_
   refine dp 14 ?_
   refine dp 15 ?_
   refine dE 16 O (aw (cs:=aD {x with role:=2} m) (cs':=aD {x with role:=2} (aL m bl)) O O O O O O (by show _<16;omega)) ?_
   rintro _ _ rfl
   refine aY (fun w1 hS1=>eR (ae (H':=[pt g 89 (aD {x with role:=2} (aL m bl)),pt b1 87 [.pointer (some ⟨g,0,none⟩)]]) w1 hS1) O) ?_
   refine dt 17 O (ac O) ?_
   refine dp 18 ?_
   refine dp 19 ?_
   refine dE 20 O (aw (cs:=aD {x with role:=2} (aL m bl)) (cs':=aD (bF x) (aL m bl)) O O O O O O (by show _<16;omega)) ?_
   rintro _ _ rfl
   refine aY (fun w1 hS1=>eR (ae (H':=[pt g 89 (aD (bF x) (aL m bl)),pt b1 87 [.pointer (some ⟨g,0,none⟩)]]) w1 hS1) O) ?_
   refine dn ?_
   exact hJ bl _ _ trivial (Sub.cons O Sub.nil) (fun w1 hS1=>eP (ae (H':=[pt bl 3 [zv x.me],pt g 89 (aD (bF x) (aL m bl)),row 112 3 m.p.pA m.p.pn m.p.pc (ab bp x.peers),row 65 12 m.sA m.S.length m.sc (ab bK m.S),pt b1 87 [.pointer (some ⟨g,0,none⟩)]]) w1 hS1))
 have h5:(aJ x).length≤5:=dG hcf _
 have h1: ∀ w',D w'→McR w' (bF x) (aL m bl):=fun w' h'=>⟨(h w' h').lg.like O O O O O O O O,(h w' h').ms⟩
 focus (refine qq ?_;refine qq ?_)
 refine dS [pt b1 87 [.pointer (some ⟨g,0,none⟩)],pt g 89 (aD (bF x) (aL m bl))] 8 ?_
 refine dl 0 ?_
 refine dl 2 ?_
 refine dt 3 O (ac O) ?_
 refine dp 4 ?_
 refine dp 5 ?_
 refine dl 6 ?_
 refine dE 1 O (bB (f:=43) pk (fun w1 hS1=>du w1 g (bF x) (aL m bl) (bJ hS1 (by simp)) D (hD.call0 hS1) (fun w2 h2=>(h1 w2 h2).lg) (aJ x) O) O O (fun _=>O)) ?_
 rintro _ _ ⟨⟨⟨A3,K3,c3⟩,Z3⟩,rfl,hI3,rfl⟩
 refine nx ?_
 refine dE 7 O (aq (f:=111) sI (fun w1 hS1=>m6 w1 A3 (some ⟨bl,0,none⟩) (aJ x).length c3 1 1 (aJ x) [x.me] (hI3 w1 ⟨hD.at_ hS1,hS1.at_ (A:=Z3) (by simp)⟩) (ce (hS1.at_ (A:=row 3 1 (aL m bl).p.vA (aL m bl).p.vn (aL m bl).p.vc ((bF x).votes.map zv)) (by simp))) (by omega) (by omega) _ hmj) O O (fun _=>O)) ?_
 rintro _ _ ⟨_,rfl,_,rfl⟩
 refine nx ?_
 refine dn ?_
 skip
 have hcall: ∀ (w1:World),St w1 (ar (mP g (bF x) (aL m bl))) (mP g (bF x) (aL m bl)) w1→Kd (K2 D zN) (mP g (bF x) (aL m bl)) w1→Gives Tryz.prog 112 ([.pointer (some ⟨g,0,none⟩)]) (mP g (bF x) (aL m bl)) w1 (X:=Mm×Asn) (fun _=> .tuple #[]) (fun y=>y.1.S.map Prod.fst=(aL m bl).S.map Prod.fst++eH (bf (bF x))∧y.1.i=m.i∧McL (da (bf (bF x))) y.1∧ ∀ w',K2 (K2 D zN) y.2 w'→McR w' (da (bf (bF x))) y.1) (fun y=>mP g (da (bf (bF x))) y.1++[y.2]):=fun w1 hS1 hk=>by
  have h9:=m8 w1 g (bF x) (aL m bl) hS1 (K2 D zN) hk (fun w2 h2=>h1 w2 h2.1) ⟨O,hl.hpn⟩ htm hcf hes hlt hSm hu2 hmj
  unfold Mth at h9
  exact h9
 refine ez ?_
 focus (refine qT ?_;refine qs ?_;refine qt (ah O O O O) ?_;(refine qe (cq (f:=112) (D:=D) (Z:=zN) (mP g (bF x) (aL m bl)) (fun z:Mm×Asn=>mP g (da (bf (bF x))) z.1) hD zw (fun w1 _ hk hS1=>hcall w1 hS1 hk) O O) ?_;rintro _ _ ⟨⟨m2,C2⟩,Z1,rfl,⟨hm2S,hm2i,hl2,hm2R⟩,hold0,hnew0,rfl⟩;dsimp only[List.cons_append,List.nil_append] at hm2S hm2i hl2 hm2R ⊢);refine qz ?_)
 have hfin:=fun(w':World)=>bR (w:=w) (M:=ar (mP g x m)) (g:=g) (x2:=(da (bf (bF x)))) (m2:=m2) (Z:=Z1) (D:=D) (ms:=m.S.map Prod.fst++eH (bf (bF x))) (ib:=m.i) ⟨hm2S,hm2i,hl2,fun w2 h2=>hm2R w2 (hnew0 w2 h2)⟩ (w':=w')
 first
 |exact hE _ _ fun w' hS=>hfin w' (ae w' hS)
 |exact hB _ _ _ _ O fun w' hS=>hfin w' (ae w' hS)
theorem tD (w:World) (g:Nat) (x:Rs) (m:Mm) (hS0:St w (ar (mP g x m)) (mP g x m) w) (D:Kw) (hD:Kd D (mP g x m) w) (h: ∀ w',D w'→McR w' x m) (hl:McL x m) (bl:Nat) (lim:Int) (hbl: ∀ w':World,D w'→w'.cell? ⟨bl,0,none⟩=some (.int .i64 lim)) (hc0:0≤x.clock) (hc1:x.clock≤16) (hr:x.role=4) (hlm:2≤x.clock+1) (huA:RsU x) (hpn:m.p.pn≤900) (hcf:C.right x.cf=true) (hSm:m.S.length≤800):Mth g x {x with clock:=0} m (kH {x with clock:=0}) m.i D 40 [.pointer (some ⟨bl,0,none⟩)] w:=by
 obtain⟨y1,hy1⟩: ∃ y,y=({x with clock:=x.clock+1}:Rs):=⟨_,O⟩
 have f1y1:y1.role=x.role:=by rw[hy1]
 have f2y1:y1.limit=x.limit:=by rw[hy1]
 have f3y1:y1.clock=x.clock+1:=by rw[hy1]
 have f4y1:y1.term=x.term:=by rw[hy1]
 have f5y1:y1.me=x.me:=by rw[hy1]
 have f6y1:aJ y1=aJ x:=by rw[hy1];rfl
 have f7y1:y1.votes=x.votes:=by rw[hy1]
 have f8y1:y1.peers=x.peers:=by rw[hy1]
 have hy1M: ∀ w',D w'→McR w' y1 m:=fun w' h'=>by rw[hy1];exact⟨(h w' h').lg.like O O O O O O O O,(h w' h').ms⟩
 have hy1L:McL y1 m:=by rw[hy1];exact⟨hl.hvn,hl.hpn⟩
 have hy1P: ∀ (L:List Asn) w',St w (ar (mP g x m)) (pt g 89 (aD y1 m)::row 3 1 m.p.vA m.p.vn m.p.vc (x.votes.map zv)::row 112 3 m.p.pA m.p.pn m.p.pc (ab bp x.peers)::row 65 12 m.sA m.S.length m.sc (ab bK m.S)::L) w'→St w (ar (mP g x m)) (mP g y1 m++L) w':=fun L w' hS=>by
  show St _ _ (pt g 89 (aD y1 m)::row 3 1 m.p.vA m.p.vn m.p.vc (y1.votes.map zv)::row 112 3 m.p.pA m.p.pn m.p.pc (ab bp y1.peers)::row 65 12 m.sA m.S.length m.sc (ab bK m.S)::L) w'
  rw[f7y1,f8y1]
  exact hS
 obtain⟨y2,hy2⟩: ∃ y,y=({x with clock:=0}:Rs):=⟨_,O⟩
 have f1y2:y2.role=x.role:=by rw[hy2]
 have f2y2:y2.limit=x.limit:=by rw[hy2]
 have f3y2:y2.clock=0:=by rw[hy2]
 have f4y2:y2.term=x.term:=by rw[hy2]
 have f5y2:y2.me=x.me:=by rw[hy2]
 have f6y2:aJ y2=aJ x:=by rw[hy2];rfl
 have f7y2:y2.votes=x.votes:=by rw[hy2]
 have f8y2:y2.peers=x.peers:=by rw[hy2]
 have hy2M: ∀ w',D w'→McR w' y2 m:=fun w' h'=>by rw[hy2];exact⟨(h w' h').lg.like O O O O O O O O,(h w' h').ms⟩
 have hy2L:McL y2 m:=by rw[hy2];exact⟨hl.hvn,hl.hpn⟩
 have hy2P: ∀ (L:List Asn) w',St w (ar (mP g x m)) (pt g 89 (aD y2 m)::row 3 1 m.p.vA m.p.vn m.p.vc (x.votes.map zv)::row 112 3 m.p.pA m.p.pn m.p.pc (ab bp x.peers)::row 65 12 m.sA m.S.length m.sc (ab bK m.S)::L) w'→St w (ar (mP g x m)) (mP g y2 m++L) w':=fun L w' hS=>by
  show St _ _ (pt g 89 (aD y2 m)::row 3 1 m.p.vA m.p.vn m.p.vc (y2.votes.map zv)::row 112 3 m.p.pA m.p.pn m.p.pc (ab bp y2.peers)::row 65 12 m.sA m.S.length m.sc (ab bK m.S)::L) w'
  rw[f7y2,f8y2]
  exact hS
 obtain⟨y3,hy3⟩: ∃ y,y=({x with clock:=0,limit:=lim}:Rs):=⟨_,O⟩
 have f1y3:y3.role=x.role:=by rw[hy3]
 have f2y3:y3.limit=lim:=by rw[hy3]
 have f3y3:y3.clock=0:=by rw[hy3]
 have f4y3:y3.term=x.term:=by rw[hy3]
 have f5y3:y3.me=x.me:=by rw[hy3]
 have f6y3:aJ y3=aJ x:=by rw[hy3];rfl
 have f7y3:y3.votes=x.votes:=by rw[hy3]
 have f8y3:y3.peers=x.peers:=by rw[hy3]
 have hy3M: ∀ w',D w'→McR w' y3 m:=fun w' h'=>by rw[hy3];exact⟨(h w' h').lg.like O O O O O O O O,(h w' h').ms⟩
 have hy3L:McL y3 m:=by rw[hy3];exact⟨hl.hvn,hl.hpn⟩
 have hy3P: ∀ (L:List Asn) w',St w (ar (mP g x m)) (pt g 89 (aD y3 m)::row 3 1 m.p.vA m.p.vn m.p.vc (x.votes.map zv)::row 112 3 m.p.pA m.p.pn m.p.pc (ab bp x.peers)::row 65 12 m.sA m.S.length m.sc (ab bK m.S)::L) w'→St w (ar (mP g x m)) (mP g y3 m++L) w':=fun L w' hS=>by
  show St _ _ (pt g 89 (aD y3 m)::row 3 1 m.p.vA m.p.vn m.p.vc (y3.votes.map zv)::row 112 3 m.p.pA m.p.pn m.p.pc (ab bp y3.peers)::row 65 12 m.sA m.S.length m.sc (ab bK m.S)::L) w'
  rw[f7y3,f8y3]
  exact hS
 rw[show ({x with clock:=0}:Rs)=y2 from hy2.symm]
 unfold Mth
 refine bO Tryz.func40 O Tryz.ntmps40 Tryz.results40 (by simp) hS0 (fun B hE hB=>?_)
 have hmem: ∀ w1,St w (ar (mP g x m)) [pt g 89 (aD y2 m),row 3 1 m.p.vA m.p.vn m.p.vc (x.votes.map zv),row 112 3 m.p.pA m.p.pn m.p.pc (ab bp x.peers),row 65 12 m.sA m.S.length m.sc (ab bK m.S)] w1→St w (ar (mP g x m)) (zN::mP g y2 m) w1:=fun w1 hS1=>by
  have e1:=hy2P [zN] w1 (ae (H':=[pt g 89 (aD y2 m),row 3 1 m.p.vA m.p.vn m.p.vc (x.votes.map zv),row 112 3 m.p.pA m.p.pn m.p.pc (ab bp x.peers),row 65 12 m.sA m.S.length m.sc (ab bK m.S),zN]) w1 (dN hS1))
  exact ae (H':=[zN,pt g 89 (aD y2 m),row 3 1 m.p.vA m.p.vn m.p.vc (y2.votes.map zv),row 112 3 m.p.pA m.p.pn m.p.pc (ab bp y2.peers),row 65 12 m.sA m.S.length m.sc (ab bK m.S)]) w1 (show St _ _ [pt g 89 (aD y2 m),row 3 1 m.p.vA m.p.vn m.p.vc (y2.votes.map zv),row 112 3 m.p.pA m.p.pn m.p.pc (ab bp y2.peers),row 65 12 m.sA m.S.length m.sc (ab bK m.S),zN] w1 from e1)
 have huY:RsU y2:=by rw[hy2];exact⟨huA.tm,huA.b1,huA.b2,huA.cm,huA.pe⟩
 have h5Y:(aJ y2).length≤5:=by rw[f6y2];exact dG hcf _
 repeat' (first|refine aa (ay O (by omega)) ?_ O O|refine bM O ?_ O O|refine ax ?_|refine aa (ac O) ?_ O O|refine aa (ah O O O O) ?_ O O|refine aa (ii O O O (by unfold aH;omega)) ?_ O O|refine au O ?_|refine al O O ?_|refine aC O O ?_|refine aG O ?_|refine aK ?_|(refine bh (aw (cs:=aD x m) (cs':=aD y1 m) O O O O O (by rw[hy1];rfl) (by show _<16;omega)) ?_ O;rintro _ _ rfl)|(refine bh (aw (cs:=aD y1 m) (cs':=aD y2 m) O O O O O (by rw[hy1,hy2];rfl) (by show _<16;omega)) ?_ O;rintro _ _ rfl)|(refine an (Ef.pre hmem (cq (f:=41) (D:=D) (Z:=zN) (mP g y2 m) (fun z:(List (Ms×Mp)×Option Addr×Nat)×Asn=>mP g y2 (be m z.1)) hD Gr (fun w1 _ hk hS1=>oU w1 g y2 m hS1 (K2 D zN) hk (fun w2 h2=>hy2M w2 h2.1) hy2L huY hpn h5Y hSm) O O)) ?_ O O;rintro _ _ ⟨⟨⟨N,AN,cN⟩,ZN⟩,Z2,rfl,⟨hI1,hI2⟩,hold2,hnew2,rfl⟩;dsimp only[List.cons_append,List.nil_append] at hI1 hI2 ⊢))
 have hfin:=fun(w':World)=>bR (w:=w) (M:=ar (mP g x m)) (g:=g) (x2:=y2) (m2:=(be m (N,AN,cN))) (Z:=Z2) (D:=D) (ms:=m.S.map Prod.fst++kH y2) (ib:=m.i) ⟨by show (m.S++N).map Prod.fst=_;rw[List.map_append,hI1],O,⟨hy2L.hvn,hy2L.hpn⟩,fun w2 h2=>⟨(hy2M w2 (hold2 w2 h2).1).lg,fun s hs=>by
   rcases List.mem_append.1 hs with hs|hs
   ·exact(hy2M w2 (hold2 w2 h2).1).ms s hs
   ·exact hI2 w2 (hnew2 w2 h2) s hs⟩⟩ (w':=w')
 first
 |exact hE _ _ fun w' hS=>hfin w' (ae w' hS)
 |exact hB _ _ _ _ O fun w' hS=>hfin w' (ae w' hS)
theorem vU (w:World) (g:Nat) (x:Rs) (m:Mm) (hS0:St w (ar (mP g x m)) (mP g x m) w) (D:Kw) (hD:Kd D (mP g x m) w) (h: ∀ w',D w'→McR w' x m) (hl:McL x m) (bl:Nat) (lim:Int) (hbl: ∀ w':World,D w'→w'.cell? ⟨bl,0,none⟩=some (.int .i64 lim)) (hc0:0≤x.clock) (hc1:x.clock≤16) (hr:x.role≠4) (hlm:x.limit≤x.clock+1) (hyes:(C.right (aJ x)&&decide (x.me∈aJ x))=true) (htm:x.term<4611686018427387904) (hmj:C.dD (aJ x) [x.me]=true) (hcf:C.right x.cf=true) (hSm:m.S.length≤800) (hes:x.es.length≤900) (hlt:(lastP x).1≤18446744073709551614) (hu2: ∀ c l,(nX (bf (bF {x with clock:=c,limit:=l}))).1=0→RsU (fx (bf (bF {x with clock:=c,limit:=l})))):Mth g x (da (bf (bF {x with clock:=0,limit:=lim}))) m (eH (bf (bF {x with clock:=0,limit:=lim}))) m.i D 40 [.pointer (some ⟨bl,0,none⟩)] w:=by
 obtain⟨y1,hy1⟩: ∃ y,y=({x with clock:=x.clock+1}:Rs):=⟨_,O⟩
 have f1y1:y1.role=x.role:=by rw[hy1]
 have f2y1:y1.limit=x.limit:=by rw[hy1]
 have f3y1:y1.clock=x.clock+1:=by rw[hy1]
 have f4y1:y1.term=x.term:=by rw[hy1]
 have f5y1:y1.me=x.me:=by rw[hy1]
 have f6y1:aJ y1=aJ x:=by rw[hy1];rfl
 have f7y1:y1.votes=x.votes:=by rw[hy1]
 have f8y1:y1.peers=x.peers:=by rw[hy1]
 have hy1M: ∀ w',D w'→McR w' y1 m:=fun w' h'=>by rw[hy1];exact⟨(h w' h').lg.like O O O O O O O O,(h w' h').ms⟩
 have hy1L:McL y1 m:=by rw[hy1];exact⟨hl.hvn,hl.hpn⟩
 have hy1P: ∀ (L:List Asn) w',St w (ar (mP g x m)) (pt g 89 (aD y1 m)::row 3 1 m.p.vA m.p.vn m.p.vc (x.votes.map zv)::row 112 3 m.p.pA m.p.pn m.p.pc (ab bp x.peers)::row 65 12 m.sA m.S.length m.sc (ab bK m.S)::L) w'→St w (ar (mP g x m)) (mP g y1 m++L) w':=fun L w' hS=>by
  show St _ _ (pt g 89 (aD y1 m)::row 3 1 m.p.vA m.p.vn m.p.vc (y1.votes.map zv)::row 112 3 m.p.pA m.p.pn m.p.pc (ab bp y1.peers)::row 65 12 m.sA m.S.length m.sc (ab bK m.S)::L) w'
  rw[f7y1,f8y1]
  exact hS
 obtain⟨y2,hy2⟩: ∃ y,y=({x with clock:=0}:Rs):=⟨_,O⟩
 have f1y2:y2.role=x.role:=by rw[hy2]
 have f2y2:y2.limit=x.limit:=by rw[hy2]
 have f3y2:y2.clock=0:=by rw[hy2]
 have f4y2:y2.term=x.term:=by rw[hy2]
 have f5y2:y2.me=x.me:=by rw[hy2]
 have f6y2:aJ y2=aJ x:=by rw[hy2];rfl
 have f7y2:y2.votes=x.votes:=by rw[hy2]
 have f8y2:y2.peers=x.peers:=by rw[hy2]
 have hy2M: ∀ w',D w'→McR w' y2 m:=fun w' h'=>by rw[hy2];exact⟨(h w' h').lg.like O O O O O O O O,(h w' h').ms⟩
 have hy2L:McL y2 m:=by rw[hy2];exact⟨hl.hvn,hl.hpn⟩
 have hy2P: ∀ (L:List Asn) w',St w (ar (mP g x m)) (pt g 89 (aD y2 m)::row 3 1 m.p.vA m.p.vn m.p.vc (x.votes.map zv)::row 112 3 m.p.pA m.p.pn m.p.pc (ab bp x.peers)::row 65 12 m.sA m.S.length m.sc (ab bK m.S)::L) w'→St w (ar (mP g x m)) (mP g y2 m++L) w':=fun L w' hS=>by
  show St _ _ (pt g 89 (aD y2 m)::row 3 1 m.p.vA m.p.vn m.p.vc (y2.votes.map zv)::row 112 3 m.p.pA m.p.pn m.p.pc (ab bp y2.peers)::row 65 12 m.sA m.S.length m.sc (ab bK m.S)::L) w'
  rw[f7y2,f8y2]
  exact hS
 obtain⟨y3,hy3⟩: ∃ y,y=({x with clock:=0,limit:=lim}:Rs):=⟨_,O⟩
 have f1y3:y3.role=x.role:=by rw[hy3]
 have f2y3:y3.limit=lim:=by rw[hy3]
 have f3y3:y3.clock=0:=by rw[hy3]
 have f4y3:y3.term=x.term:=by rw[hy3]
 have f5y3:y3.me=x.me:=by rw[hy3]
 have f6y3:aJ y3=aJ x:=by rw[hy3];rfl
 have f7y3:y3.votes=x.votes:=by rw[hy3]
 have f8y3:y3.peers=x.peers:=by rw[hy3]
 have hy3M: ∀ w',D w'→McR w' y3 m:=fun w' h'=>by rw[hy3];exact⟨(h w' h').lg.like O O O O O O O O,(h w' h').ms⟩
 have hy3L:McL y3 m:=by rw[hy3];exact⟨hl.hvn,hl.hpn⟩
 have hy3P: ∀ (L:List Asn) w',St w (ar (mP g x m)) (pt g 89 (aD y3 m)::row 3 1 m.p.vA m.p.vn m.p.vc (x.votes.map zv)::row 112 3 m.p.pA m.p.pn m.p.pc (ab bp x.peers)::row 65 12 m.sA m.S.length m.sc (ab bK m.S)::L) w'→St w (ar (mP g x m)) (mP g y3 m++L) w':=fun L w' hS=>by
  show St _ _ (pt g 89 (aD y3 m)::row 3 1 m.p.vA m.p.vn m.p.vc (y3.votes.map zv)::row 112 3 m.p.pA m.p.pn m.p.pc (ab bp y3.peers)::row 65 12 m.sA m.S.length m.sc (ab bK m.S)::L) w'
  rw[f7y3,f8y3]
  exact hS
 rw[show ({x with clock:=0,limit:=lim}:Rs)=y3 from hy3.symm]
 unfold Mth
 refine bO Tryz.func40 O Tryz.ntmps40 Tryz.results40 (by simp) hS0 (fun B hE hB=>?_)
 have h5:(aJ x).length≤5:=dG hcf _
 have hu2:=hu2 0 lim
 rw[show ({x with clock:=0,limit:=lim}:Rs)=y3 from hy3.symm] at hu2
 focus (refine qs ?_;refine qp ?_;refine qt (ac O) ?_;refine qp ?_;refine qp ?_;refine qt (ah O O O O) ?_;refine qt (ii O O O (by unfold aH;omega)) ?_;refine qt (ac O) ?_;refine qp ?_;refine qp ?_;(refine qw (aw (cs:=aD x m) (cs':=aD y1 m) O O O O O (by rw[hy1];rfl) (by show _<16;omega)) ?_;rintro _ _ rfl);refine qz ?_;refine qb ?_;refine qs ?_;refine qp ?_;refine qt (ac O) ?_;refine qp ?_;refine qp ?_;refine qt (ah O O O O) ?_;refine qf ?_;refine qp ?_;(iterate 6 refine qk ?_);refine qp ?_;refine qp ?_;refine qz ?_;refine qF ?_;refine qq ?_;(refine dQ 20 ?_;(refine dp 0 ?_);(refine dt 1 O (ac O) ?_);(refine dp 2 ?_);(refine dp 3 ?_);(refine dl 4 ?_);(refine cZ 5 ?_);(refine dp 6 ?_);(refine dp 7 ?_);(refine dt 8 O (ac O) ?_);(refine dp 9 ?_);(refine dp 10 ?_);(refine dl 11 ?_);(refine dp 12 ?_);(refine dt 13 O (ac O) ?_);(refine dp 14 ?_);(refine dp 15 ?_);(refine dl 16 ?_);(refine cZ 17 ?_);(refine dp 18 ?_);(refine dp 19 ?_);refine dn ?_);refine qT ?_;refine qq ?_)
 refine dS [] 11 ?_
 refine dp 0 ?_
 refine dp 1 ?_
 refine dt 2 O (cT O O O (fun w1 hS1=>hbl w1 (hD.at_ hS1))) ?_
 refine dt 3 O (ac O) ?_
 refine dp 4 ?_
 refine dp 5 ?_
 refine dE 6 O (aw (cs:=aD y1 m) (cs':=aD y2 m) O O O O O (by rw[hy1,hy2];rfl) (by show _<16;omega)) ?_
 rintro _ _ rfl
 refine nx ?_
 refine dt 7 O (ac O) ?_
 refine dp 8 ?_
 refine dp 9 ?_
 refine dE 10 O (aw (cs:=aD y2 m) (cs':=aD y3 m) O O O O O (by rw[hy2,hy3];rfl) (by show _<16;omega)) ?_
 rintro _ _ rfl
 refine nx ?_
 refine dn ?_
 skip
 focus (refine qq ?_)
 refine dS [pt g 89 (aD y3 m)] 16 ?_
 refine dp 0 ?_
 refine dp 2 ?_
 refine dt 3 O (ac O) ?_
 refine dp 4 ?_
 refine dp 5 ?_
 refine dl 6 ?_
 refine dE 1 O (bB (f:=43) pk (fun w1 hS1=>du w1 g y3 m (bJ hS1 (by simp)) D (hD.call0 hS1) (fun w2 h2=>(hy3M w2 h2).lg) (aJ x) f6y3) O O (fun _=>O)) ?_
 rintro _ _ ⟨⟨⟨A3,K3,c3⟩,Z3⟩,rfl,hI3,rfl⟩
 refine nx ?_
 refine dE 7 O (aq (f:=42) zq (fun w1 hS1=>jB w1 A3 (aJ x).length c3 (aJ x) y3.me (hI3 w1 ⟨hD.at_ hS1,hS1.at_ (A:=Z3) (by simp)⟩) (by omega) true (by rw[f5y3];exact hyes)) O O (fun _=>O)) ?_
 rintro _ _ ⟨_,rfl,_,rfl⟩
 refine nx ?_
 refine cZ 8 ?_
 refine dp 9 ?_
 refine dt 10 O (ac O) ?_
 refine dp 11 ?_
 refine dp 12 ?_
 refine dl 13 ?_
 refine cZ 14 ?_
 refine cZ 15 ?_
 refine dn ?_
 skip
 focus (refine qT ?_;refine qr ?_;refine qp ?_)
 have hmem: ∀ w1,St w (ar (mP g x m)) [Z3,pt g 89 (aD y3 m),row 3 1 m.p.vA m.p.vn m.p.vc (x.votes.map zv),row 112 3 m.p.pA m.p.pn m.p.pc (ab bp x.peers),row 65 12 m.sA m.S.length m.sc (ab bK m.S)] w1→St w (ar (mP g x m)) (zN::Z3::mP g y3 m) w1:=fun w1 hS1=>by
  have e1:=hy3P [zN,Z3] w1 (ae (H':=[pt g 89 (aD y3 m),row 3 1 m.p.vA m.p.vn m.p.vc (x.votes.map zv),row 112 3 m.p.pA m.p.pn m.p.pc (ab bp x.peers),row 65 12 m.sA m.S.length m.sc (ab bK m.S),zN,Z3]) w1 (dN hS1))
  exact ae (H':=[zN,Z3,pt g 89 (aD y3 m),row 3 1 m.p.vA m.p.vn m.p.vc (y3.votes.map zv),row 112 3 m.p.pA m.p.pn m.p.pc (ab bp y3.peers),row 65 12 m.sA m.S.length m.sc (ab bK m.S)]) w1 (show St _ _ [pt g 89 (aD y3 m),row 3 1 m.p.vA m.p.vn m.p.vc (y3.votes.map zv),row 112 3 m.p.pA m.p.pn m.p.pc (ab bp y3.peers),row 65 12 m.sA m.S.length m.sc (ab bK m.S),zN,Z3] w1 from e1)
 have hcall: ∀ (w1:World),St w1 (ar (mP g y3 m)) (mP g y3 m) w1→Kd (K2 D zN) (mP g y3 m) w1→Gives Tryz.prog 44 ([.pointer (some ⟨g,0,none⟩)]) (mP g y3 m) w1 (X:=Mm×Asn) (fun _=> .tuple #[]) (fun y=>y.1.S.map Prod.fst=m.S.map Prod.fst++eH (bf (bF y3))∧y.1.i=m.i∧McL (da (bf (bF y3))) y.1∧ ∀ w',K2 (K2 D zN) y.2 w'→McR w' (da (bf (bF y3))) y.1) (fun y=>mP g (da (bf (bF y3))) y.1++[y.2]):=fun w1 hS1 hk=>by
  have h9:=yc w1 g y3 m hS1 (K2 D zN) hk (fun w2 h2=>hy3M w2 h2.1) hy3L (by omega) (by rw[hy3];exact hcf) (by rw[hy3];exact hes) (by rw[hy3];exact hlt) hSm hu2 (by rw[f6y3,f5y3];exact hmj)
  unfold Mth at h9
  exact h9
 focus ((refine qe (Ef.pre hmem (cq (f:=44) (D:=D) (Z:=zN) (mP g y3 m) (fun z:Mm×Asn=>mP g (da (bf (bF y3))) z.1) hD Gs (fun w1 _ hk hS1=>hcall w1 hS1 hk) O O)) ?_;rintro _ _ ⟨⟨m2,C2⟩,Z1,rfl,⟨hm2S,hm2i,hl2,hm2R⟩,hold0,hnew0,rfl⟩;dsimp only[List.cons_append,List.nil_append] at hm2S hm2i hl2 hm2R ⊢);refine qz ?_;refine aK ?_)
 have hfin:=fun(w':World)=>bR (w:=w) (M:=ar (mP g x m)) (g:=g) (x2:=(da (bf (bF y3)))) (m2:=m2) (Z:=Z1) (D:=D) (ms:=m.S.map Prod.fst++eH (bf (bF y3))) (ib:=m.i) ⟨hm2S,hm2i,hl2,fun w2 h2=>hm2R w2 (hnew0 w2 h2)⟩ (w':=w')
 first
 |exact hE _ _ fun w' hS=>hfin w' (ae w' hS)
 |exact hB _ _ _ _ O fun w' hS=>hfin w' (ae w' hS)
theorem oZ (who:Int) (t:Nat) (ok:Bool):Tryz.prog.built 65 [(0,.int .i64 4),(2,.int .i64 who),(3,.int .u64 (t:Int)),(7,.bool ok)]=some (aW ⟨4,0,who,t,(0,0),[],0,ok,0,[],[]⟩ ⟨none,0,0,none,0,0,none,0,0,[]⟩).toArray:=by cases ok<;>kernel_rfl
theorem yd (w:World) (a b:At) (r:Bool) (hr:ja a b=r):Gives Tryz.prog 183 [.agg (aO a).toArray,.agg (aO b).toArray] [] w (X:=Unit) (fun _=> .bool r) (fun _=>True) (fun _=>[]):=hr▸sX w a b
theorem iR (w:World) (g:Nat) (x:Rs) (m:Mm) (hb:tW w g x m) (h:LgR w x m.p) (p:At) (r:Bool) (hr:oI x p=r):
  Gives Tryz.prog 171 [.pointer (some ⟨g,0,none⟩),.agg (aO p).toArray] [] w (X:=Unit) (fun _=> .bool r) (fun _=>True) (fun _=>[]):=by
 refine aP Tryz.func171 O Tryz.ntmps171 Tryz.results171 (by simp) (St.enter w) (fun B hB=>?_)
 have hkm: ∀ w',Kp bC w w'→tW w' g x m:=fun w' hk=>Rd.keep hb hk
 focus (refine qs ?_;(refine qe (ap (cs:=aO p) O) ?_;rintro _ _ ⟨b3,rfl,rfl⟩);refine qp ?_;refine qz ?_;refine qq ?_)
 refine dS [pt b3 36 (aO p)] 5 ?_
 refine dp 0 ?_
 refine dt 2 O (ai (ds:=aO p) O O O O O) ?_
 refine dE 1 O (aq (f:=59) pE (fun w1 hS1=>ef w1 g x m (hkm w1 hS1.kpO) (h.keep hS1.kpO)) O O (fun _=>O)) ?_
 rintro _ _ ⟨_,rfl,_,rfl⟩
 refine nx ?_
 refine dE 3 O (aq (f:=183) F5 (fun w1 hS1=>yd w1 (lastP x) p r hr) O O (fun _=>O)) ?_
 rintro _ _ ⟨_,rfl,_,rfl⟩
 refine nx ?_
 refine dp 4 ?_
 refine dn ?_
 skip
 skip
 exact hB _ _ _ _ _ O O (qE O)
theorem vV (w:World) (g:Nat) (x:Rs) (m:Mm) (hS0:St w (ar (mP g x m)) (mP g x m) w) (D:Kw) (hD:Kd D (mP g x m) w) (h: ∀ w',D w'→McR w' x m) (hl:McL x m) (u:Ms) (q:Mp) (hSm:m.S.length≤800):Mth g x (iu x u).1 m (iu x u).2 m.i D 144 [.agg (aW u q).toArray] w:=by
 unfold Mth
 refine bO Tryz.func144 O Tryz.ntmps144 Tryz.results144 (by simp) hS0 (fun B hE hB=>?_)
 obtain⟨r,hr⟩: ∃ r,dX x u=r:=⟨_,O⟩
 refine ez ?_
 focus (refine qs ?_;(refine qe (ap (cs:=aW u q) O) ?_;rintro _ _ ⟨b3,rfl,rfl⟩);refine qz ?_;refine qq ?_)
 refine eo (X:=Unit) (fun _=>[(0,.pointer (some ⟨g,0,none⟩)),(3,.pointer (some ⟨b3,0,none⟩)),(4,.bool (dX x u))]) (fun _=>[pt b3 65 (aW u q),zN,pt g 89 (aD x m),row 3 1 m.p.vA m.p.vn m.p.vc (x.votes.map zv),row 112 3 m.p.pA m.p.pn m.p.pc (ab bp x.peers),row 65 12 m.sA m.S.length m.sc (ab bK m.S)]) (fun _=>True) (fun J hJ=>?_) (fun _ _=>?_)
 ·skip
  by_cases h1:u.tm=x.term
  rotate_left
  ·skip
   have e:dX x u=false:=by unfold dX;simp[h1]
   rw[e] at hJ
   refine dS [pt b3 65 (aW u q),pt g 89 (aD x m)] 42 ?_
   refine dp 0 ?_
   refine dt 1 O (ah (v:= .int .u64 (u.tm:Int)) O O O O) ?_
   refine dp 2 ?_
   refine dt 3 O (ac O) ?_
   refine dp 4 ?_
   refine dp 5 ?_
   refine dl 6 ?_
   refine eI 7 ?_
   refine dp 8 ?_
   refine dk 9 ?_
   refine dk 10 ?_
   refine dk 11 ?_
   refine dk 12 ?_
   refine dk 13 ?_
   refine dk 14 ?_
   refine dk 15 ?_
   refine dk 16 ?_
   refine dk 17 ?_
   refine dk 18 ?_
   refine dk 19 ?_
   refine dk 20 ?_
   refine dk 21 ?_
   refine dk 22 ?_
   refine dk 23 ?_
   refine dk 24 ?_
   refine dp 25 ?_
   refine dp 26 ?_
   refine dk 27 ?_
   refine dk 28 ?_
   refine dk 29 ?_
   refine dk 30 ?_
   refine dk 31 ?_
   refine dk 32 ?_
   refine dp 33 ?_
   refine dp 34 ?_
   refine dk 35 ?_
   refine dk 36 ?_
   refine dk 37 ?_
   refine dk 38 ?_
   refine dk 39 ?_
   refine dp 40 ?_
   refine dp 41 ?_
   refine dn ?_
   skip
   skip
   exact hJ () _ _ trivial (Sub.cons O (Sub.cons O (Sub.cons O Sub.nil))) ae
  cases hold:oI x u.pl
  ·by_cases h2:x.vote=0
   ·by_cases h4:x.role=4
    ·skip
     have e:dX x u=false:=by unfold dX;simp[h4]
     rw[e] at hJ
     refine dS [pt b3 65 (aW u q),pt g 89 (aD x m)] 42 ?_
     refine dp 0 ?_
     refine dt 1 O (ah (v:= .int .u64 (u.tm:Int)) O O O O) ?_
     refine dp 2 ?_
     refine dt 3 O (ac O) ?_
     refine dp 4 ?_
     refine dp 5 ?_
     refine dl 6 ?_
     refine cZ 7 ?_
     refine dp 8 ?_
     refine dp 9 ?_
     refine dt 10 O (ac O) ?_
     refine dp 11 ?_
     refine dp 12 ?_
     refine dl 13 ?_
     refine cZ 14 ?_
     refine dp 15 ?_
     refine dk 16 ?_
     refine dk 17 ?_
     refine dk 18 ?_
     refine dk 19 ?_
     refine dk 20 ?_
     refine dk 21 ?_
     refine dk 22 ?_
     refine dk 23 ?_
     refine dp 24 ?_
     refine dp 25 ?_
     refine dp 26 ?_
     refine dp 27 ?_
     refine dt 28 O (ac O) ?_
     refine dp 29 ?_
     refine dp 30 ?_
     refine dl 31 ?_
     refine eI 32 ?_
     refine dp 33 ?_
     refine dp 34 ?_
     refine dk 35 ?_
     refine dk 36 ?_
     refine dk 37 ?_
     refine dk 38 ?_
     refine dk 39 ?_
     refine dp 40 ?_
     refine dp 41 ?_
     refine dn ?_
     skip
     skip
     exact hJ () _ _ trivial (Sub.cons O (Sub.cons O (Sub.cons O Sub.nil))) ae
    ·skip
     have e:dX x u=true:=by unfold dX;simp[h1,h2,h4,hold]
     rw[e] at hJ
     refine dS [pt b3 65 (aW u q),pt g 89 (aD x m)] 42 ?_
     refine dp 0 ?_
     refine dt 1 O (ah (v:= .int .u64 (u.tm:Int)) O O O O) ?_
     refine dp 2 ?_
     refine dt 3 O (ac O) ?_
     refine dp 4 ?_
     refine dp 5 ?_
     refine dl 6 ?_
     refine cZ 7 ?_
     refine dp 8 ?_
     refine dp 9 ?_
     refine dt 10 O (ac O) ?_
     refine dp 11 ?_
     refine dp 12 ?_
     refine dl 13 ?_
     refine cZ 14 ?_
     refine dp 15 ?_
     refine dk 16 ?_
     refine dk 17 ?_
     refine dk 18 ?_
     refine dk 19 ?_
     refine dk 20 ?_
     refine dk 21 ?_
     refine dk 22 ?_
     refine dk 23 ?_
     refine dp 24 ?_
     refine dp 25 ?_
     refine dp 26 ?_
     refine dp 27 ?_
     refine dt 28 O (ac O) ?_
     refine dp 29 ?_
     refine dp 30 ?_
     refine dl 31 ?_
     refine cZ 32 ?_
     refine dp 33 ?_
     refine dp 34 ?_
     refine dp 35 ?_
     refine dp 36 ?_
     refine dt 37 O (ai (ds:=aO u.pl) O O O O O) ?_
     refine dE 38 O (aq (f:=171) pH (fun w1 hS1=>iR w1 g x m (bJ hS1 (by simp)) (h w1 (hD.at_ hS1)).lg u.pl _ hold) O O (fun _=>O)) ?_
     rintro _ _ ⟨_,rfl,_,rfl⟩
     refine nx ?_
     refine dt 39 O (aR O) ?_
     refine cZ 40 ?_
     refine cZ 41 ?_
     refine dn ?_
     skip
     skip
     exact hJ () _ _ trivial (Sub.cons O (Sub.cons O (Sub.cons O Sub.nil))) ae
   ·by_cases h3:x.vote=u.F
    ·by_cases h4:x.role=4
     ·skip
      have e:dX x u=false:=by unfold dX;simp[h4]
      rw[e] at hJ
      refine dS [pt b3 65 (aW u q),pt g 89 (aD x m)] 42 ?_
      refine dp 0 ?_
      refine dt 1 O (ah (v:= .int .u64 (u.tm:Int)) O O O O) ?_
      refine dp 2 ?_
      refine dt 3 O (ac O) ?_
      refine dp 4 ?_
      refine dp 5 ?_
      refine dl 6 ?_
      refine cZ 7 ?_
      refine dp 8 ?_
      refine dp 9 ?_
      refine dt 10 O (ac O) ?_
      refine dp 11 ?_
      refine dp 12 ?_
      refine dl 13 ?_
      refine eI 14 ?_
      refine dp 15 ?_
      refine dp 16 ?_
      refine dt 17 O (ac O) ?_
      refine dp 18 ?_
      refine dp 19 ?_
      refine dl 20 ?_
      refine dp 21 ?_
      refine dt 22 O (ah (v:= .int .i64 u.F) O O O O) ?_
      refine cZ 23 ?_
      refine dp 24 ?_
      refine dp 25 ?_
      refine dp 26 ?_
      refine dp 27 ?_
      refine dt 28 O (ac O) ?_
      refine dp 29 ?_
      refine dp 30 ?_
      refine dl 31 ?_
      refine eI 32 ?_
      refine dp 33 ?_
      refine dp 34 ?_
      refine dk 35 ?_
      refine dk 36 ?_
      refine dk 37 ?_
      refine dk 38 ?_
      refine dk 39 ?_
      refine dp 40 ?_
      refine dp 41 ?_
      refine dn ?_
      skip
      skip
      exact hJ () _ _ trivial (Sub.cons O (Sub.cons O (Sub.cons O Sub.nil))) ae
     ·skip
      have e:dX x u=true:=by unfold dX;simp[h1,h3,h4,hold]
      rw[e] at hJ
      refine dS [pt b3 65 (aW u q),pt g 89 (aD x m)] 42 ?_
      refine dp 0 ?_
      refine dt 1 O (ah (v:= .int .u64 (u.tm:Int)) O O O O) ?_
      refine dp 2 ?_
      refine dt 3 O (ac O) ?_
      refine dp 4 ?_
      refine dp 5 ?_
      refine dl 6 ?_
      refine cZ 7 ?_
      refine dp 8 ?_
      refine dp 9 ?_
      refine dt 10 O (ac O) ?_
      refine dp 11 ?_
      refine dp 12 ?_
      refine dl 13 ?_
      refine eI 14 ?_
      refine dp 15 ?_
      refine dp 16 ?_
      refine dt 17 O (ac O) ?_
      refine dp 18 ?_
      refine dp 19 ?_
      refine dl 20 ?_
      refine dp 21 ?_
      refine dt 22 O (ah (v:= .int .i64 u.F) O O O O) ?_
      refine cZ 23 ?_
      refine dp 24 ?_
      refine dp 25 ?_
      refine dp 26 ?_
      refine dp 27 ?_
      refine dt 28 O (ac O) ?_
      refine dp 29 ?_
      refine dp 30 ?_
      refine dl 31 ?_
      refine cZ 32 ?_
      refine dp 33 ?_
      refine dp 34 ?_
      refine dp 35 ?_
      refine dp 36 ?_
      refine dt 37 O (ai (ds:=aO u.pl) O O O O O) ?_
      refine dE 38 O (aq (f:=171) pH (fun w1 hS1=>iR w1 g x m (bJ hS1 (by simp)) (h w1 (hD.at_ hS1)).lg u.pl _ hold) O O (fun _=>O)) ?_
      rintro _ _ ⟨_,rfl,_,rfl⟩
      refine nx ?_
      refine dt 39 O (aR O) ?_
      refine cZ 40 ?_
      refine cZ 41 ?_
      refine dn ?_
      skip
      skip
      exact hJ () _ _ trivial (Sub.cons O (Sub.cons O (Sub.cons O Sub.nil))) ae
    ·skip
     have e:dX x u=false:=by unfold dX;simp[h2,h3]
     rw[e] at hJ
     refine dS [pt b3 65 (aW u q),pt g 89 (aD x m)] 42 ?_
     refine dp 0 ?_
     refine dt 1 O (ah (v:= .int .u64 (u.tm:Int)) O O O O) ?_
     refine dp 2 ?_
     refine dt 3 O (ac O) ?_
     refine dp 4 ?_
     refine dp 5 ?_
     refine dl 6 ?_
     refine cZ 7 ?_
     refine dp 8 ?_
     refine dp 9 ?_
     refine dt 10 O (ac O) ?_
     refine dp 11 ?_
     refine dp 12 ?_
     refine dl 13 ?_
     refine eI 14 ?_
     refine dp 15 ?_
     refine dp 16 ?_
     refine dt 17 O (ac O) ?_
     refine dp 18 ?_
     refine dp 19 ?_
     refine dl 20 ?_
     refine dp 21 ?_
     refine dt 22 O (ah (v:= .int .i64 u.F) O O O O) ?_
     refine eI 23 ?_
     refine dp 24 ?_
     refine dp 25 ?_
     refine dp 26 ?_
     refine dk 27 ?_
     refine dk 28 ?_
     refine dk 29 ?_
     refine dk 30 ?_
     refine dk 31 ?_
     refine dk 32 ?_
     refine dp 33 ?_
     refine dp 34 ?_
     refine dk 35 ?_
     refine dk 36 ?_
     refine dk 37 ?_
     refine dk 38 ?_
     refine dk 39 ?_
     refine dp 40 ?_
     refine dp 41 ?_
     refine dn ?_
     skip
     skip
     exact hJ () _ _ trivial (Sub.cons O (Sub.cons O (Sub.cons O Sub.nil))) ae
  ·by_cases h2:x.vote=0
   ·by_cases h4:x.role=4
    ·skip
     have e:dX x u=false:=by unfold dX;simp[h4]
     rw[e] at hJ
     refine dS [pt b3 65 (aW u q),pt g 89 (aD x m)] 42 ?_
     refine dp 0 ?_
     refine dt 1 O (ah (v:= .int .u64 (u.tm:Int)) O O O O) ?_
     refine dp 2 ?_
     refine dt 3 O (ac O) ?_
     refine dp 4 ?_
     refine dp 5 ?_
     refine dl 6 ?_
     refine cZ 7 ?_
     refine dp 8 ?_
     refine dp 9 ?_
     refine dt 10 O (ac O) ?_
     refine dp 11 ?_
     refine dp 12 ?_
     refine dl 13 ?_
     refine cZ 14 ?_
     refine dp 15 ?_
     refine dk 16 ?_
     refine dk 17 ?_
     refine dk 18 ?_
     refine dk 19 ?_
     refine dk 20 ?_
     refine dk 21 ?_
     refine dk 22 ?_
     refine dk 23 ?_
     refine dp 24 ?_
     refine dp 25 ?_
     refine dp 26 ?_
     refine dp 27 ?_
     refine dt 28 O (ac O) ?_
     refine dp 29 ?_
     refine dp 30 ?_
     refine dl 31 ?_
     refine eI 32 ?_
     refine dp 33 ?_
     refine dp 34 ?_
     refine dk 35 ?_
     refine dk 36 ?_
     refine dk 37 ?_
     refine dk 38 ?_
     refine dk 39 ?_
     refine dp 40 ?_
     refine dp 41 ?_
     refine dn ?_
     skip
     skip
     exact hJ () _ _ trivial (Sub.cons O (Sub.cons O (Sub.cons O Sub.nil))) ae
    ·skip
     have e:dX x u=false:=by unfold dX;simp[hold]
     rw[e] at hJ
     refine dS [pt b3 65 (aW u q),pt g 89 (aD x m)] 42 ?_
     refine dp 0 ?_
     refine dt 1 O (ah (v:= .int .u64 (u.tm:Int)) O O O O) ?_
     refine dp 2 ?_
     refine dt 3 O (ac O) ?_
     refine dp 4 ?_
     refine dp 5 ?_
     refine dl 6 ?_
     refine cZ 7 ?_
     refine dp 8 ?_
     refine dp 9 ?_
     refine dt 10 O (ac O) ?_
     refine dp 11 ?_
     refine dp 12 ?_
     refine dl 13 ?_
     refine cZ 14 ?_
     refine dp 15 ?_
     refine dk 16 ?_
     refine dk 17 ?_
     refine dk 18 ?_
     refine dk 19 ?_
     refine dk 20 ?_
     refine dk 21 ?_
     refine dk 22 ?_
     refine dk 23 ?_
     refine dp 24 ?_
     refine dp 25 ?_
     refine dp 26 ?_
     refine dp 27 ?_
     refine dt 28 O (ac O) ?_
     refine dp 29 ?_
     refine dp 30 ?_
     refine dl 31 ?_
     refine cZ 32 ?_
     refine dp 33 ?_
     refine dp 34 ?_
     refine dp 35 ?_
     refine dp 36 ?_
     refine dt 37 O (ai (ds:=aO u.pl) O O O O O) ?_
     refine dE 38 O (aq (f:=171) pH (fun w1 hS1=>iR w1 g x m (bJ hS1 (by simp)) (h w1 (hD.at_ hS1)).lg u.pl _ hold) O O (fun _=>O)) ?_
     rintro _ _ ⟨_,rfl,_,rfl⟩
     refine nx ?_
     refine dt 39 O (aR O) ?_
     refine dp 40 ?_
     refine dp 41 ?_
     refine dn ?_
     skip
     skip
     exact hJ () _ _ trivial (Sub.cons O (Sub.cons O (Sub.cons O Sub.nil))) ae
   ·by_cases h3:x.vote=u.F
    ·by_cases h4:x.role=4
     ·skip
      have e:dX x u=false:=by unfold dX;simp[h4]
      rw[e] at hJ
      refine dS [pt b3 65 (aW u q),pt g 89 (aD x m)] 42 ?_
      refine dp 0 ?_
      refine dt 1 O (ah (v:= .int .u64 (u.tm:Int)) O O O O) ?_
      refine dp 2 ?_
      refine dt 3 O (ac O) ?_
      refine dp 4 ?_
      refine dp 5 ?_
      refine dl 6 ?_
      refine cZ 7 ?_
      refine dp 8 ?_
      refine dp 9 ?_
      refine dt 10 O (ac O) ?_
      refine dp 11 ?_
      refine dp 12 ?_
      refine dl 13 ?_
      refine eI 14 ?_
      refine dp 15 ?_
      refine dp 16 ?_
      refine dt 17 O (ac O) ?_
      refine dp 18 ?_
      refine dp 19 ?_
      refine dl 20 ?_
      refine dp 21 ?_
      refine dt 22 O (ah (v:= .int .i64 u.F) O O O O) ?_
      refine cZ 23 ?_
      refine dp 24 ?_
      refine dp 25 ?_
      refine dp 26 ?_
      refine dp 27 ?_
      refine dt 28 O (ac O) ?_
      refine dp 29 ?_
      refine dp 30 ?_
      refine dl 31 ?_
      refine eI 32 ?_
      refine dp 33 ?_
      refine dp 34 ?_
      refine dk 35 ?_
      refine dk 36 ?_
      refine dk 37 ?_
      refine dk 38 ?_
      refine dk 39 ?_
      refine dp 40 ?_
      refine dp 41 ?_
      refine dn ?_
      skip
      skip
      exact hJ () _ _ trivial (Sub.cons O (Sub.cons O (Sub.cons O Sub.nil))) ae
     ·skip
      have e:dX x u=false:=by unfold dX;simp[hold]
      rw[e] at hJ
      refine dS [pt b3 65 (aW u q),pt g 89 (aD x m)] 42 ?_
      refine dp 0 ?_
      refine dt 1 O (ah (v:= .int .u64 (u.tm:Int)) O O O O) ?_
      refine dp 2 ?_
      refine dt 3 O (ac O) ?_
      refine dp 4 ?_
      refine dp 5 ?_
      refine dl 6 ?_
      refine cZ 7 ?_
      refine dp 8 ?_
      refine dp 9 ?_
      refine dt 10 O (ac O) ?_
      refine dp 11 ?_
      refine dp 12 ?_
      refine dl 13 ?_
      refine eI 14 ?_
      refine dp 15 ?_
      refine dp 16 ?_
      refine dt 17 O (ac O) ?_
      refine dp 18 ?_
      refine dp 19 ?_
      refine dl 20 ?_
      refine dp 21 ?_
      refine dt 22 O (ah (v:= .int .i64 u.F) O O O O) ?_
      refine cZ 23 ?_
      refine dp 24 ?_
      refine dp 25 ?_
      refine dp 26 ?_
      refine dp 27 ?_
      refine dt 28 O (ac O) ?_
      refine dp 29 ?_
      refine dp 30 ?_
      refine dl 31 ?_
      refine cZ 32 ?_
      refine dp 33 ?_
      refine dp 34 ?_
      refine dp 35 ?_
      refine dp 36 ?_
      refine dt 37 O (ai (ds:=aO u.pl) O O O O O) ?_
      refine dE 38 O (aq (f:=171) pH (fun w1 hS1=>iR w1 g x m (bJ hS1 (by simp)) (h w1 (hD.at_ hS1)).lg u.pl _ hold) O O (fun _=>O)) ?_
      rintro _ _ ⟨_,rfl,_,rfl⟩
      refine nx ?_
      refine dt 39 O (aR O) ?_
      refine dp 40 ?_
      refine dp 41 ?_
      refine dn ?_
      skip
      skip
      exact hJ () _ _ trivial (Sub.cons O (Sub.cons O (Sub.cons O Sub.nil))) ae
    ·skip
     have e:dX x u=false:=by unfold dX;simp[h2,h3]
     rw[e] at hJ
     refine dS [pt b3 65 (aW u q),pt g 89 (aD x m)] 42 ?_
     refine dp 0 ?_
     refine dt 1 O (ah (v:= .int .u64 (u.tm:Int)) O O O O) ?_
     refine dp 2 ?_
     refine dt 3 O (ac O) ?_
     refine dp 4 ?_
     refine dp 5 ?_
     refine dl 6 ?_
     refine cZ 7 ?_
     refine dp 8 ?_
     refine dp 9 ?_
     refine dt 10 O (ac O) ?_
     refine dp 11 ?_
     refine dp 12 ?_
     refine dl 13 ?_
     refine eI 14 ?_
     refine dp 15 ?_
     refine dp 16 ?_
     refine dt 17 O (ac O) ?_
     refine dp 18 ?_
     refine dp 19 ?_
     refine dl 20 ?_
     refine dp 21 ?_
     refine dt 22 O (ah (v:= .int .i64 u.F) O O O O) ?_
     refine eI 23 ?_
     refine dp 24 ?_
     refine dp 25 ?_
     refine dp 26 ?_
     refine dk 27 ?_
     refine dk 28 ?_
     refine dk 29 ?_
     refine dk 30 ?_
     refine dk 31 ?_
     refine dk 32 ?_
     refine dp 33 ?_
     refine dp 34 ?_
     refine dk 35 ?_
     refine dk 36 ?_
     refine dk 37 ?_
     refine dk 38 ?_
     refine dk 39 ?_
     refine dp 40 ?_
     refine dp 41 ?_
     refine dn ?_
     skip
     skip
     exact hJ () _ _ trivial (Sub.cons O (Sub.cons O (Sub.cons O Sub.nil))) ae
 rw[hr]
 cases r
 ·have hvf:iu x u=(x,[cD x u 4 x.term false 0]):=by unfold iu;rw[hr];rfl
  rw[hvf] at hE hB
  dsimp only at hE hB
  focus (refine qq ?_;refine qs ?_;refine qp ?_;refine qz ?_;refine qF ?_;refine qx ?_)
  refine dS [pt b3 65 (aW u q),pt g 89 (aD x m)] 12 ?_
  refine dp 0 ?_
  refine dp 1 ?_
  refine dt 2 O (ah (v:= .int .i64 u.F) O O O O) ?_
  refine dp 3 ?_
  refine dt 4 O (ac O) ?_
  refine dp 5 ?_
  refine dp 6 ?_
  refine dl 7 ?_
  refine dp 8 ?_
  refine dt 9 O (ik O O O O (oZ _ _ _)) ?_
  refine dE 10 O (cK (vs:=[.agg (aW (⟨4,0,u.F,x.term,(0,0),[],0,false,0,[],[]⟩:Ms) (⟨none,0,0,none,0,0,none,0,0,[]⟩:Mp)).toArray]) (size:=12) (ds:=aW (⟨4,0,u.F,x.term,(0,0),[],0,false,0,[],[]⟩:Ms) (⟨none,0,0,none,0,0,none,0,0,[]⟩:Mp)) O O O O O O (by simp[aV,dZ]) O (by omega)) ?_
  rintro _ _ ⟨vb,rfl,rfl⟩
  refine nx ?_
  refine dE 11 O (fF (f:=113) (mP g x m) (fun(y:Option Addr×Nat)=>mP g x (bT x m ((⟨4,0,u.F,x.term,(0,0),[],0,false,0,[],[]⟩:Ms),(⟨none,0,0,none,0,0,none,0,0,[]⟩:Mp)) y.1 y.2)) kT (fun w1 hS1 hS2=>dB w1 g x m hS2 (some ⟨vb,0,none⟩) 1 (⟨4,0,u.F,x.term,(0,0),[],0,false,0,[],[]⟩:Ms) (⟨none,0,0,none,0,0,none,0,0,[]⟩:Mp) (iw (dh (b:=vb) (t:=65) (As:=mP g x m) hS1 O)) (by omega)) O O) ?_
  rintro _ _ ⟨⟨AS,cS⟩,rfl,_,rfl⟩;dsimp only[List.cons_append,List.nil_append]
  refine dV ?_
  refine dn ?_
  skip
  skip
  have hfin:=fun(w':World)=>bR (w:=w) (M:=ar (mP g x m)) (g:=g) (x2:=x) (m2:=(bT x m ((⟨4,0,u.F,x.term,(0,0),[],0,false,0,[],[]⟩:Ms),(⟨none,0,0,none,0,0,none,0,0,[]⟩:Mp)) AS cS)) (Z:=zN) (D:=D) (ms:=m.S.map Prod.fst++[cD x u 4 x.term false 0]) (ib:=m.i) ⟨by simp[bT,eE,cD,gL],O,⟨hl.hvn,hl.hpn⟩,fun w2 h2=>⟨(h w2 h2.1).lg.like O O O O O O O O,fun s hs=>by
    rcases List.mem_append.1 hs with hs|hs
    ·exact(h w2 h2.1).ms s hs
    ·obtain rfl:=List.mem_singleton.1 hs
     exact⟨O,Nat.zero_le _,O,Rd.none_,fun m hm=>absurd hm (by simp),O,Nat.zero_le _,Rd.none_,Bs.nil _ _,Nat.zero_le _⟩⟩⟩ (w':=w')
  first
  |exact hE _ _ fun w' hS=>hfin w' (ae w' hS)
  |exact hB _ _ _ _ O fun w' hS=>hfin w' (ae w' hS)
 ·have hvf:iu x u=({x with vote:=u.F,clock:=0},[cD x u 4 x.term true 0]):=by unfold iu;rw[hr];rfl
  rw[hvf] at hE hB
  dsimp only at hE hB
  focus (refine qq ?_;refine qs ?_;refine qp ?_;refine qz ?_;refine qT ?_;refine qr ?_;(iterate 3 refine qp ?_);refine qt (ah (v:= .int .i64 u.F) O O O O) ?_;refine qt (ac O) ?_;refine qp ?_;refine qp ?_;(refine qw (aw (cs:=aD x m) (cs':=aD {x with vote:=u.F} m) O O O O O O (by show _<16;omega)) ?_;rintro _ _ rfl);refine qt (ac O) ?_;refine qp ?_;refine qp ?_;(refine qw (aw (cs:=aD {x with vote:=u.F} m) (cs':=aD {x with vote:=u.F,clock:=0} m) O O O O O O (by show _<16;omega)) ?_;rintro _ _ rfl);refine qz ?_)
  refine dS [pt b3 65 (aW u q),pt g 89 (aD {x with vote:=u.F,clock:=0} m)] 12 ?_
  refine dp 0 ?_
  refine dp 1 ?_
  refine dt 2 O (ah (v:= .int .i64 u.F) O O O O) ?_
  refine dp 3 ?_
  refine dt 4 O (ac O) ?_
  refine dp 5 ?_
  refine dp 6 ?_
  refine dl 7 ?_
  refine dp 8 ?_
  refine dt 9 O (ik O O O O (oZ _ _ _)) ?_
  refine dE 10 O (cK (vs:=[.agg (aW (⟨4,0,u.F,x.term,(0,0),[],0,true,0,[],[]⟩:Ms) (⟨none,0,0,none,0,0,none,0,0,[]⟩:Mp)).toArray]) (size:=12) (ds:=aW (⟨4,0,u.F,x.term,(0,0),[],0,true,0,[],[]⟩:Ms) (⟨none,0,0,none,0,0,none,0,0,[]⟩:Mp)) O O O O O O (by simp[aV,dZ]) O (by omega)) ?_
  rintro _ _ ⟨vb,rfl,rfl⟩
  refine nx ?_
  refine dE 11 O (fF (f:=113) (mP g {x with vote:=u.F,clock:=0} m) (fun(y:Option Addr×Nat)=>mP g {x with vote:=u.F,clock:=0} (bT {x with vote:=u.F,clock:=0} m ((⟨4,0,u.F,x.term,(0,0),[],0,true,0,[],[]⟩:Ms),(⟨none,0,0,none,0,0,none,0,0,[]⟩:Mp)) y.1 y.2)) kT (fun w1 hS1 hS2=>dB w1 g {x with vote:=u.F,clock:=0} m hS2 (some ⟨vb,0,none⟩) 1 (⟨4,0,u.F,x.term,(0,0),[],0,true,0,[],[]⟩:Ms) (⟨none,0,0,none,0,0,none,0,0,[]⟩:Mp) (iw (dh (b:=vb) (t:=65) (As:=mP g {x with vote:=u.F,clock:=0} m) hS1 O)) (by omega)) O O) ?_
  rintro _ _ ⟨⟨AS,cS⟩,rfl,_,rfl⟩;dsimp only[List.cons_append,List.nil_append]
  refine dV ?_
  refine dn ?_
  skip
  skip
  have hfin:=fun(w':World)=>bR (w:=w) (M:=ar (mP g x m)) (g:=g) (x2:={x with vote:=u.F,clock:=0}) (m2:=(bT {x with vote:=u.F,clock:=0} m ((⟨4,0,u.F,x.term,(0,0),[],0,true,0,[],[]⟩:Ms),(⟨none,0,0,none,0,0,none,0,0,[]⟩:Mp)) AS cS)) (Z:=zN) (D:=D) (ms:=m.S.map Prod.fst++[cD x u 4 x.term true 0]) (ib:=m.i) ⟨by simp[bT,eE,cD,gL],O,⟨hl.hvn,hl.hpn⟩,fun w2 h2=>⟨(h w2 h2.1).lg.like O O O O O O O O,fun s hs=>by
    rcases List.mem_append.1 hs with hs|hs
    ·exact(h w2 h2.1).ms s hs
    ·obtain rfl:=List.mem_singleton.1 hs
     exact⟨O,Nat.zero_le _,O,Rd.none_,fun m hm=>absurd hm (by simp),O,Nat.zero_le _,Rd.none_,Bs.nil _ _,Nat.zero_le _⟩⟩⟩ (w':=w')
  first
  |exact hE _ _ fun w' hS=>hfin w' (ae w' hS)
  |exact hB _ _ _ _ O fun w' hS=>hfin w' (ae w' hS)
theorem vW (who:Int) (t:Nat):Tryz.prog.built 65 [(0,.int .i64 2),(2,.int .i64 who),(3,.int .u64 (t:Int))]=some (aW ⟨2,0,who,t,(0,0),[],0,false,0,[],[]⟩ ⟨none,0,0,none,0,0,none,0,0,[]⟩).toArray:=by kernel_rfl
theorem tE (w:World) (g:Nat) (x:Rs) (m:Mm) (hS0:St w (ar (mP g x m)) (mP g x m) w) (D:Kw) (hD:Kd D (mP g x m) w) (h: ∀ w',D w'→McR w' x m) (hl:McL x m) (u:Ms) (q:Mp) (hSm:m.S.length≤800):Mth g x x m (jU x u) m.i D 142 [.agg (aW u q).toArray] w:=by
 unfold Mth
 refine bO Tryz.func142 O Tryz.ntmps142 Tryz.results142 (by simp) hS0 (fun B hE hB=>?_)
 obtain⟨r,hr⟩: ∃ r,decide (x.term<u.tm∧oI x u.pl=false∧x.leader=0)=r:=⟨_,O⟩
 have hM:jU x u=if 0<(if r=true then u.tm else x.term) then [cD x u 2 (if r=true then u.tm else x.term) r 0] else []:=by
  unfold jU
  cases r
  ·rw[if_neg (of_decide_eq_false hr)];rfl
  ·rw[if_pos (of_decide_eq_true hr)];rfl
 rw[hM] at hE hB
 refine ez ?_
 focus (refine qs ?_;(refine qe (ap (cs:=aW u q) O) ?_;rintro _ _ ⟨b3,rfl,rfl⟩);refine qz ?_;refine qq ?_)
 refine dS [pt b3 65 (aW u q),pt g 89 (aD x m)] 10 ?_
 refine dp 0 ?_
 refine dt 1 O (ah (v:= .int .i64 u.F) O O O O) ?_
 refine dp 2 ?_
 refine dt 3 O (ac O) ?_
 refine dp 4 ?_
 refine dp 5 ?_
 refine dl 6 ?_
 refine dt 7 O (ku O O O (vW _ _)) ?_
 refine dE 8 O (am O xE) ?_
 rintro _ _ ⟨b4,rfl,rfl⟩
 refine nx ?_
 refine dE 9 O (aj (cs:=aW gL (⟨none,0,0,none,0,0,none,0,0,[]⟩:Mp)) (ds:=aW (⟨2,0,u.F,x.term,(0,0),[],0,false,0,[],[]⟩:Ms) (⟨none,0,0,none,0,0,none,0,0,[]⟩:Mp)) O O O O (gP _ _) O) ?_
 rintro _ _ rfl
 refine nx ?_
 refine dn ?_
 skip
 refine au O ?_
 refine eo (X:=Nat) (fun b4=>[(0,.pointer (some ⟨g,0,none⟩)),(4,.pointer (some ⟨b4,0,none⟩))]) (fun b4=>[pt b4 65 (aW (⟨2,0,u.F,(if r=true then u.tm else x.term),(0,0),[],0,r,0,[],[]⟩:Ms) (⟨none,0,0,none,0,0,none,0,0,[]⟩:Mp)),zN,pt g 89 (aD x m),row 3 1 m.p.vA m.p.vn m.p.vc (x.votes.map zv),row 112 3 m.p.pA m.p.pn m.p.pc (ab bp x.peers),row 65 12 m.sA m.S.length m.sc (ab bK m.S)]) (fun _=>True) (fun J hJ=>?_) (fun b4 _=>?_)
 ·skip
  focus (refine qq ?_)
  by_cases h1:x.term<u.tm
  rotate_left
  ·skip
   have e:r=false:=by rw[← hr];simp[h1]
   subst e
   refine dS [pt b3 65 (aW u q),pt g 89 (aD x m)] 23 ?_
   refine dp 0 ?_
   refine dt 1 O (ah (v:= .int .u64 (u.tm:Int)) O O O O) ?_
   refine dp 2 ?_
   refine dt 3 O (ac O) ?_
   refine dp 4 ?_
   refine dp 5 ?_
   refine dl 6 ?_
   refine eI 7 ?_
   refine dp 8 ?_
   refine dk 9 ?_
   refine dk 10 ?_
   refine dk 11 ?_
   refine dk 12 ?_
   refine dk 13 ?_
   refine dp 14 ?_
   refine dp 15 ?_
   refine dk 16 ?_
   refine dk 17 ?_
   refine dk 18 ?_
   refine dk 19 ?_
   refine dk 20 ?_
   refine dk 21 ?_
   refine dp 22 ?_
   refine dn ?_
   skip
   focus (refine qF ?_;refine qx ?_)
   exact hJ b4 _ _ trivial (Sub.cons O (Sub.cons O Sub.nil)) (fun w' hS=>ae (H':=[pt b4 65 (aW (⟨2,0,u.F,x.term,(0,0),[],0,false,0,[],[]⟩:Ms) (⟨none,0,0,none,0,0,none,0,0,[]⟩:Mp)),zN,pt g 89 (aD x m),row 3 1 m.p.vA m.p.vn m.p.vc (x.votes.map zv),row 112 3 m.p.pA m.p.pn m.p.pc (ab bp x.peers),row 65 12 m.sA m.S.length m.sc (ab bK m.S)]) w' hS)
  cases hold:oI x u.pl
  rotate_left
  ·skip
   have e:r=false:=by rw[← hr];simp[hold]
   subst e
   refine dS [pt b3 65 (aW u q),pt g 89 (aD x m)] 23 ?_
   refine dp 0 ?_
   refine dt 1 O (ah (v:= .int .u64 (u.tm:Int)) O O O O) ?_
   refine dp 2 ?_
   refine dt 3 O (ac O) ?_
   refine dp 4 ?_
   refine dp 5 ?_
   refine dl 6 ?_
   refine cZ 7 ?_
   refine dp 8 ?_
   refine dp 9 ?_
   refine dp 10 ?_
   refine dt 11 O (ai (ds:=aO u.pl) O O O O O) ?_
   refine dE 12 O (aq (f:=171) pH (fun w1 hS1=>iR w1 g x m (bJ hS1 (by simp)) (h w1 (hD.at_ hS1)).lg u.pl _ hold) O O (fun _=>O)) ?_
   rintro _ _ ⟨_,rfl,_,rfl⟩
   refine nx ?_
   refine dt 13 O (aR O) ?_
   refine dp 14 ?_
   refine dp 15 ?_
   refine dk 16 ?_
   refine dk 17 ?_
   refine dk 18 ?_
   refine dk 19 ?_
   refine dk 20 ?_
   refine dk 21 ?_
   refine dp 22 ?_
   refine dn ?_
   skip
   focus (refine qF ?_;refine qx ?_)
   exact hJ b4 _ _ trivial (Sub.cons O (Sub.cons O Sub.nil)) (fun w' hS=>ae (H':=[pt b4 65 (aW (⟨2,0,u.F,x.term,(0,0),[],0,false,0,[],[]⟩:Ms) (⟨none,0,0,none,0,0,none,0,0,[]⟩:Mp)),zN,pt g 89 (aD x m),row 3 1 m.p.vA m.p.vn m.p.vc (x.votes.map zv),row 112 3 m.p.pA m.p.pn m.p.pc (ab bp x.peers),row 65 12 m.sA m.S.length m.sc (ab bK m.S)]) w' hS)
  by_cases h2:x.leader=0
  rotate_left
  ·skip
   have e:r=false:=by rw[← hr];simp[h2]
   subst e
   refine dS [pt b3 65 (aW u q),pt g 89 (aD x m)] 23 ?_
   refine dp 0 ?_
   refine dt 1 O (ah (v:= .int .u64 (u.tm:Int)) O O O O) ?_
   refine dp 2 ?_
   refine dt 3 O (ac O) ?_
   refine dp 4 ?_
   refine dp 5 ?_
   refine dl 6 ?_
   refine cZ 7 ?_
   refine dp 8 ?_
   refine dp 9 ?_
   refine dp 10 ?_
   refine dt 11 O (ai (ds:=aO u.pl) O O O O O) ?_
   refine dE 12 O (aq (f:=171) pH (fun w1 hS1=>iR w1 g x m (bJ hS1 (by simp)) (h w1 (hD.at_ hS1)).lg u.pl _ hold) O O (fun _=>O)) ?_
   rintro _ _ ⟨_,rfl,_,rfl⟩
   refine nx ?_
   refine dt 13 O (aR O) ?_
   refine cZ 14 ?_
   refine cZ 15 ?_
   refine dp 16 ?_
   refine dt 17 O (ac O) ?_
   refine dp 18 ?_
   refine dp 19 ?_
   refine dl 20 ?_
   refine eI 21 ?_
   refine dp 22 ?_
   refine dn ?_
   skip
   focus (refine qF ?_;refine qx ?_)
   exact hJ b4 _ _ trivial (Sub.cons O (Sub.cons O Sub.nil)) (fun w' hS=>ae (H':=[pt b4 65 (aW (⟨2,0,u.F,x.term,(0,0),[],0,false,0,[],[]⟩:Ms) (⟨none,0,0,none,0,0,none,0,0,[]⟩:Mp)),zN,pt g 89 (aD x m),row 3 1 m.p.vA m.p.vn m.p.vc (x.votes.map zv),row 112 3 m.p.pA m.p.pn m.p.pc (ab bp x.peers),row 65 12 m.sA m.S.length m.sc (ab bK m.S)]) w' hS)
  have e:r=true:=by rw[← hr];simp[h1,hold,h2]
  subst e
  refine dS [pt b3 65 (aW u q),pt g 89 (aD x m)] 23 ?_
  refine dp 0 ?_
  refine dt 1 O (ah (v:= .int .u64 (u.tm:Int)) O O O O) ?_
  refine dp 2 ?_
  refine dt 3 O (ac O) ?_
  refine dp 4 ?_
  refine dp 5 ?_
  refine dl 6 ?_
  refine cZ 7 ?_
  refine dp 8 ?_
  refine dp 9 ?_
  refine dp 10 ?_
  refine dt 11 O (ai (ds:=aO u.pl) O O O O O) ?_
  refine dE 12 O (aq (f:=171) pH (fun w1 hS1=>iR w1 g x m (bJ hS1 (by simp)) (h w1 (hD.at_ hS1)).lg u.pl _ hold) O O (fun _=>O)) ?_
  rintro _ _ ⟨_,rfl,_,rfl⟩
  refine nx ?_
  refine dt 13 O (aR O) ?_
  refine cZ 14 ?_
  refine cZ 15 ?_
  refine dp 16 ?_
  refine dt 17 O (ac O) ?_
  refine dp 18 ?_
  refine dp 19 ?_
  refine dl 20 ?_
  refine cZ 21 ?_
  refine cZ 22 ?_
  refine dn ?_
  skip
  focus (refine qT ?_)
  refine dS [pt b3 65 (aW u q)] 6 ?_
  refine dp 0 ?_
  refine dt 1 O (ah (v:= .int .u64 (u.tm:Int)) O O O O) ?_
  refine dp 2 ?_
  refine dE 3 O (aw (cs:=aW (⟨2,0,u.F,x.term,(0,0),[],0,false,0,[],[]⟩:Ms) (⟨none,0,0,none,0,0,none,0,0,[]⟩:Mp)) (cs':=aW (⟨2,0,u.F,x.term,(0,0),[],0,true,0,[],[]⟩:Ms) (⟨none,0,0,none,0,0,none,0,0,[]⟩:Mp)) O O O O O O (by show _<12;omega)) ?_
  rintro _ _ rfl
  refine nx ?_
  refine dp 4 ?_
  refine dE 5 O (aw (cs:=aW (⟨2,0,u.F,x.term,(0,0),[],0,true,0,[],[]⟩:Ms) (⟨none,0,0,none,0,0,none,0,0,[]⟩:Mp)) (cs':=aW (⟨2,0,u.F,u.tm,(0,0),[],0,true,0,[],[]⟩:Ms) (⟨none,0,0,none,0,0,none,0,0,[]⟩:Mp)) O O O O O O (by show _<12;omega)) ?_
  rintro _ _ rfl
  refine nx ?_
  refine dn ?_
  skip
  skip
  exact hJ b4 _ _ trivial (Sub.cons O (Sub.cons O Sub.nil)) (fun w' hS=>ae (H':=[pt b4 65 (aW (⟨2,0,u.F,u.tm,(0,0),[],0,true,0,[],[]⟩:Ms) (⟨none,0,0,none,0,0,none,0,0,[]⟩:Mp)),zN,pt g 89 (aD x m),row 3 1 m.p.vA m.p.vn m.p.vc (x.votes.map zv),row 112 3 m.p.pA m.p.pn m.p.pc (ab bp x.peers),row 65 12 m.sA m.S.length m.sc (ab bK m.S)]) w' hS)
 obtain⟨t,ht⟩: ∃ t,(if r=true then u.tm else x.term)=t:=⟨_,O⟩
 rw[ht] at hE hB ⊢
 by_cases h0:0<t
 ·rw[if_pos h0] at hE hB
  focus (refine qs ?_;refine qp ?_;refine qt (ah (v:= .int .u64 (t:Int)) O O O O) ?_;refine qd ?_;refine qz ?_;refine qT ?_;refine qr ?_;refine qp ?_;refine qt (ai (ds:=aW (⟨2,0,u.F,t,(0,0),[],0,r,0,[],[]⟩:Ms) (⟨none,0,0,none,0,0,none,0,0,[]⟩:Mp)) O O O O O) ?_;(refine qe (cK (vs:=[.agg (aW (⟨2,0,u.F,t,(0,0),[],0,r,0,[],[]⟩:Ms) (⟨none,0,0,none,0,0,none,0,0,[]⟩:Mp)).toArray]) (size:=12) (ds:=aW (⟨2,0,u.F,t,(0,0),[],0,r,0,[],[]⟩:Ms) (⟨none,0,0,none,0,0,none,0,0,[]⟩:Mp)) O O O O O O (by simp[aV,dZ]) O (by omega)) ?_;rintro _ _ ⟨vb,rfl,rfl⟩);(refine qe (fF (f:=113) (mP g x m) (fun(y:Option Addr×Nat)=>mP g x (bT x m ((⟨2,0,u.F,t,(0,0),[],0,r,0,[],[]⟩:Ms),(⟨none,0,0,none,0,0,none,0,0,[]⟩:Mp)) y.1 y.2)) kT (fun w1 hS1 hS2=>dB w1 g x m hS2 (some ⟨vb,0,none⟩) 1 (⟨2,0,u.F,t,(0,0),[],0,r,0,[],[]⟩:Ms) (⟨none,0,0,none,0,0,none,0,0,[]⟩:Mp) (iw (dh (b:=vb) (t:=65) (As:=mP g x m) hS1 O)) (by omega)) O O) ?_;rintro _ _ ⟨⟨AS,cS⟩,rfl,_,rfl⟩;dsimp only[List.cons_append,List.nil_append]);refine qz ?_)
  have hfin:=fun(w':World)=>bR (w:=w) (M:=ar (mP g x m)) (g:=g) (x2:=x) (m2:=(bT x m ((⟨2,0,u.F,t,(0,0),[],0,r,0,[],[]⟩:Ms),(⟨none,0,0,none,0,0,none,0,0,[]⟩:Mp)) AS cS)) (Z:=zN) (D:=D) (ms:=m.S.map Prod.fst++[cD x u 2 t r 0]) (ib:=m.i) ⟨by simp[bT,eE,cD,gL],O,⟨hl.hvn,hl.hpn⟩,fun w2 h2=>⟨(h w2 h2.1).lg,fun s hs=>by
    rcases List.mem_append.1 hs with hs|hs
    ·exact(h w2 h2.1).ms s hs
    ·obtain rfl:=List.mem_singleton.1 hs
     exact⟨O,Nat.zero_le _,O,Rd.none_,fun m hm=>absurd hm (by simp),O,Nat.zero_le _,Rd.none_,Bs.nil _ _,Nat.zero_le _⟩⟩⟩ (w':=w')
  first
  |exact hE _ _ fun w' hS=>hfin w' (ae w' hS)
  |exact hB _ _ _ _ O fun w' hS=>hfin w' (ae w' hS)
 ·rw[if_neg h0] at hE hB
  focus (refine qs ?_;refine qp ?_;refine qt (ah (v:= .int .u64 (t:Int)) O O O O) ?_;refine qf ?_;refine qz ?_;refine qF ?_;refine qx ?_)
  have hfin:=fun(w':World)=>eg (w:=w) (M:=ar (mP g x m)) (g:=g) (x2:=x) (m2:=m) (D:=D) (ms:=m.S.map Prod.fst++[]) (ib:=m.i) ⟨by simp,O,hl,fun w2 h2=>h w2 h2.1⟩ (w':=w')
  first
  |exact hE _ _ fun w' hS=>hfin w' (ae w' hS)
  |exact hB _ _ _ _ O fun w' hS=>hfin w' (ae w' hS)
def fY (x:Rs) (m:Ms):Rs×List Ms×Bool:=if m.tm<x.term then (x,[cD x m 6 x.term false 0],false) else if x.role=4 then (x,[],false) else (fU x m,[],true)
theorem vX (who:Int) (t:Nat):Tryz.prog.built 65 [(0,.int .i64 6),(2,.int .i64 who),(3,.int .u64 (t:Int))]=some (aW ⟨6,0,who,t,(0,0),[],0,false,0,[],[]⟩ ⟨none,0,0,none,0,0,none,0,0,[]⟩).toArray:=by kernel_rfl
theorem rZ (w:World) (g:Nat) (x:Rs) (m:Mm) (hS0:St w (ar (mP g x m)) (mP g x m) w) (D:Kw) (hD:Kd D (mP g x m) w) (h: ∀ w',D w'→McR w' x m) (hl:McL x m) (u:Ms) (q:Mp) (hSm:m.S.length≤800):Gives Tryz.prog 173 [.pointer (some ⟨g,0,none⟩),.agg (aW u q).toArray] (mP g x m) w (X:=Mm×Asn) (fun _=> .bool (fY x u).2.2) (fun y=>y.1.S.map Prod.fst=m.S.map Prod.fst++(fY x u).2.1∧y.1.i=m.i∧McL (fY x u).1 y.1∧ ∀ w',K2 D y.2 w'→McR w' (fY x u).1 y.1) (fun y=>mP g (fY x u).1 y.1++[y.2]):=by
 refine aP Tryz.func173 O Tryz.ntmps173 Tryz.results173 (by simp) hS0 (fun B hB=>?_)
 refine ez ?_
 by_cases h1:u.tm<x.term
 ·have e:fY x u=(x,[cD x u 6 x.term false 0],false):=if_pos h1
  rw[e] at hB
  dsimp only at hB
  focus (refine qs ?_;(refine qe (ap (cs:=aW u q) O) ?_;rintro _ _ ⟨b3,rfl,rfl⟩);refine qp ?_;refine qz ?_;refine qq ?_;refine qq ?_;(refine dQ 8 ?_;(refine dp 0 ?_);(refine dt 1 O (ah (v:= .int .u64 (u.tm:Int)) O O O O) ?_);(refine dp 2 ?_);(refine dt 3 O (ac O) ?_);(refine dp 4 ?_);(refine dp 5 ?_);(refine dl 6 ?_);(refine cZ 7 ?_);refine dn ?_);refine qT ?_;refine qq ?_)
  refine dS [pt b3 65 (aW u q),pt g 89 (aD x m)] 11 ?_
  refine dp 0 ?_
  refine dp 1 ?_
  refine dt 2 O (ah (v:= .int .i64 u.F) O O O O) ?_
  refine dp 3 ?_
  refine dt 4 O (ac O) ?_
  refine dp 5 ?_
  refine dp 6 ?_
  refine dl 7 ?_
  refine dt 8 O (ku O O O (vX _ _)) ?_
  refine dE 9 O (cK (vs:=[.agg (aW (⟨6,0,u.F,x.term,(0,0),[],0,false,0,[],[]⟩:Ms) (⟨none,0,0,none,0,0,none,0,0,[]⟩:Mp)).toArray]) (size:=12) (ds:=aW (⟨6,0,u.F,x.term,(0,0),[],0,false,0,[],[]⟩:Ms) (⟨none,0,0,none,0,0,none,0,0,[]⟩:Mp)) O O O O O O (by simp[aV,dZ]) O (by omega)) ?_
  rintro _ _ ⟨vb,rfl,rfl⟩
  refine nx ?_
  refine dE 10 O (fF (f:=113) (mP g x m) (fun(y:Option Addr×Nat)=>mP g x (bT x m ((⟨6,0,u.F,x.term,(0,0),[],0,false,0,[],[]⟩:Ms),(⟨none,0,0,none,0,0,none,0,0,[]⟩:Mp)) y.1 y.2)) kT (fun w1 hS1 hS2=>dB w1 g x m hS2 (some ⟨vb,0,none⟩) 1 (⟨6,0,u.F,x.term,(0,0),[],0,false,0,[],[]⟩:Ms) (⟨none,0,0,none,0,0,none,0,0,[]⟩:Mp) (iw (dh (b:=vb) (t:=65) (As:=mP g x m) hS1 O)) (by omega)) O O) ?_
  rintro _ _ ⟨⟨AS,cS⟩,rfl,_,rfl⟩;dsimp only[List.cons_append,List.nil_append]
  refine dV ?_
  refine dn ?_
  skip
  focus (refine qs ?_;refine qp ?_;refine qz ?_)
  exact hB _ _ _ _ _ O O fun w' hS=>⟨((bT x m ((⟨6,0,u.F,x.term,(0,0),[],0,false,0,[],[]⟩:Ms),(⟨none,0,0,none,0,0,none,0,0,[]⟩:Mp)) AS cS),zN),O,⟨by simp[bT,eE,cD,gL],O,⟨hl.hvn,hl.hpn⟩,fun w2 h2=>⟨(h w2 h2.1).lg,fun s hs=>by
  rcases List.mem_append.1 hs with hs|hs
  ·exact(h w2 h2.1).ms s hs
  ·obtain rfl:=List.mem_singleton.1 hs
   exact⟨O,Nat.zero_le _,O,Rd.none_,fun m hm=>absurd hm (by simp),O,Nat.zero_le _,Rd.none_,Bs.nil _ _,Nat.zero_le _⟩⟩⟩,(ae (H':=[zN,pt g 89 (aD x (bT x m ((⟨6,0,u.F,x.term,(0,0),[],0,false,0,[],[]⟩:Ms),(⟨none,0,0,none,0,0,none,0,0,[]⟩:Mp)) AS cS)),row 3 1 (bT x m ((⟨6,0,u.F,x.term,(0,0),[],0,false,0,[],[]⟩:Ms),(⟨none,0,0,none,0,0,none,0,0,[]⟩:Mp)) AS cS).p.vA (bT x m ((⟨6,0,u.F,x.term,(0,0),[],0,false,0,[],[]⟩:Ms),(⟨none,0,0,none,0,0,none,0,0,[]⟩:Mp)) AS cS).p.vn (bT x m ((⟨6,0,u.F,x.term,(0,0),[],0,false,0,[],[]⟩:Ms),(⟨none,0,0,none,0,0,none,0,0,[]⟩:Mp)) AS cS).p.vc (x.votes.map zv),row 112 3 (bT x m ((⟨6,0,u.F,x.term,(0,0),[],0,false,0,[],[]⟩:Ms),(⟨none,0,0,none,0,0,none,0,0,[]⟩:Mp)) AS cS).p.pA (bT x m ((⟨6,0,u.F,x.term,(0,0),[],0,false,0,[],[]⟩:Ms),(⟨none,0,0,none,0,0,none,0,0,[]⟩:Mp)) AS cS).p.pn (bT x m ((⟨6,0,u.F,x.term,(0,0),[],0,false,0,[],[]⟩:Ms),(⟨none,0,0,none,0,0,none,0,0,[]⟩:Mp)) AS cS).p.pc (ab bp x.peers),row 65 12 (bT x m ((⟨6,0,u.F,x.term,(0,0),[],0,false,0,[],[]⟩:Ms),(⟨none,0,0,none,0,0,none,0,0,[]⟩:Mp)) AS cS).sA (bT x m ((⟨6,0,u.F,x.term,(0,0),[],0,false,0,[],[]⟩:Ms),(⟨none,0,0,none,0,0,none,0,0,[]⟩:Mp)) AS cS).S.length (bT x m ((⟨6,0,u.F,x.term,(0,0),[],0,false,0,[],[]⟩:Ms),(⟨none,0,0,none,0,0,none,0,0,[]⟩:Mp)) AS cS).sc (ab bK (bT x m ((⟨6,0,u.F,x.term,(0,0),[],0,false,0,[],[]⟩:Ms),(⟨none,0,0,none,0,0,none,0,0,[]⟩:Mp)) AS cS).S)]) w' hS).perm (List.perm_append_comm (l₁:=[zN]))⟩
 by_cases h2:x.role=4
 ·have e:fY x u=(x,[],false):=by unfold fY;rw[if_neg h1,if_pos h2]
  rw[e] at hB
  dsimp only at hB
  focus (refine qs ?_;(refine qe (ap (cs:=aW u q) O) ?_;rintro _ _ ⟨b3,rfl,rfl⟩);refine qp ?_;refine qz ?_;refine qq ?_;refine qq ?_;(refine dQ 8 ?_;(refine dp 0 ?_);(refine dt 1 O (ah (v:= .int .u64 (u.tm:Int)) O O O O) ?_);(refine dp 2 ?_);(refine dt 3 O (ac O) ?_);(refine dp 4 ?_);(refine dp 5 ?_);(refine dl 6 ?_);(refine eI 7 ?_);refine dn ?_);refine qF ?_;refine qx ?_;refine qq ?_;refine qs ?_;refine qp ?_;refine qt (ac O) ?_;refine qp ?_;refine qp ?_;refine qt (ah O O O O) ?_;refine qd ?_;refine qz ?_;refine qT ?_;refine qs ?_;refine qp ?_;refine qz ?_)
  exact hB _ _ _ _ _ O O fun w' hS=>⟨(m,zN),O,⟨by simp,O,hl,fun w2 h2=>h w2 h2.1⟩,(ae (H':=[zN,pt g 89 (aD x m),row 3 1 m.p.vA m.p.vn m.p.vc (x.votes.map zv),row 112 3 m.p.pA m.p.pn m.p.pc (ab bp x.peers),row 65 12 m.sA m.S.length m.sc (ab bK m.S)]) w' hS).perm (List.perm_append_comm (l₁:=[zN]))⟩
 have e:fY x u=(fU x u,[],true):=by unfold fY;rw[if_neg h1,if_neg h2]
 rw[e] at hB
 dsimp only at hB
 focus (refine qs ?_;(refine qe (ap (cs:=aW u q) O) ?_;rintro _ _ ⟨b3,rfl,rfl⟩);refine qp ?_;refine qz ?_;refine qq ?_;refine qq ?_;(refine dQ 8 ?_;(refine dp 0 ?_);(refine dt 1 O (ah (v:= .int .u64 (u.tm:Int)) O O O O) ?_);(refine dp 2 ?_);(refine dt 3 O (ac O) ?_);(refine dp 4 ?_);(refine dp 5 ?_);(refine dl 6 ?_);(refine eI 7 ?_);refine dn ?_);refine qF ?_;refine qx ?_;refine qq ?_;refine qs ?_;refine qp ?_;refine qt (ac O) ?_;refine qp ?_;refine qp ?_;refine qt (ah O O O O) ?_;refine qf ?_;refine qz ?_;refine qF ?_;refine qx ?_;refine qs ?_;refine qp ?_;(refine qe (fF (f:=72) (mP g x m) (fun _:Unit=>mP g (fl x) (dU m)) Ds (fun w1 hS1 hS2=>fX w1 g x m hS2) O O) ?_;rintro _ _ ⟨_,rfl,_,rfl⟩;dsimp only[List.cons_append,List.nil_append]);refine qn ?_;(iterate 3 refine qp ?_);refine qt (ah (v:= .int .i64 u.F) O O O O) ?_;refine qt (ac O) ?_;refine qp ?_;refine qp ?_;(refine qw (aw (cs:=aD (fl x) (dU m)) (cs':=aD {fl x with leader:=u.F} (dU m)) O O O O O O (by show _<16;omega)) ?_;rintro _ _ rfl);refine qt (ac O) ?_;refine qp ?_;refine qp ?_;(refine qw (aw (cs:=aD {fl x with leader:=u.F} (dU m)) (cs':=aD (fU x u) (dU m)) O O O O O O (by show _<16;omega)) ?_;rintro _ _ rfl);refine qn ?_;refine qd ?_;refine qz ?_)
 exact hB _ _ _ _ _ O O fun w' hS=>⟨((dU m),zN),O,⟨by simp[dU],O,⟨O,O⟩,fun w2 h2=>⟨(h w2 h2.1).lg.like O O O O O O O O,(h w2 h2.1).ms⟩⟩,(ae (H':=[zN,pt g 89 (aD (fU x u) (dU m)),row 3 1 (dU m).p.vA (dU m).p.vn (dU m).p.vc ((fl x).votes.map zv),row 112 3 (dU m).p.pA (dU m).p.pn (dU m).p.pc (ab bp (fl x).peers),row 65 12 (dU m).sA (dU m).S.length (dU m).sc (ab bK (dU m).S)]) w' hS).perm (List.perm_append_comm (l₁:=[zN]))⟩
theorem tF (w:World) (g:Nat) (x:Rs) (m:Mm) (hS0:St w (ar (mP g x m)) (mP g x m) w) (D:Kw) (hD:Kd D (mP g x m) w) (h: ∀ w',D w'→McR w' x m) (hl:McL x m) (u:Ms) (q:Mp) (hup:C.mI x.votes) (hvm:x.votes.length≤900) (htm:x.term≤4611686018427387904) (hcf:C.right x.cf=true) (hes:x.es.length≤900) (hlt:(lastP x).1≤18446744073709551614) (hSm:m.S.length≤800) (hu2:(nX x).1=0→RsU (fx x)):Mth g x (ee x u).1 m (ee x u).2 m.i D 145 [.agg (aW u q).toArray] w:=by
 unfold Mth
 refine bO Tryz.func145 O Tryz.ntmps145 Tryz.results145 (by simp) hS0 (fun B hE hB=>?_)
 have h5:(aJ x).length≤5:=dG hcf _
 refine ez ?_
 focus (refine qs ?_;(refine qe (ap (cs:=aW u q) O) ?_;rintro _ _ ⟨b3,rfl,rfl⟩);refine qz ?_;refine qq ?_)
 by_cases hr3:x.role=3
 rotate_left
 ·skip
  have e:ee x u=(x,[]):=by unfold ee;rw[if_neg (fun c=>hr3 c.1)]
  rw[e] at hE hB
  dsimp only at hE hB
  refine dS [pt b3 65 (aW u q),pt g 89 (aD x m)] 26 ?_
  refine dp 0 ?_
  refine dt 1 O (ac O) ?_
  refine dp 2 ?_
  refine dp 3 ?_
  refine dl 4 ?_
  refine eI 5 ?_
  refine dp 6 ?_
  refine dk 7 ?_
  refine dk 8 ?_
  refine dp 9 ?_
  refine dp 10 ?_
  refine dk 11 ?_
  refine dk 12 ?_
  refine dk 13 ?_
  refine dk 14 ?_
  refine dk 15 ?_
  refine dk 16 ?_
  refine dk 17 ?_
  refine dk 18 ?_
  refine dp 19 ?_
  refine dp 20 ?_
  refine dk 21 ?_
  refine dk 22 ?_
  refine dk 23 ?_
  refine dk 24 ?_
  refine dp 25 ?_
  refine dn ?_
  skip
  focus (refine qF ?_;refine qx ?_)
  have hfin:=fun(w':World)=>eg (w:=w) (M:=ar (mP g x m)) (g:=g) (x2:=x) (m2:=m) (D:=D) (ms:=m.S.map Prod.fst++[]) (ib:=m.i) ⟨by simp,O,hl,fun w2 h2=>h w2 h2.1⟩ (w':=w')
  first
  |exact hE _ _ fun w' hS=>hfin w' (ae w' hS)
  |exact hB _ _ _ _ O fun w' hS=>hfin w' (ae w' hS)
 cases hok:u.ok
 ·skip
  have e:ee x u=(x,[]):=by unfold ee;rw[if_neg (fun c=>by rw[hok] at c;cases c.2.1)]
  rw[e] at hE hB
  dsimp only at hE hB
  refine dS [pt b3 65 (aW u q),pt g 89 (aD x m)] 26 ?_
  refine dp 0 ?_
  refine dt 1 O (ac O) ?_
  refine dp 2 ?_
  refine dp 3 ?_
  refine dl 4 ?_
  refine cZ 5 ?_
  refine dp 6 ?_
  refine dp 7 ?_
  refine dt 8 O (ah (v:= .bool u.ok) O O O O) ?_
  refine dt 9 O (jW O hok) ?_
  refine dp 10 ?_
  refine dk 11 ?_
  refine dk 12 ?_
  refine dk 13 ?_
  refine dk 14 ?_
  refine dk 15 ?_
  refine dk 16 ?_
  refine dk 17 ?_
  refine dk 18 ?_
  refine dp 19 ?_
  refine dp 20 ?_
  refine dk 21 ?_
  refine dk 22 ?_
  refine dk 23 ?_
  refine dk 24 ?_
  refine dp 25 ?_
  refine dn ?_
  skip
  focus (refine qF ?_;refine qx ?_)
  have hfin:=fun(w':World)=>eg (w:=w) (M:=ar (mP g x m)) (g:=g) (x2:=x) (m2:=m) (D:=D) (ms:=m.S.map Prod.fst++[]) (ib:=m.i) ⟨by simp,O,hl,fun w2 h2=>h w2 h2.1⟩ (w':=w')
  first
  |exact hE _ _ fun w' hS=>hfin w' (ae w' hS)
  |exact hB _ _ _ _ O fun w' hS=>hfin w' (ae w' hS)
 by_cases hyt:u.tm=x.term
 rotate_left
 ·skip
  have e:ee x u=(x,[]):=by unfold ee;rw[if_neg (fun c=>hyt c.2.2)]
  rw[e] at hE hB
  dsimp only at hE hB
  refine dS [pt b3 65 (aW u q),pt g 89 (aD x m)] 26 ?_
  refine dp 0 ?_
  refine dt 1 O (ac O) ?_
  refine dp 2 ?_
  refine dp 3 ?_
  refine dl 4 ?_
  refine cZ 5 ?_
  refine dp 6 ?_
  refine dp 7 ?_
  refine dt 8 O (ah (v:= .bool u.ok) O O O O) ?_
  refine dt 9 O (jW O hok) ?_
  refine dp 10 ?_
  refine dp 11 ?_
  refine dt 12 O (ah (v:= .int .u64 (u.tm:Int)) O O O O) ?_
  refine dp 13 ?_
  refine dt 14 O (ac O) ?_
  refine dp 15 ?_
  refine dp 16 ?_
  refine dl 17 ?_
  refine eI 18 ?_
  refine dp 19 ?_
  refine dp 20 ?_
  refine dk 21 ?_
  refine dk 22 ?_
  refine dk 23 ?_
  refine dk 24 ?_
  refine dp 25 ?_
  refine dn ?_
  skip
  focus (refine qF ?_;refine qx ?_)
  have hfin:=fun(w':World)=>eg (w:=w) (M:=ar (mP g x m)) (g:=g) (x2:=x) (m2:=m) (D:=D) (ms:=m.S.map Prod.fst++[]) (ib:=m.i) ⟨by simp,O,hl,fun w2 h2=>h w2 h2.1⟩ (w':=w')
  first
  |exact hE _ _ fun w' hS=>hfin w' (ae w' hS)
  |exact hB _ _ _ _ O fun w' hS=>hfin w' (ae w' hS)
 cases hmj:C.dD (aJ x) (bg x.votes u.F)
 ·have e:ee x u=({x with votes:=bg x.votes u.F},[]):=by unfold ee;rw[if_pos ⟨hr3,hok,hyt⟩,if_neg (by rw[hmj];decide)]
  rw[e] at hE hB
  dsimp only at hE hB
  refine dS [pt b3 65 (aW u q),pt g 89 (aD x m)] 26 ?_
  refine dp 0 ?_
  refine dt 1 O (ac O) ?_
  refine dp 2 ?_
  refine dp 3 ?_
  refine dl 4 ?_
  refine cZ 5 ?_
  refine dp 6 ?_
  refine dp 7 ?_
  refine dt 8 O (ah (v:= .bool u.ok) O O O O) ?_
  refine dt 9 O (jW O hok) ?_
  refine dp 10 ?_
  refine dp 11 ?_
  refine dt 12 O (ah (v:= .int .u64 (u.tm:Int)) O O O O) ?_
  refine dp 13 ?_
  refine dt 14 O (ac O) ?_
  refine dp 15 ?_
  refine dp 16 ?_
  refine dl 17 ?_
  refine cZ 18 ?_
  refine dp 19 ?_
  refine dp 20 ?_
  refine dp 21 ?_
  refine dp 22 ?_
  refine dt 23 O (ah (v:= .int .i64 u.F) O O O O) ?_
  refine dE 24 O (cq (f:=172) (D:=D) (Z:=zN) (mP g x m) (fun z:(Option Addr×Nat)×Asn=>mP g {x with votes:=bg x.votes u.F} (iy m (bg x.votes u.F).length z.1.1 z.1.2)) hD ux (fun w1 _ hk hS1=>iz w1 g x m hS1 (K2 D zN) hk (fun w2 h2=>h w2 h2.1) hl h5 hup hvm u.F false hmj) O O) ?_
  rintro _ _ ⟨⟨⟨AV,cV⟩,ZV⟩,Z1,rfl,_,hold,hnew,rfl⟩;dsimp only[List.cons_append,List.nil_append]
  refine dV ?_
  refine dp 25 ?_
  refine dn ?_
  skip
  focus (refine qF ?_;refine qx ?_)
  have hfin:=fun(w':World)=>bR (w:=w) (M:=ar (mP g x m)) (g:=g) (x2:={x with votes:=bg x.votes u.F}) (m2:=(iy m (bg x.votes u.F).length AV cV)) (Z:=Z1) (D:=D) (ms:=m.S.map Prod.fst++[]) (ib:=m.i) ⟨by show m.S.map Prod.fst=_;simp,O,⟨O,hl.hpn⟩,fun w2 h2=>⟨(h w2 h2.1).lg.like O O O O O O O O,(h w2 h2.1).ms⟩⟩ (w':=w')
  first
  |exact hE _ _ fun w' hS=>hfin w' (ae w' hS)
  |exact hB _ _ _ _ O fun w' hS=>hfin w' (ae w' hS)
 have e:ee x u=(da {x with votes:=bg x.votes u.F},eH {x with votes:=bg x.votes u.F}):=by unfold ee;rw[if_pos ⟨hr3,hok,hyt⟩,if_pos hmj]
 rw[e] at hE hB
 dsimp only at hE hB
 refine dS [pt b3 65 (aW u q),pt g 89 (aD x m)] 26 ?_
 refine dp 0 ?_
 refine dt 1 O (ac O) ?_
 refine dp 2 ?_
 refine dp 3 ?_
 refine dl 4 ?_
 refine cZ 5 ?_
 refine dp 6 ?_
 refine dp 7 ?_
 refine dt 8 O (ah (v:= .bool u.ok) O O O O) ?_
 refine dt 9 O (jW O hok) ?_
 refine dp 10 ?_
 refine dp 11 ?_
 refine dt 12 O (ah (v:= .int .u64 (u.tm:Int)) O O O O) ?_
 refine dp 13 ?_
 refine dt 14 O (ac O) ?_
 refine dp 15 ?_
 refine dp 16 ?_
 refine dl 17 ?_
 refine cZ 18 ?_
 refine dp 19 ?_
 refine dp 20 ?_
 refine dp 21 ?_
 refine dp 22 ?_
 refine dt 23 O (ah (v:= .int .i64 u.F) O O O O) ?_
 refine dE 24 O (cq (f:=172) (D:=D) (Z:=zN) (mP g x m) (fun z:(Option Addr×Nat)×Asn=>mP g {x with votes:=bg x.votes u.F} (iy m (bg x.votes u.F).length z.1.1 z.1.2)) hD ux (fun w1 _ hk hS1=>iz w1 g x m hS1 (K2 D zN) hk (fun w2 h2=>h w2 h2.1) hl h5 hup hvm u.F true hmj) O O) ?_
 rintro _ _ ⟨⟨⟨AV,cV⟩,ZV⟩,Z1,rfl,_,hold,hnew,rfl⟩;dsimp only[List.cons_append,List.nil_append]
 refine dV ?_
 refine dp 25 ?_
 refine dn ?_
 skip
 have hcall: ∀ (w1:World),St w1 (ar (mP g {x with votes:=bg x.votes u.F} (iy m (bg x.votes u.F).length AV cV))) (mP g {x with votes:=bg x.votes u.F} (iy m (bg x.votes u.F).length AV cV)) w1→Kd (K2 D Z1) (mP g {x with votes:=bg x.votes u.F} (iy m (bg x.votes u.F).length AV cV)) w1→Gives Tryz.prog 165 ([.pointer (some ⟨g,0,none⟩)]) (mP g {x with votes:=bg x.votes u.F} (iy m (bg x.votes u.F).length AV cV)) w1 (X:=Mm×Asn) (fun _=> .tuple #[]) (fun y=>y.1.S.map Prod.fst=(iy m (bg x.votes u.F).length AV cV).S.map Prod.fst++eH {x with votes:=bg x.votes u.F}∧y.1.i=m.i∧McL (da {x with votes:=bg x.votes u.F}) y.1∧ ∀ w',K2 (K2 D Z1) y.2 w'→McR w' (da {x with votes:=bg x.votes u.F}) y.1) (fun y=>mP g (da {x with votes:=bg x.votes u.F}) y.1++[y.2]):=fun w1 hS1 hk=>by
  have h9:=oY w1 g {x with votes:=bg x.votes u.F} (iy m (bg x.votes u.F).length AV cV) hS1 (K2 D Z1) hk (fun w2 h2=>⟨(h w2 h2.1).lg.like O O O O O O O O,(h w2 h2.1).ms⟩) ⟨O,hl.hpn⟩ hcf htm hes hlt hu2 hSm
  unfold Mth at h9
  exact h9
 focus (refine qT ?_;refine qr ?_;refine qp ?_;(refine qe (cq (f:=165) (D:=D) (Z:=Z1) (mP g {x with votes:=bg x.votes u.F} (iy m (bg x.votes u.F).length AV cV)) (fun z:Mm×Asn=>mP g (da {x with votes:=bg x.votes u.F}) z.1) hD DJ (fun w1 _ hk hS1=>hcall w1 hS1 hk) O O) ?_;rintro _ _ ⟨⟨m2,C2⟩,Z2,rfl,⟨hm2S,hm2i,hl2,hm2R⟩,hold0,hnew0,rfl⟩;dsimp only[List.cons_append,List.nil_append] at hm2S hm2i hl2 hm2R ⊢);refine qz ?_)
 have hfin:=fun(w':World)=>bR (w:=w) (M:=ar (mP g x m)) (g:=g) (x2:=(da {x with votes:=bg x.votes u.F})) (m2:=m2) (Z:=Z2) (D:=D) (ms:=m.S.map Prod.fst++eH {x with votes:=bg x.votes u.F}) (ib:=m.i) ⟨hm2S,hm2i,hl2,fun w2 h2=>hm2R w2 (hnew0 w2 h2)⟩ (w':=w')
 first
 |exact hE _ _ fun w' hS=>hfin w' (ae w' hS)
 |exact hB _ _ _ _ O fun w' hS=>hfin w' (ae w' hS)
theorem tG (w:World) (g:Nat) (x:Rs) (m:Mm) (hS0:St w (ar (mP g x m)) (mP g x m) w) (D:Kw) (hD:Kd D (mP g x m) w) (h: ∀ w',D w'→McR w' x m) (hl:McL x m) (u:Ms) (q:Mp) (hup:C.mI x.votes) (hvm:x.votes.length≤900) (hcf:C.right x.cf=true) (hes:x.es.length≤900) (hlt:(lastP x).1≤18446744073709551614) (hSm:m.S.length≤800) (htm:x.term<4611686018427387904) (hu2:(nX (bf x)).1=0→RsU (fx (bf x))) (hr2:x.role=2) (hok:u.ok=true) (hyt:u.tm=x.term+1) (hmj:C.dD (aJ x) (bg x.votes u.F)=true) (hmj2:C.dD (aJ x) [x.me]=true):Mth g x (da (bf {x with votes:=bg x.votes u.F})) m (eH (bf {x with votes:=bg x.votes u.F})) m.i D 143 [.agg (aW u q).toArray] w:=by
 unfold Mth
 refine bO Tryz.func143 O Tryz.ntmps143 Tryz.results143 (by simp) hS0 (fun B hE hB=>?_)
 have h5:(aJ x).length≤5:=dG hcf _
 refine ez ?_
 focus (refine qs ?_;(refine qe (ap (cs:=aW u q) O) ?_;rintro _ _ ⟨b3,rfl,rfl⟩);refine qz ?_;refine qq ?_)
 refine dS [pt b3 65 (aW u q),pt g 89 (aD x m)] 27 ?_
 refine dp 0 ?_
 refine dt 1 O (ac O) ?_
 refine dp 2 ?_
 refine dp 3 ?_
 refine dl 4 ?_
 refine cZ 5 ?_
 refine dp 6 ?_
 refine dp 7 ?_
 refine dt 8 O (ah (v:= .bool u.ok) O O O O) ?_
 refine dt 9 O (jW O hok) ?_
 refine dp 10 ?_
 refine dp 11 ?_
 refine dt 12 O (ah (v:= .int .u64 (u.tm:Int)) O O O O) ?_
 refine dp 13 ?_
 refine dt 14 O (ac O) ?_
 refine dp 15 ?_
 refine dp 16 ?_
 refine dl 17 ?_
 (refine dt 18 O (aI O O (by unfold aH;omega)) ?_)
 refine cZ 19 ?_
 refine dp 20 ?_
 refine dp 21 ?_
 refine dp 22 ?_
 refine dp 23 ?_
 refine dt 24 O (ah (v:= .int .i64 u.F) O O O O) ?_
 refine dE 25 O (cq (f:=172) (D:=D) (Z:=zN) (mP g x m) (fun z:(Option Addr×Nat)×Asn=>mP g {x with votes:=bg x.votes u.F} (iy m (bg x.votes u.F).length z.1.1 z.1.2)) hD ux (fun w1 _ hk hS1=>iz w1 g x m hS1 (K2 D zN) hk (fun w2 h2=>h w2 h2.1) hl h5 hup hvm u.F true hmj) O O) ?_
 rintro _ _ ⟨⟨⟨AV,cV⟩,ZV⟩,Z1,rfl,_,hold,hnew,rfl⟩;dsimp only[List.cons_append,List.nil_append]
 refine dV ?_
 refine dp 26 ?_
 refine dn ?_
 skip
 have hcall: ∀ (w1:World),St w1 (ar (mP g {x with votes:=bg x.votes u.F} (iy m (bg x.votes u.F).length AV cV))) (mP g {x with votes:=bg x.votes u.F} (iy m (bg x.votes u.F).length AV cV)) w1→Kd (K2 D Z1) (mP g {x with votes:=bg x.votes u.F} (iy m (bg x.votes u.F).length AV cV)) w1→Gives Tryz.prog 112 ([.pointer (some ⟨g,0,none⟩)]) (mP g {x with votes:=bg x.votes u.F} (iy m (bg x.votes u.F).length AV cV)) w1 (X:=Mm×Asn) (fun _=> .tuple #[]) (fun y=>y.1.S.map Prod.fst=(iy m (bg x.votes u.F).length AV cV).S.map Prod.fst++eH (bf {x with votes:=bg x.votes u.F})∧y.1.i=m.i∧McL (da (bf {x with votes:=bg x.votes u.F})) y.1∧ ∀ w',K2 (K2 D Z1) y.2 w'→McR w' (da (bf {x with votes:=bg x.votes u.F})) y.1) (fun y=>mP g (da (bf {x with votes:=bg x.votes u.F})) y.1++[y.2]):=fun w1 hS1 hk=>by
  have h9:=m8 w1 g {x with votes:=bg x.votes u.F} (iy m (bg x.votes u.F).length AV cV) hS1 (K2 D Z1) hk (fun w2 h2=>⟨(h w2 h2.1).lg.like O O O O O O O O,(h w2 h2.1).ms⟩) ⟨O,hl.hpn⟩ (by show x.term<_;omega) hcf hes hlt hSm hu2 hmj2
  unfold Mth at h9
  exact h9
 focus (refine qT ?_;refine qr ?_;refine qp ?_;(refine qe (cq (f:=112) (D:=D) (Z:=Z1) (mP g {x with votes:=bg x.votes u.F} (iy m (bg x.votes u.F).length AV cV)) (fun z:Mm×Asn=>mP g (da (bf {x with votes:=bg x.votes u.F})) z.1) hD zw (fun w1 _ hk hS1=>hcall w1 hS1 hk) O O) ?_;rintro _ _ ⟨⟨m2,C2⟩,Z2,rfl,⟨hm2S,hm2i,hl2,hm2R⟩,hold0,hnew0,rfl⟩;dsimp only[List.cons_append,List.nil_append] at hm2S hm2i hl2 hm2R ⊢);refine qz ?_)
 have hfin:=fun(w':World)=>bR (w:=w) (M:=ar (mP g x m)) (g:=g) (x2:=(da (bf {x with votes:=bg x.votes u.F}))) (m2:=m2) (Z:=Z2) (D:=D) (ms:=m.S.map Prod.fst++eH (bf {x with votes:=bg x.votes u.F})) (ib:=m.i) ⟨hm2S,hm2i,hl2,fun w2 h2=>hm2R w2 (hnew0 w2 h2)⟩ (w':=w')
 first
 |exact hE _ _ fun w' hS=>hfin w' (ae w' hS)
 |exact hB _ _ _ _ O fun w' hS=>hfin w' (ae w' hS)
theorem Mth.of {g:Nat} {x x2 x3:Rs} {m:Mm} {ms ms3:List Ms} {ib:Bool} {D:Kw} {f:FuncId} {args:List Value} {w:World} (h:Mth g x x2 m ms ib D f args w) (e1:x2=x3) (e2:ms=ms3):Mth g x x3 m ms3 ib D f args w:=by subst e1;subst e2;exact h
theorem o0 (l:List Int) (f:Int→Ms):l.flatMap (fun n=>[f n])=l.map f:=by
 induction l with
 |nil=>rfl
 |cons a l ih=>rw[List.flatMap_cons,ih];rfl
theorem tH (w:World) (g:Nat) (x:Rs) (m:Mm) (hS0:St w (ar (mP g x m)) (mP g x m) w) (D:Kw) (hD:Kd D (mP g x m) w) (h: ∀ w',D w'→McR w' x m) (hl:McL x m) (u:Ms) (q:Mp) (hup:C.mI x.votes) (hvm:x.votes.length≤900) (hcf:C.right x.cf=true) (hes:x.es.length≤900) (hlt:(lastP x).1≤18446744073709551614) (hSm:m.S.length≤800) (htm:x.term≤4611686018427387904) (hyM:u.tm≤4611686018427387904) (hu2:(nX (bf x)).1=0→RsU (fx (bf x))):Mth g x (dP x u).1 m (dP x u).2 m.i D 143 [.agg (aW u q).toArray] w:=by
 have h5:(aJ x).length≤5:=dG hcf _
 by_cases hr2:x.role=2
 rotate_left
 ·exact(p9 w g x m hS0 D hD h hl h5 hup hvm htm u q hr2).of (by unfold dP;rw[if_neg (fun c=>hr2 c.1)]) (by unfold dP;rw[if_neg (fun c=>hr2 c.1)])
 cases hok:u.ok
 ·exact(qc w g x m hS0 D hD h hl h5 hup hvm htm u q hr2 hok).of (by unfold dP;rw[if_neg (fun c=>by rw[hok] at c;cases c.2.1)]) (by unfold dP;rw[if_neg (fun c=>by rw[hok] at c;cases c.2.1)])
 by_cases hyt:u.tm=x.term+1
 rotate_left
 ·exact(qg w g x m hS0 D hD h hl h5 hup hvm htm u q hr2 hok hyt).of (by unfold dP;rw[if_neg (fun c=>hyt c.2.2)]) (by unfold dP;rw[if_neg (fun c=>hyt c.2.2)])
 cases hmj:C.dD (aJ x) (bg x.votes u.F)
 ·exact(tp w g x m hS0 D hD h hl h5 hup hvm htm u q hr2 hok hyt hmj).of (by unfold dP;rw[if_pos ⟨hr2,hok,hyt⟩,hmj];rfl) (by unfold dP;rw[if_pos ⟨hr2,hok,hyt⟩,hmj];rfl)
 cases hmj2:C.dD (aJ x) [x.me]
 ·refine(lE w g x m hS0 D hD h hl h5 hup hvm htm u q hr2 hok hyt hmj hmj2 hSm).of ?_ ?_
  ·unfold dP jS
   rw[if_pos ⟨hr2,hok,hyt⟩,hmj]
   show _=(if C.dD (aJ x) [x.me]=true then _ else _)
   rw[hmj2];rfl
  ·unfold dP jT
   rw[if_pos ⟨hr2,hok,hyt⟩,hmj]
   show _=(if C.dD (aJ x) [x.me]=true then _ else _)
   rw[hmj2,o0];rfl
 ·refine(tG w g x m hS0 D hD h hl u q hup hvm hcf hes hlt hSm (by omega) hu2 hr2 hok hyt hmj hmj2).of ?_ ?_
  ·unfold dP jS
   rw[if_pos ⟨hr2,hok,hyt⟩,hmj]
   show _=(if C.dD (aJ x) [x.me]=true then _ else _)
   rw[hmj2];rfl
  ·unfold dP jT
   rw[if_pos ⟨hr2,hok,hyt⟩,hmj]
   show _=(if C.dD (aJ x) [x.me]=true then _ else _)
   rw[hmj2];rfl
theorem tI (w:World) (g:Nat) (x:Rs) (m:Mm) (hS0:St w (ar (mP g x m)) (mP g x m) w) (D:Kw) (hD:Kd D (mP g x m) w) (h: ∀ w',D w'→McR w' x m) (hl:McL x m) (bl:Nat) (lim:Int) (hbl: ∀ w':World,D w'→w'.cell? ⟨bl,0,none⟩=some (.int .i64 lim)) (hc0:0≤x.clock) (hc1:x.clock≤16) (hcf:C.right x.cf=true) (hes:x.es.length≤900) (hlt:(lastP x).1≤18446744073709551614) (hSm:m.S.length≤800) (huA:RsU x) (hpn:m.p.pn≤900) (hu2: ∀ c l,(nX (bf (bF {x with clock:=c,limit:=l}))).1=0→RsU (fx (bf (bF {x with clock:=c,limit:=l})))):Mth g x (dW x lim).1 m (dW x lim).2 m.i D 40 [.pointer (some ⟨bl,0,none⟩)] w:=by
 have h5:(aJ x).length≤5:=dG hcf _
 by_cases hr:x.role=4
 ·by_cases h2:2≤x.clock+1
  ·exact(tD w g x m hS0 D hD h hl bl lim hbl hc0 hc1 hr h2 huA hpn hcf hSm).of (by unfold dW;rw[if_pos hr,if_pos h2]) (by unfold dW;rw[if_pos hr,if_pos h2])
  ·exact(vL w g x m hS0 D hD h hl bl lim hbl hc0 hc1 hr (by omega)).of (by unfold dW;rw[if_pos hr,if_neg h2]) (by unfold dW;rw[if_pos hr,if_neg h2])
 by_cases hlm:x.limit≤x.clock+1
 rotate_left
 ·exact(jC w g x m hS0 D hD h hl bl lim hbl hc0 hc1 hr (by omega)).of (by unfold dW;rw[if_neg hr,if_neg hlm]) (by unfold dW;rw[if_neg hr,if_neg hlm])
 by_cases hyes:(C.right (aJ x)&&decide (x.me∈aJ x))=true∧x.term<4611686018427387904
 rotate_left
 ·have hno:(C.right (aJ x)&&decide (x.me∈aJ x))=false∨4611686018427387904≤x.term:=by
   cases hq:(C.right (aJ x)&&decide (x.me∈aJ x))
   ·exact .inl O
   ·exact .inr (Nat.le_of_not_lt fun h9=>hyes ⟨hq,h9⟩)
  exact(xV w g x m hS0 D hD h hl bl lim hbl hc0 hc1 hr hlm h5 hno).of (by unfold dW;rw[if_neg hr,if_pos hlm,if_neg hyes]) (by unfold dW;rw[if_neg hr,if_pos hlm,if_neg hyes])
 cases hmj:C.dD (aJ x) [x.me]
 ·refine(oP w g x m hS0 D hD h hl bl lim hbl hc0 hc1 hr hlm h5 hyes.1 hyes.2 hmj hSm).of ?_ ?_
  ·unfold dW vz
   rw[if_neg hr,if_pos hlm,if_pos hyes]
   show _=(if C.dD (aJ x) [x.me]=true then _ else _)
   rw[hmj];rfl
  ·unfold dW vB
   rw[if_neg hr,if_pos hlm,if_pos hyes]
   show _=(if C.dD (aJ x) [x.me]=true then _ else _)
   rw[hmj,o0];rfl
 ·refine(vU w g x m hS0 D hD h hl bl lim hbl hc0 hc1 hr hlm hyes.1 hyes.2 hmj hcf hSm hes hlt hu2).of ?_ ?_
  ·unfold dW vz jS
   rw[if_neg hr,if_pos hlm,if_pos hyes]
   show _=(if C.dD (aJ x) [x.me]=true then (if C.dD (aJ x) [x.me]=true then _ else _) else _)
   rw[hmj];rfl
  ·unfold dW vB jT
   rw[if_neg hr,if_pos hlm,if_pos hyes]
   show _=(if C.dD (aJ x) [x.me]=true then (if C.dD (aJ x) [x.me]=true then _ else _) else _)
   rw[hmj];rfl
def yQ (a:At) (l:List En) (a2:At) (l2:List En) (idx i:Nat):Bool:=decide (idx<a.1+i+1)||((eC a2 l2 (a.1+i+1)).2&&decide ((eC a l (a.1+i+1)).1=(eC a2 l2 (a.1+i+1)).1))
theorem r2 {a:At} {l:List En} {a2:At} {l2:List En} {idx i:Nat} (hi:i<l.length) (h:yQ a l a2 l2 idx i=false):jf a l a2 l2 idx=false:=by
 unfold jf
 rw[List.all_eq_false]
 exact⟨i,List.mem_range.2 hi,by show ¬ yQ a l a2 l2 idx i=true;rw[h];decide⟩
theorem o1 {a:At} {l:List En} {a2:At} {l2:List En} {idx:Nat} (h: ∀ i,i<l.length→yQ a l a2 l2 idx i=true):jf a l a2 l2 idx=true:=by
 unfold jf
 rw[List.all_eq_true]
 exact fun i hi=>h i (List.mem_range.1 hi)
theorem vY (w:World) (a:At) (A:Option Addr) (c k:Nat) (Q:List Em) (l:List En) (hn1:Q.length=k) (hQ1:Q.map bA=l) (rq1:Rd w bC 3 A k (ab aN Q)) (hm1:k≤1000)
  (a2:At) (A2:Option Addr) (c2 k2:Nat) (Q2:List Em) (l2:List En) (hn2:Q2.length=k2) (hQ2:Q2.map bA=l2) (rq2:Rd w bC 3 A2 k2 (ab aN Q2)) (hm2:k2≤1000) (idx:Nat) (ha:a.1+k<18446744073709551615) (r:Bool) (hr:jf a l a2 l2 idx=r):
  Gives Tryz.prog 175 [.agg (aE a A k c).toArray,.agg (aE a2 A2 k2 c2).toArray,.int .u64 (idx:Int)] [] w (X:=Unit) (fun _=> .bool r) (fun _=>True) (fun _=>[]):=by
 refine aP Tryz.func175 O Tryz.ntmps175 Tryz.results175 (by simp) (St.enter w) (fun B hB=>?_)
 have hll:l.length=k:=by rw[← hQ1,List.length_map,hn1]
 focus (refine qs ?_;(refine qe (ap (cs:=aE a A k c) O) ?_;rintro _ _ ⟨b3,rfl,rfl⟩);(refine qe (ap (cs:=aE a2 A2 k2 c2) O) ?_;rintro _ _ ⟨b4,rfl,rfl⟩);refine qp ?_;refine qz ?_;refine qq ?_;refine qs ?_;refine qp ?_;refine qt (ah (v:= .slice A k c) O O O O) ?_;refine qp ?_;refine qp ?_;refine qz ?_;refine qb ?_)
 refine bV (X:=Nat) (fun j=>[(2,.int .u64 (idx:Int)),(3,.pointer (some ⟨b3,0,none⟩)),(4,.pointer (some ⟨b4,0,none⟩)),(15,.int .i64 (k:Int)),(16,.int .i64 (j:Int))]) (fun _=>[pt b3 39 (aE a A k c),pt b4 39 (aE a2 A2 k2 c2)]) (fun j=>j≤k∧ ∀ i,i<j→yQ a l a2 l2 idx i=true) (fun j=>k-j) O 0 ⟨Nat.zero_le _,fun i hi=>absurd hi (Nat.not_lt_zero _)⟩ (Sub.cons O (Sub.cons O (Sub.cons O (Sub.cons O (Sub.cons O Sub.nil))))) ae ?_
 rintro j ⟨hj,hall⟩ J hJ
 try dsimp only at hj ⊢
 rcases Nat.lt_or_ge j k with hjl|hjl
 ·obtain⟨⟨t1,g1⟩,ht1⟩: ∃ z,eC a l (a.1+j+1)=z:=⟨_,O⟩
  obtain⟨⟨t2,g2⟩,ht2⟩: ∃ z,eC a2 l2 (a.1+j+1)=z:=⟨_,O⟩
  by_cases h1:idx<a.1+j+1
  ·have e:r=true:=by
    rw[← hr]
    refine o1 fun i hi=>?_
    rcases Nat.lt_or_ge i j with h9|h9
    ·exact hall i h9
    ·unfold yQ
     rw[decide_eq_true (show idx<a.1+i+1 by omega)];rfl
   subst e
   repeat' (first|refine aa (ay O (by omega)) ?_ O O|refine bM O ?_ O O|refine ax ?_|refine aa (ah (v:= .int .u64 (a.1:Int)) O O O O) ?_ O O|refine aa (aI O O (by unfold aH;omega)) ?_ O O|refine aa (bj O O O O (by unfold aH;omega)) ?_ O O|refine au O ?_|refine al O O ?_|refine aC O O ?_|refine aG O ?_|refine bE O O ?_|refine aM O ?_)
   exact hB _ _ _ _ _ O O (qE O)
  cases g2
  ·have e:r=false:=by
    rw[← hr]
    refine r2 (i:=j) (by omega) ?_
    unfold yQ
    rw[ht2,decide_eq_false h1];rfl
   subst e
   repeat' (first|refine aa (ay O (by omega)) ?_ O O|refine aa (aB O (by omega)) ?_ O O|refine bM O ?_ O O|refine ax ?_|refine aU ?_ O O|refine aa (ai (ds:=aE a A k c) O O O O O) ?_ O O|refine aa (ai (ds:=aE a2 A2 k2 c2) O O O O O) ?_ O O|refine aa (ah (v:= .int .u64 (a.1:Int)) O O O O) ?_ O O|refine aa (aI O O (by unfold aH;omega)) ?_ O O|refine aa (aR O) ?_ O O|refine aa (bj O O O O (by unfold aH;omega)) ?_ O O|refine au O ?_|refine al O O ?_|refine aC O O ?_|refine aA O O ?_|refine aG O ?_|refine aM O ?_|(refine an (aq (f:=51) wL (fun w1 hS1=>g6 w1 a A c k Q l hn1 hQ1 (rq1.keep hS1.kpO) hm1 (a.1+j+1) _ ht1) O O (fun _=>O)) ?_ O O;rintro _ _ ⟨_,rfl,_,rfl⟩)|(refine an (aq (f:=51) wL (fun w1 hS1=>g6 w1 a2 A2 c2 k2 Q2 l2 hn2 hQ2 (rq2.keep hS1.kpO) hm2 (a.1+j+1) _ ht2) O O (fun _=>O)) ?_ O O;rintro _ _ ⟨_,rfl,_,rfl⟩))
   exact hB _ _ _ _ _ O O (qE O)
  by_cases h3:t1=t2
  rotate_left
  ·have e:r=false:=by
    rw[← hr]
    refine r2 (i:=j) (by omega) ?_
    unfold yQ
    rw[ht2,ht1,decide_eq_false h1,decide_eq_false h3];rfl
   subst e
   repeat' (first|refine aa (ay O (by omega)) ?_ O O|refine aa (aB O (by omega)) ?_ O O|refine bM O ?_ O O|refine ax ?_|refine aa (ai (ds:=aE a A k c) O O O O O) ?_ O O|refine aa (ai (ds:=aE a2 A2 k2 c2) O O O O O) ?_ O O|refine aa (ah (v:= .int .u64 (a.1:Int)) O O O O) ?_ O O|refine aa (aI O O (by unfold aH;omega)) ?_ O O|refine aa (aR O) ?_ O O|refine aa (bj O O O O (by unfold aH;omega)) ?_ O O|refine au O ?_|refine al O O ?_|refine aC O O ?_|refine aA O O ?_|refine aG O ?_|refine aM O ?_|(refine an (aq (f:=51) wL (fun w1 hS1=>g6 w1 a A c k Q l hn1 hQ1 (rq1.keep hS1.kpO) hm1 (a.1+j+1) _ ht1) O O (fun _=>O)) ?_ O O;rintro _ _ ⟨_,rfl,_,rfl⟩)|(refine an (aq (f:=51) wL (fun w1 hS1=>g6 w1 a2 A2 c2 k2 Q2 l2 hn2 hQ2 (rq2.keep hS1.kpO) hm2 (a.1+j+1) _ ht2) O O (fun _=>O)) ?_ O O;rintro _ _ ⟨_,rfl,_,rfl⟩))
   exact hB _ _ _ _ _ O O (qE O)
  repeat' (first|refine aa (ay O (by omega)) ?_ O O|refine aa (aB O (by omega)) ?_ O O|refine bM O ?_ O O|refine ax ?_|refine aa (ai (ds:=aE a A k c) O O O O O) ?_ O O|refine aa (ai (ds:=aE a2 A2 k2 c2) O O O O O) ?_ O O|refine aa (ah (v:= .int .u64 (a.1:Int)) O O O O) ?_ O O|refine aa (aI O O (by unfold aH;omega)) ?_ O O|refine aa (aR O) ?_ O O|refine aa (bj O O O O (by unfold aH;omega)) ?_ O O|refine au O ?_|refine al O O ?_|refine aC O O ?_|refine aA O O ?_|refine aG O ?_|refine aK ?_|refine aM O ?_|(refine an (aq (f:=51) wL (fun w1 hS1=>g6 w1 a A c k Q l hn1 hQ1 (rq1.keep hS1.kpO) hm1 (a.1+j+1) _ ht1) O O (fun _=>O)) ?_ O O;rintro _ _ ⟨_,rfl,_,rfl⟩)|(refine an (aq (f:=51) wL (fun w1 hS1=>g6 w1 a2 A2 c2 k2 Q2 l2 hn2 hQ2 (rq2.keep hS1.kpO) hm2 (a.1+j+1) _ ht2) O O (fun _=>O)) ?_ O O;rintro _ _ ⟨_,rfl,_,rfl⟩))
  refine hJ (j+1) _ _ ⟨by omega,fun i hi=>?_⟩ (Sub.cons O (Sub.cons O (Sub.cons O (Sub.cons O (Sub.cons O Sub.nil))))) ae (by show k-(j+1)<_;omega)
  rcases Nat.lt_or_ge i j with h9|h9
  ·exact hall i h9
  ·obtain rfl:i=j:=by omega
   unfold yQ
   rw[ht2,ht1,decide_eq_true h3];simp
 have e:r=true:=by rw[← hr];exact o1 fun i hi=>hall i (by omega)
 subst e
 focus (refine qs ?_;refine qf ?_;refine qz ?_;refine qq ?_;refine qF ?_;refine bE O O ?_;refine qs ?_;refine qp ?_;refine qz ?_)
 exact hB _ _ _ _ _ O O (qE O)
end Go.Proofs.YtdeffdldifepkaaGreat
