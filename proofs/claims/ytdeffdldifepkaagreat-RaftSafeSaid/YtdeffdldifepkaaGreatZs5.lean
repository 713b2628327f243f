/- Lemmas of the proof, part 5. -/
import Derived.Test.YtdeffdldifepkaaGreatZs4
set_option maxRecDepth 100000
set_option maxHeartbeats 4000000
namespace Go.Proofs.YtdeffdldifepkaaGreat
open Go.RowKit
open Asn (pt row rb)
set_option linter.unusedVariables false
set_option linter.unusedSimpArgs false
theorem o3 (who:Int) (t i:Nat):Tryz.prog.built 65 [(0,.int .i64 6),(2,.int .i64 who),(3,.int .u64 (t:Int)),(8,.int .u64 (i:Int))]=some (aW ⟨6,0,who,t,(0,0),[],0,false,i,[],[]⟩ ⟨none,0,0,none,0,0,none,0,0,[]⟩).toArray:=by kernel_rfl
theorem mh (who:Int) (t i:Nat):Tryz.prog.built 65 [(0,.int .i64 6),(2,.int .i64 who),(3,.int .u64 (t:Int)),(7,.bool true),(8,.int .u64 (i:Int))]=some (aW ⟨6,0,who,t,(0,0),[],0,true,i,[],[]⟩ ⟨none,0,0,none,0,0,none,0,0,[]⟩).toArray:=by kernel_rfl
theorem vZ {w:World} {u:Ms} {q:Mp} (h:MsR w u q):lZ w bC (q.Q.map cR):=fun d hd=>by
 obtain⟨mm,hmm,rfl⟩:=List.mem_map.1 hd
 exact(h.bq mm hmm).rd
theorem LgR.elim4 {w:World} {x:Rs} {p:Rp} (h:LgR w x p):p.Q.length=p.n∧p.n≤1000∧p.Q.map bA=x.es∧ ∀ y∈p.Q,y.2.2.2.2.length≤100000:=⟨h.hn,h.hm,h.hQ,h.hd⟩
theorem qC (w:World) (g:Nat) (x:Rs) (m:Mm) (hS0:St w (ar (mP g x m)) (mP g x m) w) (D:Kw) (hD:Kd D (mP g x m) w) (h: ∀ w',D w'→McR w' x m) (hl:McL x m) (u:Ms) (q:Mp) (hq: ∀ w',D w'→MsR w' u q) (hqn:q.n≤1000) (hqd: ∀ m∈q.Q,m.2.2.2.2.length≤100000) (hlt:x.base.1+x.es.length≤18446744073709551613) (hSm:m.S.length≤800) (hpl:u.pl.1<18446744073709551616):Mth g x (fy x u).1 m (fy x u).2 m.i D 146 [.agg (aW u q).toArray] w:=by
 unfold Mth
 refine bO Tryz.func146 O Tryz.ntmps146 Tryz.results146 (by simp) hS0 (fun B hE hB=>?_)
 have hled: ∀ (w1:World),St w1 (ar (mP g x m)) (mP g x m) w1→Kd (K2 D zN) (mP g x m) w1→Gives Tryz.prog 173 [.pointer (some ⟨g,0,none⟩),.agg (aW u q).toArray] (mP g x m) w1 (X:=Mm×Asn) (fun _=> .bool (fY x u).2.2) (fun y=>y.1.S.map Prod.fst=m.S.map Prod.fst++(fY x u).2.1∧y.1.i=m.i∧McL (fY x u).1 y.1∧ ∀ w',K2 (K2 D zN) y.2 w'→McR w' (fY x u).1 y.1) (fun y=>mP g (fY x u).1 y.1++[y.2]):=fun w1 hS1 hk=>rZ w1 g x m hS1 (K2 D zN) hk (fun w2 h2=>h w2 h2.1) hl u q hSm
 refine ez ?_
 focus (refine qs ?_;(refine qe (ap (cs:=aW u q) O) ?_;rintro _ _ ⟨b3,rfl,rfl⟩);refine qz ?_;refine qq ?_;refine qs ?_;refine qp ?_;refine qt (ai (ds:=aW u q) O O O O O) ?_)
 obtain⟨⟨x1,ms1,lb⟩,hlx⟩: ∃ z,fY x u=z:=⟨_,O⟩
 rw[hlx] at hled
 have hap:fy x u=if lb=true then (if (gh x u).1=0∧jf x.base x.es (gh x u).2.2.1 (gh x u).2.2.2 x.commit=true then
   ({fU x u with base:=(gh x u).2.2.1,es:=(gh x u).2.2.2,commit:=max x.commit (min u.cm (gh x u).2.1)},[cD x u 6 x.term true (gh x u).2.1])
  else (fU x u,[cD x u 6 x.term false (min (lastP x).1 (u.pl.1-1))])) else (x1,ms1):=by
  unfold fY at hlx
  unfold fy
  split at hlx
  ·rename_i h1
   cases hlx
   rw[if_pos h1];rfl
  ·rename_i h1
   rw[if_neg h1]
   split at hlx
   ·rename_i h2
    cases hlx
    rw[if_pos h2];rfl
   ·rename_i h2
    cases hlx
    rw[if_neg h2,if_pos O]
 have hlt2:lb=true→x1=fU x u∧ms1=[]:=fun e=>by
  unfold fY at hlx
  split at hlx
  ·cases hlx;cases e
  ·split at hlx
   ·cases hlx;cases e
   ·cases hlx;exact⟨O,O⟩
 rw[hap] at hE hB
 cases lb
 ·rw[if_neg (by decide)] at hE hB
  focus ((refine qe (cq (f:=173) (D:=D) (Z:=zN) (mP g x m) (fun z:Mm×Asn=>mP g x1 z.1) hD xk (fun w1 _ hk hS1=>hled w1 hS1 hk) O O) ?_;rintro _ _ ⟨⟨m2,C2⟩,Z1,rfl,⟨hm2S,hm2i,hl2,hm2R⟩,hold0,hnew0,rfl⟩;dsimp only[List.cons_append,List.nil_append] at hm2S hm2i hl2 hm2R ⊢);refine qt (aR O) ?_;refine qz ?_;refine qT ?_)
  have hfin:=fun(w':World)=>bR (w:=w) (M:=ar (mP g x m)) (g:=g) (x2:=x1) (m2:=m2) (Z:=Z1) (D:=D) (ms:=m.S.map Prod.fst++ms1) (ib:=m.i) ⟨hm2S,hm2i,hl2,fun w2 h2=>hm2R w2 (hnew0 w2 h2)⟩ (w':=w')
  first
  |exact hE _ _ fun w' hS=>hfin w' (ae w' hS)
  |exact hB _ _ _ _ O fun w' hS=>hfin w' (ae w' hS)
 obtain⟨hx1,rfl⟩:=hlt2 O
 rw[if_pos O] at hE hB
 focus ((refine qe (cq (f:=173) (D:=D) (Z:=zN) (mP g x m) (fun z:Mm×Asn=>mP g x1 z.1) hD xk (fun w1 _ hk hS1=>hled w1 hS1 hk) O O) ?_;rintro _ _ ⟨⟨m2,C2⟩,Z1,rfl,⟨hm2S,hm2i,hl2,hm2R⟩,hold0,hnew0,rfl⟩;dsimp only[List.cons_append,List.nil_append] at hm2S hm2i hl2 hm2R ⊢);refine qt (aR O) ?_;refine qz ?_;refine qF ?_;refine qx ?_;refine qq ?_)
 have hM2: ∀ w',K2 D Z1 w'→McR w' x1 m2:=fun w' h'=>hm2R w' (hnew0 w' h')
 have hMw:=hM2
 obtain⟨⟨e,la,bb,r⟩,hsp⟩: ∃ z,jR x1.base x1.es u.pl u.es=z:=⟨_,O⟩
 obtain⟨K,hK⟩: ∃ K,r.length=K:=⟨_,O⟩
 have hsx:gh x u=(e,la,bb,r):=by rw[← hsp,hx1];rfl
 have hqw:=hq w hD.now
 refine iI (p:=m2.p.Q.length=m2.p.n∧m2.p.n≤1000∧m2.p.Q.map bA=x1.es∧ ∀ y∈m2.p.Q,y.2.2.2.2.length≤100000) (fun w' hS=>(hM2 w' ⟨hD.at_ hS,hS.at_ (A:=Z1) (by simp)⟩).lg.elim4) fun⟨g1,g2,g3,g4⟩=>?_
 refine eo (X:=((Option Addr×Nat)×Sh r)×Nat) (fun z=>[(0,.pointer (some ⟨g,0,none⟩)),(3,.pointer (some ⟨b3,0,none⟩)),(4,.pointer (some ⟨z.2,0,none⟩)),(5,.int .u64 (la:Int)),(6,zi e)]) (fun z=>[row 59 3 z.1.1.1 K z.1.1.2 (ab aN z.1.2.1),dq 5 (z.1.2.1.map cR),pt z.2 39 (aE bb z.1.1.1 K z.1.1.2),pt g 89 (aD x1 m2),row 3 1 m2.p.vA m2.p.vn m2.p.vc (x1.votes.map zv),row 112 3 m2.p.pA m2.p.pn m2.p.pc (ab bp x1.peers),row 65 12 m2.sA m2.S.length m2.sc (ab bK m2.S),Z1,pt b3 65 (aW u q)]) (fun _=>True) (fun J2 hJ2=>?_) (fun z _=>?_)
 ·skip
  refine dS [pt g 89 (aD x1 m2),pt b3 65 (aW u q)] 18 ?_
  refine dp 0 ?_
  refine dt 1 O (ac O) ?_
  refine dp 2 ?_
  refine dp 3 ?_
  refine dt 4 O (ai (ds:=aE x1.base m2.p.A m2.p.n m2.p.c) O O O O O) ?_
  refine dp 5 ?_
  refine dt 6 O (ai (ds:=aO u.pl) O O O O O) ?_
  refine dp 7 ?_
  refine dt 8 O (ah (v:= .slice q.A q.n q.c) O O O O) ?_
  refine lY #[U,U,U,U,U,U,U,U,U,U,U,U,U,U,U,Y,Y,Y] (fun x:Option Addr×Nat×Sh r×Nat=>[(25,zi e),(24,.int .u64 (la:Int)),(23,.agg (aE bb x.1 K x.2.1).toArray),(12,.tuple #[.agg (aE bb x.1 K x.2.1).toArray,.int .u64 (la:Int),zi e]),(4,.pointer (some ⟨x.2.2.2,0,none⟩)),(22,.tuple #[.agg (aE bb x.1 K x.2.1).toArray,.int .u64 (la:Int),zi e]),(0,.pointer (some ⟨g,0,none⟩)),(3,.pointer (some ⟨b3,0,none⟩)),(17,.agg (aE x1.base m2.p.A m2.p.n m2.p.c).toArray),(19,.agg (aO u.pl).toArray),(21,.slice q.A q.n q.c)]) (fun x:Option Addr×Nat×Sh r×Nat=>[pt x.2.2.2 39 (aE (0,0) none 0 0),row 59 3 x.1 K x.2.1 (ab aN x.2.2.1.1),dq 5 (x.2.2.1.1.map cR),pt g 89 (aD x1 m2),row 3 1 m2.p.vA m2.p.vn m2.p.vc (x1.votes.map zv),row 112 3 m2.p.pA m2.p.pn m2.p.pc (ab bp x1.peers),row 65 12 m2.sA m2.S.length m2.sc (ab bK m2.S),Z1,pt b3 65 (aW u q)]) (fun nd0=>?_) (fun x=>?_)
  refine ct #[U,U,U,U,U,U,U,U,U,U,U,U,U,U,Y,Y,Y,Y] (fun x:Option Addr×Nat×Sh r=>[(25,zi e),(24,.int .u64 (la:Int)),(23,.agg (aE bb x.1 K x.2.1).toArray),(12,.tuple #[.agg (aE bb x.1 K x.2.1).toArray,.int .u64 (la:Int),zi e]),(22,.tuple #[.agg (aE bb x.1 K x.2.1).toArray,.int .u64 (la:Int),zi e]),(0,.pointer (some ⟨g,0,none⟩)),(3,.pointer (some ⟨b3,0,none⟩)),(17,.agg (aE x1.base m2.p.A m2.p.n m2.p.c).toArray),(19,.agg (aO u.pl).toArray),(21,.slice q.A q.n q.c)]) (fun x:Option Addr×Nat×Sh r=>[row 59 3 x.1 K x.2.1 (ab aN x.2.2.1),dq 5 (x.2.2.1.map cR),pt g 89 (aD x1 m2),row 3 1 m2.p.vA m2.p.vn m2.p.vc (x1.votes.map zv),row 112 3 m2.p.pA m2.p.pn m2.p.pc (ab bp x1.peers),row 65 12 m2.sA m2.S.length m2.sc (ab bK m2.S),Z1,pt b3 65 (aW u q)]) (fun x=>?_) (fun nd1=>?_)
  ·skip
   obtain⟨A12,c12,P12⟩:=x
   try dsimp only
   refine dE 14 O (am O bP) ?_
   rintro _ _ ⟨b4,rfl,rfl⟩
   refine nx ?_
   have h:=nd0 (A12,c12,P12,b4)
   try dsimp only at h
   exact Da h
  refine ct #[U,U,U,U,U,U,U,U,U,Y,Y,Y,Y,Y,U,Y,Y,Y] (fun x:Nat=>[(4,.pointer (some ⟨x,0,none⟩)),(0,.pointer (some ⟨g,0,none⟩)),(3,.pointer (some ⟨b3,0,none⟩)),(17,.agg (aE x1.base m2.p.A m2.p.n m2.p.c).toArray),(19,.agg (aO u.pl).toArray),(21,.slice q.A q.n q.c)]) (fun x:Nat=>[pt x 39 (aE (0,0) none 0 0),pt g 89 (aD x1 m2),row 3 1 m2.p.vA m2.p.vn m2.p.vc (x1.votes.map zv),row 112 3 m2.p.pA m2.p.pn m2.p.pc (ab bp x1.peers),row 65 12 m2.sA m2.S.length m2.sc (ab bK m2.S),Z1,pt b3 65 (aW u q)]) (fun x=>?_) (fun nd2=>?_)
  ·skip
   revert x;intro b4
   try dsimp only
   refine dE 9 O (eD (f:=174) DL (fun w1 hS1=>oE w1 x1.base m2.p.A m2.p.c m2.p.n m2.p.Q x1.es g1 g3 (hMw w1 ⟨hD.at_ hS1,hS1.at_ (A:=Z1) (by simp)⟩).lg.rq (hMw w1 ⟨hD.at_ hS1,hS1.at_ (A:=Z1) (by simp)⟩).lg.dt u.pl q.A q.c q.n q.Q u.es hqw.hn hqw.hQ (hq w1 (hD.at_ hS1)).rq (vZ (hq w1 (hD.at_ hS1))) hqw.hcp g2 hqn g4 hqd e la bb r K hK hsp) O O) ?_
   rintro _ _ ⟨⟨⟨A12,c12⟩,P12⟩,rfl,_,rfl⟩;dsimp only[List.cons_append,List.nil_append]
   refine nx ?_
   refine dp 10 ?_
   refine dp 11 ?_
   refine dp 12 ?_
   refine dp 13 ?_
   have h:=nd0 (A12,c12,P12,b4)
   try dsimp only at h
   exact Da h
  refine ct #[U,U,U,U,U,U,U,U,U,Y,Y,Y,Y,Y,Y,Y,Y,Y] (fun _:Unit=>[(0,.pointer (some ⟨g,0,none⟩)),(3,.pointer (some ⟨b3,0,none⟩)),(17,.agg (aE x1.base m2.p.A m2.p.n m2.p.c).toArray),(19,.agg (aO u.pl).toArray),(21,.slice q.A q.n q.c)]) (fun _:Unit=>[pt g 89 (aD x1 m2),row 3 1 m2.p.vA m2.p.vn m2.p.vc (x1.votes.map zv),row 112 3 m2.p.pA m2.p.pn m2.p.pc (ab bp x1.peers),row 65 12 m2.sA m2.S.length m2.sc (ab bK m2.S),Z1,pt b3 65 (aW u q)]) (fun x=>?_) (fun nd3=>?_)
  ·skip
   obtain⟨⟩:=x
   try dsimp only
   refine fb 9 14 (by decide) O O (eD (f:=174) DL (fun w1 hS1=>oE w1 x1.base m2.p.A m2.p.c m2.p.n m2.p.Q x1.es g1 g3 (hMw w1 ⟨hD.at_ hS1,hS1.at_ (A:=Z1) (by simp)⟩).lg.rq (hMw w1 ⟨hD.at_ hS1,hS1.at_ (A:=Z1) (by simp)⟩).lg.dt u.pl q.A q.c q.n q.Q u.es hqw.hn hqw.hQ (hq w1 (hD.at_ hS1)).rq (vZ (hq w1 (hD.at_ hS1))) hqw.hcp g2 hqn g4 hqd e la bb r K hK hsp) O O) (am O bP) ?_ ?_ O O O O (by kernel_rfl)
   ·rintro _ _ ⟨⟨⟨A12,c12⟩,P12⟩,rfl,_,rfl⟩;dsimp only[List.cons_append,List.nil_append]
    refine nx ?_
    refine dp 10 ?_
    refine dp 11 ?_
    refine dp 12 ?_
    refine dp 13 ?_
    have h:=nd1 (A12,c12,P12)
    try dsimp only at h
    exact Da h
   ·rintro _ _ ⟨b4,rfl,rfl⟩
    refine nx ?_
    have h:=nd2 (b4)
    try dsimp only at h
    exact Da h
  have h:=nd3 ()
  try dsimp only at h
  exact Da h
  obtain⟨A12,c12,P12,b4⟩:=x
  try dsimp only
  refine dE 15 O (aj (cs:=aE (0,0) none 0 0) (ds:=aE bb A12 K c12) O O O O (bD _ _ _ _) O) ?_
  rintro _ _ rfl
  refine nx ?_
  refine dp 16 ?_
  refine dp 17 ?_
  refine dn ?_
  exact hJ2 (((A12,c12),P12),b4) _ _ trivial (Sub.cons O (Sub.cons O (Sub.cons O (Sub.cons O (Sub.cons O Sub.nil))))) ae
 obtain⟨⟨⟨A12,c12⟩,P12⟩,b4⟩:=z
 dsimp only
 have hso:=xB hsp (N:=100000) (fun y hy=>by
  rw[← g3] at hy
  obtain⟨z,hz,rfl⟩:=List.mem_map.1 hy
  exact g4 z hz) (fun y hy=>by
  rw[← hqw.hQ] at hy
  obtain⟨z,hz,rfl⟩:=List.mem_map.1 hy
  exact hqd z hz)
 have hK16:K≤16:=by rw[← hK];exact hso.1
 have hP1:P12.1.length=K:=by rw[← List.length_map (f:=bA),P12.2.1];exact hK
 have hxl:x1.es.length=m2.p.n:=by rw[← g3,List.length_map,g1]
 have hbs:x1.base.1+m2.p.n<18446744073709551615:=by
  rw[← hxl,hx1]
  show x.base.1+x.es.length<_
  omega
 obtain⟨kp,hkp⟩: ∃ k,jf x1.base x1.es bb r x1.commit=k:=⟨_,O⟩
 obtain⟨bd,hbd⟩: ∃ b,(!(decide (e=0)&&kp))=b:=⟨_,O⟩
 refine au O ?_
 refine au O ?_
 refine eo (X:=Unit) (fun _=>[(0,.pointer (some ⟨g,0,none⟩)),(3,.pointer (some ⟨b3,0,none⟩)),(4,.pointer (some ⟨b4,0,none⟩)),(5,.int .u64 (la:Int)),(42,.bool bd)]) (fun _=>[row 59 3 A12 K c12 (ab aN P12.1),dq 5 (P12.1.map cR),pt b4 39 (aE bb A12 K c12),pt g 89 (aD x1 m2),row 3 1 m2.p.vA m2.p.vn m2.p.vc (x1.votes.map zv),row 112 3 m2.p.pA m2.p.pn m2.p.pc (ab bp x1.peers),row 65 12 m2.sA m2.S.length m2.sc (ab bK m2.S),Z1,pt b3 65 (aW u q)]) (fun _=>True) (fun J3 hJ3=>?_) (fun _ _=>?_)
 ·skip
  by_cases he:e=0
  rotate_left
  ·skip
   have eb:bd=true:=by rw[← hbd,decide_eq_false he];rfl
   subst eb
   refine dS [pt b4 39 (aE bb A12 K c12),pt b3 65 (aW u q),pt g 89 (aD x1 m2)] 17 ?_
   refine dp 0 ?_
   refine cZ 1 ?_
   refine dp 2 ?_
   refine dk 3 ?_
   refine dk 4 ?_
   refine dk 5 ?_
   refine dk 6 ?_
   refine dk 7 ?_
   refine dk 8 ?_
   refine dk 9 ?_
   refine dk 10 ?_
   refine dk 11 ?_
   refine dk 12 ?_
   refine dk 13 ?_
   refine dk 14 ?_
   refine dk 15 ?_
   refine dp 16 ?_
   refine dn ?_
   skip
   exact hJ3 () _ _ trivial (Sub.cons O (Sub.cons O (Sub.cons O (Sub.cons O (Sub.cons O Sub.nil))))) ae
  ·subst he
   have eb:bd= !kp:=by rw[← hbd];rfl
   subst eb
   refine dS [pt b4 39 (aE bb A12 K c12),pt b3 65 (aW u q),pt g 89 (aD x1 m2)] 17 ?_
   refine dp 0 ?_
   refine eI 1 ?_
   refine dp 2 ?_
   refine dp 3 ?_
   refine dt 4 O (ac O) ?_
   refine dp 5 ?_
   refine dp 6 ?_
   refine dt 7 O (ai (ds:=aE x1.base m2.p.A m2.p.n m2.p.c) O O O O O) ?_
   refine dt 8 O (ai (ds:=aE bb A12 K c12) O O O O O) ?_
   refine dp 9 ?_
   refine dt 10 O (ac O) ?_
   refine dp 11 ?_
   refine dp 12 ?_
   refine dl 13 ?_
   refine dE 14 O (aq (f:=175) FZ (fun w1 hS1=>vY w1 x1.base m2.p.A m2.p.c m2.p.n m2.p.Q x1.es g1 g3 (hMw w1 ⟨hD.at_ hS1,hS1.at_ (A:=Z1) (by simp)⟩).lg.rq g2 bb A12 c12 K P12.1 r hP1 P12.2.1 (ce (hS1.at_ (A:=row 59 3 A12 K c12 (ab aN P12.1)) (by simp))) (by omega) x1.commit hbs kp hkp) O O (fun _=>O)) ?_
   rintro _ _ ⟨_,rfl,_,rfl⟩
   refine nx ?_
   refine dt 15 O (aR O) ?_
   refine dp 16 ?_
   refine dn ?_
   skip
   exact hJ3 () _ _ trivial (Sub.cons O (Sub.cons O (Sub.cons O (Sub.cons O (Sub.cons O Sub.nil))))) ae
 have hif:((gh x u).1=0∧jf x.base x.es (gh x u).2.2.1 (gh x u).2.2.2 x.commit=true)↔bd=false:=by
  rw[hsx, ← hbd]
  have e9:jf x.base x.es bb r x.commit=kp:=by rw[← hkp,hx1];rfl
  show (e=0∧jf x.base x.es bb r x.commit=true)↔_
  rw[e9]
  simp
 have hS2:m2.S.length≤800:=by
  have:=congrArg List.length hm2S
  rw[List.append_nil,List.length_map,List.length_map] at this
  omega
 have hm2S':m2.S.map Prod.fst=m.S.map Prod.fst:=by rw[hm2S,List.append_nil]
 cases bd
 ·rw[if_pos (hif.2 O),hsx] at hE hB
  dsimp only at hE hB
  obtain⟨xC,hxC⟩: ∃ y,y=({fU x u with base:=bb,es:=r,commit:=max x.commit (min u.cm la)}:Rs):=⟨_,O⟩
  have hms:[cD x u 6 x.term true la]=[eE xC (⟨6,0,u.F,xC.term,(0,0),[],0,true,la,[],[]⟩:Ms)]:=by rw[hxC];rfl
  rw[← hxC,hms] at hE hB
  focus (refine qF ?_;refine qx ?_;refine qs ?_;refine qp ?_;refine qt (ai (ds:=aE bb A12 K c12) O O O O O) ?_;refine qt (ac O) ?_;refine qp ?_;refine qp ?_;(refine qw (gJ (gb:=g) (t:=89) (cs:=aD x1 m2) (ds:=aE bb A12 K c12) (cs':=aD (fA x1 bb r) (dw m2 A12 K c12 P12.1)) O O O O (bD _ _ _ _) O (by show 3+3≤16;omega)) ?_;rintro _ _ rfl);refine qz ?_;refine qq ?_)
  refine dS [pt b3 65 (aW u q),pt g 89 (aD (fA x1 bb r) (dw m2 A12 K c12 P12.1))] 15 ?_
  refine dp 0 ?_
  refine dp 1 ?_
  refine dt 2 O (ac O) ?_
  refine dp 3 ?_
  refine dp 4 ?_
  refine dl 5 ?_
  refine dp 6 ?_
  refine dt 7 O (ah (v:= .int .u64 (u.cm:Int)) O O O O) ?_
  refine dp 8 ?_
  refine dt 9 O (C.k0 O O) ?_
  refine dt 10 O (C.l5 O O) ?_
  refine dt 11 O (ac O) ?_
  refine dp 12 ?_
  refine dp 13 ?_
  refine dE 14 O (aw (cs:=aD (fA x1 bb r) (dw m2 A12 K c12 P12.1)) (cs':=aD xC (dw m2 A12 K c12 P12.1)) O O O O O (by rw[hxC,hx1];rfl) (by show _<16;omega)) ?_
  rintro _ _ rfl
  refine dV ?_
  refine dn ?_
  skip
  have hSL:(dw m2 A12 K c12 P12.1).S.length≤800:=hS2
  refine eu (H':=[row 59 3 A12 K c12 (ab aN P12.1),dq 5 (P12.1.map cR),pt g 89 (aD xC (dw m2 A12 K c12 P12.1)),row 3 1 (dw m2 A12 K c12 P12.1).p.vA (dw m2 A12 K c12 P12.1).p.vn (dw m2 A12 K c12 P12.1).p.vc (xC.votes.map zv),row 112 3 (dw m2 A12 K c12 P12.1).p.pA (dw m2 A12 K c12 P12.1).p.pn (dw m2 A12 K c12 P12.1).p.pc (ab bp xC.peers),row 65 12 (dw m2 A12 K c12 P12.1).sA (dw m2 A12 K c12 P12.1).S.length (dw m2 A12 K c12 P12.1).sc (ab bK (dw m2 A12 K c12 P12.1).S),Z1,pt b3 65 (aW u q)]) (fun w' hS=>?_) ?_
  ·have h9:=ae (H':=[row 59 3 A12 K c12 (ab aN P12.1),dq 5 (P12.1.map cR),pt g 89 (aD xC (dw m2 A12 K c12 P12.1)),row 3 1 m2.p.vA m2.p.vn m2.p.vc (x1.votes.map zv),row 112 3 m2.p.pA m2.p.pn m2.p.pc (ab bp x1.peers),row 65 12 m2.sA m2.S.length m2.sc (ab bK m2.S),Z1,pt b3 65 (aW u q)]) w' hS
   rw[hxC]
   rw[hxC,hx1] at h9
   exact h9
  skip
  refine dS [pt b3 65 (aW u q),pt g 89 (aD xC (dw m2 A12 K c12 P12.1))] 12 ?_
  refine dp 0 ?_
  refine dp 1 ?_
  refine dt 2 O (ah (v:= .int .i64 u.F) O O O O) ?_
  refine dp 3 ?_
  refine dt 4 O (ac O) ?_
  refine dp 5 ?_
  refine dp 6 ?_
  refine dl 7 ?_
  refine dp 8 ?_
  refine dt 9 O (jk O O O O O (mh _ _ _)) ?_
  refine dE 10 O (cK (vs:=[.agg (aW (⟨6,0,u.F,xC.term,(0,0),[],0,true,la,[],[]⟩:Ms) (⟨none,0,0,none,0,0,none,0,0,[]⟩:Mp)).toArray]) (size:=12) (ds:=aW (⟨6,0,u.F,xC.term,(0,0),[],0,true,la,[],[]⟩:Ms) (⟨none,0,0,none,0,0,none,0,0,[]⟩:Mp)) O O O O O O (by simp[aV,dZ]) O (by omega)) ?_
  rintro _ _ ⟨vb,rfl,rfl⟩
  refine nx ?_
  refine dE 11 O (fF (f:=113) (mP g xC (dw m2 A12 K c12 P12.1)) (fun(y:Option Addr×Nat)=>mP g xC (bT xC (dw m2 A12 K c12 P12.1) ((⟨6,0,u.F,xC.term,(0,0),[],0,true,la,[],[]⟩:Ms),(⟨none,0,0,none,0,0,none,0,0,[]⟩:Mp)) y.1 y.2)) kT (fun w1 hS1 hS2=>dB w1 g xC (dw m2 A12 K c12 P12.1) hS2 (some ⟨vb,0,none⟩) 1 (⟨6,0,u.F,xC.term,(0,0),[],0,true,la,[],[]⟩:Ms) (⟨none,0,0,none,0,0,none,0,0,[]⟩:Mp) (iw (dh (b:=vb) (t:=65) (As:=mP g xC (dw m2 A12 K c12 P12.1)) hS1 O)) (by omega)) O O) ?_
  rintro _ _ ⟨⟨AS,cS⟩,rfl,_,rfl⟩;dsimp only[List.cons_append,List.nil_append]
  refine dV ?_
  refine dn ?_
  skip
  skip
  have hMC: ∀ w2,K2 D (zA (zA (row 59 3 A12 K c12 (ab aN P12.1)) (dq 5 (P12.1.map cR))) Z1) w2→McR w2 xC (bT xC (dw m2 A12 K c12 P12.1) ((⟨6,0,u.F,xC.term,(0,0),[],0,true,la,[],[]⟩:Ms),(⟨none,0,0,none,0,0,none,0,0,[]⟩:Mp)) AS cS):=fun w2 h2=>by
   have hz:=iY h2.2
   have h3:McR w2 (fU x u) m2:=hx1▸hM2 w2 ⟨h2.1,gZ h2.2⟩
   rw[hxC]
   refine⟨jX (iY hz) (gZ hz) h3.lg.rc P12.2.1 hP1 h3.lg.hcn (by show K≤1000;omega) h3.lg.hcm hso.2.1,fun s hs=>?_⟩
   rcases List.mem_append.1 hs with hs|hs
   ·exact h3.ms s hs
   ·obtain rfl:=List.mem_singleton.1 hs
    exact⟨O,Nat.zero_le _,O,Rd.none_,fun m hm=>absurd hm (by simp),O,Nat.zero_le _,Rd.none_,Bs.nil _ _,Nat.zero_le _⟩
  have hfin:=fun(w':World)=>bR (w:=w) (M:=ar (mP g x m)) (g:=g) (x2:=xC) (m2:=(bT xC (dw m2 A12 K c12 P12.1) ((⟨6,0,u.F,xC.term,(0,0),[],0,true,la,[],[]⟩:Ms),(⟨none,0,0,none,0,0,none,0,0,[]⟩:Mp)) AS cS)) (Z:=zA (zA (row 59 3 A12 K c12 (ab aN P12.1)) (dq 5 (P12.1.map cR))) Z1) (D:=D) (ms:=m.S.map Prod.fst++[eE xC (⟨6,0,u.F,xC.term,(0,0),[],0,true,la,[],[]⟩:Ms)]) (ib:=m.i) ⟨by show (m2.S++_).map Prod.fst=_;rw[List.map_append,hm2S'];rfl,hm2i,by rw[hxC];exact⟨by rw[hx1] at hl2;exact hl2.hvn,by rw[hx1] at hl2;exact hl2.hpn⟩,hMC⟩ (w':=w')
  have hst: ∀ w',St w (ar (mP g x m)) [row 59 3 A12 K c12 (ab aN P12.1),dq 5 (P12.1.map cR),Z1,pt g 89 (aD xC (bT xC (dw m2 A12 K c12 P12.1) ((⟨6,0,u.F,xC.term,(0,0),[],0,true,la,[],[]⟩:Ms),(⟨none,0,0,none,0,0,none,0,0,[]⟩:Mp)) AS cS)),row 3 1 (bT xC (dw m2 A12 K c12 P12.1) ((⟨6,0,u.F,xC.term,(0,0),[],0,true,la,[],[]⟩:Ms),(⟨none,0,0,none,0,0,none,0,0,[]⟩:Mp)) AS cS).p.vA (bT xC (dw m2 A12 K c12 P12.1) ((⟨6,0,u.F,xC.term,(0,0),[],0,true,la,[],[]⟩:Ms),(⟨none,0,0,none,0,0,none,0,0,[]⟩:Mp)) AS cS).p.vn (bT xC (dw m2 A12 K c12 P12.1) ((⟨6,0,u.F,xC.term,(0,0),[],0,true,la,[],[]⟩:Ms),(⟨none,0,0,none,0,0,none,0,0,[]⟩:Mp)) AS cS).p.vc (xC.votes.map zv),row 112 3 (bT xC (dw m2 A12 K c12 P12.1) ((⟨6,0,u.F,xC.term,(0,0),[],0,true,la,[],[]⟩:Ms),(⟨none,0,0,none,0,0,none,0,0,[]⟩:Mp)) AS cS).p.pA (bT xC (dw m2 A12 K c12 P12.1) ((⟨6,0,u.F,xC.term,(0,0),[],0,true,la,[],[]⟩:Ms),(⟨none,0,0,none,0,0,none,0,0,[]⟩:Mp)) AS cS).p.pn (bT xC (dw m2 A12 K c12 P12.1) ((⟨6,0,u.F,xC.term,(0,0),[],0,true,la,[],[]⟩:Ms),(⟨none,0,0,none,0,0,none,0,0,[]⟩:Mp)) AS cS).p.pc (ab bp xC.peers),row 65 12 (bT xC (dw m2 A12 K c12 P12.1) ((⟨6,0,u.F,xC.term,(0,0),[],0,true,la,[],[]⟩:Ms),(⟨none,0,0,none,0,0,none,0,0,[]⟩:Mp)) AS cS).sA (bT xC (dw m2 A12 K c12 P12.1) ((⟨6,0,u.F,xC.term,(0,0),[],0,true,la,[],[]⟩:Ms),(⟨none,0,0,none,0,0,none,0,0,[]⟩:Mp)) AS cS).S.length (bT xC (dw m2 A12 K c12 P12.1) ((⟨6,0,u.F,xC.term,(0,0),[],0,true,la,[],[]⟩:Ms),(⟨none,0,0,none,0,0,none,0,0,[]⟩:Mp)) AS cS).sc (ab bK (bT xC (dw m2 A12 K c12 P12.1) ((⟨6,0,u.F,xC.term,(0,0),[],0,true,la,[],[]⟩:Ms),(⟨none,0,0,none,0,0,none,0,0,[]⟩:Mp)) AS cS).S)] w'→St w (ar (mP g x m)) (zA (zA (row 59 3 A12 K c12 (ab aN P12.1)) (dq 5 (P12.1.map cR))) Z1::mP g xC (bT xC (dw m2 A12 K c12 P12.1) ((⟨6,0,u.F,xC.term,(0,0),[],0,true,la,[],[]⟩:Ms),(⟨none,0,0,none,0,0,none,0,0,[]⟩:Mp)) AS cS)) w':=fun w' hS=>by
   exact fT (fT hS)
  first
  |exact hE _ _ fun w' hS=>hfin w' (hst w' (ae w' hS))
  |exact hB _ _ _ _ O fun w' hS=>hfin w' (hst w' (ae w' hS))
 ·rw[if_neg (fun c=>by cases hif.1 c)] at hE hB
  have hms:[cD x u 6 x.term false (min (lastP x).1 (u.pl.1-1))]=[eE x1 (⟨6,0,u.F,x1.term,(0,0),[],0,false,(min (lastP x1).1 (u.pl.1-1)),[],[]⟩:Ms)]:=by rw[hx1];rfl
  rw[← hx1,hms] at hE hB
  by_cases h0:0<u.pl.1
  ·skip
   repeat' (first|refine aa (ay O (by omega)) ?_ O O|refine bM O ?_ O O|refine ax ?_|refine aa (bU (p:=u.pl.1) (q:=1) O O (by omega) (by unfold aH;omega)) ?_ O O|refine aa (ah (v:= .int .u64 (u.pl.1:Int)) O O O O) ?_ O O|refine au O ?_|refine al O O ?_|refine aC O O ?_)
   refine dS [pt b3 65 (aW u q),pt g 89 (aD x1 m2)] 16 ?_
   refine dp 0 ?_
   refine dp 1 ?_
   refine dt 2 O (ah (v:= .int .i64 u.F) O O O O) ?_
   refine dp 3 ?_
   refine dt 4 O (ac O) ?_
   refine dp 5 ?_
   refine dp 6 ?_
   refine dl 7 ?_
   refine dp 8 ?_
   refine dp 11 ?_
   refine dE 9 O (aq (f:=59) pE (fun w1 hS1=>ef w1 g x1 m2 (bJ hS1 (by simp)) (hMw w1 ⟨hD.at_ hS1,hS1.at_ (A:=Z1) (by simp)⟩).lg) O O (fun _=>O)) ?_
   rintro _ _ ⟨_,rfl,_,rfl⟩
   refine nx ?_
   refine dt 10 O (cW (xs:=aO (lastP x1)) O O O O O O) ?_
   refine dt 12 O (C.k0 O O) ?_
   refine dt 13 O (ik O O O O (o3 _ _ _)) ?_
   refine dE 14 O (cK (vs:=[.agg (aW (⟨6,0,u.F,x1.term,(0,0),[],0,false,(min (lastP x1).1 (u.pl.1-1)),[],[]⟩:Ms) (⟨none,0,0,none,0,0,none,0,0,[]⟩:Mp)).toArray]) (size:=12) (ds:=aW (⟨6,0,u.F,x1.term,(0,0),[],0,false,(min (lastP x1).1 (u.pl.1-1)),[],[]⟩:Ms) (⟨none,0,0,none,0,0,none,0,0,[]⟩:Mp)) O O O O O O (by simp[aV,dZ]) O (by omega)) ?_
   rintro _ _ ⟨vb,rfl,rfl⟩
   refine nx ?_
   refine dE 15 O (fF (f:=113) (mP g x1 m2) (fun(y:Option Addr×Nat)=>mP g x1 (bT x1 m2 ((⟨6,0,u.F,x1.term,(0,0),[],0,false,(min (lastP x1).1 (u.pl.1-1)),[],[]⟩:Ms),(⟨none,0,0,none,0,0,none,0,0,[]⟩:Mp)) y.1 y.2)) kT (fun w1 hS1 hS2=>dB w1 g x1 m2 hS2 (some ⟨vb,0,none⟩) 1 (⟨6,0,u.F,x1.term,(0,0),[],0,false,(min (lastP x1).1 (u.pl.1-1)),[],[]⟩:Ms) (⟨none,0,0,none,0,0,none,0,0,[]⟩:Mp) (iw (dh (b:=vb) (t:=65) (As:=mP g x1 m2) hS1 O)) (by omega)) O O) ?_
   rintro _ _ ⟨⟨AS,cS⟩,rfl,_,rfl⟩;dsimp only[List.cons_append,List.nil_append]
   refine dV ?_
   refine dn ?_
   skip
   skip
   have hfin:=fun(w':World)=>bR (w:=w) (M:=ar (mP g x m)) (g:=g) (x2:=x1) (m2:=(bT x1 m2 ((⟨6,0,u.F,x1.term,(0,0),[],0,false,(min (lastP x1).1 (u.pl.1-1)),[],[]⟩:Ms),(⟨none,0,0,none,0,0,none,0,0,[]⟩:Mp)) AS cS)) (Z:=Z1) (D:=D) (ms:=m.S.map Prod.fst++[eE x1 (⟨6,0,u.F,x1.term,(0,0),[],0,false,(min (lastP x1).1 (u.pl.1-1)),[],[]⟩:Ms)]) (ib:=m.i) ⟨by show (m2.S++_).map Prod.fst=_;rw[List.map_append,hm2S'];rfl,hm2i,⟨hl2.hvn,hl2.hpn⟩,fun w2 h2=>⟨(hM2 w2 h2).lg,fun s hs=>by
     rcases List.mem_append.1 hs with hs|hs
     ·exact(hM2 w2 h2).ms s hs
     ·obtain rfl:=List.mem_singleton.1 hs
      exact⟨O,Nat.zero_le _,O,Rd.none_,fun m hm=>absurd hm (by simp),O,Nat.zero_le _,Rd.none_,Bs.nil _ _,Nat.zero_le _⟩⟩⟩ (w':=w')
   first
   |exact hE _ _ fun w' hS=>hfin w' (ae w' hS)
   |exact hB _ _ _ _ O fun w' hS=>hfin w' (ae w' hS)
  ·rw[show u.pl.1-1=u.pl.1 by omega] at hE hB
   focus (refine qT ?_;refine qs ?_;refine qp ?_;refine qp ?_;refine qt (ah (v:= .int .u64 (u.pl.1:Int)) O O O O) ?_;refine qp ?_;refine qz ?_;refine qq ?_;refine qs ?_;refine qp ?_;refine qf ?_;refine qz ?_;refine qF ?_;refine qx ?_;refine qq ?_)
   refine dS [pt b3 65 (aW u q),pt g 89 (aD x1 m2)] 16 ?_
   refine dp 0 ?_
   refine dp 1 ?_
   refine dt 2 O (ah (v:= .int .i64 u.F) O O O O) ?_
   refine dp 3 ?_
   refine dt 4 O (ac O) ?_
   refine dp 5 ?_
   refine dp 6 ?_
   refine dl 7 ?_
   refine dp 8 ?_
   refine dp 11 ?_
   refine dE 9 O (aq (f:=59) pE (fun w1 hS1=>ef w1 g x1 m2 (bJ hS1 (by simp)) (hMw w1 ⟨hD.at_ hS1,hS1.at_ (A:=Z1) (by simp)⟩).lg) O O (fun _=>O)) ?_
   rintro _ _ ⟨_,rfl,_,rfl⟩
   refine nx ?_
   refine dt 10 O (cW (xs:=aO (lastP x1)) O O O O O O) ?_
   refine dt 12 O (C.k0 O O) ?_
   refine dt 13 O (ik O O O O (o3 _ _ _)) ?_
   refine dE 14 O (cK (vs:=[.agg (aW (⟨6,0,u.F,x1.term,(0,0),[],0,false,(min (lastP x1).1 u.pl.1),[],[]⟩:Ms) (⟨none,0,0,none,0,0,none,0,0,[]⟩:Mp)).toArray]) (size:=12) (ds:=aW (⟨6,0,u.F,x1.term,(0,0),[],0,false,(min (lastP x1).1 u.pl.1),[],[]⟩:Ms) (⟨none,0,0,none,0,0,none,0,0,[]⟩:Mp)) O O O O O O (by simp[aV,dZ]) O (by omega)) ?_
   rintro _ _ ⟨vb,rfl,rfl⟩
   refine nx ?_
   refine dE 15 O (fF (f:=113) (mP g x1 m2) (fun(y:Option Addr×Nat)=>mP g x1 (bT x1 m2 ((⟨6,0,u.F,x1.term,(0,0),[],0,false,(min (lastP x1).1 u.pl.1),[],[]⟩:Ms),(⟨none,0,0,none,0,0,none,0,0,[]⟩:Mp)) y.1 y.2)) kT (fun w1 hS1 hS2=>dB w1 g x1 m2 hS2 (some ⟨vb,0,none⟩) 1 (⟨6,0,u.F,x1.term,(0,0),[],0,false,(min (lastP x1).1 u.pl.1),[],[]⟩:Ms) (⟨none,0,0,none,0,0,none,0,0,[]⟩:Mp) (iw (dh (b:=vb) (t:=65) (As:=mP g x1 m2) hS1 O)) (by omega)) O O) ?_
   rintro _ _ ⟨⟨AS,cS⟩,rfl,_,rfl⟩;dsimp only[List.cons_append,List.nil_append]
   refine dV ?_
   refine dn ?_
   skip
   skip
   have hfin:=fun(w':World)=>bR (w:=w) (M:=ar (mP g x m)) (g:=g) (x2:=x1) (m2:=(bT x1 m2 ((⟨6,0,u.F,x1.term,(0,0),[],0,false,(min (lastP x1).1 u.pl.1),[],[]⟩:Ms),(⟨none,0,0,none,0,0,none,0,0,[]⟩:Mp)) AS cS)) (Z:=Z1) (D:=D) (ms:=m.S.map Prod.fst++[eE x1 (⟨6,0,u.F,x1.term,(0,0),[],0,false,(min (lastP x1).1 u.pl.1),[],[]⟩:Ms)]) (ib:=m.i) ⟨by show (m2.S++_).map Prod.fst=_;rw[List.map_append,hm2S'];rfl,hm2i,⟨hl2.hvn,hl2.hpn⟩,fun w2 h2=>⟨(hM2 w2 h2).lg,fun s hs=>by
     rcases List.mem_append.1 hs with hs|hs
     ·exact(hM2 w2 h2).ms s hs
     ·obtain rfl:=List.mem_singleton.1 hs
      exact⟨O,Nat.zero_le _,O,Rd.none_,fun m hm=>absurd hm (by simp),O,Nat.zero_le _,Rd.none_,Bs.nil _ _,Nat.zero_le _⟩⟩⟩ (w':=w')
   first
   |exact hE _ _ fun w' hS=>hfin w' (ae w' hS)
   |exact hB _ _ _ _ O fun w' hS=>hfin w' (ae w' hS)
theorem v6 {P:Program} {n:Nat} {w0:World} {M:Nat→Prop} {T:aF} {H:List Asn} {dd:Option Tmp} {tt:TypeId} {pos:String} {af:Array Edge} {g:Option (Nat×Bool)} {x:Operand} {u:TypeId} {b r:Bool} (h:az T x=some (.bool b)) (e:(!b)=r):Tk P n w0 M T H ⟨dd,.unOp .not u x,tt,pos,af,g⟩ (.bool r):=e▸aR h
theorem mi: ∀ (l:List Pe) (i:Nat) (q:Pe) (a:Nat),i<l.length→l.getD i default=q→(ab bp l).take (i*3+1)++[.int .u64 (a:Int)]++(ab bp l).drop (i*3+1+1)=ab bp (l.set i (q.1,a,q.2.2))
 |[],i,q,a,h,_=>absurd h (Nat.not_lt_zero _)
 |p::l,0,q,a,_,hq=>by
  have hq:p=q:=hq
  subst hq
  simp[ab,bp]
 |p::l,i+1,q,a,h,hq=>by
  have ih:=mi l i q a (by simpa using h) (by simpa using hq)
  have e1:(i+1)*3+1=3+(i*3+1):=by omega
  have e2:3+(i*3+1)+1=3+(i*3+1+1):=by omega
  have t1: ∀ n,List.take (3+n) (bp p++ab bp l)=bp p++List.take n (ab bp l):=fun n=>by rw[← d2 p,List.take_length_add_append]
  have t2: ∀ n,List.drop (3+n) (bp p++ab bp l)=List.drop n (ab bp l):=fun n=>by rw[← d2 p,List.drop_length_add_append]
  have ec: ∀ (a:Pe) (k:List Pe),ab bp (a::k)=bp a++ab bp k:=fun a k=>by simp[ab]
  rw[List.set_cons_succ,ec,ec, ← ih,e1,e2]
  rw[t1,t2]
  simp
theorem o4: ∀ (l:List Pe) (i:Nat) (q:Pe) (a:Nat),i<l.length→l.getD i default=q→(ab bp l).take (i*3+2)++[.int .u64 (a:Int)]++(ab bp l).drop (i*3+2+1)=ab bp (l.set i (q.1,q.2.1,a))
 |[],i,q,a,h,_=>absurd h (Nat.not_lt_zero _)
 |p::l,0,q,a,_,hq=>by
  have hq:p=q:=hq
  subst hq
  simp[ab,bp]
 |p::l,i+1,q,a,h,hq=>by
  have ih:=o4 l i q a (by simpa using h) (by simpa using hq)
  have e1:(i+1)*3+2=3+(i*3+2):=by omega
  have e2:3+(i*3+2)+1=3+(i*3+2+1):=by omega
  have t1: ∀ n,List.take (3+n) (bp p++ab bp l)=bp p++List.take n (ab bp l):=fun n=>by rw[← d2 p,List.take_length_add_append]
  have t2: ∀ n,List.drop (3+n) (bp p++ab bp l)=List.drop n (ab bp l):=fun n=>by rw[← d2 p,List.drop_length_add_append]
  have ec: ∀ (a:Pe) (k:List Pe),ab bp (a::k)=bp a++ab bp k:=fun a k=>by simp[ab]
  rw[List.set_cons_succ,ec,ec, ← ih,e1,e2]
  rw[t1,t2]
  simp
theorem r3 (f:Pe→Pe): ∀ (l:List Pe) (who:Int) (i:Nat) (q:Pe),l.findIdx (fun p=>decide (p.1=who))=i→l.getD i default=q→i<l.length→eO l who f=l.set i (f q)
 |[],_,_,_,_,_,h=>absurd h (Nat.not_lt_zero _)
 |p::l,who,i,q,h,hq,hi=>by
  unfold eO
  rw[h]
  rw[List.findIdx_cons] at h
  by_cases hp:p.1=who
  ·rw[decide_eq_true hp] at h
   have h:0=i:=h
   subst h
   have hq:p=q:=hq
   subst hq
   rfl
  ·rw[decide_eq_false hp] at h
   have h:l.findIdx (fun p=>decide (p.1=who))+1=i:=h
   subst h
   have:=r3 f l who _ q O (by simpa using hq) (by simpa using hi)
   unfold eO at this
   rw[List.modify_succ_cons,List.set_cons_succ,this]
theorem nL (w:World) (g:Nat) (x:Rs) (m:Mm) (hS0:St w (ar (mP g x m)) (mP g x m) w) (D:Kw) (hD:Kd D (mP g x m) w) (h: ∀ w',D w'→McR w' x m) (hl:McL x m) (u:Ms) (q:Mp) (hcf:C.right x.cf=true) (huA:RsU x) (hpn:m.p.pn≤800) (hix:u.ix<18446744073709551615) (hpe: ∀ p∈x.peers,p.2.2<18446744073709551615) (hSm:m.S.length≤800) (hu1:RsU {x with peers:=eO x.peers u.F (tU u)}) (hu2:RsU (dI {x with peers:=eO x.peers u.F (tV u)})):Mth g x (bZ x u).1 m (bZ x u).2 m.i D 147 [.agg (aW u q).toArray] w:=by
 unfold Mth
 refine bO Tryz.func147 O Tryz.ntmps147 Tryz.results147 (by simp) hS0 (fun B hE hB=>?_)
 have h5:(aJ x).length≤5:=dG hcf _
 have hpl:=hl.hpn
 obtain⟨P,hP⟩: ∃ P,rS x m u.F=P:=⟨_,O⟩
 refine ez ?_
 by_cases hr:x.role=4
 rotate_left
 ·skip
  have e:bZ x u=(x,[]):=by unfold bZ;rw[if_neg (fun c=>hr c.1)]
  rw[e] at hE hB
  dsimp only at hE hB
  focus (refine qs ?_;(refine qe (ap (cs:=aW u q) O) ?_;rintro _ _ ⟨b3,rfl,rfl⟩);refine qn ?_;refine qp ?_;refine qp ?_;refine qt (ah (v:= .int .i64 u.F) O O O O) ?_;refine qh tT (fun w1 hS1=>gi w1 g x m (bJ hS1 (by simp)) ((Srd.row (n:=m.p.pn) (c:=m.p.pc)).rd w1 hS1) hl.hpn (by omega) u.F _ hP) ?_;refine qp ?_;refine qz ?_;refine qq ?_;refine qq ?_;(refine dQ 20 ?_;(refine dp 0 ?_);(refine dt 1 O (ac O) ?_);(refine dp 2 ?_);(refine dp 3 ?_);(refine dl 4 ?_);(refine cZ 5 ?_);(refine cZ 6 ?_);(refine dk 7 ?_);(refine dk 8 ?_);(refine dk 9 ?_);(refine dk 10 ?_);(refine dk 11 ?_);(refine dk 12 ?_);(refine dk 13 ?_);(refine dk 14 ?_);(refine cZ 15 ?_);(refine cZ 16 ?_);(refine dk 17 ?_);(refine dk 18 ?_);(refine cZ 19 ?_);refine dn ?_);refine qT ?_)
  have hfin:=fun(w':World)=>eg (w:=w) (M:=ar (mP g x m)) (g:=g) (x2:=x) (m2:=m) (D:=D) (ms:=m.S.map Prod.fst++[]) (ib:=m.i) ⟨by simp,O,hl,fun w2 h2=>h w2 h2.1⟩ (w':=w')
  first
  |exact hE _ _ fun w' hS=>hfin w' (ae w' hS)
  |exact hB _ _ _ _ O fun w' hS=>hfin w' (ae w' hS)
 by_cases ht:u.tm=x.term
 rotate_left
 ·skip
  have e:bZ x u=(x,[]):=by unfold bZ;rw[if_neg (fun c=>ht c.2.1)]
  rw[e] at hE hB
  dsimp only at hE hB
  focus (refine qs ?_;(refine qe (ap (cs:=aW u q) O) ?_;rintro _ _ ⟨b3,rfl,rfl⟩);refine qn ?_;refine qp ?_;refine qp ?_;refine qt (ah (v:= .int .i64 u.F) O O O O) ?_;refine qh tT (fun w1 hS1=>gi w1 g x m (bJ hS1 (by simp)) ((Srd.row (n:=m.p.pn) (c:=m.p.pc)).rd w1 hS1) hl.hpn (by omega) u.F _ hP) ?_;refine qp ?_;refine qz ?_;refine qq ?_;refine qq ?_;(refine dQ 20 ?_;(refine dp 0 ?_);(refine dt 1 O (ac O) ?_);(refine dp 2 ?_);(refine dp 3 ?_);(refine dl 4 ?_);(refine eI 5 ?_);(refine dp 6 ?_);(refine dp 7 ?_);(refine dt 8 O (ah (v:= .int .u64 (u.tm:Int)) O O O O) ?_);(refine dp 9 ?_);(refine dt 10 O (ac O) ?_);(refine dp 11 ?_);(refine dp 12 ?_);(refine dl 13 ?_);(refine cZ 14 ?_);(refine cZ 15 ?_);(refine cZ 16 ?_);(refine dk 17 ?_);(refine dk 18 ?_);(refine cZ 19 ?_);refine dn ?_);refine qT ?_)
  have hfin:=fun(w':World)=>eg (w:=w) (M:=ar (mP g x m)) (g:=g) (x2:=x) (m2:=m) (D:=D) (ms:=m.S.map Prod.fst++[]) (ib:=m.i) ⟨by simp,O,hl,fun w2 h2=>h w2 h2.1⟩ (w':=w')
  first
  |exact hE _ _ fun w' hS=>hfin w' (ae w' hS)
  |exact hB _ _ _ _ O fun w' hS=>hfin w' (ae w' hS)
 cases hf:x.peers.find? (fun p=>decide (p.1=u.F)) with
 |none=>
  obtain rfl:P=none:=by rw[← hP,rS,jz hf];rfl
  have e:bZ x u=(x,[]):=by unfold bZ;rw[if_neg (fun c=>by
    obtain⟨p,h1,h2⟩:=List.any_eq_true.1 c.2.2
    exact absurd h2 (List.find?_eq_none.1 hf p h1))]
  rw[e] at hE hB
  dsimp only at hE hB
  focus (refine qs ?_;(refine qe (ap (cs:=aW u q) O) ?_;rintro _ _ ⟨b3,rfl,rfl⟩);refine qn ?_;refine qp ?_;refine qp ?_;refine qt (ah (v:= .int .i64 u.F) O O O O) ?_;refine qh tT (fun w1 hS1=>gi w1 g x m (bJ hS1 (by simp)) ((Srd.row (n:=m.p.pn) (c:=m.p.pc)).rd w1 hS1) hl.hpn (by omega) u.F _ hP) ?_;refine qp ?_;refine qz ?_;refine qq ?_;refine qq ?_;(refine dQ 20 ?_;(refine dp 0 ?_);(refine dt 1 O (ac O) ?_);(refine dp 2 ?_);(refine dp 3 ?_);(refine dl 4 ?_);(refine eI 5 ?_);(refine dp 6 ?_);(refine dp 7 ?_);(refine dt 8 O (ah (v:= .int .u64 (u.tm:Int)) O O O O) ?_);(refine dp 9 ?_);(refine dt 10 O (ac O) ?_);(refine dp 11 ?_);(refine dp 12 ?_);(refine dl 13 ?_);(refine eI 14 ?_);(refine dp 15 ?_);(refine dp 16 ?_);(refine dp 17 ?_);(refine dt 18 O (lm (r:=true) O O O O O) ?_);(refine cZ 19 ?_);refine dn ?_);refine qT ?_)
  have hfin:=fun(w':World)=>eg (w:=w) (M:=ar (mP g x m)) (g:=g) (x2:=x) (m2:=m) (D:=D) (ms:=m.S.map Prod.fst++[]) (ib:=m.i) ⟨by simp,O,hl,fun w2 h2=>h w2 h2.1⟩ (w':=w')
  first
  |exact hE _ _ fun w' hS=>hfin w' (ae w' hS)
  |exact hB _ _ _ _ O fun w' hS=>hfin w' (ae w' hS)
 |some kqp=>
  obtain⟨i,hil,hix2,hgi,hfi⟩:=jA hf
  obtain rfl:P=pa m.p.pA (i*3):=by rw[← hP,rS,hix2,if_pos (by omega)];rfl
  have hisP:Gu x.peers u.F=true:=List.any_eq_true.2 ⟨kqp,List.mem_of_find?_eq_some hf,by have h9:=List.find?_some hf;exact h9⟩
  have hps: ∀ f,eO x.peers u.F f=x.peers.set i (f kqp):=fun f=>r3 f x.peers u.F i kqp hfi hgi hil
  refine eS m.p.pA m.p.pn m.p.pc fun _ _ hneR _=>?_
  have hne:m.p.pA≠none:=hneR (by omega)
  obtain⟨AP,hAP⟩: ∃ A,pa m.p.pA (i*3)=some A:=by
   cases hpA:m.p.pA with
   |none=>exact absurd hpA hne
   |some ad=>exact⟨_,O⟩
  have hat:=bi (f:=bp) d2 x.peers default i hil
  rw[hgi] at hat
  have hat1:(ab bp x.peers)[i*3+1]? =some (.int .u64 (kqp.2.1:Int)):=hat 1 _ O
  have hat2:(ab bp x.peers)[i*3+2]? =some (.int .u64 (kqp.2.2:Int)):=hat 2 _ O
  have hq2:=hpe kqp (List.mem_of_find?_eq_some hf)
  have hq1:=(huA.pe kqp (List.mem_of_find?_eq_some hf)).1
  have hlen3:(ab bp x.peers).length=x.peers.length*3:=by simp[eV,d2]
  cases hok:u.ok
  ·have e:bZ x u=({x with peers:=eO x.peers u.F (tU u)},ff {x with peers:=eO x.peers u.F (tU u)} u.F):=by unfold bZ;rw[if_pos ⟨hr,ht,hisP⟩,if_pos hok]
   rw[e] at hE hB
   dsimp only at hE hB
   have hnk:(!u.ok)=true:=by rw[hok];rfl
   focus (refine qs ?_;(refine qe (ap (cs:=aW u q) O) ?_;rintro _ _ ⟨b3,rfl,rfl⟩);refine qn ?_;refine qp ?_;refine qp ?_;refine qt (ah (v:= .int .i64 u.F) O O O O) ?_;refine qh tT (fun w1 hS1=>gi w1 g x m (bJ hS1 (by simp)) ((Srd.row (n:=m.p.pn) (c:=m.p.pc)).rd w1 hS1) hl.hpn (by omega) u.F _ hP) ?_;refine qp ?_;refine qz ?_;refine qq ?_;refine qq ?_;(refine dQ 20 ?_;(refine dp 0 ?_);(refine dt 1 O (ac O) ?_);(refine dp 2 ?_);(refine dp 3 ?_);(refine dl 4 ?_);(refine eI 5 ?_);(refine dp 6 ?_);(refine dp 7 ?_);(refine dt 8 O (ah (v:= .int .u64 (u.tm:Int)) O O O O) ?_);(refine dp 9 ?_);(refine dt 10 O (ac O) ?_);(refine dp 11 ?_);(refine dp 12 ?_);(refine dl 13 ?_);(refine eI 14 ?_);(refine dp 15 ?_);(refine dp 16 ?_);(refine dp 17 ?_);((refine dt 18 O (lm (r:=false) O O O O (by rw[hAP];rfl)) ?_));(refine dp 19 ?_);refine dn ?_);refine qF ?_;refine qx ?_;refine qq ?_;refine qs ?_;refine qp ?_;refine qt (ah (v:= .bool u.ok) O O O O) ?_;refine qt (v6 O hnk) ?_;refine qz ?_;refine qT ?_;refine qq ?_)
   refine dS [pt b3 65 (aW u q),row 112 3 m.p.pA m.p.pn m.p.pc (ab bp x.peers)] 18 ?_
   refine dp 0 ?_
   refine dp 1 ?_
   refine dt 2 O (eW O hne) ?_
   refine dt 3 O (dx O O O O O hne) ?_
   refine dt 4 O (bN (v:= .int .u64 (kqp.2.1:Int)) O O O (Srd.row (n:=m.p.pn) (c:=m.p.pc)) (by omega) hat1) ?_
   refine dp 5 ?_
   refine dt 6 O (ah (v:= .int .u64 (u.ix:Int)) O O O O) ?_
   (refine dt 7 O (aI O O (by unfold aH;omega)) ?_)
   refine dt 8 O (C.k0 O O) ?_
   refine dp 9 ?_
   refine dt 10 O (eW O hne) ?_
   refine dt 11 O (dx O O O O O hne) ?_
   refine dt 12 O (bN (v:= .int .u64 (kqp.2.2:Int)) O O O (Srd.row (n:=m.p.pn) (c:=m.p.pc)) (by omega) hat2) ?_
   (refine dt 13 O (aI O O (by unfold aH;omega)) ?_)
   refine dt 14 O (C.l5 O O) ?_
   refine dt 15 O (eW O hne) ?_
   refine dt 16 O (dx O O O O O hne) ?_
   refine dE 17 O (ij (A:=m.p.pA) (m:=m.p.pn) (c:=m.p.pc) (e:=112) (size:=3) (off:=i*3+1) (ds:=[.int .u64 ((max (min kqp.2.1 (u.ix+1)) (kqp.2.2+1)):Nat)]) (xs:=ab bp x.peers) O O O O O (by simp[Value.oneCell']) (by simp) (by rw[hlen3];show i*3+1+1≤_;omega)) ?_
   rintro _ _ rfl
   refine dV ?_
   refine dn ?_
   skip
   have e9:x.peers.set i (kqp.1,(max (min kqp.2.1 (u.ix+1)) (kqp.2.2+1)),kqp.2.2)=eO x.peers u.F (tU u):=(hps (tU u)).symm
   obtain⟨x1,hx1⟩: ∃ y,y=({x with peers:=eO x.peers u.F (tU u)}:Rs):=⟨_,O⟩
   have hp1:x1.peers=eO x.peers u.F (tU u):=by rw[hx1]
   have hv1:x1.votes=x.votes:=by rw[hx1]
   rw[← hx1] at hE hB hu1
   have hl1:McL x1 m:=⟨by rw[hv1];exact hl.hvn,by rw[hp1,hps,List.length_set];exact hl.hpn⟩
   have hM1: ∀ w',D w'→McR w' x1 m:=fun w' h'=>by rw[hx1];exact⟨(h w' h').lg.like O O O O O O O O,(h w' h').ms⟩
   refine eu (H':=[zN,pt g 89 (aD x1 m),row 3 1 m.p.vA m.p.vn m.p.vc (x1.votes.map zv),row 112 3 m.p.pA m.p.pn m.p.pc (ab bp x1.peers),row 65 12 m.sA m.S.length m.sc (ab bK m.S),pt b3 65 (aW u q)]) (fun w' hS=>?_) ?_
   ·have h9:=ae (H':=[zN,pt g 89 (aD x m),row 3 1 m.p.vA m.p.vn m.p.vc (x.votes.map zv),row 112 3 m.p.pA m.p.pn m.p.pc ((ab bp x.peers).take (i*3+1)++[.int .u64 ((max (min kqp.2.1 (u.ix+1)) (kqp.2.2+1)):Nat)]++(ab bp x.peers).drop (i*3+1+[Value.int .u64 ((max (min kqp.2.1 (u.ix+1)) (kqp.2.2+1)):Nat)].length)),row 65 12 m.sA m.S.length m.sc (ab bK m.S),pt b3 65 (aW u q)]) w' hS
    simp only[List.length_singleton] at h9
    rw[mi x.peers i kqp _ hil hgi,e9] at h9
    rw[hp1,hv1,hx1]
    exact h9
   have hpn9:m.p.pn≤900:=by omega
   focus (refine qs ?_;refine qp ?_;refine qp ?_;refine qt (ah (v:= .int .i64 u.F) O O O O) ?_;(refine qe (cq (f:=60) (D:=D) (Z:=zN) (mP g x1 m) (fun z:(List (Ms×Mp)×Option Addr×Nat)×Asn=>mP g x1 (be m z.1)) hD Ee (fun w1 _ hk hS1=>kK w1 g x1 m hS1 (K2 D zN) hk (fun w2 h2=>hM1 w2 h2.1) hl1 hpn9 hu1 (by omega) u.F) O O) ?_;rintro _ _ ⟨⟨⟨N,AN,cN⟩,ZN⟩,Z2,rfl,⟨hI1,hI2⟩,hold2,hnew2,rfl⟩;dsimp only[List.cons_append,List.nil_append] at hI1 hI2 ⊢);refine qz ?_)
   have hfin:=fun(w':World)=>bR (w:=w) (M:=ar (mP g x m)) (g:=g) (x2:=x1) (m2:=(be m (N,AN,cN))) (Z:=Z2) (D:=D) (ms:=m.S.map Prod.fst++ff x1 u.F) (ib:=m.i) ⟨by show (m.S++N).map Prod.fst=_;rw[List.map_append,hI1],O,⟨hl1.hvn,hl1.hpn⟩,fun w2 h2=>⟨(hM1 w2 h2.1).lg,fun s hs=>by
     rcases List.mem_append.1 hs with hs|hs
     ·exact(hM1 w2 h2.1).ms s hs
     ·exact hI2 w2 (hnew2 w2 h2) s hs⟩⟩ (w':=w')
   first
   |exact hE _ _ fun w' hS=>hfin w' (ae w' hS)
   |exact hB _ _ _ _ O fun w' hS=>hfin w' (ae w' hS)
  ·have hnk:(!u.ok)=false:=by rw[hok];rfl
   focus (refine qs ?_;(refine qe (ap (cs:=aW u q) O) ?_;rintro _ _ ⟨b3,rfl,rfl⟩);refine qn ?_;refine qp ?_;refine qp ?_;refine qt (ah (v:= .int .i64 u.F) O O O O) ?_;refine qh tT (fun w1 hS1=>gi w1 g x m (bJ hS1 (by simp)) ((Srd.row (n:=m.p.pn) (c:=m.p.pc)).rd w1 hS1) hl.hpn (by omega) u.F _ hP) ?_;refine qp ?_;refine qz ?_;refine qq ?_;refine qq ?_;(refine dQ 20 ?_;(refine dp 0 ?_);(refine dt 1 O (ac O) ?_);(refine dp 2 ?_);(refine dp 3 ?_);(refine dl 4 ?_);(refine eI 5 ?_);(refine dp 6 ?_);(refine dp 7 ?_);(refine dt 8 O (ah (v:= .int .u64 (u.tm:Int)) O O O O) ?_);(refine dp 9 ?_);(refine dt 10 O (ac O) ?_);(refine dp 11 ?_);(refine dp 12 ?_);(refine dl 13 ?_);(refine eI 14 ?_);(refine dp 15 ?_);(refine dp 16 ?_);(refine dp 17 ?_);((refine dt 18 O (lm (r:=false) O O O O (by rw[hAP];rfl)) ?_));(refine dp 19 ?_);refine dn ?_);refine qF ?_;refine qx ?_;refine qq ?_;refine qs ?_;refine qp ?_;refine qt (ah (v:= .bool u.ok) O O O O) ?_;refine qt (v6 O hnk) ?_;refine qz ?_;refine qF ?_;refine qx ?_;refine qq ?_;refine qq ?_)
   by_cases hlx:(lastP x).1<u.ix
   ·have e:bZ x u=(x,[]):=by unfold bZ;rw[if_pos ⟨hr,ht,hisP⟩,if_neg (by rw[hok];decide),if_pos hlx]
    rw[e] at hE hB
    dsimp only at hE hB
    refine dS [pt b3 65 (aW u q)] 6 ?_
    refine dp 0 ?_
    refine dt 1 O (ah (v:= .int .u64 (u.ix:Int)) O O O O) ?_
    refine dp 2 ?_
    refine dE 3 O (aq (f:=59) pE (fun w1 hS1=>ef w1 g x m (bJ hS1 (by simp)) (h w1 (hD.at_ hS1)).lg) O O (fun _=>O)) ?_
    rintro _ _ ⟨_,rfl,_,rfl⟩
    refine nx ?_
    refine dt 4 O (cW (xs:=aO (lastP x)) O O O O O O) ?_
    refine cZ 5 ?_
    refine dn ?_
    skip
    focus (refine qT ?_)
    have hfin:=fun(w':World)=>eg (w:=w) (M:=ar (mP g x m)) (g:=g) (x2:=x) (m2:=m) (D:=D) (ms:=m.S.map Prod.fst++[]) (ib:=m.i) ⟨by simp,O,hl,fun w2 h2=>h w2 h2.1⟩ (w':=w')
    first
    |exact hE _ _ fun w' hS=>hfin w' (ae w' hS)
    |exact hB _ _ _ _ O fun w' hS=>hfin w' (ae w' hS)
   refine dS [pt b3 65 (aW u q)] 6 ?_
   refine dp 0 ?_
   refine dt 1 O (ah (v:= .int .u64 (u.ix:Int)) O O O O) ?_
   refine dp 2 ?_
   refine dE 3 O (aq (f:=59) pE (fun w1 hS1=>ef w1 g x m (bJ hS1 (by simp)) (h w1 (hD.at_ hS1)).lg) O O (fun _=>O)) ?_
   rintro _ _ ⟨_,rfl,_,rfl⟩
   refine nx ?_
   refine dt 4 O (cW (xs:=aO (lastP x)) O O O O O O) ?_
   refine eI 5 ?_
   refine dn ?_
   skip
   focus (refine qF ?_;refine qx ?_;refine qq ?_)
   have e1a:bZ x u=(dI {x with peers:=eO x.peers u.F (tV u)},fV (dI {x with peers:=eO x.peers u.F (tV u)}) u.F):=by unfold bZ;rw[if_pos ⟨hr,ht,hisP⟩,if_neg (by rw[hok];decide),if_neg hlx]
   rw[e1a] at hE hB
   dsimp only at hE hB
   refine dS [pt b3 65 (aW u q),row 112 3 m.p.pA m.p.pn m.p.pc (ab bp x.peers)] 11 ?_
   refine dp 0 ?_
   refine dp 1 ?_
   refine dt 2 O (eW O hne) ?_
   refine dt 3 O (dx O O O O O hne) ?_
   refine dt 4 O (bN (v:= .int .u64 (kqp.2.2:Int)) O O O (Srd.row (n:=m.p.pn) (c:=m.p.pc)) (by omega) hat2) ?_
   refine dp 5 ?_
   refine dt 6 O (ah (v:= .int .u64 (u.ix:Int)) O O O O) ?_
   refine dt 7 O (C.l5 O O) ?_
   refine dt 8 O (eW O hne) ?_
   refine dt 9 O (dx O O O O O hne) ?_
   refine dE 10 O (ij (A:=m.p.pA) (m:=m.p.pn) (c:=m.p.pc) (e:=112) (size:=3) (off:=i*3+2) (ds:=[.int .u64 (max kqp.2.2 u.ix:Nat)]) (xs:=ab bp x.peers) O O O O O (by simp[Value.oneCell']) (by simp) (by rw[hlen3];show i*3+2+1≤_;omega)) ?_
   rintro _ _ rfl
   refine dV ?_
   refine dn ?_
   skip
   obtain⟨l1,hl1⟩: ∃ l,l=x.peers.set i (kqp.1,kqp.2.1,max kqp.2.2 u.ix):=⟨_,O⟩
   have hl1n:l1.length=x.peers.length:=by rw[hl1,List.length_set]
   have hg1:l1.getD i default=(kqp.1,kqp.2.1,max kqp.2.2 u.ix):=by rw[hl1,List.getD_eq_getElem?_getD,List.getElem?_set_self hil];rfl
   refine eu (H':=[zN,pt g 89 (aD x m),row 3 1 m.p.vA m.p.vn m.p.vc (x.votes.map zv),row 112 3 m.p.pA m.p.pn m.p.pc (ab bp l1),row 65 12 m.sA m.S.length m.sc (ab bK m.S),pt b3 65 (aW u q)]) (fun w' hS=>?_) ?_
   ·have h9:=ae (H':=[zN,pt g 89 (aD x m),row 3 1 m.p.vA m.p.vn m.p.vc (x.votes.map zv),row 112 3 m.p.pA m.p.pn m.p.pc ((ab bp x.peers).take (i*3+2)++[.int .u64 (max kqp.2.2 u.ix:Nat)]++(ab bp x.peers).drop (i*3+2+[Value.int .u64 (max kqp.2.2 u.ix:Nat)].length)),row 65 12 m.sA m.S.length m.sc (ab bK m.S),pt b3 65 (aW u q)]) w' hS
    simp only[List.length_singleton] at h9
    rw[o4 x.peers i kqp _ hil hgi, ← hl1] at h9
    exact h9
   have hatl:=bi (f:=bp) d2 l1 default i (by omega)
   rw[hg1] at hatl
   have hat3:(ab bp l1)[i*3+1]? =some (.int .u64 (kqp.2.1:Int)):=hatl 1 _ O
   have hat4:(ab bp l1)[i*3+2]? =some (.int .u64 ((max kqp.2.2 u.ix:Nat):Int)):=hatl 2 _ O
   have hlen4:(ab bp l1).length=l1.length*3:=by simp[eV,d2]
   focus (refine qq ?_)
   refine dS [row 112 3 m.p.pA m.p.pn m.p.pc (ab bp l1)] 14 ?_
   refine dp 0 ?_
   refine dp 1 ?_
   refine dt 2 O (eW O hne) ?_
   refine dt 3 O (dx O O O O O hne) ?_
   refine dt 4 O (bN (v:= .int .u64 (kqp.2.1:Int)) O O O (Srd.row (n:=m.p.pn) (c:=m.p.pc)) (by omega) hat3) ?_
   refine dp 5 ?_
   refine dt 6 O (eW O hne) ?_
   refine dt 7 O (dx O O O O O hne) ?_
   refine dt 8 O (bN (v:= .int .u64 ((max kqp.2.2 u.ix:Nat):Int)) O O O (Srd.row (n:=m.p.pn) (c:=m.p.pc)) (by omega) hat4) ?_
   (refine dt 9 O (aI O O (by unfold aH;omega)) ?_)
   refine dt 10 O (C.l5 O O) ?_
   refine dt 11 O (eW O hne) ?_
   refine dt 12 O (dx O O O O O hne) ?_
   refine dE 13 O (ij (A:=m.p.pA) (m:=m.p.pn) (c:=m.p.pc) (e:=112) (size:=3) (off:=i*3+1) (ds:=[.int .u64 ((max kqp.2.1 (max kqp.2.2 u.ix+1)):Nat)]) (xs:=ab bp l1) O O O O O (by simp[Value.oneCell']) (by simp) (by rw[hlen4];show i*3+1+1≤_;omega)) ?_
   rintro _ _ rfl
   refine dV ?_
   refine dn ?_
   skip
   have e9:l1.set i (kqp.1,max kqp.2.1 (max kqp.2.2 u.ix+1),max kqp.2.2 u.ix)=eO x.peers u.F (tV u):=by rw[hps (tV u),hl1,List.set_set];rfl
   obtain⟨x1,hx1⟩: ∃ y,y=({x with peers:=eO x.peers u.F (tV u)}:Rs):=⟨_,O⟩
   have hp1:x1.peers=eO x.peers u.F (tV u):=by rw[hx1]
   have hv1:x1.votes=x.votes:=by rw[hx1]
   rw[← hx1] at hE hB hu2
   have hl1':McL x1 m:=⟨by rw[hv1];exact hl.hvn,by rw[hp1,hps,List.length_set];exact hl.hpn⟩
   have hM1: ∀ w',D w'→McR w' x1 m:=fun w' h'=>by rw[hx1];exact⟨(h w' h').lg.like O O O O O O O O,(h w' h').ms⟩
   refine eu (H':=[zN,pt g 89 (aD x1 m),row 3 1 m.p.vA m.p.vn m.p.vc (x1.votes.map zv),row 112 3 m.p.pA m.p.pn m.p.pc (ab bp x1.peers),row 65 12 m.sA m.S.length m.sc (ab bK m.S),pt b3 65 (aW u q)]) (fun w' hS=>?_) ?_
   ·have h9:=ae (H':=[zN,pt g 89 (aD x m),row 3 1 m.p.vA m.p.vn m.p.vc (x.votes.map zv),row 112 3 m.p.pA m.p.pn m.p.pc ((ab bp l1).take (i*3+1)++[.int .u64 ((max kqp.2.1 (max kqp.2.2 u.ix+1)):Nat)]++(ab bp l1).drop (i*3+1+[Value.int .u64 ((max kqp.2.1 (max kqp.2.2 u.ix+1)):Nat)].length)),row 65 12 m.sA m.S.length m.sc (ab bK m.S),pt b3 65 (aW u q)]) w' hS
    simp only[List.length_singleton] at h9
    rw[mi l1 i _ _ (by omega) hg1,e9] at h9
    rw[hp1,hv1,hx1]
    exact h9
   have h5x:(aJ x1).length≤5:=by rw[hx1];exact h5
   have hp8:x1.peers.length≤800:=by rw[hl1'.hpn];exact hpn
   have hcall: ∀ (w1:World),St w1 (ar (mP g x1 m)) (mP g x1 m) w1→Kd (K2 D zN) (mP g x1 m) w1→Gives Tryz.prog 56 ([.pointer (some ⟨g,0,none⟩)]) (mP g x1 m) w1 (X:=Mm×Asn) (fun _=> .tuple #[]) (fun y=>y.1.S.map Prod.fst=m.S.map Prod.fst++[]∧y.1.i=m.i∧McL (dI x1) y.1∧ ∀ w',K2 (K2 D zN) y.2 w'→McR w' (dI x1) y.1) (fun y=>mP g (dI x1) y.1++[y.2]):=fun w1 hS1 hk=>by
    have h9:=jn w1 g x1 m hS1 (K2 D zN) hk (fun w2 h2=>hM1 w2 h2.1) hl1' h5x hp8
    unfold Mth at h9
    exact h9
   obtain⟨x3,hx3⟩: ∃ y,y=dI x1:=⟨_,O⟩
   have hp3:x3.peers.length≤800:=by
    rw[hx3]
    unfold dI
    split
    ·exact Nat.zero_le _
    ·exact hp8
   focus (refine qs ?_;refine qp ?_;(refine qe (cq (f:=56) (D:=D) (Z:=zN) (mP g x1 m) (fun z:Mm×Asn=>mP g (dI x1) z.1) hD FJ (fun w1 _ hk hS1=>hcall w1 hS1 hk) O O) ?_;rintro _ _ ⟨⟨m2,C2⟩,Z1,rfl,⟨hm2S,hm2i,hl2,hm2R⟩,hold0,hnew0,rfl⟩;dsimp only[List.cons_append,List.nil_append] at hm2S hm2i hl2 hm2R ⊢);refine qn ?_;refine qp ?_;refine qp ?_;refine qt (ah (v:= .int .i64 u.F) O O O O) ?_)
   simp only[← hx3] at hE hB hl2 hm2R hu2 ⊢
   have hM3: ∀ w',K2 D Z1 w'→McR w' x3 m2:=fun w2 h2=>hm2R w2 (hnew0 w2 h2)
   have hpn3:m2.p.pn≤900:=by
    have:=hl2.hpn
    omega
   have hSl3:m2.S.length≤800:=by
    have:=congrArg List.length hm2S
    simp at this
    omega
   obtain⟨P3,hP3⟩: ∃ P,rS x3 m2 u.F=P:=⟨_,O⟩
   have hnm:fV x3 u.F=match x3.peers.find? (fun p=>decide (p.1=u.F)) with
    |none=>[]
    |some p=>if p.2.1≤(lastP x3).1 then ff x3 u.F else []:=rfl
   cases hf3:x3.peers.find? (fun p=>decide (p.1=u.F)) with
   |none=>
    rw[hf3] at hnm
    dsimp only at hnm
    obtain rfl:P3=none:=by rw[← hP3,rS,jz hf3];rfl
    focus (refine qh tT (fun w1 hS1=>gi w1 g x3 m2 (bJ hS1 (by simp)) ((Srd.row (n:=m2.p.pn) (c:=m2.p.pc)).rd w1 hS1) hl2.hpn hpn3 u.F _ hP3) ?_;refine qp ?_;refine qz ?_;refine qq ?_)
    refine dS [pt g 89 (aD x3 m2),row 112 3 m2.p.pA m2.p.pn m2.p.pc (ab bp x3.peers)] 12 ?_
    refine dp 0 ?_
    refine dt 1 O (lp (r:=false) O O O O O) ?_
    refine dp 2 ?_
    refine dk 3 ?_
    refine dk 4 ?_
    refine dk 5 ?_
    refine dk 6 ?_
    refine dk 7 ?_
    refine dk 8 ?_
    refine dk 9 ?_
    refine dk 10 ?_
    refine dp 11 ?_
    refine dn ?_
    skip
    focus (refine qF ?_;refine qx ?_)
    have hfin:=fun(w':World)=>bR (w:=w) (M:=ar (mP g x m)) (g:=g) (x2:=x3) (m2:=m2) (Z:=Z1) (D:=D) (ms:=m.S.map Prod.fst++fV x3 u.F) (ib:=m.i) ⟨by rw[hm2S,hnm],hm2i,hl2,fun w2 h2=>hM3 w2 h2⟩ (w':=w')
    first
    |exact hE _ _ fun w' hS=>hfin w' (ae w' hS)
    |exact hB _ _ _ _ O fun w' hS=>hfin w' (ae w' hS)
   |some q3=>
    rw[hf3] at hnm
    obtain⟨i3,hil3,hix3,hgi3,_⟩:=jA hf3
    have hpn4:=hl2.hpn
    obtain rfl:P3=pa m2.p.pA (i3*3):=by rw[← hP3,rS,hix3,if_pos (by omega)];rfl
    obtain⟨kqw,kqn,kqm⟩:=q3
    dsimp only at hnm
    have hatm:=bi (f:=bp) d2 x3.peers default i3 hil3
    rw[hgi3] at hatm
    have hat5:(ab bp x3.peers)[i3*3+1]? =some (.int .u64 (kqn:Int)):=hatm 1 _ O
    focus (refine qh tT (fun w1 hS1=>gi w1 g x3 m2 (bJ hS1 (by simp)) ((Srd.row (n:=m2.p.pn) (c:=m2.p.pc)).rd w1 hS1) hl2.hpn hpn3 u.F _ hP3) ?_;refine qp ?_;refine qz ?_;refine qq ?_)
    refine eS m2.p.pA m2.p.pn m2.p.pc fun _ _ hneR3 _=>?_
    have hne3:m2.p.pA≠none:=hneR3 (by omega)
    obtain⟨AP3,hAP3⟩: ∃ A,pa m2.p.pA (i3*3)=some A:=by
     cases hpA:m2.p.pA with
     |none=>exact absurd hpA hne3
     |some ad=>exact⟨_,O⟩
    by_cases hle:kqn≤(lastP x3).1
    ·rw[if_pos hle] at hnm
     refine dS [pt g 89 (aD x3 m2),row 112 3 m2.p.pA m2.p.pn m2.p.pc (ab bp x3.peers)] 12 ?_
     refine dp 0 ?_
     (refine dt 1 O (lp (r:=true) O O O O (by rw[hAP3];rfl)) ?_)
     refine dp 2 ?_
     refine dp 3 ?_
     refine dt 4 O (eW O hne3) ?_
     refine dt 5 O (dx O O O O O hne3) ?_
     refine dt 6 O (bN (v:= .int .u64 (kqn:Int)) O O O (Srd.row (n:=m2.p.pn) (c:=m2.p.pc)) (by omega) hat5) ?_
     refine dp 7 ?_
     refine dE 8 O (aq (f:=59) pE (fun w1 hS1=>ef w1 g x3 m2 (bJ hS1 (by simp)) (hM3 w1 ⟨hD.at_ hS1,hS1.at_ (A:=Z1) (by simp)⟩).lg) O O (fun _=>O)) ?_
     rintro _ _ ⟨_,rfl,_,rfl⟩
     refine nx ?_
     refine dt 9 O (cW (xs:=aO (lastP x3)) O O O O O O) ?_
     refine cZ 10 ?_
     refine cZ 11 ?_
     refine dn ?_
     skip
     focus (refine qT ?_;refine qr ?_;refine qp ?_;refine qp ?_;refine qt (ah (v:= .int .i64 u.F) O O O O) ?_;(refine qe (cq (f:=60) (D:=D) (Z:=Z1) (mP g x3 m2) (fun z:(List (Ms×Mp)×Option Addr×Nat)×Asn=>mP g x3 (be m2 z.1)) hD Ee (fun w1 _ hk hS1=>kK w1 g x3 m2 hS1 (K2 D Z1) hk (fun w2 h2=>hM3 w2 h2) hl2 hpn3 hu2 (by omega) u.F) O O) ?_;rintro _ _ ⟨⟨⟨N,AN,cN⟩,ZN⟩,Z2,rfl,⟨hI1,hI2⟩,hold2,hnew2,rfl⟩;dsimp only[List.cons_append,List.nil_append] at hI1 hI2 ⊢);refine qz ?_)
     have hfin:=fun(w':World)=>bR (w:=w) (M:=ar (mP g x m)) (g:=g) (x2:=x3) (m2:=(be m2 (N,AN,cN))) (Z:=Z2) (D:=D) (ms:=m.S.map Prod.fst++fV x3 u.F) (ib:=m.i) ⟨by show (m2.S++N).map Prod.fst=_;rw[List.map_append,hm2S,hI1,hnm,List.append_nil],hm2i,⟨hl2.hvn,hl2.hpn⟩,fun w2 h2=>⟨(hM3 w2 (hold2 w2 h2)).lg,fun s hs=>by
       rcases List.mem_append.1 hs with hs|hs
       ·exact(hM3 w2 (hold2 w2 h2)).ms s hs
       ·exact hI2 w2 (hnew2 w2 h2) s hs⟩⟩ (w':=w')
     first
     |exact hE _ _ fun w' hS=>hfin w' (ae w' hS)
     |exact hB _ _ _ _ O fun w' hS=>hfin w' (ae w' hS)
    ·rw[if_neg hle] at hnm
     refine dS [pt g 89 (aD x3 m2),row 112 3 m2.p.pA m2.p.pn m2.p.pc (ab bp x3.peers)] 12 ?_
     refine dp 0 ?_
     (refine dt 1 O (lp (r:=true) O O O O (by rw[hAP3];rfl)) ?_)
     refine dp 2 ?_
     refine dp 3 ?_
     refine dt 4 O (eW O hne3) ?_
     refine dt 5 O (dx O O O O O hne3) ?_
     refine dt 6 O (bN (v:= .int .u64 (kqn:Int)) O O O (Srd.row (n:=m2.p.pn) (c:=m2.p.pc)) (by omega) hat5) ?_
     refine dp 7 ?_
     refine dE 8 O (aq (f:=59) pE (fun w1 hS1=>ef w1 g x3 m2 (bJ hS1 (by simp)) (hM3 w1 ⟨hD.at_ hS1,hS1.at_ (A:=Z1) (by simp)⟩).lg) O O (fun _=>O)) ?_
     rintro _ _ ⟨_,rfl,_,rfl⟩
     refine nx ?_
     refine dt 9 O (cW (xs:=aO (lastP x3)) O O O O O O) ?_
     refine eI 10 ?_
     refine dp 11 ?_
     refine dn ?_
     skip
     focus (refine qF ?_;refine qx ?_)
     have hfin:=fun(w':World)=>bR (w:=w) (M:=ar (mP g x m)) (g:=g) (x2:=x3) (m2:=m2) (Z:=Z1) (D:=D) (ms:=m.S.map Prod.fst++fV x3 u.F) (ib:=m.i) ⟨by rw[hm2S,hnm],hm2i,hl2,fun w2 h2=>hM3 w2 h2⟩ (w':=w')
     first
     |exact hE _ _ fun w' hS=>hfin w' (ae w' hS)
     |exact hB _ _ _ _ O fun w' hS=>hfin w' (ae w' hS)
theorem LgR.elim5 {w:World} {x:Rs} {p:Rp} (h:LgR w x p):p.Q.length=p.n∧p.n≤1000∧p.Q.map bA=x.es∧(∀ y∈p.Q,y.2.2.2.2.length≤100000)∧p.n≤p.c:=⟨h.hn,h.hm,h.hQ,h.hd,h.hc⟩
theorem ye (a:At) (l:List En) (i:Nat):(lC a l i).2.2.length≤l.length∧ ∀ y∈(lC a l i).2.2,y∈l:=by
 unfold lC
 split
 ·split
  ·exact⟨Nat.zero_le _,fun y hy=>absurd hy (by simp)⟩
  ·exact⟨by rw[List.length_drop];omega,fun y hy=>List.mem_of_mem_drop hy⟩
 ·exact⟨Nat.zero_le _,fun y hy=>absurd hy (by simp)⟩
theorem tJ (a:At):Tryz.prog.built 39 [(0,.agg (aO a).toArray)]=some (aE a none 0 0).toArray:=by kernel_rfl
def z3 (m:Mm) (A:Option Addr) (n c:Nat):Mm:=⟨⟨m.p.A,m.p.n,m.p.c,m.p.Q,A,n,c,m.p.vA,m.p.vn,m.p.vc,m.p.pA,m.p.pn,m.p.pc⟩,m.S,m.sA,m.sc,m.i⟩
theorem v7 (w:World) (g:Nat) (x:Rs) (m:Mm) (hS0:St w (ar (mP g x m)) (mP g x m) w) (D:Kw) (hD:Kd D (mP g x m) w) (h: ∀ w',D w'→McR w' x m) (hl:McL x m) (u:Ms) (q:Mp) (hq: ∀ w',D w'→MsR w' u q) (hqcn:q.cn≤900) (hSm:m.S.length≤800):Mth g x (jN x u).1 m (jN x u).2.1 ((jN x u).2.2||m.i) D 148 [.agg (aW u q).toArray] w:=by
 unfold Mth
 refine bO Tryz.func148 O Tryz.ntmps148 Tryz.results148 (by simp) hS0 (fun B hE hB=>?_)
 have hled: ∀ (w1:World),St w1 (ar (mP g x m)) (mP g x m) w1→Kd (K2 D zN) (mP g x m) w1→Gives Tryz.prog 173 [.pointer (some ⟨g,0,none⟩),.agg (aW u q).toArray] (mP g x m) w1 (X:=Mm×Asn) (fun _=> .bool (fY x u).2.2) (fun y=>y.1.S.map Prod.fst=m.S.map Prod.fst++(fY x u).2.1∧y.1.i=m.i∧McL (fY x u).1 y.1∧ ∀ w',K2 (K2 D zN) y.2 w'→McR w' (fY x u).1 y.1) (fun y=>mP g (fY x u).1 y.1++[y.2]):=fun w1 hS1 hk=>rZ w1 g x m hS1 (K2 D zN) hk (fun w2 h2=>h w2 h2.1) hl u q hSm
 refine ez ?_
 focus (refine qs ?_;(refine qe (ap (cs:=aW u q) O) ?_;rintro _ _ ⟨b3,rfl,rfl⟩);refine qz ?_;refine qq ?_;refine qs ?_;refine qp ?_;refine qt (ai (ds:=aW u q) O O O O O) ?_)
 obtain⟨⟨x1,ms1,lb⟩,hlx⟩: ∃ z,fY x u=z:=⟨_,O⟩
 rw[hlx] at hled
 have hap:jN x u=if lb=true then (if x.commit<u.pl.1 then ({fU x u with base:=(gq x u).1,es:=(gq x u).2,cf:=u.cf,commit:=u.pl.1},[cD x u 6 x.term true u.pl.1],true)
  else (fU x u,[cD x u 6 x.term true x.commit],false)) else (x1,ms1,false):=by
  unfold fY at hlx
  unfold jN
  split at hlx
  ·rename_i h1
   cases hlx
   rw[if_pos h1];rfl
  ·rename_i h1
   rw[if_neg h1]
   split at hlx
   ·rename_i h2
    cases hlx
    rw[if_pos h2];rfl
   ·rename_i h2
    cases hlx
    rw[if_neg h2,if_pos O]
 have hlt2:lb=true→x1=fU x u∧ms1=[]:=fun e=>by
  unfold fY at hlx
  split at hlx
  ·cases hlx;cases e
  ·split at hlx
   ·cases hlx;cases e
   ·cases hlx;exact⟨O,O⟩
 rw[hap] at hE hB
 cases lb
 ·rw[if_neg (by decide)] at hE hB
  dsimp only[Bool.false_or] at hE hB
  focus ((refine qe (cq (f:=173) (D:=D) (Z:=zN) (mP g x m) (fun z:Mm×Asn=>mP g x1 z.1) hD xk (fun w1 _ hk hS1=>hled w1 hS1 hk) O O) ?_;rintro _ _ ⟨⟨m2,C2⟩,Z1,rfl,⟨hm2S,hm2i,hl2,hm2R⟩,hold0,hnew0,rfl⟩;dsimp only[List.cons_append,List.nil_append] at hm2S hm2i hl2 hm2R ⊢);refine qt (aR O) ?_;refine qz ?_;refine qT ?_)
  have hfin:=fun(w':World)=>bR (w:=w) (M:=ar (mP g x m)) (g:=g) (x2:=x1) (m2:=m2) (Z:=Z1) (D:=D) (ms:=m.S.map Prod.fst++ms1) (ib:=m.i) ⟨hm2S,hm2i,hl2,fun w2 h2=>hm2R w2 (hnew0 w2 h2)⟩ (w':=w')
  first
  |exact hE _ _ fun w' hS=>hfin w' (ae w' hS)
  |exact hB _ _ _ _ O fun w' hS=>hfin w' (ae w' hS)
 obtain⟨hx1,rfl⟩:=hlt2 O
 rw[if_pos O] at hE hB
 focus ((refine qe (cq (f:=173) (D:=D) (Z:=zN) (mP g x m) (fun z:Mm×Asn=>mP g x1 z.1) hD xk (fun w1 _ hk hS1=>hled w1 hS1 hk) O O) ?_;rintro _ _ ⟨⟨m2,C2⟩,Z1,rfl,⟨hm2S,hm2i,hl2,hm2R⟩,hold0,hnew0,rfl⟩;dsimp only[List.cons_append,List.nil_append] at hm2S hm2i hl2 hm2R ⊢);refine qt (aR O) ?_;refine qz ?_;refine qF ?_;refine qx ?_;refine qq ?_;refine qq ?_;(refine dQ 9 ?_;(refine dp 0 ?_);(refine dp 1 ?_);(refine dl 2 ?_);(refine dp 3 ?_);(refine dt 4 O (ac O) ?_);(refine dp 5 ?_);(refine dp 6 ?_);(refine dl 7 ?_);(refine dp 8 ?_);refine dn ?_))
 have hM2: ∀ w',K2 D Z1 w'→McR w' x1 m2:=fun w' h'=>hm2R w' (hnew0 w' h')
 have hMw:=hM2
 have hxc:x1.commit=x.commit:=by rw[hx1];rfl
 have hqw:=hq w hD.now
 have hS2:m2.S.length≤800:=by
  have:=congrArg List.length hm2S
  rw[List.append_nil,List.length_map,List.length_map] at this
  omega
 have hm2S':m2.S.map Prod.fst=m.S.map Prod.fst:=by rw[hm2S,List.append_nil]
 by_cases hgt:x.commit<u.pl.1
 rotate_left
 ·have hms:[cD x u 6 x.term true x.commit]=[eE x1 (⟨6,0,u.F,x1.term,(0,0),[],0,true,x1.commit,[],[]⟩:Ms)]:=by rw[hx1];rfl
  rw[if_neg hgt, ← hx1,hms] at hE hB
  dsimp only[Bool.false_or] at hE hB
  rw[decide_eq_false (show ¬ ((x1.commit:Int)<(u.pl.1:Int)) by omega)]
  focus (refine qF ?_;refine qx ?_)
  refine dS [pt b3 65 (aW u q),pt g 89 (aD x1 m2)] 16 ?_
  refine dp 0 ?_
  refine dp 1 ?_
  refine dt 2 O (ah (v:= .int .i64 u.F) O O O O) ?_
  refine dp 3 ?_
  refine dt 4 O (ac O) ?_
  refine dp 5 ?_
  refine dp 6 ?_
  refine dl 7 ?_
  refine dp 8 ?_
  refine dt 9 O (ac O) ?_
  refine dp 10 ?_
  refine dp 11 ?_
  refine dl 12 ?_
  refine dt 13 O (jk O O O O O (mh _ _ _)) ?_
  refine dE 14 O (cK (vs:=[.agg (aW (⟨6,0,u.F,x1.term,(0,0),[],0,true,x1.commit,[],[]⟩:Ms) (⟨none,0,0,none,0,0,none,0,0,[]⟩:Mp)).toArray]) (size:=12) (ds:=aW (⟨6,0,u.F,x1.term,(0,0),[],0,true,x1.commit,[],[]⟩:Ms) (⟨none,0,0,none,0,0,none,0,0,[]⟩:Mp)) O O O O O O (by simp[aV,dZ]) O (by omega)) ?_
  rintro _ _ ⟨vb,rfl,rfl⟩
  refine nx ?_
  refine dE 15 O (fF (f:=113) (mP g x1 m2) (fun(y:Option Addr×Nat)=>mP g x1 (bT x1 m2 ((⟨6,0,u.F,x1.term,(0,0),[],0,true,x1.commit,[],[]⟩:Ms),(⟨none,0,0,none,0,0,none,0,0,[]⟩:Mp)) y.1 y.2)) kT (fun w1 hS1 hS2=>dB w1 g x1 m2 hS2 (some ⟨vb,0,none⟩) 1 (⟨6,0,u.F,x1.term,(0,0),[],0,true,x1.commit,[],[]⟩:Ms) (⟨none,0,0,none,0,0,none,0,0,[]⟩:Mp) (iw (dh (b:=vb) (t:=65) (As:=mP g x1 m2) hS1 O)) (by omega)) O O) ?_
  rintro _ _ ⟨⟨AS,cS⟩,rfl,_,rfl⟩;dsimp only[List.cons_append,List.nil_append]
  refine dV ?_
  refine dn ?_
  skip
  skip
  have hfin:=fun(w':World)=>bR (w:=w) (M:=ar (mP g x m)) (g:=g) (x2:=x1) (m2:=(bT x1 m2 ((⟨6,0,u.F,x1.term,(0,0),[],0,true,x1.commit,[],[]⟩:Ms),(⟨none,0,0,none,0,0,none,0,0,[]⟩:Mp)) AS cS)) (Z:=Z1) (D:=D) (ms:=m.S.map Prod.fst++[eE x1 (⟨6,0,u.F,x1.term,(0,0),[],0,true,x1.commit,[],[]⟩:Ms)]) (ib:=m.i) ⟨by show (m2.S++_).map Prod.fst=_;rw[List.map_append,hm2S'];rfl,hm2i,⟨hl2.hvn,hl2.hpn⟩,fun w2 h2=>⟨(hM2 w2 h2).lg,fun s hs=>by
    rcases List.mem_append.1 hs with hs|hs
    ·exact(hM2 w2 h2).ms s hs
    ·obtain rfl:=List.mem_singleton.1 hs
     exact⟨O,Nat.zero_le _,O,Rd.none_,fun m hm=>absurd hm (by simp),O,Nat.zero_le _,Rd.none_,Bs.nil _ _,Nat.zero_le _⟩⟩⟩ (w':=w')
  first
  |exact hE _ _ fun w' hS=>hfin w' (ae w' hS)
  |exact hB _ _ _ _ O fun w' hS=>hfin w' (ae w' hS)
 obtain⟨⟨bb,r⟩,hsn⟩: ∃ z,gq x u=z:=⟨_,O⟩
 rw[if_pos hgt,hsn] at hE hB
 dsimp only[Bool.true_or] at hE hB
 rw[decide_eq_true (show ((x1.commit:Int)<(u.pl.1:Int)) by omega)]
 refine iI (p:=m2.p.Q.length=m2.p.n∧m2.p.n≤1000∧m2.p.Q.map bA=x1.es∧(∀ y∈m2.p.Q,y.2.2.2.2.length≤100000)∧m2.p.n≤m2.p.c) (fun w' hS=>(hM2 w' ⟨hD.at_ hS,hS.at_ (A:=Z1) (by simp)⟩).lg.elim5) fun⟨g1,g2,g3,g4,g5⟩=>?_
 obtain⟨hb,hhb⟩: ∃ b,(br x1.base x1.es&&fu x1.base x1.es u.pl)=b:=⟨_,O⟩
 have hsb:(if hb=true then (lC x1.base x1.es u.pl.1).2 else (u.pl,[]))=(bb,r):=by rw[← hsn, ← hhb,hx1];rfl
 have hrr:r.length≤1000∧ ∀ y∈r,y.2.2.length≤100000:=by
  cases hb
  ·rw[if_neg (by decide)] at hsb
   cases hsb
   exact⟨Nat.zero_le _,fun y hy=>absurd hy (by simp)⟩
  ·rw[if_pos O] at hsb
   have:=ye x1.base x1.es u.pl.1
   rw[hsb] at this
   refine⟨Nat.le_trans this.1 (by rw[← g3,List.length_map,g1];exact g2),fun y hy=>?_⟩
   have h9:=this.2 y hy
   rw[← g3] at h9
   obtain⟨z,hz,rfl⟩:=List.mem_map.1 h9
   exact g4 z hz
 obtain⟨hrK,hrd⟩:=hrr
 obtain⟨K,hK⟩: ∃ K,r.length=K:=⟨_,O⟩
 refine aC O O ?_
 focus (refine qs ?_;refine qp ?_;refine qt (ai (ds:=aO u.pl) O O O O O) ?_;refine qt (gH O (tJ _)) ?_;(refine qe (am O bP) ?_;rintro _ _ ⟨b4,rfl,rfl⟩);(refine qw (aj (cs:=aE (0,0) none 0 0) (ds:=aE u.pl none 0 0) O O O O (bD _ _ _ _) O) ?_;rintro _ _ rfl);refine qz ?_;refine qq ?_;refine qq ?_)
 refine dS [pt b3 65 (aW u q),pt g 89 (aD x1 m2)] 8 ?_
 refine dp 0 ?_
 refine dt 1 O (ac O) ?_
 refine dp 2 ?_
 refine dp 3 ?_
 refine dt 4 O (ai (ds:=aE x1.base m2.p.A m2.p.n m2.p.c) O O O O O) ?_
 refine dp 5 ?_
 refine dt 6 O (ai (ds:=aO u.pl) O O O O O) ?_
 refine dE 7 O (aq (f:=109) Dy (fun w1 hS1=>vd w1 x1.base m2.p.A m2.p.c m2.p.n m2.p.Q x1.es g1 g3 (hMw w1 ⟨hD.at_ hS1,hS1.at_ (A:=Z1) (by simp)⟩).lg.rq g2 u.pl hb hhb) O O (fun _=>O)) ?_
 rintro _ _ ⟨_,rfl,_,rfl⟩
 refine nx ?_
 refine dn ?_
 skip
 refine eo (X:=Option Addr×Nat×List Em×Asn) (fun z=>[(0,.pointer (some ⟨g,0,none⟩)),(3,.pointer (some ⟨b3,0,none⟩)),(4,.pointer (some ⟨b4,0,none⟩))]) (fun z=>[z.2.2.2,pt b4 39 (aE bb z.1 K z.2.1),pt g 89 (aD x1 m2),row 3 1 m2.p.vA m2.p.vn m2.p.vc (x1.votes.map zv),row 112 3 m2.p.pA m2.p.pn m2.p.pc (ab bp x1.peers),row 65 12 m2.sA m2.S.length m2.sc (ab bK m2.S),Z1,pt b3 65 (aW u q)]) (fun z=>z.2.2.1.length=K∧K≤z.2.1∧z.2.2.1.map bA=r∧ ∀ w',z.2.2.2.holds w'→Rd w' bC 3 z.1 K (ab aN z.2.2.1)∧ ∀ m∈z.2.2.1,mz w' m) (fun J hJ=>?_) (fun z hz=>?_)
 ·skip
  cases hb
  ·rw[if_neg (by decide)] at hsb
   cases hsb
   obtain rfl:0=K:=hK
   focus (refine qF ?_;refine qx ?_)
   refine ez ?_
   exact hJ (none,0,[],zN) _ _ ⟨O,Nat.le_refl _,O,fun w' _=>⟨Rd.none_,fun m hm=>absurd hm (by simp)⟩⟩ (Sub.cons O (Sub.cons O (Sub.cons O Sub.nil))) ae
  ·rw[if_pos O] at hsb
   obtain⟨⟨e,bb',r'⟩,hcp⟩: ∃ z,lC x1.base x1.es u.pl.1=z:=⟨_,O⟩
   rw[hcp] at hsb
   cases hsb
   focus (refine qT ?_)
   refine dS [pt b3 65 (aW u q),pt g 89 (aD x1 m2)] 13 ?_
   refine dp 0 ?_
   refine dt 1 O (ac O) ?_
   refine dp 2 ?_
   refine dp 3 ?_
   refine dt 4 O (ai (ds:=aE x1.base m2.p.A m2.p.n m2.p.c) O O O O O) ?_
   refine dp 5 ?_
   refine dp 6 ?_
   refine dt 7 O (ah (v:= .int .u64 (u.pl.1:Int)) O O O O) ?_
   refine dE 8 O (eD (f:=100) Dx (fun w1 hS1=>mW w1 x1.base m2.p.A m2.p.c m2.p.n m2.p.Q x1.es g1 g3 (hMw w1 ⟨hD.at_ hS1,hS1.at_ (A:=Z1) (by simp)⟩).lg.rq (hMw w1 ⟨hD.at_ hS1,hS1.at_ (A:=Z1) (by simp)⟩).lg.dt g5 g2 (fun y hy=>g4 y hy) u.pl.1 e bb r hcp) O O) ?_
   rintro _ _ ⟨⟨⟨A7,c7⟩,P7⟩,rfl,⟨hP7,hc7⟩,rfl⟩;dsimp only[List.cons_append,List.nil_append] at hP7 hc7 ⊢
   refine nx ?_
   refine dp 9 ?_
   refine dp 10 ?_
   refine dp 11 ?_
   refine dE 12 O (aj (cs:=aE u.pl none 0 0) (ds:=aE bb A7 r.length c7) O O O O (bD _ _ _ _) O) ?_
   rintro _ _ rfl
   refine nx ?_
   refine dn ?_
   skip
   skip
   have hPl:P7.length=r.length:=by rw[← hP7,List.length_map]
   rw[hK] at hPl hc7
   refine hJ (A7,c7,P7,zA (row 59 3 A7 K c7 (ab aN P7)) (dq 5 (P7.map cR))) _ _ ⟨hPl,hc7,hP7,fun w' h'=>⟨ce (iY h'),fun m hm=>nw (gZ h') (cR m) (List.mem_map.2 ⟨m,hm,O⟩)⟩⟩ (Sub.cons O (Sub.cons O (Sub.cons O Sub.nil))) (fun w' hS=>?_)
   rw[← hK]
   exact fT (ae w' hS)
 obtain⟨A4,c4,Q4,Zq⟩:=z
 obtain⟨hP4,hc4,hQ4,hR4⟩:=hz
 dsimp only at hP4 hc4 hQ4 hR4 ⊢
 skip
 refine dS [pt b4 39 (aE bb A4 K c4),pt b3 65 (aW u q)] 28 ?_
 refine dp 0 ?_
 refine dp 1 ?_
 refine dp 2 ?_
 refine dp 3 ?_
 refine dt 4 O (ai (ds:=aE bb A4 K c4) O O O O O) ?_
 refine dp 5 ?_
 refine dp 6 ?_
 refine dt 7 O (ah (v:= .slice q.cA q.cn q.cc) O O O O) ?_
 refine dp 10 ?_
 refine dp 11 ?_
 refine dt 12 O (ah (v:= .int .u64 (u.pl.1:Int)) O O O O) ?_
 refine dE 8 O (bB (f:=92) Eg (fun w1 hS1=>C.jt w1 q.cA q.cn q.cc (u.cf.map zv) (hq w1 (hD.at_ hS1)).rc (C.kz _) (by omega)) O O (fun _=>O)) ?_
 rintro _ _ ⟨⟨Ac,cc⟩,rfl,_,rfl⟩
 refine nx ?_
 refine dt 9 O (gH O (C.kY _ _ _)) ?_
 refine dt 13 O (ac O) ?_
 refine dp 14 ?_
 refine dp 15 ?_
 refine dE 16 O (gJ (gb:=g) (t:=89) (cs:=aD x1 m2) (ds:=aE bb A4 K c4) (cs':=aD (fA x1 bb r) (dw m2 A4 K c4 Q4)) O O O O (bD _ _ _ _) O (by show 3+3≤16;omega)) ?_
 rintro _ _ rfl
 refine nx ?_
 refine dt 17 O (ac O) ?_
 refine dp 18 ?_
 refine dp 19 ?_
 refine dE 20 O (gJ (gb:=g) (t:=89) (cs:=aD (fA x1 bb r) (dw m2 A4 K c4 Q4)) (ds:=[.slice Ac q.cn cc]) (cs':=aD {fA x1 bb r with cf:=u.cf} (z3 (dw m2 A4 K c4 Q4) Ac q.cn cc)) O O O O (C.eB _ _ _) O (by show 6+1≤16;omega)) ?_
 rintro _ _ rfl
 refine nx ?_
 refine dt 21 O (ac O) ?_
 refine dp 22 ?_
 refine dp 23 ?_
 refine dE 24 O (aw (cs:=aD {fA x1 bb r with cf:=u.cf} (z3 (dw m2 A4 K c4 Q4) Ac q.cn cc)) (cs':=aD {fA x1 bb r with cf:=u.cf,commit:=u.pl.1} (z3 (dw m2 A4 K c4 Q4) Ac q.cn cc)) O O O O O O (by show _<16;omega)) ?_
 rintro _ _ rfl
 refine nx ?_
 refine dt 25 O (ac O) ?_
 refine dp 26 ?_
 refine dE 27 O (aw (cs:=aD {fA x1 bb r with cf:=u.cf,commit:=u.pl.1} (z3 (dw m2 A4 K c4 Q4) Ac q.cn cc)) (cs':=aD {fA x1 bb r with cf:=u.cf,commit:=u.pl.1} {z3 (dw m2 A4 K c4 Q4) Ac q.cn cc with i:=true}) O O O O O O (by show _<16;omega)) ?_
 rintro _ _ rfl
 refine nx ?_
 refine dn ?_
 skip
 obtain⟨xS,hxS⟩: ∃ y,y=({fA x1 bb r with cf:=u.cf,commit:=u.pl.1}:Rs):=⟨_,O⟩
 obtain⟨mS,hmS⟩: ∃ y,y=({z3 (dw m2 A4 K c4 Q4) Ac q.cn cc with i:=true}:Mm):=⟨_,O⟩
 have hxF:({fU x u with base:=bb,es:=r,cf:=u.cf,commit:=u.pl.1}:Rs)=xS:=by rw[hxS,hx1];rfl
 have hms:[cD x u 6 x.term true u.pl.1]=[eE xS (⟨6,0,u.F,xS.term,(0,0),[],0,true,xS.commit,[],[]⟩:Ms)]:=by rw[hxS,hx1];rfl
 rw[hxF,hms] at hE hB
 have hSL:mS.S.length≤800:=by rw[hmS];exact hS2
 refine eu (H':=[row 3 1 Ac q.cn cc (u.cf.map zv),Zq,pt g 89 (aD xS mS),row 3 1 mS.p.vA mS.p.vn mS.p.vc (xS.votes.map zv),row 112 3 mS.p.pA mS.p.pn mS.p.pc (ab bp xS.peers),row 65 12 mS.sA mS.S.length mS.sc (ab bK mS.S),Z1,pt b3 65 (aW u q)]) (fun w' hS=>?_) ?_
 ·have h9:=ae (H':=[row 3 1 Ac q.cn cc (u.cf.map zv),Zq,pt g 89 (aD ({fA x1 bb r with cf:=u.cf,commit:=u.pl.1}:Rs) ({z3 (dw m2 A4 K c4 Q4) Ac q.cn cc with i:=true}:Mm)),row 3 1 m2.p.vA m2.p.vn m2.p.vc (x1.votes.map zv),row 112 3 m2.p.pA m2.p.pn m2.p.pc (ab bp x1.peers),row 65 12 m2.sA m2.S.length m2.sc (ab bK m2.S),Z1,pt b3 65 (aW u q)]) w' hS
  rw[hxS,hmS]
  exact h9
 skip
 refine dS [pt b3 65 (aW u q),pt g 89 (aD xS mS)] 16 ?_
 refine dp 0 ?_
 refine dp 1 ?_
 refine dt 2 O (ah (v:= .int .i64 u.F) O O O O) ?_
 refine dp 3 ?_
 refine dt 4 O (ac O) ?_
 refine dp 5 ?_
 refine dp 6 ?_
 refine dl 7 ?_
 refine dp 8 ?_
 refine dt 9 O (ac O) ?_
 refine dp 10 ?_
 refine dp 11 ?_
 refine dl 12 ?_
 refine dt 13 O (jk O O O O O (mh _ _ _)) ?_
 refine dE 14 O (cK (vs:=[.agg (aW (⟨6,0,u.F,xS.term,(0,0),[],0,true,xS.commit,[],[]⟩:Ms) (⟨none,0,0,none,0,0,none,0,0,[]⟩:Mp)).toArray]) (size:=12) (ds:=aW (⟨6,0,u.F,xS.term,(0,0),[],0,true,xS.commit,[],[]⟩:Ms) (⟨none,0,0,none,0,0,none,0,0,[]⟩:Mp)) O O O O O O (by simp[aV,dZ]) O (by omega)) ?_
 rintro _ _ ⟨vb,rfl,rfl⟩
 refine nx ?_
 refine dE 15 O (fF (f:=113) (mP g xS mS) (fun(y:Option Addr×Nat)=>mP g xS (bT xS mS ((⟨6,0,u.F,xS.term,(0,0),[],0,true,xS.commit,[],[]⟩:Ms),(⟨none,0,0,none,0,0,none,0,0,[]⟩:Mp)) y.1 y.2)) kT (fun w1 hS1 hS2=>dB w1 g xS mS hS2 (some ⟨vb,0,none⟩) 1 (⟨6,0,u.F,xS.term,(0,0),[],0,true,xS.commit,[],[]⟩:Ms) (⟨none,0,0,none,0,0,none,0,0,[]⟩:Mp) (iw (dh (b:=vb) (t:=65) (As:=mP g xS mS) hS1 O)) (by omega)) O O) ?_
 rintro _ _ ⟨⟨AS,cS⟩,rfl,_,rfl⟩;dsimp only[List.cons_append,List.nil_append]
 refine dV ?_
 refine dn ?_
 skip
 skip
 have hMC: ∀ w2,K2 D (zA (zA (row 3 1 Ac q.cn cc (u.cf.map zv)) Zq) Z1) w2→McR w2 xS (bT xS mS ((⟨6,0,u.F,xS.term,(0,0),[],0,true,xS.commit,[],[]⟩:Ms),(⟨none,0,0,none,0,0,none,0,0,[]⟩:Mp)) AS cS):=fun w2 h2=>by
  have hz:=iY h2.2
  have h3:McR w2 x1 m2:=hM2 w2 ⟨h2.1,gZ h2.2⟩
  obtain⟨k1,k2⟩:=hR4 w2 (gZ hz)
  refine⟨by rw[hxS,hmS];exact⟨hP4,by show K≤1000;omega,hc4,hQ4,k1,k2,fun y hy=>hrd (bA y) (by rw[← hQ4];exact List.mem_map.2 ⟨y,hy,O⟩),hqw.hc,hqcn,ce (iY hz)⟩,fun s hs=>?_⟩
  rcases List.mem_append.1 hs with hs|hs
  ·exact h3.ms s (by rw[hmS] at hs;exact hs)
  ·obtain rfl:=List.mem_singleton.1 hs
   exact⟨O,Nat.zero_le _,O,Rd.none_,fun m hm=>absurd hm (by simp),O,Nat.zero_le _,Rd.none_,Bs.nil _ _,Nat.zero_le _⟩
 have hfin:=fun(w':World)=>bR (w:=w) (M:=ar (mP g x m)) (g:=g) (x2:=xS) (m2:=(bT xS mS ((⟨6,0,u.F,xS.term,(0,0),[],0,true,xS.commit,[],[]⟩:Ms),(⟨none,0,0,none,0,0,none,0,0,[]⟩:Mp)) AS cS)) (Z:=(zA (zA (row 3 1 Ac q.cn cc (u.cf.map zv)) Zq) Z1)) (D:=D) (ms:=m.S.map Prod.fst++[eE xS (⟨6,0,u.F,xS.term,(0,0),[],0,true,xS.commit,[],[]⟩:Ms)]) (ib:=true) ⟨by show (mS.S++_).map Prod.fst=_;rw[List.map_append,hmS];show m2.S.map Prod.fst++_=_;rw[hm2S'];rfl,by show mS.i=true;rw[hmS],by rw[hxS,hmS];exact⟨hl2.hvn,hl2.hpn⟩,hMC⟩ (w':=w')
 have hst: ∀ w',St w (ar (mP g x m)) [row 3 1 Ac q.cn cc (u.cf.map zv),Zq,Z1,pt g 89 (aD xS (bT xS mS ((⟨6,0,u.F,xS.term,(0,0),[],0,true,xS.commit,[],[]⟩:Ms),(⟨none,0,0,none,0,0,none,0,0,[]⟩:Mp)) AS cS)),row 3 1 (bT xS mS ((⟨6,0,u.F,xS.term,(0,0),[],0,true,xS.commit,[],[]⟩:Ms),(⟨none,0,0,none,0,0,none,0,0,[]⟩:Mp)) AS cS).p.vA (bT xS mS ((⟨6,0,u.F,xS.term,(0,0),[],0,true,xS.commit,[],[]⟩:Ms),(⟨none,0,0,none,0,0,none,0,0,[]⟩:Mp)) AS cS).p.vn (bT xS mS ((⟨6,0,u.F,xS.term,(0,0),[],0,true,xS.commit,[],[]⟩:Ms),(⟨none,0,0,none,0,0,none,0,0,[]⟩:Mp)) AS cS).p.vc (xS.votes.map zv),row 112 3 (bT xS mS ((⟨6,0,u.F,xS.term,(0,0),[],0,true,xS.commit,[],[]⟩:Ms),(⟨none,0,0,none,0,0,none,0,0,[]⟩:Mp)) AS cS).p.pA (bT xS mS ((⟨6,0,u.F,xS.term,(0,0),[],0,true,xS.commit,[],[]⟩:Ms),(⟨none,0,0,none,0,0,none,0,0,[]⟩:Mp)) AS cS).p.pn (bT xS mS ((⟨6,0,u.F,xS.term,(0,0),[],0,true,xS.commit,[],[]⟩:Ms),(⟨none,0,0,none,0,0,none,0,0,[]⟩:Mp)) AS cS).p.pc (ab bp xS.peers),row 65 12 (bT xS mS ((⟨6,0,u.F,xS.term,(0,0),[],0,true,xS.commit,[],[]⟩:Ms),(⟨none,0,0,none,0,0,none,0,0,[]⟩:Mp)) AS cS).sA (bT xS mS ((⟨6,0,u.F,xS.term,(0,0),[],0,true,xS.commit,[],[]⟩:Ms),(⟨none,0,0,none,0,0,none,0,0,[]⟩:Mp)) AS cS).S.length (bT xS mS ((⟨6,0,u.F,xS.term,(0,0),[],0,true,xS.commit,[],[]⟩:Ms),(⟨none,0,0,none,0,0,none,0,0,[]⟩:Mp)) AS cS).sc (ab bK (bT xS mS ((⟨6,0,u.F,xS.term,(0,0),[],0,true,xS.commit,[],[]⟩:Ms),(⟨none,0,0,none,0,0,none,0,0,[]⟩:Mp)) AS cS).S)] w'→St w (ar (mP g x m)) ((zA (zA (row 3 1 Ac q.cn cc (u.cf.map zv)) Zq) Z1)::mP g xS (bT xS mS ((⟨6,0,u.F,xS.term,(0,0),[],0,true,xS.commit,[],[]⟩:Ms),(⟨none,0,0,none,0,0,none,0,0,[]⟩:Mp)) AS cS)) w':=fun w' hS=>by
  exact fT (fT hS)
 first
 |exact hE _ _ fun w' hS=>hfin w' (hst w' (ae w' hS))
 |exact hB _ _ _ _ O fun w' hS=>hfin w' (hst w' (ae w' hS))
theorem tK (w:World) (g:Nat) (x:Rs) (m:Mm) (hS0:St w (ar (mP g x m)) (mP g x m) w) (D:Kw) (hD:Kd D (mP g x m) w) (y:Ms) (q:Mp) (bx:Nat) (hbx: ∀ w',D w'→Rd w' bC 1 (some ⟨bx,0,none⟩) 12 (aW y q)) (hn:x.term<y.tm) (hK1: ¬ y.K=1) (hK2: ¬ (y.K=2∧y.ok=true)) (xF:Rs) (mF:Mm) (hxF:xF=(fl {x with term:=y.tm,vote:=0})) (hmF:mF=dU m) (x2:Rs) (ms:List Ms) (ib:Bool) (fk:FuncId) (hfk:Fn_ Tryz.prog fk) (hfv:(wO g y.K).getD .nilFunc= .func (.func fk) #[.pointer (some ⟨g,0,none⟩)] #[])
  (hM: ∀ (w1:World) (D1:Kw),St w1 (ar (mP g xF mF)) (mP g xF mF) w1→Kd D1 (mP g xF mF) w1→(∀ w',D1 w'→D w')→Mth g xF x2 mF ms ib D1 fk [.agg (aW y q).toArray] w1):Mth g x x2 m ms ib D 71 [.pointer (some ⟨bx,0,none⟩)] w:=by
 unfold Mth
 refine bO Tryz.func71 O Tryz.ntmps71 Tryz.results71 (by simp) hS0 (fun B hE hB=>?_)
 refine ez ?_
 refine au O ?_
 refine eo (X:=Unit) (fun _=>[(0,.pointer (some ⟨g,0,none⟩)),(1,.pointer (some ⟨bx,0,none⟩))]) (fun _=>[zN,pt g 89 (aD xF mF),row 3 1 mF.p.vA mF.p.vn mF.p.vc (xF.votes.map zv),row 112 3 mF.p.pA mF.p.pn mF.p.pc (ab bp xF.peers),row 65 12 mF.sA mF.S.length mF.sc (ab bK mF.S)]) (fun _=>True) (fun J hJ=>?_) (fun _ _=>?_)
 ·have hsub: ∀ w',St w (ar (mP g x m)) [zN,pt g 89 (aD (fl {x with term:=y.tm,vote:=0}) (dU m)),row 3 1 (dU m).p.vA (dU m).p.vn (dU m).p.vc ((fl {x with term:=y.tm,vote:=0}).votes.map zv),row 112 3 (dU m).p.pA (dU m).p.pn (dU m).p.pc (ab bp (fl {x with term:=y.tm,vote:=0}).peers),row 65 12 (dU m).sA (dU m).S.length (dU m).sc (ab bK (dU m).S)] w'→St w (ar (mP g x m)) [zN,pt g 89 (aD xF mF),row 3 1 mF.p.vA mF.p.vn mF.p.vc (xF.votes.map zv),row 112 3 mF.p.pA mF.p.pn mF.p.pc (ab bp xF.peers),row 65 12 mF.sA mF.S.length mF.sc (ab bK mF.S)] w':=fun w' hS=>by rw[hxF,hmF];exact hS
  by_cases h2:y.K=2
  ·have hok:y.ok=false:=by
    cases h:y.ok
    ·rfl
    ·exact absurd ⟨h2,h⟩ hK2
   focus (refine qq ?_;(refine dQ 23 ?_;(refine dp 0 ?_);(refine dt 1 O (cT (v:= .int .u64 (y.tm:Int)) O O O (fun w1 hS1=>ew (j:=3) (hbx w1 (hD.at_ hS1)) O)) ?_);(refine dp 2 ?_);(refine dt 3 O (ac O) ?_);(refine dp 4 ?_);(refine dp 5 ?_);(refine dl 6 ?_);(refine cZ 7 ?_);(refine dp 8 ?_);(refine dp 9 ?_);(refine dt 10 O (cT (v:= .int .i64 y.K) O O O (fun w1 hS1=>ew (j:=0) (hbx w1 (hD.at_ hS1)) O)) ?_);(refine cZ 11 ?_);(refine dp 12 ?_);(refine dp 13 ?_);(refine dp 14 ?_);(refine dt 15 O (cT (v:= .int .i64 y.K) O O O (fun w1 hS1=>ew (j:=0) (hbx w1 (hD.at_ hS1)) O)) ?_);(refine cZ 16 ?_);(refine dp 17 ?_);(refine dp 18 ?_);((refine dt 19 O (cT (v:= .bool false) O O O (fun w1 hS1=>ew (j:=8) (hbx w1 (hD.at_ hS1)) (by rw[← hok];rfl))) ?_));(refine dp 20 ?_);(refine dt 21 O (aR O) ?_);(refine dp 22 ?_);refine dn ?_);refine qT ?_;refine qs ?_;(iterate 3 refine qp ?_);refine qt (cT (v:= .int .u64 (y.tm:Int)) O O O (fun w1 hS1=>ew (j:=3) (hbx w1 (hD.at_ hS1)) O)) ?_;refine qt (ac O) ?_;refine qp ?_;refine qp ?_;(refine qw (aw (cs:=aD x m) (cs':=aD {x with term:=y.tm} m) O O O O O O (by show _<16;omega)) ?_;rintro _ _ rfl);refine qt (ac O) ?_;refine qp ?_;refine qp ?_;(refine qw (aw (cs:=aD {x with term:=y.tm} m) (cs':=aD {x with term:=y.tm,vote:=0} m) O O O O O O (by show _<16;omega)) ?_;rintro _ _ rfl);refine qz ?_;refine qr ?_;refine qp ?_;(refine qe (fF (f:=72) (mP g {x with term:=y.tm,vote:=0} m) (fun _:Unit=>mP g (fl {x with term:=y.tm,vote:=0}) (dU m)) Ds (fun w1 hS1 hS2=>fX w1 g {x with term:=y.tm,vote:=0} m hS2) O O) ?_;rintro _ _ ⟨_,rfl,_,rfl⟩;dsimp only[List.cons_append,List.nil_append]);refine qz ?_)
   exact hJ () _ _ trivial (Sub.cons O (Sub.cons O Sub.nil)) (fun w' hS=>hsub w' (ae w' hS))
  ·skip
   focus (refine qq ?_;(refine dQ 23 ?_;(refine dp 0 ?_);(refine dt 1 O (cT (v:= .int .u64 (y.tm:Int)) O O O (fun w1 hS1=>ew (j:=3) (hbx w1 (hD.at_ hS1)) O)) ?_);(refine dp 2 ?_);(refine dt 3 O (ac O) ?_);(refine dp 4 ?_);(refine dp 5 ?_);(refine dl 6 ?_);(refine cZ 7 ?_);(refine dp 8 ?_);(refine dp 9 ?_);(refine dt 10 O (cT (v:= .int .i64 y.K) O O O (fun w1 hS1=>ew (j:=0) (hbx w1 (hD.at_ hS1)) O)) ?_);(refine cZ 11 ?_);(refine dp 12 ?_);(refine dp 13 ?_);(refine dp 14 ?_);(refine dt 15 O (cT (v:= .int .i64 y.K) O O O (fun w1 hS1=>ew (j:=0) (hbx w1 (hD.at_ hS1)) O)) ?_);(refine eI 16 ?_);(refine dp 17 ?_);(refine dk 18 ?_);(refine dk 19 ?_);(refine dp 20 ?_);(refine dt 21 O (aR O) ?_);(refine dp 22 ?_);refine dn ?_);refine qT ?_;refine qs ?_;(iterate 3 refine qp ?_);refine qt (cT (v:= .int .u64 (y.tm:Int)) O O O (fun w1 hS1=>ew (j:=3) (hbx w1 (hD.at_ hS1)) O)) ?_;refine qt (ac O) ?_;refine qp ?_;refine qp ?_;(refine qw (aw (cs:=aD x m) (cs':=aD {x with term:=y.tm} m) O O O O O O (by show _<16;omega)) ?_;rintro _ _ rfl);refine qt (ac O) ?_;refine qp ?_;refine qp ?_;(refine qw (aw (cs:=aD {x with term:=y.tm} m) (cs':=aD {x with term:=y.tm,vote:=0} m) O O O O O O (by show _<16;omega)) ?_;rintro _ _ rfl);refine qz ?_;refine qr ?_;refine qp ?_;(refine qe (fF (f:=72) (mP g {x with term:=y.tm,vote:=0} m) (fun _:Unit=>mP g (fl {x with term:=y.tm,vote:=0}) (dU m)) Ds (fun w1 hS1 hS2=>fX w1 g {x with term:=y.tm,vote:=0} m hS2) O O) ?_;rintro _ _ ⟨_,rfl,_,rfl⟩;dsimp only[List.cons_append,List.nil_append]);refine qz ?_)
   exact hJ () _ _ trivial (Sub.cons O (Sub.cons O Sub.nil)) (fun w' hS=>hsub w' (ae w' hS))
 skip
 refine dS [] 7 ?_
 refine dp 0 ?_
 refine dp 2 ?_
 refine dt 3 O (cT (v:= .int .i64 y.K) O O O (fun w1 hS1=>ew (j:=0) (hbx w1 (hD.at_ hS1)) O)) ?_
 refine dt 5 O (jY (m:=12) (xs:=aW y q) (ds:=aW y q) O O O (fun w1 hS1=>hbx w1 (hD.at_ hS1)) O (by decide) O) ?_
 refine dE 1 O (bB (f:=73) Ar (fun w1 hS1=>iA w1 g) O O (fun _=>O)) ?_
 rintro _ _ ⟨bm,rfl,_,rfl⟩
 refine gF ae ?_
 refine dt 4 O (gA (b:=bm) (s:=y.K) (f:=wO g) O O O O O O O hfv) ?_
 refine dE 6 O (lq (D:=D) (Z:=zN) (f:=fk) [.pointer (some ⟨g,0,none⟩)] (mP g xF mF) (fun z:Mm×Asn=>mP g x2 z.1) hD hfk O (fun w1 _ hk hS1=>hM w1 (K2 D zN) hS1 hk (fun w2 h2=>h2.1)) (fg _ [.agg (aW y q).toArray] _ [.pointer (some ⟨g,0,none⟩)] O) O) ?_
 rintro _ _ ⟨⟨m2,Z2⟩,Z',rfl,⟨hI1,hI2,hI3,hI4⟩,hold,hnew,rfl⟩;dsimp only[List.cons_append,List.nil_append] at hI1 hI2 hI3 hI4 ⊢
 refine dV ?_
 refine dn ?_
 skip
 skip
 have hfin:=fun(w':World)=>bR (w:=w) (M:=ar (mP g x m)) (g:=g) (x2:=x2) (m2:=m2) (Z:=Z') (D:=D) (ms:=m.S.map Prod.fst++ms) (ib:=ib) ⟨by rw[hI1,hmF];rfl,hI2,hI3,fun w3 h3=>hI4 w3 (hnew w3 h3)⟩ (w':=w')
 first
 |exact hE _ _ fun w' hS=>hfin w' (ae w' hS)
 |exact hB _ _ _ _ O fun w' hS=>hfin w' (ae w' hS)
theorem v8: ∀ (l:List Int) (p:Int),iP p l=true→(∀ m∈l,p<m)∧l.Pairwise (· < ·)
 |[],p,_=>⟨fun m hm=>absurd hm (by simp),List.Pairwise.nil⟩
 |n::l,p,h=>by
  simp only[iP,Bool.and_eq_true,decide_eq_true_eq] at h
  obtain⟨h1,h2⟩:=v8 l n h.2
  refine⟨fun m hm=>?_,List.Pairwise.cons h1 h2⟩
  rcases List.mem_cons.1 hm with rfl|hm
  ·exact h.1.2
  ·have:=h1 m hm;omega
theorem qD (n:Nat): ∀ (l:List Pe) (k:List Int),dY n l k=true→ ∀ p∈l,p.2.1≤n+1∧p.2.2<p.2.1
 |[],_,_,p,hp=>absurd hp (by simp)
 |q::l,[],h,p,hp=>by simp[dY] at h
 |q::l,u::k,h,p,hp=>by
  simp only[dY,Bool.and_eq_true,decide_eq_true_eq] at h
  rcases List.mem_cons.1 hp with rfl|hp
  ·exact⟨h.1.1.2,h.1.2⟩
  ·exact qD n l k h.2 p hp
structure Hf (x:Rs):Prop where
 up:C.mI x.votes
 vm:x.votes.length≤900
 tm:x.term≤4611686018427387904
 cf:C.right x.cf=true
 es:x.es.length≤16
 rb:br x.base x.es=true
 lt:x.base.1+x.es.length≤200000
 u:RsU x
 pn:x.peers.length≤5
 pe: ∀ p∈x.peers,p.2.1≤200001∧p.2.2≤200001
 cl:0≤x.clock∧x.clock≤16
theorem yR {x:Rs} (h:cz x=true) (hu:RsU x) (hv:x.votes.length≤900) (hb:x.base.1+x.es.length≤200000):Hf x:=by
 have hrb:=iB h
 have hro:=oX h
 have hcf:=kO h
 have hpn:=jD h
 have hes:x.es.length≤16:=by
  unfold br at hrb
  simp only[Bool.and_eq_true,decide_eq_true_eq] at hrb
  exact hrb.1.1.2
 have hlp:(lastP x).1=x.base.1+x.es.length:=by rw[lastP,if_pos hrb];rfl
 unfold di at hro
 simp only[Bool.and_eq_true] at hro
 obtain⟨⟨_,hvo⟩,hpo⟩:=hro
 simp only[cz,Bool.and_eq_true,decide_eq_true_eq] at h
 refine⟨?_,hv,h.1.1.1.1.1.1.1.1.1.1.1.1.1.1.2,hcf,hes,hrb,hb,hu,hpn,fun p hp=>?_,h.1.1.2,by have:=h.1.2;have:=h.1.1.1.2;omega⟩
 ·split at hvo
  ·simp only[Bool.and_eq_true] at hvo
   exact(v8 _ _ hvo.1).2
  ·simp only[decide_eq_true_eq] at hvo
   rw[List.length_eq_zero_iff.1 hvo]
   exact List.Pairwise.nil
 ·split at hpo
  ·have:=qD _ _ _ hpo p hp
   rw[hlp] at this
   omega
  ·simp only[decide_eq_true_eq] at hpo
   rw[List.length_eq_zero_iff.1 hpo] at hp
   cases hp
theorem z5 {x:Rs} (h:Hf x) {y:Ms} (ht:y.tm≤4611686018427387904):Hf (kJ x y):=by
 unfold kJ
 split
 ·exact⟨List.Pairwise.nil,Nat.zero_le _,ht,h.cf,h.es,h.rb,h.lt,⟨by show y.tm<_;omega,h.u.b1,h.u.b2,h.u.cm,fun p hp=>by cases hp⟩,Nat.zero_le _,(fun p hp=>by cases hp),h.cl⟩
 ·exact h
theorem Hf.last {x:Rs} (h:Hf x):(lastP x).1≤200000:=by rw[lastP,if_pos h.rb];exact h.lt
theorem qG {x:Rs} (h:RsU x) (hl:(lastP x).1≤200000) (h0:(nX x).1=0):RsU (fx x):=by
 unfold fx
 obtain⟨⟨e,pa,bb,r⟩,hap⟩: ∃ z,nX x=z:=⟨_,O⟩
 rw[hap] at h0 ⊢
 obtain rfl:e=0:=h0
 obtain⟨hb,_⟩:=vS (show app x.base x.es _=_ from hap)
 refine qB ⟨h.tm,?_,?_,h.cm,fun p hp=>?_⟩
 ·show bb.1<_;rw[hb];exact h.b1
 ·show bb.2<_;rw[hb];exact h.b2
 ·obtain⟨n,_,rfl⟩:=List.mem_map.1 (show p∈(fj x.me).map fun n=>(n,(lastP x).1+1,0) from hp)
  exact⟨by show (lastP x).1+1<_;omega,by show 0<_;omega⟩
theorem DR {x:Rs} (h:Hf x):RsU (bf x):=⟨by show x.term+1<_;have:=h.tm;omega,h.u.b1,h.u.b2,h.u.cm,h.u.pe⟩
theorem yS {x:Rs} (h:Hf x) (who:Int) (f:Pe→Pe) (hf: ∀ p∈x.peers,(f p).2.1<18446744073709551616∧(f p).2.2<18446744073709551616):RsU {x with peers:=eO x.peers who f}:=⟨h.u.tm,h.u.b1,h.u.b2,h.u.cm,fun p hp=>by
 unfold eO at hp
 obtain⟨i,hi,rfl⟩:=List.getElem_of_mem hp
 rw[List.getElem_modify]
 split
 ·exact hf _ (List.getElem_mem _)
 ·exact h.u.pe _ (List.getElem_mem _)⟩
theorem o5 {x:Rs} (hf:Hf x) {y:Ms} {q:Mp} (hK:1≤y.K∧y.K≤7) (htm:y.tm≤4611686018427387904) (hpl:y.pl.1<18446744073709551616) (hix:y.ix<18446744073709551614) (hqn:q.n≤1000) (hqcn:q.cn≤900) (hqd: ∀ m∈q.Q,m.2.2.2.2.length≤100000):
  ∃ fk,Fn_ Tryz.prog fk∧(∀ g:Nat,(wO g y.K).getD .nilFunc= .func (.func fk) #[.pointer (some ⟨g,0,none⟩)] #[])∧
  ∀ (w:World) (g:Nat) (m:Mm) (D:Kw),St w (ar (mP g x m)) (mP g x m) w→Kd D (mP g x m) w→(∀ w',D w'→McR w' x m)→McL x m→(∀ w',D w'→MsR w' y q)→m.S.length≤800→m.i=false→Mth g x (fz x y).1 m (fz x y).2.1 (fz x y).2.2 D fk [.agg (aW y q).toArray] w:=by
 have hK7:y.K=1∨y.K=2∨y.K=3∨y.K=4∨y.K=5∨y.K=6∨y.K=7:=by omega
 clear hK
 rcases hK7 with hK|hK|hK|hK|hK|hK|hK
 ·have e:fz x y=(x,jU x y,false):=by unfold fz;rw[if_pos hK]
  rw[e]
  exact⟨142,FO,fun g=>by rw[hK];rfl,fun w g m D hS hD h hl hq hSm hmi=>by
   have h9:=tE w g x m hS D hD h hl y q hSm
   rw[hmi] at h9
   exact h9⟩
 ·have e:fz x y=((dP x y).1,(dP x y).2,false):=by unfold fz;rw[if_neg (by rw[hK];decide)];rw[if_pos hK]
  rw[e]
  exact⟨143,DI,fun g=>by rw[hK];rfl,fun w g m D hS hD h hl hq hSm hmi=>by
   have h9:=tH w g x m hS D hD h hl y q hf.up hf.vm hf.cf (by have:=hf.es;omega) (by have:=hf.last;omega) hSm hf.tm htm (fun h0=>qG (DR hf) hf.last h0)
   rw[hmi] at h9
   exact h9⟩
 ·have e:fz x y=((iu x y).1,(iu x y).2,false):=by unfold fz;rw[if_neg (by rw[hK];decide)];rw[if_neg (by rw[hK];decide)];rw[if_pos hK]
  rw[e]
  exact⟨144,FP,fun g=>by rw[hK];rfl,fun w g m D hS hD h hl hq hSm hmi=>by
   have h9:=vV w g x m hS D hD h hl y q hSm
   rw[hmi] at h9
   exact h9⟩
 ·have e:fz x y=((ee x y).1,(ee x y).2,false):=by unfold fz;rw[if_neg (by rw[hK];decide)];rw[if_neg (by rw[hK];decide)];rw[if_neg (by rw[hK];decide)];rw[if_pos hK]
  rw[e]
  exact⟨145,FQ,fun g=>by rw[hK];rfl,fun w g m D hS hD h hl hq hSm hmi=>by
   have h9:=tF w g x m hS D hD h hl y q hf.up hf.vm hf.tm hf.cf (by have:=hf.es;omega) (by have:=hf.last;omega) hSm (fun h0=>qG hf.u hf.last h0)
   rw[hmi] at h9
   exact h9⟩
 ·have e:fz x y=((fy x y).1,(fy x y).2,false):=by unfold fz;rw[if_neg (by rw[hK];decide)];rw[if_neg (by rw[hK];decide)];rw[if_neg (by rw[hK];decide)];rw[if_neg (by rw[hK];decide)];rw[if_pos hK]
  rw[e]
  exact⟨146,FR,fun g=>by rw[hK];rfl,fun w g m D hS hD h hl hq hSm hmi=>by
   have h9:=qC w g x m hS D hD h hl y q hq hqn hqd (by have:=hf.lt;omega) hSm hpl
   rw[hmi] at h9
   exact h9⟩
 ·have e:fz x y=((bZ x y).1,(bZ x y).2,false):=by unfold fz;rw[if_neg (by rw[hK];decide)];rw[if_neg (by rw[hK];decide)];rw[if_neg (by rw[hK];decide)];rw[if_neg (by rw[hK];decide)];rw[if_neg (by rw[hK];decide)];rw[if_pos hK]
  rw[e]
  exact⟨147,FS,fun g=>by rw[hK];rfl,fun w g m D hS hD h hl hq hSm hmi=>by
   have h9:=nL w g x m hS D hD h hl y q hf.cf hf.u (by have:=hl.hpn;have:=hf.pn;omega) (by omega) (fun p hp=>by have:=hf.pe p hp;omega) hSm (yS hf _ _ (fun p hp=>by have:=hf.pe p hp;show max (min p.2.1 (y.ix+1)) (p.2.2+1)<_∧p.2.2<_;omega)) (qB (yS hf _ _ (fun p hp=>by have:=hf.pe p hp;show max p.2.1 (max p.2.2 y.ix+1)<_∧max p.2.2 y.ix<_;omega)))
   rw[hmi] at h9
   exact h9⟩
 ·have e:fz x y=jN x y:=by unfold fz;rw[if_neg (by rw[hK];decide)];rw[if_neg (by rw[hK];decide)];rw[if_neg (by rw[hK];decide)];rw[if_neg (by rw[hK];decide)];rw[if_neg (by rw[hK];decide)];rw[if_neg (by rw[hK];decide)];skip
  rw[e]
  exact⟨148,FT,fun g=>by rw[hK];rfl,fun w g m D hS hD h hl hq hSm hmi=>by
   have h9:=v7 w g x m hS D hD h hl y q hq hqcn hSm
   rw[hmi,Bool.or_false] at h9
   exact h9⟩
theorem tL (w:World) (g:Nat) (x:Rs) (m:Mm) (hS0:St w (ar (mP g x m)) (mP g x m) w) (D:Kw) (hD:Kd D (mP g x m) w) (h: ∀ w',D w'→McR w' x m) (hl:McL x m) (y:Ms) (q:Mp) (bx:Nat) (hbx: ∀ w',D w'→Rd w' bC 1 (some ⟨bx,0,none⟩) 12 (aW y q)) (hq: ∀ w',D w'→MsR w' y q) (hf:Hf x) (hK:1≤y.K∧y.K≤7) (htm:y.tm≤4611686018427387904) (hpl:y.pl.1<18446744073709551616) (hix:y.ix<18446744073709551614) (hqn:q.n≤1000) (hqcn:q.cn≤900) (hqd: ∀ m∈q.Q,m.2.2.2.2.length≤100000) (hmS:m.S.length≤800) (hmi:m.i=false):
  Mth g x (cO x y).1 m (cO x y).2.1 (cO x y).2.2 D 71 [.pointer (some ⟨bx,0,none⟩)] w:=by
 by_cases hn:x.term<y.tm∧ ¬ y.K=1∧ ¬ (y.K=2∧y.ok=true)
 ·have e:kJ x y=fl {x with term:=y.tm,vote:=0}:=if_pos hn
  obtain⟨fk,hfk,hfv,hM⟩:=o5 (q:=q) (z5 hf htm) hK htm hpl hix hqn hqcn hqd
  refine tK w g x m hS0 D hD y q bx hbx hn.1 hn.2.1 hn.2.2 (kJ x y) (dU m) e O _ _ _ fk hfk (hfv g) fun w1 D1 hS1 hD1 hd=>?_
  refine hM w1 g (dU m) D1 hS1 hD1 (fun w' h'=>?_) ?_ (fun w' h'=>hq w' (hd w' h')) hmS hmi
  ·rw[e]
   exact⟨(h w' (hd w' h')).lg.like O O O O O O O O,(h w' (hd w' h')).ms⟩
  ·rw[e]
   exact⟨O,O⟩
 ·have e:kJ x y=x:=if_neg hn
  obtain⟨fk,hfk,hfv,hM⟩:=o5 (q:=q) hf hK htm hpl hix hqn hqcn hqd
  have hn2: ¬ x.term<y.tm∨y.K=1∨(y.K=2∧y.ok=true):=by
   by_cases a:x.term<y.tm
   ·by_cases b:y.K=1
    ·exact Or.inr (Or.inl b)
    ·by_cases c:y.K=2∧y.ok=true
     ·exact Or.inr (Or.inr c)
     ·exact absurd ⟨a,b,c⟩ hn
   ·exact Or.inl a
  unfold cO
  rw[e]
  exact mg w g x m hS0 D hD h hl y q bx hbx hn2 _ _ _ fk hfk (hfv g) fun w1 D1 hS1 hD1 hd=>hM w1 g m D1 hS1 hD1 (fun w' h'=>h w' (hd w' h')) hl (fun w' h'=>hq w' (hd w' h')) hmS hmi
theorem v9 {y:Ms} (h:dm y=true):1≤y.K∧y.K≤7∧y.tm≤4611686018427387904∧y.pl.1<18446744073709551616∧y.es.length≤8∧y.cf.length≤5∧1≤y.F∧y.F≤5∧1≤y.T∧y.T≤5:=by
 unfold dm wN at h
 simp only[List.all_cons,List.all_nil,id,Bool.and_eq_true,decide_eq_true_eq] at h
 obtain⟨h1,h2,h3,h4,h5,h6,h7,h8,h9,h10,h11,h12,h13,h14,h15,h16,h17,h18,h19,h20,_⟩:=h
 exact⟨h1,h2,h10,by omega,h15,h16,h4,h5,h6,h7⟩
theorem wa (w:World) (x:Rs) (p:Rp) (h:RfR w x p) (y:Ms) (q:Mp) (Dm:Kw) (hDm:Kd Dm [] w) (hm: ∀ w',Dm w'→MsR w' y q) (hck:cz x=true) (hb:x.base.1+x.es.length≤200000) (hgd:lF x y=true) (hed: ∀ e∈y.es,e.2.2.length≤100000) (hix:y.ix<18446744073709551614) (hu2:RsU (cO x y).1) (hv2:(cO x y).1.votes.length≤900) (hp2:(cO x y).1.peers.length≤900):
  Gives Tryz.prog 24 [.agg (aZ x p).toArray,.agg (aW y q).toArray] [] w (X:=Mm×Asn) (fun z=> .tuple #[.agg (aZ (cO x y).1 z.1.p).toArray,.slice z.1.sA z.1.S.length z.1.sc,.bool (cO x y).2.2,zi 0]) (fun z=>z.1.S.map Prod.fst=(cO x y).2.1∧ ∀ w',K2 Dm z.2 w'→SrvR w' (cO x y).1 z.1) (fun z=>[z.2]):=by
 have hrM:dm y=true:=by
  unfold lF at hgd
  simp only[Bool.and_eq_true] at hgd
  exact hgd.1.1.1
 obtain⟨k1,k2,k3,k4,k5,k6,_⟩:=v9 hrM
 have hmw:=hm w hDm.now
 have hqn:q.n≤8:=by rw[← hmw.ln];exact k5
 have hqcn:q.cn≤5:=by rw[← hmw.hc];exact k6
 have hqd: ∀ m∈q.Q,m.2.2.2.2.length≤100000:=fun m hmq=>hed (bA m) (by rw[← hmw.hQ];exact List.mem_map.2 ⟨m,hmq,O⟩)
 have hf:=yR hck h.hu (by rw[h.hvn];exact h.hvm) hb
 exact rU w x p h y q Dm hDm hm hqd (by omega) (by omega) hck hgd _ _ _ hu2 hv2 hp2 fun w1 g m D bx hS hD hR hL hmS hmi hbx hq=>tL w1 g x m hS D hD hR hL y q bx hbx hq hf ⟨k1,k2⟩ k3 k4 hix (by omega) (by omega) hqd (by rw[hmS];exact Nat.zero_le _) hmi
theorem wb (w:World) (x:Rs) (p:Rp) (h:RfR w x p) (lim:Int) (hck:cz x=true) (hb:x.base.1+x.es.length≤200000) (hl4:4≤lim) (hl16:lim≤16) (hu2:RsU (dW x lim).1) (hv2:(dW x lim).1.votes.length≤900) (hp2:(dW x lim).1.peers.length≤900):
  Gives Tryz.prog 14 [.agg (aZ x p).toArray,.int .i64 lim] [] w (X:=Mm×Asn) (fun y=> .tuple #[.agg (aZ (dW x lim).1 y.1.p).toArray,.slice y.1.sA y.1.S.length y.1.sc,zi 0]) (fun y=>y.1.S.map Prod.fst=(dW x lim).2∧ ∀ w',y.2.holds w'→SrvR w' (dW x lim).1 y.1) (fun y=>[y.2]):=by
 have hf:=yR hck h.hu (by rw[h.hvn];exact h.hvm) hb
 exact kN w x p h lim hck hl4 hl16 _ _ hu2 hv2 hp2 fun w1 g m D bl hS hD hR hL hmS hbl=>tI w1 g x m hS D hD hR hL bl lim hbl hf.cl.1 hf.cl.2 hf.cf (by have:=hf.es;omega) (by have:=hf.last;omega) (by rw[hmS];exact Nat.zero_le _) hf.u (by have:=hL.hpn;have:=hf.pn;omega) (fun c l h0=>qG (x:=bf (bF {x with clock:=c,limit:=l})) ⟨by show x.term+1<_;have:=hf.tm;omega,hf.u.b1,hf.u.b2,hf.u.cm,hf.u.pe⟩ hf.last h0)
theorem o6 (w:World) (a b:Em) (h1:mz w a) (h2:mz w b) (r:Bool) (hr:decide (bA a=bA b)=r):
  Gives Tryz.prog 17 [.agg (aN a).toArray,.agg (aN b).toArray] [] w (X:=Unit) (fun _=> .bool r) (fun _=>True) (fun _=>[]):=by
 refine aP Tryz.func17 O Tryz.ntmps17 Tryz.results17 (by simp) (St.enter w) (fun B hB=>?_)
 have hr2:decide ([a].map bA=[b].map bA)=r:=by rw[← hr];simp
 focus (refine qs ?_;(refine qe (ap (cs:=aN a) O) ?_;rintro _ _ ⟨b2,rfl,rfl⟩);(refine qe (ap (cs:=aN b) O) ?_;rintro _ _ ⟨b3,rfl,rfl⟩);refine qp ?_;refine qn ?_;refine qt (ai (ds:=aN a) O O O O O) ?_;(refine qe (cK (vs:=[.agg (aN a).toArray]) (size:=3) (ds:=aN a) O O O O O O (by simp[aV,bW]) (by simp[aV]) (by omega)) ?_;rintro _ _ ⟨v1,rfl,rfl⟩);refine qt (gH O (mZ _ _ _)) ?_;refine qt (ai (ds:=aN b) O O O O O) ?_;(refine qe (cK (vs:=[.agg (aN b).toArray]) (size:=3) (ds:=aN b) O O O O O O (by simp[aV,bW]) (by simp[aV]) (by omega)) ?_;rintro _ _ ⟨v2,rfl,rfl⟩);refine qt (gH O (mZ _ _ _)) ?_;refine qh GM (fun w1 hS1=>vy w1 (some ⟨v1,0,none⟩) (some ⟨v2,0,none⟩) 1 1 1 1 [a] [b] _ _ O O O O ((Srd.pt (n:=1) (size:=3) (g:=v1) (t:=59) (off:=0) (cs:=aN a) (ds:=ab aN [a]) (by simp[ab,bW]) (fun j u hj=>by rw[Nat.zero_add];simpa[ab] using hj)).rd w1 hS1) ((Srd.pt (n:=1) (size:=3) (g:=v2) (t:=59) (off:=0) (cs:=aN b) (ds:=ab aN [b]) (by simp[ab,bW]) (fun j u hj=>by rw[Nat.zero_add];simpa[ab] using hj)).rd w1 hS1) (fun m hm=>by obtain rfl:=List.mem_singleton.1 hm;exact Bs.keep h1 hS1.kpO) (fun m hm=>by obtain rfl:=List.mem_singleton.1 hm;exact Bs.keep h2 hS1.kpO) (by omega) (by omega) _ hr2) ?_;refine qp ?_;refine qz ?_)
 exact hB _ _ _ _ _ O O (qE O)
theorem tM (w:World) (a:At) (A:Option Addr) (c k:Nat) (Q:List Em) (l:List En) (hk:Q.length=k) (hQ:Q.map bA=l) (rq1:Rd w bC 3 A k (ab aN Q)) (bq1: ∀ m∈Q,mz w m) (hm1:k≤1000)
  (a2:At) (A2:Option Addr) (c2 k2:Nat) (Q2:List Em) (l2:List En) (hk2:Q2.length=k2) (hQ2:Q2.map bA=l2) (rq2:Rd w bC 3 A2 k2 (ab aN Q2)) (bq2: ∀ m∈Q2,mz w m) (hm2:k2≤1000) (ha:a.1+k<18446744073709551615)
  (hmm: ∀ top,(top=0∨ ∃ j e,l[j]? =some e∧(br a2 l2&&fu a2 l2 (a.1+j+1,e.1))=true∧top=a.1+j+1)→ ∀ j e,l[j]? =some e→a.1+j+1≤top→a2.1<a.1+j+1→l2[a.1+j+1-a2.1-1]? =some e):
  Gives Tryz.prog 38 [.agg (aE a A k c).toArray,.agg (aE a2 A2 k2 c2).toArray] [] w (X:=Unit) (fun _=> .bool true) (fun _=>True) (fun _=>[]):=by
 refine aP Tryz.func38 O Tryz.ntmps38 Tryz.results38 (by simp) (St.enter w) (fun B hB=>?_)
 have hll:l.length=k:=by rw[← hQ,List.length_map,hk]
 have hll2:l2.length=k2:=by rw[← hQ2,List.length_map,hk2]
 have hne:0<k→A≠none:=fun h0=>by obtain⟨ad,e,_⟩:=rq1.2 h0;rw[e];simp
 have hne2:0<k2→A2≠none:=fun h0=>by obtain⟨ad,e,_⟩:=rq2.2 h0;rw[e];simp
 focus (refine qs ?_;(refine qe (ap (cs:=aE a A k c) O) ?_;rintro _ _ ⟨b2,rfl,rfl⟩);(refine qe (ap (cs:=aE a2 A2 k2 c2) O) ?_;rintro _ _ ⟨b3,rfl,rfl⟩);refine qp ?_;refine qn ?_;refine qp ?_;refine qz ?_;refine qq ?_;refine qs ?_;refine qp ?_;refine qt (ah (v:= .slice A k c) O O O O) ?_;refine qp ?_;refine qp ?_;refine qz ?_;refine qb ?_)
 refine bV (X:=Nat×Nat) (fun z=>[(2,.pointer (some ⟨b2,0,none⟩)),(3,.pointer (some ⟨b3,0,none⟩)),(5,.int .u64 (z.2:Int)),(14,.slice A k c),(15,.int .i64 (k:Int)),(16,.int .i64 (z.1:Int))]) (fun _=>[pt b2 39 (aE a A k c),pt b3 39 (aE a2 A2 k2 c2)]) (fun z=>z.1≤k∧(z.2=0∨ ∃ j e,l[j]? =some e∧(br a2 l2&&fu a2 l2 (a.1+j+1,e.1))=true∧z.2=a.1+j+1)) (fun z=>k-z.1) O (0,0) ⟨Nat.zero_le _,Or.inl O⟩ (Sub.cons O (Sub.cons O (Sub.cons O (Sub.cons O (Sub.cons O (Sub.cons O Sub.nil)))))) ae ?_
 ·rintro⟨j,top⟩ ⟨hj,hP⟩ J hJ
  dsimp only at hj hP ⊢
  rcases Nat.lt_or_ge j k with hjl|hjl
  ·skip
   have hne:=hne (by omega)
   have hat:=bi (f:=aN) bW Q default j (by omega)
   obtain⟨m,hm⟩: ∃ m,Q.getD j default=m:=⟨_,O⟩
   have hlj:l[j]? =some (bA m):=by rw[← hQ,List.getElem?_map, ← hm,List.getD_eq_getElem?_getD,List.getElem?_eq_getElem (by omega)];rfl
   rw[hm] at hat
   obtain⟨hb,hhb⟩: ∃ b,(br a2 l2&&fu a2 l2 (a.1+j+1,m.1))=b:=⟨_,O⟩
   focus (refine qs ?_;refine qd ?_;refine qz ?_;refine qq ?_;refine qT ?_;refine qx ?_;refine qq ?_;refine qb ?_;refine qs ?_;refine qp ?_;refine qt (bH (sz:=3) (q:=j) O O O O O O hne hjl) ?_;refine qt (cw (ds:=aN m) O O O (Srd.old rq1 (fun k _=>ao k)) O (by omega) hat) ?_;(refine qe (am O cu) ?_;rintro _ _ ⟨b4,rfl,rfl⟩);refine qp ?_;(refine qw (aj (cs:=aN (0,0,none,0,[])) (ds:=aN m) O O O O (cC _) O) ?_;rintro _ _ rfl);refine qn ?_;refine qp ?_;refine qp ?_;refine qt (ah (v:= .int .u64 (a.1:Int)) O O O O) ?_;refine qp ?_;refine qt (bj O O O O (by unfold aH;omega)) ?_;(iterate 2 refine qt (aI O O (by unfold aH;omega)) ?_);refine qp ?_;refine qn ?_;refine qt (ai (ds:=aE a2 A2 k2 c2) O O O O O) ?_;refine qp ?_;refine qp ?_;refine qt (ah (v:= .int .u64 (m.1:Int)) O O O O) ?_;refine qt (bS O O (fL _ _)) ?_;refine qh Dy (fun w1 hS1=>vd w1 a2 A2 c2 k2 Q2 l2 hk2 hQ2 (rq2.keep hS1.kpO) hm2 (a.1+j+1,m.1) hb hhb) ?_;refine qz ?_)
   cases hb
   ·focus (refine qF ?_;refine qx ?_;refine aK ?_;refine qr ?_;refine qt (aI O O (by unfold aH;omega)) ?_;refine qp ?_;refine qz ?_)
    exact hJ (j+1,top) _ _ ⟨by show j+1≤k;omega,hP⟩ (Sub.cons O (Sub.cons O (Sub.cons O (Sub.cons O (Sub.cons O (Sub.cons O Sub.nil)))))) ae (by show k-(j+1)<_;omega)
   ·focus (refine qT ?_;refine qr ?_;refine qp ?_;refine qp ?_;refine qz ?_;refine aK ?_;refine qr ?_;refine qt (aI O O (by unfold aH;omega)) ?_;refine qp ?_;refine qz ?_)
    exact hJ (j+1,a.1+j+1) _ _ ⟨by show j+1≤k;omega,Or.inr ⟨j,_,hlj,hhb,O⟩⟩ (Sub.cons O (Sub.cons O (Sub.cons O (Sub.cons O (Sub.cons O (Sub.cons O Sub.nil)))))) ae (by show k-(j+1)<_;omega)
  have ht:=hmm top hP
  focus (refine qs ?_;refine qf ?_;refine qz ?_;refine qq ?_;refine qF ?_;refine bE O O ?_;refine qq ?_;refine qs ?_;refine qp ?_;refine qt (ah (v:= .slice A k c) O O O O) ?_;refine qp ?_;refine qp ?_;refine qz ?_;refine qb ?_)
  refine bV (X:=Nat) (fun z=>[(2,.pointer (some ⟨b2,0,none⟩)),(3,.pointer (some ⟨b3,0,none⟩)),(5,.int .u64 (top:Int)),(37,.slice A k c),(38,.int .i64 (k:Int)),(39,.int .i64 (z:Int))]) (fun _=>[pt b2 39 (aE a A k c),pt b3 39 (aE a2 A2 k2 c2)]) (fun z=>z≤k) (fun z=>k-z) O 0 (Nat.zero_le _) (Sub.cons O (Sub.cons O (Sub.cons O (Sub.cons O (Sub.cons O (Sub.cons O Sub.nil)))))) ae ?_
  ·rintro j hj J2 hJ2
   rcases Nat.lt_or_ge j k with hjl|hjl
   ·skip
    have hne:=hne (by omega)
    have hat:=bi (f:=aN) bW Q default j (by omega)
    obtain⟨m,hm⟩: ∃ m,Q.getD j default=m:=⟨_,O⟩
    have hlj:l[j]? =some (bA m):=by rw[← hQ,List.getElem?_map, ← hm,List.getD_eq_getElem?_getD,List.getElem?_eq_getElem (by omega)];rfl
    rw[hm] at hat
    by_cases h1:top<a.1+j+1
    ·repeat' (first|refine aa (ay O (by omega)) ?_ O O|refine bM O ?_ O O|refine ax ?_|refine aU ?_ O O|refine aa (bH (sz:=3) (q:=j) O O O O O O hne hjl) ?_ O O|refine aa (cw (ds:=aN m) O O O (Srd.old rq1 (fun k _=>ao k)) O (by omega) hat) ?_ O O|refine aa (ah (v:= .int .u64 (a.1:Int)) O O O O) ?_ O O|refine aa (aI O O (by unfold aH;omega)) ?_ O O|refine aa (bj O O O O (by unfold aH;omega)) ?_ O O|refine au O ?_|refine al O O ?_|refine aC O O ?_|refine aG O ?_|refine bE O O ?_|refine aM O ?_|(refine an (am O cu) ?_ O O;rintro _ _ ⟨b4,rfl,rfl⟩)|(refine bh (aj (cs:=aN (0,0,none,0,[])) (ds:=aN m) O O O O (cC _) O) ?_ O;rintro _ _ rfl))
     exact hJ2 (j+1) _ _ (by show j+1≤k;omega) (Sub.cons O (Sub.cons O (Sub.cons O (Sub.cons O (Sub.cons O (Sub.cons O Sub.nil)))))) ae (by show k-(j+1)<_;omega)
    by_cases h2:a.1+j+1≤a2.1
    ·repeat' (first|refine aa (ay O (by omega)) ?_ O O|refine aa (aB O (by omega)) ?_ O O|refine bM O ?_ O O|refine ax ?_|refine aa (bH (sz:=3) (q:=j) O O O O O O hne hjl) ?_ O O|refine aa (cw (ds:=aN m) O O O (Srd.old rq1 (fun k _=>ao k)) O (by omega) hat) ?_ O O|refine aa (ah (v:= .int .u64 (a.1:Int)) O O O O) ?_ O O|refine aa (ah (v:= .int .u64 (a2.1:Int)) O O O O) ?_ O O|refine aa (aI O O (by unfold aH;omega)) ?_ O O|refine aa (bj O O O O (by unfold aH;omega)) ?_ O O|refine au O ?_|refine al O O ?_|refine aC O O ?_|refine aG O ?_|refine bE O O ?_|refine aM O ?_|(refine an (am O cu) ?_ O O;rintro _ _ ⟨b4,rfl,rfl⟩)|(refine bh (aj (cs:=aN (0,0,none,0,[])) (ds:=aN m) O O O O (cC _) O) ?_ O;rintro _ _ rfl))
     exact hJ2 (j+1) _ _ (by show j+1≤k;omega) (Sub.cons O (Sub.cons O (Sub.cons O (Sub.cons O (Sub.cons O (Sub.cons O Sub.nil)))))) ae (by show k-(j+1)<_;omega)
    have h3:=ht j _ hlj (by omega) (by omega)
    obtain⟨i,hi⟩: ∃ i,a.1+j+1-a2.1-1=i:=⟨_,O⟩
    rw[hi] at h3
    have hik:i<k2:=by rw[← hll2];exact(List.getElem?_eq_some_iff.1 h3).1
    have hne2:=hne2 (by omega)
    have hat2:=bi (f:=aN) bW Q2 default i (by omega)
    obtain⟨m2,hm2'⟩: ∃ m,Q2.getD i default=m:=⟨_,O⟩
    have hlj2:l2[i]? =some (bA m2):=by rw[← hQ2,List.getElem?_map, ← hm2',List.getD_eq_getElem?_getD,List.getElem?_eq_getElem (by omega)];rfl
    rw[hm2'] at hat2
    have heq:decide (bA m=bA m2)=true:=decide_eq_true (Option.some.inj (h3.symm.trans hlj2))
    have hmQ:m∈Q:=by rw[← hm,List.getD_eq_getElem?_getD,List.getElem?_eq_getElem (by omega)];exact List.getElem_mem _
    have hmQ2:m2∈Q2:=by rw[← hm2',List.getD_eq_getElem?_getD,List.getElem?_eq_getElem (by omega)];exact List.getElem_mem _
    repeat' (first|refine aa (ay O (by omega)) ?_ O O|refine aa (aB O (by omega)) ?_ O O|refine bM O ?_ O O|refine ax ?_|refine aa (bU (p:=a.1+j+1) (q:=a2.1) O O (by omega) (by unfold aH;omega)) ?_ O O|refine aa (bU (p:=a.1+j+1-a2.1) (q:=1) O O (by omega) (by unfold aH;omega)) ?_ O O|refine aa (bH (sz:=3) (q:=j) O O O O O O hne hjl) ?_ O O|refine aa (cw (ds:=aN m) O O O (Srd.old rq1 (fun k _=>ao k)) O (by omega) hat) ?_ O O|refine aa (ah (v:= .int .u64 (a.1:Int)) O O O O) ?_ O O|refine aa (ah (v:= .int .u64 (a2.1:Int)) O O O O) ?_ O O|refine aa (aI O O (by unfold aH;omega)) ?_ O O|refine aa (bj O O O O (by unfold aH;omega)) ?_ O O|refine au O ?_|refine al O O ?_|refine aC O O ?_|refine aA O O ?_|refine aG O ?_|refine aM O ?_|(refine an (am O cu) ?_ O O;rintro _ _ ⟨b4,rfl,rfl⟩)|(refine bh (aj (cs:=aN (0,0,none,0,[])) (ds:=aN m) O O O O (cC _) O) ?_ O;rintro _ _ rfl))
    rw[hi]
    refine dS [pt b4 59 (aN m),pt b3 39 (aE a2 A2 k2 c2)] 15 ?_
    refine dp 0 ?_
    refine dp 1 ?_
    refine dt 2 O (ah (v:= .slice A2 k2 c2) O O O O) ?_
    refine dp 3 ?_
    refine eI 4 ?_
    refine dp 5 ?_
    refine dt 6 O (ai (ds:=aN m) O O O O O) ?_
    refine dp 7 ?_
    refine dt 8 O (ah (v:= .slice A2 k2 c2) O O O O) ?_
    refine dp 9 ?_
    refine dt 10 O (bH (sz:=3) (q:=i) O O O O O O hne2 hik) ?_
    refine dt 11 O (cw (ds:=aN m2) O O O (Srd.old rq2 (fun k _=>ao k)) O (by omega) hat2) ?_
    refine dE 12 O (aq (f:=17) Gp (fun w1 hS1=>o6 w1 m m2 (Bs.keep (bq1 m hmQ) hS1.kpO) (Bs.keep (bq2 m2 hmQ2) hS1.kpO) true heq) O O (fun _=>O)) ?_
    rintro _ _ ⟨_,rfl,_,rfl⟩
    refine nx ?_
    refine dt 13 O (aR O) ?_
    refine dp 14 ?_
    refine dn ?_
    skip
    focus (refine qF ?_;refine qx ?_;refine aK ?_;refine qr ?_;refine qt (aI O O (by unfold aH;omega)) ?_;refine qp ?_;refine qz ?_)
    exact hJ2 (j+1) _ _ (by show j+1≤k;omega) (Sub.cons O (Sub.cons O (Sub.cons O (Sub.cons O (Sub.cons O (Sub.cons O Sub.nil)))))) ae (by show k-(j+1)<_;omega)
   focus (refine qs ?_;refine qf ?_;refine qz ?_;refine qq ?_;refine qF ?_;refine bE O O ?_;refine qs ?_;refine qp ?_;refine qz ?_)
   exact hB _ _ _ _ _ O O (qE O)
structure Cl where
 N:List (Rs×Rp)
 nA:Option Addr
 nc:Nat
 W:List (Ms×Mp)
 wA:Option Addr
 wc:Nat
 b1:Nat
 f1:Int→Option Value
 b2:Nat
 f2:Int→Option Value
def gu (z:Rs×Rp):List Value:=aZ z.1 z.2
def gC (c:Cl):List Value:=[.slice c.nA c.N.length c.nc,.slice c.wA c.W.length c.wc,.map (some c.b1),.map (some c.b2)]
theorem iS (z:Rs×Rp):(gu z).length=14:=rfl
abbrev cP (gc:Nat) (c:Cl):List Asn:=[pt gc 30 (gC c),row 42 14 c.nA c.N.length c.nc (ab gu c.N),row 65 12 c.wA c.W.length c.wc (ab bK c.W),er .u64 c.b1 c.f1,er .u64 c.b2 c.f2]
structure CR (w:World) (c:Cl):Prop where
 nd: ∀ z∈c.N,RfR w z.1 z.2
 ms: ∀ s∈c.W,MsR w s.1 s.2
 st: ∀ k v,c.f2 k=some v→ ∃ m,v= .agg (aN m).toArray∧mz w m
def cG (c:Cl) (i:Nat) (z:Rs×Rp) (L:List (Ms×Mp)) (A:Option Addr) (k:Nat):Cl:={c with N:=c.N.set i z,W:=c.W++L.take (60-c.W.length),wA:=A,wc:=k}
theorem m9 {α:Type} {f:α→List Value} {s:Nat} (hf: ∀ a,(f a).length=s): ∀ (l:List α) (i:Nat) (a:α),i<l.length→(ab f l).take (i*s)++f a++(ab f l).drop (i*s+s)=ab f (l.set i a)
 |[],i,a,h=>absurd h (Nat.not_lt_zero _)
 |p::l,0,a,_=>by
  have ec: ∀ (a:α) (k:List α),ab f (a::k)=f a++ab f k:=fun a k=>by simp[ab]
  rw[List.set_cons_zero,ec,ec,Nat.zero_mul,Nat.zero_add, ← hf p,List.drop_left]
  simp
 |p::l,i+1,a,h=>by
  have ec: ∀ (a:α) (k:List α),ab f (a::k)=f a++ab f k:=fun a k=>by simp[ab]
  have ih:=m9 hf l i a (by simpa using h)
  have e1:(i+1)*s=(f p).length+i*s:=by rw[hf p,Nat.add_mul,Nat.one_mul,Nat.add_comm]
  rw[List.set_cons_succ,ec,ec, ← ih,e1,Nat.add_assoc,List.take_length_add_append,List.drop_length_add_append]
  simp
theorem wd (w:World) (gc:Nat) (c:Cl) (hS0:St w (ar (cP gc c)) (cP gc c) w) (D:Kw) (hD:Kd D (cP gc c) w) (h: ∀ w',D w'→CR w' c) (i:Nat) (hi:i<c.N.length) (hN:c.N.length≤5) (x:Rs) (p:Rp) (hx: ∀ w',D w'→RfR w' x p) (L:List (Ms×Mp)) (A:Option Addr) (cL:Nat) (hL: ∀ w',D w'→Rd w' bC 12 A L.length (ab bK L)) (hLm: ∀ w',D w'→ ∀ s∈L,MsR w' s.1 s.2) (hW:c.W.length≤60) (hL9:L.length≤maxLen)
  (hck:cz x=true) (xw:Rs) (pw:Rp) (hw:c.N.getD i (dy,df)=(xw,pw)) (hvk:xw.term≤x.term∧(x.term=xw.term→xw.vote=0∨x.vote=xw.vote)) (hms: ∀ s∈L,dm s.1=true∧s.1.F=x.me):
  Gives Tryz.prog 15 [.pointer (some ⟨gc,0,none⟩),.int .i64 (i:Int),.agg (aZ x p).toArray,.slice A L.length cL] (cP gc c) w (X:=Option Addr×Nat) (fun _=> .bool true) (fun _=>True) (fun y=>cP gc (cG c i (x,p) L y.1 y.2)):=by
 refine aP Tryz.func15 O Tryz.ntmps15 Tryz.results15 (by simp) hS0 (fun B hB=>?_)
 unfold maxLen at hL9
 have hatN:=bi (f:=gu) iS c.N (dy,df) i hi
 rw[hw] at hatN
 have hat0: ∀ e v,(aZ xw pw)[e]? =some v→(ab gu c.N)[i*14+e]? =some v:=hatN
 have hlenN:(ab gu c.N).length=c.N.length*14:=by simp[eV,iS]
 have hneL:0<L.length→A≠none:=fun h0=>by obtain⟨ad,e,_⟩:=(hL w hD.now).2 h0;rw[e];simp
 refine eS c.nA c.N.length c.nc fun _ _ hneR _=>?_
 have hne:c.nA≠none:=hneR (by omega)
 refine au O ?_
 refine uj [_] O ?_
 refine uj [_,_] O ?_
 refine zf [_,_,_] (X:=Nat) (fun b6=>[(0,.pointer (some ⟨gc,0,none⟩)),(1,.int .i64 (i:Int)),(3,.slice A L.length cL),(6,.pointer (some ⟨b6,0,none⟩)),(47,.bool false)]) (fun b6=>[pt b6 42 (aZ x p),pt gc 30 (gC c),row 42 14 c.nA c.N.length c.nc (ab gu c.N),row 65 12 c.wA c.W.length c.wc (ab bK c.W),er .u64 c.b1 c.f1,er .u64 c.b2 c.f2]) (fun _=>True) (fun J hJ=>?_) (fun b6 _=>?_)
 ·dsimp only[List.cons_append,List.nil_append]
  by_cases h1:x.term=xw.term
  rotate_left
  ·have h1': ¬ (x.term:Int)=(xw.term:Int):=by omega
   repeat' (first|refine aa (aB O (by omega)) ?_ O O|refine bM O ?_ O O|refine ax ?_|refine aU ?_ O O|refine aa (ac O) ?_ O O|refine aa (bH (sz:=14) (q:=i) O O O O O O hne hi) ?_ O O|refine aa (cw (ds:=aZ xw pw) O O O (Srd.row (n:=c.N.length) (c:=c.nc)) O (by omega) hat0) ?_ O O|refine aa (ai (ds:=aZ x p) O O O O O) ?_ O O|refine aa (ah O O O O) ?_ O O|refine au O ?_|refine al O O ?_|refine aA O O ?_|refine aM O ?_|(refine an (ap (cs:=aZ x p) O) ?_ O O;rintro _ _ ⟨b6,rfl,rfl⟩)|(refine an (am O ch) ?_ O O;rintro _ _ ⟨b9,rfl,rfl⟩)|(refine bh (aj (cs:=aZ dy df) (ds:=aZ xw pw) O O O O (bn _ _) O) ?_ O;rintro _ _ rfl)|(refine an (aq (f:=30) wK (fun w1 hS1=>dR w1 x p (hx w1 (hD.at_ hS1)) true hck) O O (fun _=>O)) ?_ O O;rintro _ _ ⟨_,rfl,_,rfl⟩))
   exact hJ b6 _ _ trivial (Sub.cons O (Sub.cons O (Sub.cons O (Sub.cons O (Sub.cons O Sub.nil))))) ae
  by_cases h2:xw.vote=0
  ·repeat' (first|refine aa (ay O (by omega)) ?_ O O|refine aa (aB O (by omega)) ?_ O O|refine bM O ?_ O O|refine ax ?_|refine aU ?_ O O|refine aa (ac O) ?_ O O|refine aa (bH (sz:=14) (q:=i) O O O O O O hne hi) ?_ O O|refine aa (cw (ds:=aZ xw pw) O O O (Srd.row (n:=c.N.length) (c:=c.nc)) O (by omega) hat0) ?_ O O|refine aa (ai (ds:=aZ x p) O O O O O) ?_ O O|refine aa (ah O O O O) ?_ O O|refine au O ?_|refine al O O ?_|refine aA O O ?_|refine aM O ?_|(refine an (ap (cs:=aZ x p) O) ?_ O O;rintro _ _ ⟨b6,rfl,rfl⟩)|(refine an (am O ch) ?_ O O;rintro _ _ ⟨b9,rfl,rfl⟩)|(refine bh (aj (cs:=aZ dy df) (ds:=aZ xw pw) O O O O (bn _ _) O) ?_ O;rintro _ _ rfl)|(refine an (aq (f:=30) wK (fun w1 hS1=>dR w1 x p (hx w1 (hD.at_ hS1)) true hck) O O (fun _=>O)) ?_ O O;rintro _ _ ⟨_,rfl,_,rfl⟩))
   exact hJ b6 _ _ trivial (Sub.cons O (Sub.cons O (Sub.cons O (Sub.cons O (Sub.cons O Sub.nil))))) ae
  have h3:x.vote=xw.vote:=(hvk.2 h1).resolve_left h2
  repeat' (first|refine aa (ay O (by omega)) ?_ O O|refine aa (aB O (by omega)) ?_ O O|refine bM O ?_ O O|refine ax ?_|refine aa (ac O) ?_ O O|refine aa (bH (sz:=14) (q:=i) O O O O O O hne hi) ?_ O O|refine aa (cw (ds:=aZ xw pw) O O O (Srd.row (n:=c.N.length) (c:=c.nc)) O (by omega) hat0) ?_ O O|refine aa (ai (ds:=aZ x p) O O O O O) ?_ O O|refine aa (ah O O O O) ?_ O O|refine au O ?_|refine al O O ?_|refine aA O O ?_|refine aM O ?_|(refine an (ap (cs:=aZ x p) O) ?_ O O;rintro _ _ ⟨b6,rfl,rfl⟩)|(refine an (am O ch) ?_ O O;rintro _ _ ⟨b9,rfl,rfl⟩)|(refine bh (aj (cs:=aZ dy df) (ds:=aZ xw pw) O O O O (bn _ _) O) ?_ O;rintro _ _ rfl)|(refine an (aq (f:=30) wK (fun w1 hS1=>dR w1 x p (hx w1 (hD.at_ hS1)) true hck) O O (fun _=>O)) ?_ O O;rintro _ _ ⟨_,rfl,_,rfl⟩))
  exact hJ b6 _ _ trivial (Sub.cons O (Sub.cons O (Sub.cons O (Sub.cons O (Sub.cons O Sub.nil))))) ae
 focus (refine qq ?_)
 refine dS [pt b6 42 (aZ x p),pt gc 30 (gC c)] 8 ?_
 refine dp 0 ?_
 refine dt 1 O (ac O) ?_
 refine dp 2 ?_
 refine dl 3 ?_
 refine dp 4 ?_
 refine dt 5 O (ai (ds:=aZ x p) O O O O O) ?_
 refine dt 6 O (bH (sz:=14) (q:=i) O O O O O O hne hi) ?_
 refine dE 7 O (ij (A:=c.nA) (m:=c.N.length) (c:=c.nc) (e:=42) (size:=14) (off:=i*14) (ds:=aZ x p) (xs:=ab gu c.N) O O O (by simp[aV]) O (bn _ _) (by show 0<14;decide) (by rw[hlenN];show i*14+14≤_;omega)) ?_
 rintro _ _ rfl
 refine dV ?_
 refine dn ?_
 skip
 refine eS c.wA c.W.length c.wc fun _ _ _ _=>?_
 have hst0: ∀ w',St w (ar (cP gc c)) [pt gc 30 (gC c),row 42 14 c.nA c.N.length c.nc ((ab gu c.N).take (i*14)++aZ x p++(ab gu c.N).drop (i*14+(aZ x p).length)),row 65 12 c.wA c.W.length c.wc (ab bK c.W),er .u64 c.b1 c.f1,er .u64 c.b2 c.f2,pt b6 42 (aZ x p)] w'→St w (ar (cP gc c)) [pt b6 42 (aZ x p),pt gc 30 (gC (cG c i (x,p) (L.take 0) c.wA c.wc)),row 42 14 (cG c i (x,p) (L.take 0) c.wA c.wc).nA (cG c i (x,p) (L.take 0) c.wA c.wc).N.length (cG c i (x,p) (L.take 0) c.wA c.wc).nc (ab gu (cG c i (x,p) (L.take 0) c.wA c.wc).N),row 65 12 (cG c i (x,p) (L.take 0) c.wA c.wc).wA (cG c i (x,p) (L.take 0) c.wA c.wc).W.length (cG c i (x,p) (L.take 0) c.wA c.wc).wc (ab bK (cG c i (x,p) (L.take 0) c.wA c.wc).W),er .u64 (cG c i (x,p) (L.take 0) c.wA c.wc).b1 (cG c i (x,p) (L.take 0) c.wA c.wc).f1,er .u64 (cG c i (x,p) (L.take 0) c.wA c.wc).b2 (cG c i (x,p) (L.take 0) c.wA c.wc).f2] w':=fun w' hS=>by
  have e1:=m9 iS c.N i (x,p) hi
  have e3:(c.N.set i (x,p)).length=c.N.length:=List.length_set ..
  have h9:=ae (H':=[pt b6 42 (aZ x p),pt gc 30 (gC c),row 42 14 c.nA c.N.length c.nc ((ab gu c.N).take (i*14)++aZ x p++(ab gu c.N).drop (i*14+(aZ x p).length)),row 65 12 c.wA c.W.length c.wc (ab bK c.W),er .u64 c.b1 c.f1,er .u64 c.b2 c.f2]) w' hS
  have h9:St w (ar (cP gc c)) [pt b6 42 (aZ x p),pt gc 30 (gC c),row 42 14 c.nA c.N.length c.nc ((ab gu c.N).take (i*14)++gu (x,p)++(ab gu c.N).drop (i*14+14)),row 65 12 c.wA c.W.length c.wc (ab bK c.W),er .u64 c.b1 c.f1,er .u64 c.b2 c.f2] w':=h9
  rw[e1] at h9
  have e2:cG c i (x,p) (L.take 0) c.wA c.wc={c with N:=c.N.set i (x,p)}:=by unfold cG;simp
  rw[e2]
  unfold gC at h9 ⊢
  dsimp only
  rw[e3]
  exact h9
 focus (refine qq ?_;refine qs ?_;(iterate 3 refine qp ?_);refine qz ?_;refine qb ?_)
 refine bV (X:=Nat×Option Addr×Nat) (fun z=>[(0,.pointer (some ⟨gc,0,none⟩)),(6,.pointer (some ⟨b6,0,none⟩)),(55,.slice A L.length cL),(56,.int .i64 (L.length:Int)),(57,.int .i64 (z.1:Int))]) (fun z=>[pt b6 42 (aZ x p),pt gc 30 (gC (cG c i (x,p) (L.take z.1) z.2.1 z.2.2)),row 42 14 (cG c i (x,p) (L.take z.1) z.2.1 z.2.2).nA (cG c i (x,p) (L.take z.1) z.2.1 z.2.2).N.length (cG c i (x,p) (L.take z.1) z.2.1 z.2.2).nc (ab gu (cG c i (x,p) (L.take z.1) z.2.1 z.2.2).N),row 65 12 (cG c i (x,p) (L.take z.1) z.2.1 z.2.2).wA (cG c i (x,p) (L.take z.1) z.2.1 z.2.2).W.length (cG c i (x,p) (L.take z.1) z.2.1 z.2.2).wc (ab bK (cG c i (x,p) (L.take z.1) z.2.1 z.2.2).W),er .u64 (cG c i (x,p) (L.take z.1) z.2.1 z.2.2).b1 (cG c i (x,p) (L.take z.1) z.2.1 z.2.2).f1,er .u64 (cG c i (x,p) (L.take z.1) z.2.1 z.2.2).b2 (cG c i (x,p) (L.take z.1) z.2.1 z.2.2).f2]) (fun z=>z.1≤L.length) (fun z=>L.length-z.1) O (0,c.wA,c.wc) (Nat.zero_le _) (Sub.cons O (Sub.cons O (Sub.cons O (Sub.cons O (Sub.cons O Sub.nil))))) (fun w' hS=>hst0 w' (ae w' hS)) ?_
 rintro⟨j,A7,c7⟩ hj J hJ
 dsimp only at hj ⊢
 rcases Nat.lt_or_ge j L.length with hjl|hjl
 ·skip
  have hneL:=hneL (by omega)
  have hat:=bi (f:=bK) jy L (gL,qW) j hjl
  obtain⟨⟨u,q⟩,hu⟩: ∃ s,L.getD j (gL,qW)=s:=⟨_,O⟩
  have huL:(u,q)∈L:=by rw[← hu,List.getD_eq_getElem?_getD,List.getElem?_eq_getElem hjl];exact List.getElem_mem _
  have htk:L.take (j+1)=L.take j++[(u,q)]:=by rw[List.take_succ_eq_append_getElem hjl, ← hu,List.getD_eq_getElem?_getD,List.getElem?_eq_getElem hjl];rfl
  rw[hu] at hat
  obtain⟨cj,hcj⟩: ∃ z,z=(cG c i (x,p) (L.take j) A7 c7):=⟨_,O⟩
  have hWl:cj.W.length=c.W.length+min (60-c.W.length) j:=by rw[hcj];show (c.W++(L.take j).take _).length=_;rw[List.length_append,List.length_take,List.length_take];omega
  have hWs:cj.W.length<60→cj.W++[(u,q)]=(cG c i (x,p) (L.take (j+1)) none 0).W:=fun h6=>by
   rw[hWl] at h6
   rw[hcj]
   show (c.W++(L.take j).take _)++_=c.W++(L.take (j+1)).take _
   rw[List.take_take,List.take_take,show min (60-c.W.length) (j+1)=j+1 by omega,show min (60-c.W.length) j=j by omega,htk,List.append_assoc]
  have hclc:cj.W.length<60→ ∀ A8 c8,(gC cj).set 1 (.slice A8 (cj.W.length+1) c8)=gC (cG c i (x,p) (L.take (j+1)) A8 c8):=fun h6 A8 c8=>by
   have hl:cj.W.length+1=(cG c i (x,p) (L.take (j+1)) none 0).W.length:=by rw[← hWs h6,List.length_append];rfl
   rw[hl,hcj]
   rfl
  rw[← hcj]
  have hF:u.F=x.me:=(hms _ huL).2
  focus (refine qs ?_;refine qd ?_;refine qz ?_;refine qq ?_;refine qT ?_;refine qx ?_;refine qq ?_;refine qb ?_;refine qs ?_;refine qt (bH (sz:=12) (q:=j) O O O O O O hneL hjl) ?_;refine qt (cw (ds:=aW u q) O O O (⟨fun w1 hS1=>hL w1 (hD.at_ hS1)⟩:Srd _ _ _ 12 A L.length (ab bK L)) O (by omega) hat) ?_;(refine qe (am O nI) ?_;rintro _ _ ⟨b5,rfl,rfl⟩);(refine qw (aj (cs:=aW gL ⟨none,0,0,none,0,0,none,0,0,[]⟩) (ds:=aW u q) O O O O (gP _ _) O) ?_;rintro _ _ rfl);refine qz ?_;refine qq ?_;refine qs ?_;refine qt (ai (ds:=aW u q) O O O O O) ?_;refine qh zr (fun w1 hS1=>fa w1 u q (hLm w1 (hD.at_ hS1) _ huL) true (hms _ huL).1) ?_;(iterate 3 refine qp ?_);refine qt (ah (v:= .int .i64 u.F) O O O O) ?_;refine qp ?_;refine qt (ah (v:= .int .i64 x.me) O O O O) ?_;refine qf ?_;refine qp ?_;refine qz ?_;refine qF ?_;refine qx ?_;refine qs ?_;refine qp ?_;refine qt (ac O) ?_;refine qp ?_;refine qt (ah O O O O) ?_;refine qp ?_;refine qp ?_;refine qz ?_)
  by_cases h60:cj.W.length<60
  ·rw[decide_eq_true (show ((cj.W.length:Int)<60) by omega)]
   focus (refine qT ?_)
   refine dS [pt b5 65 (aW u q),pt gc 30 (gC cj)] 11 ?_
   refine dp 0 ?_
   refine dp 1 ?_
   refine dt 2 O (ac O) ?_
   refine dp 3 ?_
   refine dl 4 ?_
   refine dt 5 O (ai (ds:=aW u q) O O O O O) ?_
   refine dE 6 O (cK (vs:=[.agg (aW u q).toArray]) (size:=12) (ds:=aW u q) O O O O O O (by simp[aV,dZ]) O (by omega)) ?_
   rintro _ _ ⟨vb,rfl,rfl⟩
   refine nx ?_
   refine dE 7 O (gd (sz:=12) (m:=cj.W.length) (c:=cj.wc) (A:=cj.wA) O O O O O O O (by decide) (Srd.pt (n:=1) (g:=vb) (ds:=aW u q) O (fun j u hj=>by rw[Nat.zero_add];exact hj)) (gP _ _) (by show (cj.W.length+1)*144≤_;omega) (by unfold maxLen;omega)) ?_
   rintro _ _ ⟨A8,c8,rfl,rfl⟩
   refine nx ?_
   refine dt 8 O (ac O) ?_
   refine dp 9 ?_
   refine dE 10 O (aw (cs:=gC cj) (cs':=gC (cG c i (x,p) (L.take (j+1)) A8 c8)) O O O O O (hclc h60 A8 c8) (by show _<4;omega)) ?_
   rintro _ _ rfl
   refine dV ?_
   refine dn ?_
   skip
   focus (refine aK ?_;refine qr ?_;refine qt (aI O O (by unfold aH;omega)) ?_;refine qp ?_;refine qz ?_)
   refine hJ (j+1,A8,c8) _ _ (by show j+1≤_;omega) (Sub.cons O (Sub.cons O (Sub.cons O (Sub.cons O (Sub.cons O Sub.nil))))) (fun w' hS=>?_) (by show L.length-(j+1)<_;omega)
   have h9:=ae (H':=[pt b6 42 (aZ x p),pt gc 30 (gC (cG c i (x,p) (L.take (j+1)) A8 c8)),row 42 14 cj.nA cj.N.length cj.nc (ab gu cj.N),row 65 12 A8 (cj.W.length+1) c8 (ab bK cj.W++aW u q),er .u64 cj.b1 cj.f1,er .u64 cj.b2 cj.f2]) w' hS
   rw[show ab bK cj.W++aW u q=ab bK (cj.W++[(u,q)]) by rw[dC,fI];rfl,show cj.W.length+1=(cj.W++[(u,q)]).length by rw[List.length_append];rfl,hWs h60] at h9
   rw[hcj] at h9
   exact h9
  ·rw[decide_eq_false (show ¬ ((cj.W.length:Int)<60) by omega)]
   focus (refine qF ?_;refine qx ?_;refine aK ?_;refine qr ?_;refine qt (aI O O (by unfold aH;omega)) ?_;refine qp ?_;refine qz ?_)
   refine hJ (j+1,A7,c7) _ _ (by show j+1≤_;omega) (Sub.cons O (Sub.cons O (Sub.cons O (Sub.cons O (Sub.cons O Sub.nil))))) (fun w' hS=>?_) (by show L.length-(j+1)<_;omega)
   have e4:cG c i (x,p) (L.take (j+1)) A7 c7=cj:=by
    rw[hcj]
    unfold cG
    rw[List.take_take,List.take_take,show min (60-c.W.length) (j+1)=min (60-c.W.length) j by omega]
   dsimp only
   rw[e4]
   exact ae (H':=[pt b6 42 (aZ x p),pt gc 30 (gC cj),row 42 14 cj.nA cj.N.length cj.nc (ab gu cj.N),row 65 12 cj.wA cj.W.length cj.wc (ab bK cj.W),er .u64 cj.b1 cj.f1,er .u64 cj.b2 cj.f2]) w' hS
 focus (refine qs ?_;refine qf ?_;refine qz ?_;refine qq ?_;refine qF ?_;refine bE O O ?_;refine qs ?_;refine qp ?_;refine qz ?_)
 exact hB _ _ _ _ _ O O fun w' hS=>⟨(A7,c7),O,trivial,by
  have h9:=ae (H':=[pt gc 30 (gC (cG c i (x,p) (L.take j) A7 c7)),row 42 14 (cG c i (x,p) (L.take j) A7 c7).nA (cG c i (x,p) (L.take j) A7 c7).N.length (cG c i (x,p) (L.take j) A7 c7).nc (ab gu (cG c i (x,p) (L.take j) A7 c7).N),row 65 12 (cG c i (x,p) (L.take j) A7 c7).wA (cG c i (x,p) (L.take j) A7 c7).W.length (cG c i (x,p) (L.take j) A7 c7).wc (ab bK (cG c i (x,p) (L.take j) A7 c7).W),er .u64 (cG c i (x,p) (L.take j) A7 c7).b1 (cG c i (x,p) (L.take j) A7 c7).f1,er .u64 (cG c i (x,p) (L.take j) A7 c7).b2 (cG c i (x,p) (L.take j) A7 c7).f2]) w' hS
  rw[List.take_of_length_le hjl] at h9
  exact h9⟩
structure FI (D:Kw) (PL:Nat→Int→Prop) (PS:Nat→En→Prop) (f1 f2:Int→Option Value):Prop where
 led: ∀ (t:Nat) v,f1 (t:Int)=some v→ ∃ who,v= .int .i64 who∧PL t who
 stl: ∀ k v,f2 k=some v→ ∃ m,v= .agg (aN m).toArray∧(∀ n:Nat,k=(n:Int)→PS n (bA m))∧ ∀ w',D w'→mz w' m
def z6 (a:At) (l:List En) (a2:At) (l2:List En):Prop:= ∀ top,(top=0∨ ∃ j e,l[j]? =some e∧(br a2 l2&&fu a2 l2 (a.1+j+1,e.1))=true∧top=a.1+j+1)→ ∀ j e,l[j]? =some e→a.1+j+1≤top→a2.1<a.1+j+1→l2[a.1+j+1-a2.1-1]? =some e
theorem qH (w:World) (gc:Nat) (c:Cl) (hS0:St w (ar (cP gc c)) (cP gc c) w) (D:Kw) (hD:Kd D (cP gc c) w) (h: ∀ w',D w'→CR w' c) (hN5:c.N.length≤5) (PL:Nat→Int→Prop) (PS:Nat→En→Prop) (hPL: ∀ t a b,PL t a→PL t b→a=b) (hPS: ∀ k a b,PS k a→PS k b→a=b) (hFI:FI D PL PS c.f1 c.f2)
  (hled: ∀ z∈c.N,z.1.role=4→PL z.1.term z.1.me) (hstl: ∀ z∈c.N, ∀ k e,z.1.es[k]? =some e→z.1.base.1+k+1≤z.1.commit→PS (z.1.base.1+k+1) e) (hmat: ∀ z∈c.N, ∀ y∈c.N,z6 z.1.base z.1.es y.1.base y.1.es) (hba: ∀ z∈c.N,z.1.base.1+z.1.es.length<18446744073709551615):
  Gives Tryz.prog 12 [.pointer (some ⟨gc,0,none⟩)] (cP gc c) w (X:=(Int→Option Value)×(Int→Option Value)) (fun _=> .bool true) (fun y=>FI D PL PS y.1 y.2) (fun y=>cP gc {c with f1:=y.1,f2:=y.2}):=by
 refine aP Tryz.func12 O Tryz.ntmps12 Tryz.results12 (by simp) hS0 (fun B hB=>?_)
 refine eS c.nA c.N.length c.nc fun hcN hcM hne _=>?_
 repeat' (first|refine bM O ?_ O O|refine ax ?_|refine aa (ac O) ?_ O O|refine aa (ah O O O O) ?_ O O|refine au O ?_|refine al O O ?_|refine aG O ?_)
 refine bV (X:=Nat×(Int→Option Value)×(Int→Option Value)) (fun z=>[(0,.pointer (some ⟨gc,0,none⟩)),(17,.slice c.nA c.N.length c.nc),(18,.int .i64 (c.N.length:Int)),(19,.int .i64 (z.1:Int))]) (fun z=>[pt gc 30 (gC c),row 42 14 c.nA c.N.length c.nc (ab gu c.N),row 65 12 c.wA c.W.length c.wc (ab bK c.W),er .u64 c.b1 z.2.1,er .u64 c.b2 z.2.2]) (fun z=>z.1≤c.N.length∧FI D PL PS z.2.1 z.2.2) (fun z=>c.N.length-z.1) O (0,c.f1,c.f2) ⟨Nat.zero_le _,hFI⟩ (Sub.cons O (Sub.cons O (Sub.cons O (Sub.cons O Sub.nil)))) ae ?_
 rintro⟨i,f1,f2⟩ ⟨hi,hFI⟩ J hJ
 dsimp only at hi hFI ⊢
 rcases Nat.lt_or_ge i c.N.length with hil|hil
 rotate_left
 ·skip
  focus (refine qs ?_;refine qf ?_;refine qz ?_;refine qq ?_;refine qF ?_;refine bE O O ?_;refine qs ?_;refine qp ?_;refine qz ?_)
  exact hB _ _ _ _ _ O O fun w' hS=>⟨(f1,f2),O,hFI,ae (H':=[pt gc 30 (gC c),row 42 14 c.nA c.N.length c.nc (ab gu c.N),row 65 12 c.wA c.W.length c.wc (ab bK c.W),er .u64 c.b1 f1,er .u64 c.b2 f2]) w' hS⟩
 obtain⟨⟨x,p⟩,hz⟩: ∃ z,c.N.getD i (dy,df)=z:=⟨_,O⟩
 have hzN:(x,p)∈c.N:=by rw[← hz,List.getD_eq_getElem?_getD,List.getElem?_eq_getElem hil];exact List.getElem_mem _
 have hatN:=bi (f:=gu) iS c.N (dy,df) i hil
 rw[hz] at hatN
 have hat0: ∀ e v,(aZ x p)[e]? =some v→(ab gu c.N)[i*14+e]? =some v:=hatN
 have hne:=hne (by omega)
 have hxp: ∀ w',D w'→RfR w' x p:=fun w' h'=>(h w' h').nd _ hzN
 have hlg:=(hxp w hD.now).lg
 have hlm:=hlg.hm
 have hllen:=hlg.ln
 have hbx:x.base.1+x.es.length<18446744073709551615:=hba _ hzN
 focus (refine qs ?_;refine qd ?_;refine qz ?_;refine qq ?_;refine qT ?_;refine qx ?_;refine qq ?_;refine qb ?_;refine qs ?_;refine qp ?_;refine qt (bH (sz:=14) (q:=i) O O O O O O hne hil) ?_;refine qt (cw (ds:=aZ x p) O O O (Srd.row (n:=c.N.length) (c:=c.nc)) O (by omega) hat0) ?_;(refine qe (am O ch) ?_;rintro _ _ ⟨b4,rfl,rfl⟩);refine qp ?_;(refine qw (aj (cs:=aZ dy df) (ds:=aZ x p) O O O O (bn _ _) O) ?_;rintro _ _ rfl);refine qz ?_;refine qq ?_;refine qs ?_;refine qp ?_;refine qt (ah O O O O) ?_;refine qp ?_;refine qz ?_)
 refine eo (X:=Int→Option Value) (fun _=>[(0,.pointer (some ⟨gc,0,none⟩)),(17,.slice c.nA c.N.length c.nc),(18,.int .i64 (c.N.length:Int)),(19,.int .i64 (i:Int)),(3,.int .i64 (i:Int)),(4,.pointer (some ⟨b4,0,none⟩))]) (fun y=>[pt b4 42 (aZ x p),pt gc 30 (gC c),row 42 14 c.nA c.N.length c.nc (ab gu c.N),row 65 12 c.wA c.W.length c.wc (ab bK c.W),er .u64 c.b1 y,er .u64 c.b2 f2]) (fun y=>FI D PL PS y f2) (fun J2 hJ2=>?_) (fun f1 hFI1=>?_)
 ·by_cases hr:x.role=4
  rotate_left
  ·rw[decide_eq_false hr]
   focus (refine qF ?_;refine qx ?_)
   exact hJ2 f1 _ _ hFI (Sub.cons O (Sub.cons O (Sub.cons O (Sub.cons O (Sub.cons O (Sub.cons O Sub.nil)))))) ae
  have hPLx:=hled _ hzN hr
  rw[decide_eq_true hr]
  have hFI2:FI D PL PS (fun r=>if r=(x.term:Int) then some (.int .i64 x.me) else f1 r) f2:=⟨fun t v ht=>by
   split at ht
   ·rename_i e
    cases ht
    obtain rfl:t=x.term:=by omega
    exact⟨_,O,hPLx⟩
   ·exact hFI.led t v ht,hFI.stl⟩
  cases hf:f1 (x.term:Int) with
  |none=>
   focus (refine qT ?_;refine qq ?_;refine qq ?_;(refine dQ 12 ?_;(refine dp 0 ?_);(refine dt 1 O (ac O) ?_);(refine dp 2 ?_);(refine dl 3 ?_);(refine dp 4 ?_);(refine dl 5 ?_);((refine dt 6 O (js (kd:= .u64) (b:=c.b1) (s:=(x.term:Int)) (f:=f1) (v:= .int .i64 0) (bo:=false) O O O O O O O (by rw[hf];rfl) (by rw[hf];rfl)) ?_));(refine dp 7 ?_);(refine dp 8 ?_);(refine dp 9 ?_);(refine dp 10 ?_);(refine dp 11 ?_);refine dn ?_);refine qs ?_;refine qp ?_;refine qp ?_;(iterate 4 refine qk ?_);refine qp ?_;refine qz ?_;refine qF ?_;refine qx ?_)
   refine dS [pt gc 30 (gC c),pt b4 42 (aZ x p)] 9 ?_
   refine dp 0 ?_
   refine dt 1 O (ac O) ?_
   refine dp 2 ?_
   refine dl 3 ?_
   refine dp 4 ?_
   refine dl 5 ?_
   refine dp 6 ?_
   refine dl 7 ?_
   refine dE 8 O (il (kd:= .u64) (b:=c.b1) (s:=(x.term:Int)) (v:= .int .i64 x.me) (f:=f1) O O O O O O O) ?_
   rintro _ _ rfl
   refine dV ?_
   refine dn ?_
   skip
   skip
   exact hJ2 _ _ _ hFI2 (Sub.cons O (Sub.cons O (Sub.cons O (Sub.cons O (Sub.cons O (Sub.cons O Sub.nil)))))) ae
  |some v=>
   obtain⟨who,rfl,hwho⟩:=hFI.led _ _ hf
   obtain rfl:=hPL _ _ _ hwho hPLx
   focus (refine qT ?_;refine qq ?_;refine qq ?_;(refine dQ 12 ?_;(refine dp 0 ?_);(refine dt 1 O (ac O) ?_);(refine dp 2 ?_);(refine dl 3 ?_);(refine dp 4 ?_);(refine dl 5 ?_);((refine dt 6 O (js (kd:= .u64) (b:=c.b1) (s:=(x.term:Int)) (f:=f1) (v:= .int .i64 x.me) (bo:=true) O O O O O O O (by rw[hf];rfl) (by rw[hf];rfl)) ?_));(refine dp 7 ?_);(refine dp 8 ?_);(refine dp 9 ?_);(refine dp 10 ?_);(refine dp 11 ?_);refine dn ?_);refine qs ?_;(iterate 4 refine qp ?_);refine qt (ah O O O O) ?_;refine qf ?_;refine qp ?_;refine qz ?_;refine qF ?_;refine qx ?_)
   refine dS [pt gc 30 (gC c),pt b4 42 (aZ x p)] 9 ?_
   refine dp 0 ?_
   refine dt 1 O (ac O) ?_
   refine dp 2 ?_
   refine dl 3 ?_
   refine dp 4 ?_
   refine dl 5 ?_
   refine dp 6 ?_
   refine dl 7 ?_
   refine dE 8 O (il (kd:= .u64) (b:=c.b1) (s:=(x.term:Int)) (v:= .int .i64 x.me) (f:=f1) O O O O O O O) ?_
   rintro _ _ rfl
   refine dV ?_
   refine dn ?_
   skip
   skip
   exact hJ2 _ _ _ hFI2 (Sub.cons O (Sub.cons O (Sub.cons O (Sub.cons O (Sub.cons O (Sub.cons O Sub.nil)))))) ae
 refine au O ?_
 refine eo (X:=Int→Option Value) (fun _=>[(0,.pointer (some ⟨gc,0,none⟩)),(17,.slice c.nA c.N.length c.nc),(18,.int .i64 (c.N.length:Int)),(19,.int .i64 (i:Int)),(3,.int .i64 (i:Int)),(4,.pointer (some ⟨b4,0,none⟩))]) (fun f=>[pt b4 42 (aZ x p),pt gc 30 (gC c),row 42 14 c.nA c.N.length c.nc (ab gu c.N),row 65 12 c.wA c.W.length c.wc (ab bK c.W),er .u64 c.b1 f1,er .u64 c.b2 f]) (fun f=>FI D PL PS f1 f) (fun J2 hJ2=>?_) (fun f2' hFI2=>?_)
 ·skip
  focus (refine qs ?_;refine qp ?_;refine qp ?_;refine qt (ah (v:= .slice p.A p.n p.c) O O O O) ?_;refine qp ?_;refine qp ?_;refine qz ?_;refine qb ?_)
  refine bV (X:=Nat×(Int→Option Value)) (fun z=>[(0,.pointer (some ⟨gc,0,none⟩)),(17,.slice c.nA c.N.length c.nc),(18,.int .i64 (c.N.length:Int)),(19,.int .i64 (i:Int)),(3,.int .i64 (i:Int)),(4,.pointer (some ⟨b4,0,none⟩)),(54,.slice p.A p.n p.c),(55,.int .i64 (p.n:Int)),(56,.int .i64 (z.1:Int))]) (fun z=>[pt b4 42 (aZ x p),pt gc 30 (gC c),row 42 14 c.nA c.N.length c.nc (ab gu c.N),row 65 12 c.wA c.W.length c.wc (ab bK c.W),er .u64 c.b1 f1,er .u64 c.b2 z.2]) (fun z=>z.1≤p.n∧FI D PL PS f1 z.2) (fun z=>p.n-z.1) O (0,f2) ⟨Nat.zero_le _,hFI1⟩ (Sub.cons O (Sub.cons O (Sub.cons O (Sub.cons O (Sub.cons O (Sub.cons O (Sub.cons O (Sub.cons O (Sub.cons O Sub.nil))))))))) ae ?_
  rintro⟨k,f2⟩ ⟨hk,hFI2⟩ J3 hJ3
  dsimp only at hk hFI2 ⊢
  rcases Nat.lt_or_ge k p.n with hkl|hkl
  rotate_left
  ·skip
   focus (refine qs ?_;refine qf ?_;refine qz ?_;refine qq ?_;refine qF ?_;refine bE O O ?_)
   exact hJ2 f2 _ _ hFI2 (Sub.cons O (Sub.cons O (Sub.cons O (Sub.cons O (Sub.cons O (Sub.cons O Sub.nil)))))) ae
  have hpA:p.A≠none:=by obtain⟨ad,e,_⟩:=hlg.rq.2 (by omega);rw[e];simp
  have hat:=bi (f:=aN) bW p.Q default k (by rw[hlg.hn];exact hkl)
  obtain⟨m,hm⟩: ∃ m,p.Q.getD k default=m:=⟨_,O⟩
  have hlk:x.es[k]? =some (bA m):=by rw[← hlg.hQ,List.getElem?_map, ← hm,List.getD_eq_getElem?_getD,List.getElem?_eq_getElem (by rw[hlg.hn];exact hkl)];rfl
  have hmQ:m∈p.Q:=by rw[← hm,List.getD_eq_getElem?_getD,List.getElem?_eq_getElem (by rw[hlg.hn];exact hkl)];exact List.getElem_mem _
  have hbm: ∀ w',D w'→mz w' m:=fun w' h'=>(hxp w' h').lg.bq m hmQ
  rw[hm] at hat
  by_cases hcm:x.commit<x.base.1+k+1
  ·skip
   focus (refine qs ?_;refine qd ?_;refine qz ?_;refine qq ?_;refine qT ?_;refine qx ?_;refine qq ?_;refine qb ?_;refine qs ?_;refine qp ?_;refine qt (bH (sz:=3) (q:=k) O O O O O O hpA hkl) ?_;refine qt (cw (ds:=aN m) O O O (⟨fun w1 hS1=>(hxp w1 (hD.at_ hS1)).lg.rq⟩:Srd _ _ _ 3 p.A p.n (ab aN p.Q)) O (by omega) hat) ?_;(refine qe (am O cu) ?_;rintro _ _ ⟨b8,rfl,rfl⟩);refine qp ?_;(refine qw (aj (cs:=aN (0,0,none,0,[])) (ds:=aN m) O O O O (cC _) O) ?_;rintro _ _ rfl);refine qn ?_;(iterate 3 refine qp ?_);refine qt (ah (v:= .int .u64 (x.base.1:Int)) O O O O) ?_;refine qp ?_;refine qt (bj O O O O (by unfold aH;omega)) ?_;(iterate 2 refine qt (aI O O (by unfold aH;omega)) ?_);refine qp ?_;refine qz ?_;refine qq ?_;refine qs ?_;refine qp ?_;refine qp ?_;refine qt (ah (v:= .int .u64 (x.commit:Int)) O O O O) ?_;refine qd ?_;refine qz ?_;refine qT ?_;refine bE O O ?_)
   exact hJ2 f2 _ _ hFI2 (Sub.cons O (Sub.cons O (Sub.cons O (Sub.cons O (Sub.cons O (Sub.cons O Sub.nil)))))) ae
  have hPSm:=hstl _ hzN k _ hlk (by show x.base.1+k+1≤x.commit;omega)
  have hFI3:FI D PL PS f1 (fun r=>if r=((x.base.1+k+1:Nat):Int) then some (.agg (aN m).toArray) else f2 r):=⟨hFI2.led,fun r v hv=>by
   split at hv
   ·rename_i e
    cases hv
    exact⟨m,O,fun n hn=>(show n=x.base.1+k+1 by omega)▸hPSm,hbm⟩
   ·exact hFI2.stl r v hv⟩
  focus (refine qs ?_;refine qd ?_;refine qz ?_;refine qq ?_;refine qT ?_;refine qx ?_;refine qq ?_;refine qb ?_;refine qs ?_;refine qp ?_;refine qt (bH (sz:=3) (q:=k) O O O O O O hpA hkl) ?_;refine qt (cw (ds:=aN m) O O O (⟨fun w1 hS1=>(hxp w1 (hD.at_ hS1)).lg.rq⟩:Srd _ _ _ 3 p.A p.n (ab aN p.Q)) O (by omega) hat) ?_;(refine qe (am O cu) ?_;rintro _ _ ⟨b8,rfl,rfl⟩);refine qp ?_;(refine qw (aj (cs:=aN (0,0,none,0,[])) (ds:=aN m) O O O O (cC _) O) ?_;rintro _ _ rfl);refine qn ?_;(iterate 3 refine qp ?_);refine qt (ah (v:= .int .u64 (x.base.1:Int)) O O O O) ?_;refine qp ?_;refine qt (bj O O O O (by unfold aH;omega)) ?_;(iterate 2 refine qt (aI O O (by unfold aH;omega)) ?_);refine qp ?_;refine qz ?_;refine qq ?_;refine qs ?_;refine qp ?_;refine qp ?_;refine qt (ah (v:= .int .u64 (x.commit:Int)) O O O O) ?_;refine qf ?_;refine qz ?_;refine qF ?_;refine qx ?_;refine qs ?_;refine qp ?_;refine qt (ac O) ?_;refine qp ?_;refine qt (ah O O O O) ?_;refine qp ?_)
  cases hf:f2 ((x.base.1+k+1:Nat):Int) with
  |none=>
   focus (refine qt (js (kd:= .u64) (b:=c.b2) (s:=((x.base.1+k+1:Nat):Int)) (f:=f2) (v:= .agg (aN (0,0,none,0,[])).toArray) (bo:=false) O O O O O O O (by rw[hf];exact cu) (by rw[hf];rfl)) ?_;(iterate 3 refine qp ?_);(refine qe (am O cu) ?_;rintro _ _ ⟨b10,rfl,rfl⟩);(refine qw (aj (cs:=aN (0,0,none,0,[])) (ds:=aN (0,0,none,0,[])) O O O O (cC _) O) ?_;rintro _ _ rfl);refine qp ?_;refine qz ?_;refine qq ?_;refine qs ?_;refine qp ?_;refine qp ?_;(iterate 4 refine qk ?_);refine qp ?_;refine qz ?_;refine qF ?_;refine qx ?_)
   refine dS [pt gc 30 (gC c),pt b8 59 (aN m)] 7 ?_
   refine dp 0 ?_
   refine dt 1 O (ac O) ?_
   refine dp 2 ?_
   refine dl 3 ?_
   refine dp 4 ?_
   refine dt 5 O (ai (ds:=aN m) O O O O O) ?_
   refine dE 6 O (il (kd:= .u64) (b:=c.b2) (s:=((x.base.1+k+1:Nat):Int)) (v:= .agg (aN m).toArray) (f:=f2) O O O O O O O) ?_
   rintro _ _ rfl
   refine dV ?_
   refine dn ?_
   skip
   focus (refine aK ?_;refine qr ?_;refine qt (aI O O (by unfold aH;omega)) ?_;refine qp ?_;refine qz ?_)
   exact hJ3 (k+1,(fun r=>if r=((x.base.1+k+1:Nat):Int) then some (.agg (aN m).toArray) else f2 r)) _ _ ⟨by show k+1≤_;omega,hFI3⟩ (Sub.cons O (Sub.cons O (Sub.cons O (Sub.cons O (Sub.cons O (Sub.cons O (Sub.cons O (Sub.cons O (Sub.cons O Sub.nil))))))))) ae (by show p.n-(k+1)<_;omega)
  |some v=>
   obtain⟨m0,rfl,hps,hbs⟩:=hFI2.stl _ _ hf
   have heq:decide (bA m0=bA m)=true:=decide_eq_true (hPS _ _ _ (hps _ O) hPSm)
   focus (refine qt (js (kd:= .u64) (b:=c.b2) (s:=((x.base.1+k+1:Nat):Int)) (f:=f2) (v:= .agg (aN m0).toArray) (bo:=true) O O O O O O O (by rw[hf];rfl) (by rw[hf];rfl)) ?_;(iterate 3 refine qp ?_);(refine qe (am O cu) ?_;rintro _ _ ⟨b10,rfl,rfl⟩);(refine qw (aj (cs:=aN (0,0,none,0,[])) (ds:=aN m0) O O O O (cC _) O) ?_;rintro _ _ rfl);refine qp ?_;refine qz ?_;refine qq ?_;refine qs ?_;refine qp ?_;refine qp ?_;refine qt (ai (ds:=aN m0) O O O O O) ?_;refine qt (ai (ds:=aN m) O O O O O) ?_;refine qh Gp (fun w1 hS1=>o6 w1 m0 m (hbs w1 (hD.at_ hS1)) (hbm w1 (hD.at_ hS1)) true heq) ?_;refine qt (aR O) ?_;refine qp ?_;refine qz ?_;refine qF ?_;refine qx ?_)
   refine dS [pt gc 30 (gC c),pt b8 59 (aN m)] 7 ?_
   refine dp 0 ?_
   refine dt 1 O (ac O) ?_
   refine dp 2 ?_
   refine dl 3 ?_
   refine dp 4 ?_
   refine dt 5 O (ai (ds:=aN m) O O O O O) ?_
   refine dE 6 O (il (kd:= .u64) (b:=c.b2) (s:=((x.base.1+k+1:Nat):Int)) (v:= .agg (aN m).toArray) (f:=f2) O O O O O O O) ?_
   rintro _ _ rfl
   refine dV ?_
   refine dn ?_
   skip
   focus (refine aK ?_;refine qr ?_;refine qt (aI O O (by unfold aH;omega)) ?_;refine qp ?_;refine qz ?_)
   exact hJ3 (k+1,(fun r=>if r=((x.base.1+k+1:Nat):Int) then some (.agg (aN m).toArray) else f2 r)) _ _ ⟨by show k+1≤_;omega,hFI3⟩ (Sub.cons O (Sub.cons O (Sub.cons O (Sub.cons O (Sub.cons O (Sub.cons O (Sub.cons O (Sub.cons O (Sub.cons O Sub.nil))))))))) ae (by show p.n-(k+1)<_;omega)
 focus (refine qs ?_;refine qp ?_;refine qt (ac O) ?_;refine qp ?_;refine qt (ah O O O O) ?_;refine qp ?_;refine qt (ug (q:=i) O O O O O (by omega)) ?_;refine qp ?_;refine qp ?_;refine qz ?_;refine qb ?_)
 refine bV (X:=Nat) (fun j=>[(0,.pointer (some ⟨gc,0,none⟩)),(17,.slice c.nA c.N.length c.nc),(18,.int .i64 (c.N.length:Int)),(19,.int .i64 (i:Int)),(4,.pointer (some ⟨b4,0,none⟩)),(101,.slice c.nA i c.nc),(102,.int .i64 (i:Int)),(103,.int .i64 (j:Int))]) (fun _=>[pt b4 42 (aZ x p),pt gc 30 (gC c),row 42 14 c.nA c.N.length c.nc (ab gu c.N),row 65 12 c.wA c.W.length c.wc (ab bK c.W),er .u64 c.b1 f1,er .u64 c.b2 f2']) (fun j=>j≤i) (fun j=>i-j) O 0 (Nat.zero_le _) (Sub.cons O (Sub.cons O (Sub.cons O (Sub.cons O (Sub.cons O (Sub.cons O (Sub.cons O (Sub.cons O Sub.nil)))))))) ae ?_
 rintro j hj J3 hJ3
 rcases Nat.lt_or_ge j i with hjl|hjl
 ·obtain⟨⟨y,q⟩,hzy⟩: ∃ z,c.N.getD j (dy,df)=z:=⟨_,O⟩
  have hjN:j<c.N.length:=by omega
  have hyN:(y,q)∈c.N:=by rw[← hzy,List.getD_eq_getElem?_getD,List.getElem?_eq_getElem hjN];exact List.getElem_mem _
  have hatY:=bi (f:=gu) iS c.N (dy,df) j hjN
  rw[hzy] at hatY
  have hat1: ∀ e v,(aZ y q)[e]? =some v→(ab gu c.N)[j*14+e]? =some v:=hatY
  have hyq: ∀ w',D w'→RfR w' y q:=fun w' h'=>(h w' h').nd _ hyN
  focus (refine qs ?_;refine qd ?_;refine qz ?_;refine qq ?_;refine qT ?_;refine qx ?_;refine qq ?_;refine qb ?_;refine qs ?_;refine qt (bH (sz:=14) (q:=j) O O O O O O hne hjl) ?_;refine qt (cw (ds:=aZ y q) O O O (Srd.row (n:=c.N.length) (c:=c.nc)) O (by omega) hat1) ?_;(refine qe (am O ch) ?_;rintro _ _ ⟨b13,rfl,rfl⟩);(refine qw (aj (cs:=aZ dy df) (ds:=aZ y q) O O O O (bn _ _) O) ?_;rintro _ _ rfl);refine qn ?_;refine qp ?_;refine qt (ai (ds:=aE x.base p.A p.n p.c) O O O O O) ?_;refine qp ?_;refine qt (ai (ds:=aE y.base q.A q.n q.c) O O O O O) ?_;refine qh GJ (fun w1 hS1=>tM w1 x.base p.A p.c p.n p.Q x.es hlg.hn hlg.hQ (hxp w1 (hD.at_ hS1)).lg.rq (hxp w1 (hD.at_ hS1)).lg.bq hlm y.base q.A q.c q.n q.Q y.es (hyq w1 (hD.at_ hS1)).lg.hn (hyq w1 (hD.at_ hS1)).lg.hQ (hyq w1 (hD.at_ hS1)).lg.rq (hyq w1 (hD.at_ hS1)).lg.bq (hyq w1 (hD.at_ hS1)).lg.hm (by omega) (hmat _ hzN _ hyN)) ?_;refine qt (aR O) ?_;refine qz ?_;refine qF ?_;refine qx ?_;refine aK ?_;refine qr ?_;refine qt (aI O O (by unfold aH;omega)) ?_;refine qp ?_;refine qz ?_)
  exact hJ3 (j+1) _ _ (by show j+1≤_;omega) (Sub.cons O (Sub.cons O (Sub.cons O (Sub.cons O (Sub.cons O (Sub.cons O (Sub.cons O (Sub.cons O Sub.nil)))))))) ae (by show i-(j+1)<_;omega)
 ·skip
  focus (refine qs ?_;refine qf ?_;refine qz ?_;refine qq ?_;refine qF ?_;refine bE O O ?_;refine aK ?_;refine qr ?_;refine qt (aI O O (by unfold aH;omega)) ?_;refine qp ?_;refine qz ?_)
  exact hJ (i+1,f1,f2') _ _ ⟨by show i+1≤_;omega,hFI2⟩ (Sub.cons O (Sub.cons O (Sub.cons O (Sub.cons O Sub.nil)))) ae (by show c.N.length-(i+1)<_;omega)
end Go.Proofs.YtdeffdldifepkaaGreat
namespace Go.Proofs.YtdeffdldifepkaaGreat.Rq
set_option linter.unusedVariables false
set_option linter.unusedSimpArgs false
def Ag (n:Nat) (a b:List En):Prop:= ∀ k,k<n→ ∃ e,a[k]? =some e∧b[k]? =some e
theorem Ag.symm {n:Nat} {a b:List En} (h:Ag n a b):Ag n b a:=fun k hk=>by obtain⟨e,h1,h2⟩:=h k hk;exact⟨e,h2,h1⟩
theorem Ag.mono {n m:Nat} {a b:List En} (h:Ag n a b) (hm:m≤n):Ag m a b:=fun k hk=>h k (by omega)
theorem Ag.trans {n:Nat} {a b c:List En} (h:Ag n a b) (h2:Ag n b c):Ag n a c:=fun k hk=>by
 obtain⟨e,h1,h3⟩:=h k hk
 obtain⟨f,h4,h5⟩:=h2 k hk
 rw[h3] at h4
 cases h4
 exact⟨e,h1,h5⟩
theorem Ag.len {n:Nat} {a b:List En} (h:Ag n a b):n≤a.length:=by
 rcases Nat.eq_zero_or_pos n with h0|h0
 ·omega
 ·obtain⟨e,h1,_⟩:=h (n-1) (by omega)
  have:=(List.getElem?_eq_some_iff.1 h1).1
  omega
theorem Ag.len2 {n:Nat} {a b:List En} (h:Ag n a b):n≤b.length:=h.symm.len
theorem Ag.refl {n:Nat} {a:List En} (h:n≤a.length):Ag n a a:=fun k hk=>⟨a[k]'(by omega),by simp[show k<a.length by omega],by simp[show k<a.length by omega]⟩
theorem Ag.at {n:Nat} {a b:List En} (h:Ag n a b) {k:Nat} (hk:k<n):a[k]? =b[k]? :=by
 obtain⟨e,h1,h2⟩:=h k hk
 rw[h1,h2]
theorem Ag.take {n:Nat} {a b:List En} (h:Ag n a b):a.take n=b.take n:=by
 apply List.ext_getElem?
 intro k
 rw[List.getElem?_take,List.getElem?_take]
 split
 ·exact h.at (by assumption)
 ·rfl
theorem Ag.takeR {n m:Nat} {a b:List En} (h:Ag n a b) (hm:n≤m):Ag n a (b.take m):=fun k hk=>by
 obtain⟨e,h1,h2⟩:=h k hk
 exact⟨e,h1,by rw[List.getElem?_take,if_pos (by omega),h2]⟩
theorem Ag.ofTake {n m:Nat} {a b:List En} (h:Ag n a (b.take m)):Ag n a b:=fun k hk=>by
 obtain⟨e,h1,h2⟩:=h k hk
 rw[List.getElem?_take] at h2
 split at h2
 ·exact⟨e,h1,h2⟩
 ·cases h2
theorem Ag.app {n:Nat} {a b:List En} (h:Ag n a b) (x:List En):Ag n a (b++x):=fun k hk=>by
 obtain⟨e,h1,h2⟩:=h k hk
 exact⟨e,h1,by rw[List.getElem?_append_left (List.getElem?_eq_some_iff.1 h2).1,h2]⟩
theorem gv {l:List En} {m k:Nat} {e:En} (h:(l.take m)[k]? =some e):l[k]? =some e∧k<m:=by
 rw[List.getElem?_take] at h
 split at h
 ·exact⟨h,by assumption⟩
 ·cases h
theorem fP {l:List En} {k:Nat} {e:En} (h:l[k]? =some e):k<l.length:=(List.getElem?_eq_some_iff.1 h).1
theorem dj {l:List En} {k:Nat} (h:k<l.length): ∃ e,l[k]? =some e:=⟨l[k],by simp[h]⟩
theorem we: ∀ (a b:List En), ∃ p,Ag p a b∧ ¬ Ag (p+1) a b:=by
 intro a b
 have hN: ¬ Ag (a.length+1) a b:=fun h=>by have:=h.len;omega
 have: ∀ n, ¬ Ag n a b→ ∃ p,Ag p a b∧ ¬ Ag (p+1) a b:=by
  intro n
  induction n with
  |zero=>exact fun h=>absurd (fun k hk=>absurd hk (by omega)) h
  |succ n ih=>
   intro h
   rcases Classical.em (Ag n a b) with h1|h1
   ·exact⟨n,h1,h⟩
   ·exact ih h1
 exact this _ hN
structure Gh where
 LL:Nat→List En
 El:Nat→Prop
 ec:Nat→Int
 en:Nat→Nat
 K:Nat→Nat→Nat→Prop
 ak:Nat→Int→Nat
 vt:Nat→Int→Int
 vl:Nat→Int→List En
 cl:Nat→Int→List En
 sd:Nat→Int→Prop
def Wf (g:Gh) (l:List En):Prop:= ∀ k e,l[k]? =some e→g.El e.1∧Ag (k+1) l (g.LL e.1)
def Mono (l:List En):Prop:= ∀ (i j:Nat) (e f:En),i≤j→l[i]? =some e→l[j]? =some f→e.1≤f.1
def Aw (t:Nat) (l:List En):Prop:= ∀ e∈l,e.1<t
def lt (l:List En):Nat:=(l.getLast?.map (·.1)).getD 0
def Up (c v:List En):Prop:=lt v<lt c∨(lt v=lt c∧v.length≤c.length)
structure Cf where
 ic:En→Bool
 cf:List En→List Int
 Mj:List Int→List Int→Prop
 Nr:List Int→List Int→Prop
 same: ∀ l e,ic e=false→cf (l++[e])=cf l
 over: ∀ a b q r,Nr a b→Mj a q→Mj b r→ ∃ v,v∈q∧v∈r
 symm: ∀ a b,Nr a b→Nr b a
 refl: ∀ a q,Mj a q→Nr a a
def Nc (C:Cf) (l:List En) (a b:Nat):Prop:= ∀ k e,a≤k→k<b→l[k]? =some e→C.ic e=false
theorem nM (C:Cf) (l:List En) (a:Nat): ∀ n,(∀ k e,a≤k→k<a+n→l[k]? =some e→C.ic e=false)→C.cf (l.take (a+n))=C.cf (l.take a):=by
 intro n
 induction n with
 |zero=>intro _;rfl
 |succ n ih=>
  intro h
  rw[← ih (fun k e h1 h2=>h k e h1 (by omega))]
  rcases Nat.lt_or_ge (a+n) l.length with h1|h1
  ·obtain⟨e,he⟩:=dj h1
   have hh:l.take (a+(n+1))=l.take (a+n)++[e]:=by
    rw[show a+(n+1)=(a+n)+1 by omega,List.take_add_one,he]
    rfl
   rw[hh,C.same _ _ (h _ e (by omega) (by omega) he)]
  ·rw[List.take_of_length_le (by omega),List.take_of_length_le (by omega)]
def Hx (C:Cf) (X Y:List En):Prop:= ∀ k e,X[k]? =some e→C.ic e=true→ ¬ Ag (k+1) X Y→
 ∃ c,c≤k∧Nc C X c k∧1≤c∧(∃ f,X[c-1]? =some f∧f.1=e.1)∧Ag c X Y∧C.Nr (C.cf (X.take k)) (C.cf (X.take (k+1)))
theorem wg {a b:List En} {p n:Nat} (h: ¬ Ag (p+1) a b) (hn:Ag n a b):n≤p:=by
 rcases Nat.lt_or_ge p n with h1|h1
 ·exact absurd (hn.mono (by omega)) h
 ·exact h1
theorem ml (C:Cf) {X Y:List En} (h:Hx C X Y) {p:Nat} (hp:Ag p X Y) (hp2: ¬ Ag (p+1) X Y):
  C.cf X=C.cf (X.take p)∨ ∃ k e c,X[k]? =some e∧p≤k∧c≤p∧1≤c∧(∃ f,X[c-1]? =some f∧f.1=e.1)∧C.Nr (C.cf (X.take p)) (C.cf X):=by
 have hpl:=hp.len
 rcases Classical.em (∃ k e,p≤k∧X[k]? =some e∧C.ic e=true) with⟨k,e,h1,h2,h3⟩|h0
 ·right
  have hna: ∀ k,p≤k→ ¬ Ag (k+1) X Y:=fun k hk h=>by have:=wg hp2 h;omega
  have hu: ∀ k e,p≤k→X[k]? =some e→C.ic e=true→ ∀ k2 e2,k2<k→p≤k2→X[k2]? =some e2→C.ic e2=true→False:=by
   intro k e h1 h2 h3 k2 e2 h4 h5 h6 h7
   obtain⟨c,a1,a2,a3,a4,a5,a6⟩:=h k e h2 h3 (hna k h1)
   have:=wg hp2 a5
   have:=a2 k2 e2 (by omega) h4 h6
   rw[h7] at this
   cases this
  obtain⟨c,a1,a2,a3,a4,a5,a6⟩:=h k e h2 h3 (hna k h1)
  have hcp:=wg hp2 a5
  have hkl:=fP h2
  refine⟨k,e,c,h2,h1,hcp,a3,a4,?_⟩
  have e1:C.cf (X.take k)=C.cf (X.take p):=by
   have:=nM C X p (k-p) (fun k2 e2 h4 h5 h6=>by
    cases hb:C.ic e2 with
    |false=>rfl
    |true=>exact(hu k e h1 h2 h3 k2 e2 (by omega) h4 h6 hb).elim)
   rw[show p+(k-p)=k by omega] at this
   exact this
  have e2:C.cf X=C.cf (X.take (k+1)):=by
   have:=nM C X (k+1) (X.length-(k+1)) (fun k2 e2 h4 h5 h6=>by
    cases hb:C.ic e2 with
    |false=>rfl
    |true=>exact(hu k2 e2 (by omega) h6 hb k e (by omega) h1 h2 h3).elim)
   rw[show k+1+(X.length-(k+1))=X.length by omega,List.take_length] at this
   exact this
  rw[← e1,e2]
  exact a6
 ·left
  have:=nM C X p (X.length-p) (fun k e h4 h5 h6=>by
   cases hb:C.ic e with
   |false=>rfl
   |true=>exact(h0 ⟨k,e,h4,h6,hb⟩).elim)
  rw[show p+(X.length-p)=X.length by omega,List.take_length] at this
  exact this
theorem DS (g:Gh) (C:Cf) {X Y:List En} (wX:Wf g X) (wY:Wf g Y) (mX:Mono X) (mY:Mono Y) (hX:Hx C X Y) (hY:Hx C Y X) (q:List Int) (hq:C.Mj (C.cf X) q):C.Nr (C.cf X) (C.cf Y):=by
 obtain⟨p,hp,hp2⟩:=we X Y
 have hp2': ¬ Ag (p+1) Y X:=fun h=>hp2 h.symm
 have hT:=hp.take
 rcases ml C hX hp hp2 with h1|⟨k,e,c,a1,a2,a3,a4,⟨f,a5,a6⟩,a7⟩
 ·rcases ml C hY hp.symm hp2' with h2|⟨k',e',c',b1,b2,b3,b4,⟨f',b5,b6⟩,b7⟩
  ·rw[h2, ← hT, ← h1]
   exact C.refl _ _ hq
  ·rw[h1,hT]
   exact b7
 ·rcases ml C hY hp.symm hp2' with h2|⟨k',e',c',b1,b2,b3,b4,⟨f',b5,b6⟩,b7⟩
  ·rw[h2, ← hT]
   exact C.symm _ _ a7
  ·exfalso
   have hk:=fP a1
   have hk':=fP b1
   obtain⟨x,hx⟩:=dj (l:=X) (k:=p) (by omega)
   obtain⟨y,hy⟩:=dj (l:=Y) (k:=p) (by omega)
   obtain⟨z,hz1,hz2⟩:=hp (p-1) (by omega)
   have x1:=mX _ _ _ _ (show c-1≤p-1 by omega) a5 hz1
   have x2:=mX _ _ _ _ (show p-1≤p by omega) hz1 hx
   have x3:=mX _ _ _ _ a2 hx a1
   have y1:=mY _ _ _ _ (show c'-1≤p-1 by omega) b5 hz2
   have y2:=mY _ _ _ _ (show p-1≤p by omega) hz2 hy
   have y3:=mY _ _ _ _ b2 hy b1
   have hxy:x.1=y.1:=by omega
   have w1:=(wX p x hx).2
   have w2:=(wY p y hy).2
   rw[← hxy] at w2
   exact hp2 (w1.trans w2.symm)
def wh (C:Cf) (g:Gh) (T k c:Nat):Prop:=(∃ j,g.K T c j)∧c≤k∧Nc C (g.LL T) c k
structure Ft (C:Cf) (g:Gh):Prop where
 ll: ∀ T,g.El T→Wf g (g.LL T)∧Mono (g.LL T)
 lo: ∀ T,g.El T→g.en T≤(g.LL T).length∧ ∀ k e,(g.LL T)[k]? =some e→(k<g.en T→e.1<T)∧(g.en T≤k→e.1=T)
 el: ∀ T,g.El T→ ∃ Q,C.Mj (C.cf ((g.LL T).take (g.en T))) Q∧ ∀ v∈Q,g.vt T v=g.ec T∧g.ec T≠0∧Up ((g.LL T).take (g.en T)) (g.vl T v)∧
  ∀ S,S<T→g.El S→ ∀ i,i≤g.ak S v→(∃ W,S<W∧W<T∧g.El W∧ ¬ Ag i (g.LL S) (g.LL W))∨Ag i (g.LL S) (g.vl T v)
 vw: ∀ T v,g.vt T v≠0→Mono (g.vl T v)
 vu: ∀ T v,g.vt T v≠0→Up (g.cl T (g.vt T v)) (g.vl T v)
 vc: ∀ T v,g.vt T v≠0→g.sd T (g.vt T v)
 sw: ∀ T c,g.sd T c→Wf g (g.cl T c)∧Mono (g.cl T c)∧Aw T (g.cl T c)
 es: ∀ T,g.El T→g.sd T (g.ec T)∧g.cl T (g.ec T)=(g.LL T).take (g.en T)∧g.ec T≠0
 vf: ∀ S T v,S<T→g.El S→g.vt T v≠0→ ∀ i,i≤g.ak S v→(∃ W,S<W∧W≤T∧g.El W∧ ¬ Ag i (g.LL S) (g.LL W))∨Ag i (g.LL S) (g.vl T v)
 aks: ∀ T v,g.El T→g.ak T v≤(g.LL T).length
 rc: ∀ T k e,g.El T→g.en T≤k→(g.LL T)[k]? =some e→C.ic e=true→(∃ c,wh C g T k c)∧C.Nr (C.cf ((g.LL T).take k)) (C.cf ((g.LL T).take (k+1)))
 kk: ∀ T i j,g.K T i j→g.El T∧g.en T<i∧i≤j∧j≤(g.LL T).length∧(∃ Q,C.Mj (C.cf ((g.LL T).take j)) Q∧ ∀ v∈Q,i≤g.ak T v)∧
  ∀ k e,g.en T≤k→k<j→(g.LL T)[k]? =some e→C.ic e=true→ ∃ c,c<i∧wh C g T k c
theorem r4 {C:Cf} {g:Gh} (F:Ft C g) {T U i:Nat} (hT:g.El T) (hU:g.El U) (h:T<U) (ha:Ag i (g.LL T) (g.LL U)):i≤g.en U:=by
 rcases Nat.eq_zero_or_pos i with h0|h0
 ·omega
 ·obtain⟨e,h1,h2⟩:=ha (i-1) (by omega)
  have a1:=(F.lo T hT).2 _ _ h1
  have a2:=(F.lo U hU).2 _ _ h2
  rcases Nat.lt_or_ge (i-1) (g.en U) with h3|h3
  ·omega
  ·have:=a2.2 h3
   rcases Nat.lt_or_ge (i-1) (g.en T) with h4|h4
   ·have:=a1.1 h4;omega
   ·have:=a1.2 h4;omega
theorem Wf.take {g:Gh} {l:List En} (h:Wf g l) (n:Nat):Wf g (l.take n):=fun k e hk=>by
 obtain⟨h1,h2⟩:=gv hk
 exact⟨(h k e h1).1,((h k e h1).2.symm.takeR h2).symm⟩
theorem Mono.take {l:List En} (h:Mono l) (n:Nat):Mono (l.take n):=fun i j e f hij h1 h2=>h i j e f hij (gv h1).1 (gv h2).1
theorem gM {l:List En} {k:Nat} {e:En} (h:l[k]? =some e):e∈l:=List.mem_of_getElem? h
theorem r5 {l:List En} (h:0<l.length): ∃ e,l[l.length-1]? =some e∧lt l=e.1:=by
 obtain⟨e,he⟩:=dj (l:=l) (k:=l.length-1) (by omega)
 exact⟨e,he,by rw[lt,List.getLast?_eq_getElem?,he];rfl⟩
theorem yT {C:Cf} {g:Gh} (F:Ft C g) {T i j U:Nat} (hK:g.K T i j) (hTU:T<U) (X:List En) (wX:Wf g X) (mX:Mono X) (bX:Aw U X) (Q:List Int) (hQ:C.Mj (C.cf X) Q) (vl:Int→List En)
  (hv: ∀ v∈Q,Mono (vl v)∧Up X (vl v)∧(i≤g.ak T v→Ag i (g.LL T) (vl v)))
  (hA: ∀ W,T<W→W<U→g.El W→Ag i (g.LL T) (g.LL W))
  (hB: ∀ s c jc,g.K s c jc→s<T→Ag c (g.LL s) (g.LL T))
  (hC: ∀ s c jc,g.K s c jc→(s<T∨s=T∧c<i)→Ag c (g.LL s) X):Ag i (g.LL T) X:=by
 refine Classical.byContradiction fun hno=>?_
 obtain⟨eT,k1,k2,k3,⟨Q1,hQ1,hq1⟩,k4⟩:=F.kk T i j hK
 have hX:Hx C X ((g.LL T).take j):=by
  intro k e h1 h2 h3
  have hs:=bX e (gM h1)
  obtain⟨es,ha⟩:=wX k e h1
  have hes:(g.LL e.1)[k]? =some e:=by rw[← ha.at (by omega),h1]
  have hen:g.en e.1≤k:=by
   rcases Nat.lt_or_ge k (g.en e.1) with h4|h4
   ·have:=((F.lo e.1 es).2 _ _ hes).1 h4;omega
   ·exact h4
  obtain⟨⟨c,⟨jc,hKc⟩,c2,c3⟩,c4⟩:=F.rc e.1 k e es hen hes h2
  obtain⟨_,k5,k6,k7,_,_⟩:=F.kk _ _ _ hKc
  have hcX:Ag c (g.LL e.1) X:=ha.symm.mono (by omega)
  refine⟨c,c2,fun k' e' h4 h5 h6=>c3 k' e' h4 h5 (by rw[← ha.at (by omega),h6]),by omega,?_,?_,?_⟩
  ·obtain⟨f,hf⟩:=dj (l:=g.LL e.1) (k:=c-1) (by omega)
   exact⟨f,by rw[ha.at (by omega),hf],((F.lo e.1 es).2 _ _ hf).2 (by omega)⟩
  ·rcases Nat.lt_trichotomy e.1 T with h4|h4|h4
   ·have h5:=hB _ _ _ hKc h4
    have h6:=r4 F es eT h4 h5
    exact hcX.symm.trans (h5.takeR (by omega))
   ·exfalso
    rw[h4] at ha
    rcases Nat.lt_or_ge k i with h5|h5
    ·exact h3 (ha.takeR (by omega))
    ·exact hno (ha.symm.mono (by omega))
   ·exfalso
    have h5:=hA _ h4 hs es
    have h6:=r4 F eT es h4 h5
    exact hno (h5.trans (ha.symm.mono (by omega)))
  ·rw[ha.take,(ha.mono (Nat.le_succ k)).take]
   exact c4
 have hY:Hx C ((g.LL T).take j) X:=by
  intro k e h1 h2 h3
  obtain⟨h1,hkj⟩:=gv h1
  have tk: ∀ n,n≤j→((g.LL T).take j).take n=(g.LL T).take n:=fun n hn=>by rw[List.take_take,Nat.min_eq_left hn]
  rw[tk k (by omega),tk (k+1) (by omega)]
  obtain⟨es,ha⟩:=(F.ll T eT).1 k e h1
  have hlo:=(F.lo T eT).2 _ _ h1
  rcases Nat.lt_or_ge k (g.en T) with h4|h4
  ·have hs:=hlo.1 h4
   have hes:(g.LL e.1)[k]? =some e:=by rw[← ha.at (by omega),h1]
   have hen:g.en e.1≤k:=by
    rcases Nat.lt_or_ge k (g.en e.1) with h4|h4
    ·have:=((F.lo e.1 es).2 _ _ hes).1 h4;omega
    ·exact h4
   obtain⟨⟨c,⟨jc,hKc⟩,c2,c3⟩,c4⟩:=F.rc e.1 k e es hen hes h2
   obtain⟨_,k5,k6,k7,_,_⟩:=F.kk _ _ _ hKc
   have hcT:Ag c (g.LL T) (g.LL e.1):=ha.mono (by omega)
   refine⟨c,c2,fun k' e' h4 h5 h6=>c3 k' e' h4 h5 (by rw[← ha.at (by omega),(gv h6).1]),by omega,?_,?_,?_⟩
   ·obtain⟨f,hf⟩:=dj (l:=g.LL e.1) (k:=c-1) (by omega)
    exact⟨f,by rw[List.getElem?_take,if_pos (by omega),ha.at (by omega),hf],((F.lo e.1 es).2 _ _ hf).2 (by omega)⟩
   ·exact(hcT.symm.takeR (by omega)).symm.trans (hC _ _ _ hKc (Or.inl hs))
   ·rw[ha.take,(ha.mono (Nat.le_succ k)).take]
    exact c4
  ·have hs:=hlo.2 h4
   obtain⟨c,c0,⟨jc,hKc⟩,c2,c3⟩:=k4 k e h4 hkj h1 h2
   obtain⟨_,k5,k6,k7,_,_⟩:=F.kk _ _ _ hKc
   refine⟨c,c2,fun k' e' h4 h5 h6=>c3 k' e' h4 h5 (gv h6).1,by omega,?_,?_,(F.rc T k e eT h4 h1 h2).2⟩
   ·obtain⟨f,hf⟩:=dj (l:=g.LL T) (k:=c-1) (by omega)
    exact⟨f,by rw[List.getElem?_take,if_pos (by omega),hf],by rw[hs];exact((F.lo T eT).2 _ _ hf).2 (by omega)⟩
   ·exact((Ag.refl (a:=g.LL T) (n:=c) (by omega)).takeR (by omega)).symm.trans (hC _ _ _ hKc (Or.inr ⟨O,c0⟩))
 have hN:=DS g C wX ((F.ll T eT).1.take j) mX ((F.ll T eT).2.take j) hX hY Q hQ
 obtain⟨v,v1,v2⟩:=C.over _ _ _ _ hN hQ hQ1
 obtain⟨mv,uv,av⟩:=hv v v1
 have hav:=av (hq1 v v2)
 have hvl:=hav.len2
 obtain⟨f,hf,hlf⟩:=r5 (l:=vl v) (by omega)
 obtain⟨z,z1,z2⟩:=hav (i-1) (by omega)
 have hzT:z.1=T:=((F.lo T eT).2 _ _ z1).2 (by omega)
 have hTf:T≤lt (vl v):=by
  rw[hlf, ← hzT]
  exact mv _ _ _ _ (by omega) z2 hf
 have hXl:0<X.length:=by
  rcases uv with h|h
  ·rcases Nat.eq_zero_or_pos X.length with h0|h0
   ·have:X=[]:=List.length_eq_zero_iff.1 h0
    rw[this] at h
    exact absurd h (Nat.not_lt_zero _)
   ·exact h0
  ·omega
 obtain⟨x,hx,hlx⟩:=r5 hXl
 obtain⟨ex,hax⟩:=wX _ _ hx
 have hxU:=bX x (gM hx)
 rw[show X.length-1+1=X.length by omega] at hax
 have hTx:T≤x.1:=by rcases uv with h|h<;>omega
 rcases Nat.lt_or_ge T x.1 with h1|h1
 ·have h5:=hA _ h1 hxU ex
  have h6:=r4 F eT ex h1 h5
  have h7:g.en x.1≤X.length-1:=by
   have hxx:(g.LL x.1)[X.length-1]? =some x:=by rw[← hax.at (by omega),hx]
   rcases Nat.lt_or_ge (X.length-1) (g.en x.1) with h4|h4
   ·have:=((F.lo x.1 ex).2 _ _ hxx).1 h4;omega
   ·exact h4
  exact hno (h5.trans (hax.symm.mono (by omega)))
 ·have hxT:x.1=T:=by omega
  rw[hxT] at hax
  have hll:(vl v).length≤X.length:=by rcases uv with h|h<;>omega
  exact hno (hax.symm.mono (by omega))
theorem LC {C:Cf} {g:Gh} (F:Ft C g): ∀ T i j U,g.K T i j→T<U→g.El U→Ag i (g.LL T) (g.LL U):=by
 intro T
 induction T using Nat.strongRecOn with
 |_ T ih1=>
 intro i
 induction i using Nat.strongRecOn with
 |_ i ih2=>
 intro j U
 induction U using Nat.strongRecOn with
 |_ U ih3=>
 intro hK hTU hU
 have eT:=(F.kk T i j hK).1
 have hlo:=F.lo U hU
 obtain⟨Q,hQ,hv⟩:=F.el U hU
 have hbel:Aw U ((g.LL U).take (g.en U)):=fun e he=>by
  obtain⟨k,hk,rfl⟩:=List.mem_iff_getElem.1 he
  have:=gv (l:=g.LL U) (m:=g.en U) (k:=k) (e:=((g.LL U).take (g.en U))[k]) (List.getElem?_eq_getElem hk)
  exact(hlo.2 _ _ this.1).1 this.2
 refine(yT F hK hTU ((g.LL U).take (g.en U)) ((F.ll U hU).1.take _) ((F.ll U hU).2.take _) hbel Q hQ (g.vl U) (fun v hvQ=>?_) (fun W h1 h2 h3=>ih3 W h2 hK h1 h3) (fun s c jc h1 h2=>ih1 s h2 c jc T h1 h2 eT) (fun s c jc h1 h2=>?_)).ofTake
 ·obtain⟨v1,v2,v3,v4⟩:=hv v hvQ
  refine⟨F.vw U v (by rw[v1];exact v2),v3,fun hi=>?_⟩
  rcases v4 T hTU eT i hi with⟨W,w1,w2,w3,w4⟩|h
  ·exact absurd (ih3 W w2 hK w1 w3) w4
  ·exact h
 ·have h3:Ag c (g.LL s) (g.LL U):=by
   rcases h2 with h2|⟨rfl,h2⟩
   ·exact ih1 s h2 c jc U h1 (by omega) hU
   ·exact ih2 c h2 jc U h1 hTU hU
  exact h3.takeR (r4 F (F.kk _ _ _ h1).1 hU (by omega) h3)
structure Wn (C:Cf) (g:Gh) (U:Nat) (c:Int) (Q:List Int):Prop where
 mj:C.Mj (C.cf (g.cl U c)) Q
 vt: ∀ v∈Q,g.vt U v=c
 c0:c≠0
 wf:Wf g (g.cl U c)∧Mono (g.cl U c)∧Aw U (g.cl U c)
theorem Gw {C:Cf} {g:Gh} (F:Ft C g) {U:Nat} {c:Int} {Q:List Int} (h:Wn C g U c Q): ∀ T i j,g.K T i j→T<U→Ag i (g.LL T) (g.cl U c):=by
 intro T
 induction T using Nat.strongRecOn with
 |_ T ih1=>
 intro i
 induction i using Nat.strongRecOn with
 |_ i ih2=>
 intro j hK hTU
 have eT:=(F.kk T i j hK).1
 refine yT F hK hTU (g.cl U c) h.wf.1 h.wf.2.1 h.wf.2.2 Q h.mj (g.vl U) (fun v hvQ=>?_) (fun W h1 h2 h3=>LC F _ _ _ _ hK h1 h3) (fun s c jc h1 h2=>LC F _ _ _ _ h1 h2 eT) (fun s c jc h1 h2=>?_)
 ·have hc:=h.vt v hvQ
  have hn:g.vt U v≠0:=by rw[hc];exact h.c0
  refine⟨F.vw U v hn,by have:=F.vu U v hn;rw[hc] at this;exact this,fun hi=>?_⟩
  rcases F.vf T U v hTU eT hn i hi with⟨W,w1,w2,w3,w4⟩|h
  ·exact absurd (LC F _ _ _ _ hK w1 w3) w4
  ·exact h
 ·rcases h2 with h2|⟨rfl,h2⟩
  ·exact ih1 s h2 c jc h1 (by omega)
  ·exact ih2 c h2 jc h1 hTU
theorem wi {C:Cf} {g:Gh} (F:Ft C g) {U:Nat} {X Y:List En} (wX:Wf g X) (bX:Aw U X) (hY: ∀ T i j,g.K T i j→T<U→Ag i (g.LL T) Y):Hx C X Y:=by
 intro k e h1 h2 h3
 have hs:=bX e (gM h1)
 obtain⟨es,ha⟩:=wX k e h1
 have hes:(g.LL e.1)[k]? =some e:=by rw[← ha.at (by omega),h1]
 have hen:g.en e.1≤k:=by
  rcases Nat.lt_or_ge k (g.en e.1) with h4|h4
  ·have:=((F.lo e.1 es).2 _ _ hes).1 h4;omega
  ·exact h4
 obtain⟨⟨c,⟨jc,hKc⟩,c2,c3⟩,c4⟩:=F.rc e.1 k e es hen hes h2
 obtain⟨_,k5,k6,k7,_,_⟩:=F.kk _ _ _ hKc
 have hcX:Ag c (g.LL e.1) X:=ha.symm.mono (by omega)
 refine⟨c,c2,fun k' e' h4 h5 h6=>c3 k' e' h4 h5 (by rw[← ha.at (by omega),h6]),by omega,?_,hcX.symm.trans (hY _ _ _ hKc hs),?_⟩
 ·obtain⟨f,hf⟩:=dj (l:=g.LL e.1) (k:=c-1) (by omega)
  exact⟨f,by rw[ha.at (by omega),hf],((F.lo e.1 es).2 _ _ hf).2 (by omega)⟩
 ·rw[ha.take,(ha.mono (Nat.le_succ k)).take]
  exact c4
theorem Gf {C:Cf} {g:Gh} (F:Ft C g) {U:Nat} {c c2:Int} {Q Q2:List Int} (h:Wn C g U c Q) (h2:Wn C g U c2 Q2):c=c2:=by
 have hN:=DS g C h.wf.1 h2.wf.1 h.wf.2.1 h2.wf.2.1 (wi F h.wf.1 h.wf.2.2 (Gw F h2)) (wi F h2.wf.1 h2.wf.2.2 (Gw F h)) Q h.mj
 obtain⟨v,v1,v2⟩:=C.over _ _ _ _ hN h.mj h2.mj
 rw[← h.vt v v1, ← h2.vt v v2]
structure Le (g h:Gh):Prop where
 el: ∀ T,g.El T→h.El T∧h.ec T=g.ec T∧h.en T=g.en T
 ll: ∀ T,g.El T→ ∃ x,h.LL T=g.LL T++x∧ ∀ e∈x,e.1=T
 kk: ∀ T i j,g.K T i j→h.K T i j
 ak: ∀ T v,g.ak T v≤h.ak T v
 vt: ∀ T v,g.vt T v≠0→h.vt T v=g.vt T v∧h.vl T v=g.vl T v
 sd: ∀ T c,g.sd T c→h.sd T c∧h.cl T c=g.cl T c
theorem Le.refl (g:Gh):Le g g:=⟨fun _ h=>⟨h,O,O⟩,fun _ _=>⟨[],(List.append_nil _).symm,fun _ h=>by cases h⟩,fun _ _ _ h=>h,fun _ _=>Nat.le_refl _,fun _ _ _=>⟨O,O⟩,fun _ _ h=>⟨h,O⟩⟩
theorem Le.trans {a b c:Gh} (h:Le a b) (k:Le b c):Le a c where
 el:=fun T hT=>by obtain⟨h1,h2,h3⟩:=h.el T hT;obtain⟨k1,k2,k3⟩:=k.el T h1;exact⟨k1,k2.trans h2,k3.trans h3⟩
 ll:=fun T hT=>by
  obtain⟨x,h1,h2⟩:=h.ll T hT
  obtain⟨y,k1,k2⟩:=k.ll T (h.el T hT).1
  exact⟨x++y,by rw[k1,h1,List.append_assoc],fun e he=>(List.mem_append.1 he).elim (h2 e) (k2 e)⟩
 kk:=fun T i j hk=>k.kk _ _ _ (h.kk _ _ _ hk)
 ak:=fun T v=>Nat.le_trans (h.ak T v) (k.ak T v)
 vt:=fun T v hv=>by obtain⟨h1,h2⟩:=h.vt T v hv;obtain⟨k1,k2⟩:=k.vt T v (by rw[h1];exact hv);exact⟨k1.trans h1,k2.trans h2⟩
 sd:=fun T c hs=>by obtain⟨h1,h2⟩:=h.sd T c hs;obtain⟨k1,k2⟩:=k.sd T c h1;exact⟨k1,k2.trans h2⟩
theorem Le.ag {g h:Gh} (H:Le g h) {n:Nat} {l:List En} {T:Nat} (hT:g.El T) (ha:Ag n l (g.LL T)):Ag n l (h.LL T):=by
 obtain⟨x,h1,_⟩:=H.ll T hT
 rw[h1]
 exact ha.app x
theorem Le.wf {g h:Gh} (H:Le g h) {l:List En} (hw:Wf g l):Wf h l:=fun k e hk=>by
 obtain⟨h1,h2⟩:=hw k e hk
 exact⟨(H.el _ h1).1,H.ag h1 h2⟩
theorem Le.agb {C:Cf} {g h:Gh} (F:Ft C g) (H:Le g h) {i S W:Nat} (hS:g.El S) (hW:g.El W) (hSW:S<W) (hi:i≤(g.LL S).length) (ha:Ag i (h.LL S) (h.LL W)):Ag i (g.LL S) (g.LL W):=fun k hk=>by
 obtain⟨e,h1,h2⟩:=ha k hk
 obtain⟨x,hx,_⟩:=H.ll S hS
 obtain⟨y,hy,hyt⟩:=H.ll W hW
 rw[hx,List.getElem?_append_left (by omega)] at h1
 have hl:=(F.lo S hS).2 k e h1
 have he:e.1≤S:=by
  rcases Nat.lt_or_ge k (g.en S) with h|h
  ·have:=hl.1 h;omega
  ·have:=hl.2 h;omega
 rw[hy] at h2
 rcases Nat.lt_or_ge k (g.LL W).length with h3|h3
 ·rw[List.getElem?_append_left h3] at h2
  exact⟨e,h1,h2⟩
 ·rw[List.getElem?_append_right h3] at h2
  have:=hyt e (gM h2)
  omega
theorem Le.agS {g h:Gh} (H:Le g h) {i S:Nat} {l:List En} (hS:g.El S) (ha:Ag i (g.LL S) l):Ag i (h.LL S) l:=(H.ag hS ha.symm).symm
theorem Le.tk {g h:Gh} (H:Le g h) {T n:Nat} (hT:g.El T) (hn:n≤(g.LL T).length):(h.LL T).take n=(g.LL T).take n:=by
 obtain⟨x,h1,_⟩:=H.ll T hT
 rw[h1,List.take_append_of_le_length hn]
theorem Le.rc {C:Cf} {g h:Gh} (F:Ft C g) (H:Le g h) {T k c:Nat} (hk:k≤(g.LL T).length) (hr:wh C g T k c):wh C h T k c:=by
 obtain⟨⟨j,hj⟩,h1,h2⟩:=hr
 refine⟨⟨j,H.kk _ _ _ hj⟩,h1,fun q e a b hq=>h2 q e a b ?_⟩
 obtain⟨x,hx,_⟩:=H.ll T (F.kk _ _ _ hj).1
 rw[hx,List.getElem?_append_left (by omega)] at hq
 exact hq
structure Sv where
 term:Nat
 vote:Int
 role:Int
 votes:List Int
 commit:Nat
 mt:List (Int×Nat)
 log:List En
def Cd (g:Gh) (l:List En) (n t:Nat):Prop:=n=0∨ ∃ T i j,g.K T i j∧T≤t∧n≤i∧Ag n l (g.LL T)
theorem Cd.le {C:Cf} {g h:Gh} (F:Ft C g) (H:Le g h) {l:List En} {n t:Nat} (hc:Cd g l n t):Cd h l n t:=by
 rcases hc with h0|⟨T,i,j,h1,h2,h3,h4⟩
 ·exact Or.inl h0
 ·exact Or.inr ⟨T,i,j,H.kk _ _ _ h1,h2,h3,H.ag (F.kk _ _ _ h1).1 h4⟩
theorem Cd.mono {g:Gh} {l:List En} {n m t u:Nat} (hc:Cd g l n t) (hm:m≤n) (hu:t≤u):Cd g l m u:=by
 rcases hc with h0|⟨T,i,j,h1,h2,h3,h4⟩
 ·exact Or.inl (by omega)
 ·exact Or.inr ⟨T,i,j,h1,by omega,by omega,h4.mono hm⟩
theorem Cd.of {g:Gh} {l l2:List En} {n t:Nat} (hc:Cd g l n t) (ha:Ag n l2 l):Cd g l2 n t:=by
 rcases hc with h0|⟨T,i,j,h1,h2,h3,h4⟩
 ·exact Or.inl h0
 ·exact Or.inr ⟨T,i,j,h1,h2,h3,ha.trans h4⟩
theorem Cd.in {C:Cf} {g:Gh} (F:Ft C g) {l:List En} {n t:Nat} (hc:Cd g l n t) (ht:g.El t):Ag n l (g.LL t):=by
 rcases hc with h0|⟨T,i,j,h1,h2,h3,h4⟩
 ·exact fun k hk=>absurd hk (by omega)
 ·rcases Nat.lt_or_ge T t with h|h
  ·exact h4.trans ((LC F _ _ _ _ h1 h ht).mono h3)
  ·obtain rfl:T=t:=by omega
   exact h4
structure Ld (C:Cf) (g:Gh) (v:Int) (a:Sv):Prop where
 el:g.El a.term∧g.ec a.term=v
 ll:g.LL a.term=a.log
 mt: ∀ p∈a.mt,p.2≤g.ak a.term p.1
 ak:a.log.length≤g.ak a.term v
 l1: ∀ k e,g.en a.term≤k→a.log[k]? =some e→C.ic e=true→ ∃ c,c≤a.commit∧wh C g a.term k c
 l2:a.commit≤g.en a.term∨ ∃ j,g.K a.term a.commit j
structure Sd (g:Gh) (v:Int) (a:Sv):Prop where
 sd:g.sd a.term v∧g.cl a.term v=a.log
 vt:a.vote=v
 vs: ∀ u∈a.votes,g.vt a.term u=v
 ne: ¬ (g.El a.term∧g.ec a.term=v)
structure One (C:Cf) (g:Gh) (v:Int) (a:Sv):Prop where
 wf:Wf g a.log∧Mono a.log∧ ∀ e∈a.log,e.1≤a.term
 vt:g.vt a.term v=a.vote
 v0: ∀ U,a.term<U→g.vt U v=0
 sl: ∀ U,g.sd U v→U≤a.term
 el: ∀ T,g.El T→g.ec T=v→T≤a.term
 st:a.role=3→Sd g v a
 ld:a.role=4→Ld C g v a
 ak: ∀ T,g.El T→0<g.ak T v→T≤a.term∧ ∀ i,i≤g.ak T v→(∃ W,T<W∧W≤a.term∧g.El W∧ ¬ Ag i (g.LL T) (g.LL W))∨Ag i (g.LL T) a.log
 cm:Cd g a.log a.commit a.term
structure Inv (C:Cf) (g:Gh) (s:Int→Sv):Prop where
 F:Ft C g
 a0: ∀ T v, ¬ g.El T→g.ak T v=0
 on: ∀ v,v≠0→One C g v (s v)
def upd {α β:Type} [DecidableEq α] (f:α→β) (a:α) (b:β):α→β:=fun x=>if x=a then b else f x
theorem aX {α β:Type} [DecidableEq α] (f:α→β) (a:α) (b:β):upd f a b a=b:=if_pos O
theorem dJ {α β:Type} [DecidableEq α] (f:α→β) {a x:α} (b:β) (h:x≠a):upd f a b x=f x:=if_neg h
def g9 {β:Type} (f:Nat→Int→β) (T:Nat) (v:Int) (b:β):Nat→Int→β:=fun U u=>if U=T∧u=v then b else f U u
theorem cY {β:Type} (f:Nat→Int→β) (T:Nat) (v:Int) (b:β):g9 f T v b T v=b:=if_pos ⟨O,O⟩
theorem bQ {β:Type} (f:Nat→Int→β) {T U:Nat} {v u:Int} (b:β) (h: ¬ (U=T∧u=v)):g9 f T v b U u=f U u:=if_neg h
theorem yU {C:Cf} {g:Gh} {s:Int→Sv} (I:Inv C g s) (v:Int) (a:Sv) (h1:a.term=(s v).term) (h2:a.vote=(s v).vote) (h3:a.log=(s v).log) (h4:a.commit≤(s v).commit) (h5:a.role≠3) (h6:a.role≠4):Inv C g (upd s v a):=by
 refine⟨I.F,I.a0,fun u hu=>?_⟩
 by_cases huv:u=v
 ·subst huv
  rw[aX]
  have o:=I.on u hu
  exact⟨by rw[h1,h3];exact o.wf,by rw[h1,h2];exact o.vt,by rw[h1];exact o.v0,by rw[h1];exact o.sl,by rw[h1];exact o.el,fun h=>absurd h h5,fun h=>absurd h h6,by rw[h1,h3];exact o.ak,by rw[h1,h3];exact o.cm.mono h4 (Nat.le_refl _)⟩
 ·rw[dJ _ _ huv]
  exact I.on u hu
theorem DT {C:Cf} {g:Gh} {s:Int→Sv} (I:Inv C g s) (v:Int) (a:Sv) (h1:(s v).term<a.term) (h2:a.vote=0) (h3:a.log=(s v).log) (h4:a.commit=(s v).commit) (h5:a.role≠3) (h6:a.role≠4):Inv C g (upd s v a):=by
 refine⟨I.F,I.a0,fun u hu=>?_⟩
 by_cases huv:u=v
 ·subst huv
  rw[aX]
  have o:=I.on u hu
  refine⟨⟨by rw[h3];exact o.wf.1,by rw[h3];exact o.wf.2.1,fun e he=>?_⟩,by rw[h2];exact o.v0 _ h1,fun U hU=>o.v0 U (by omega),fun U hU=>?_,fun T hT he=>?_,fun h=>absurd h h5,fun h=>absurd h h6,fun T hT hp=>?_,?_⟩
  ·rw[h3] at he
   have:=o.wf.2.2 e he
   omega
  ·have:=o.sl U hU;omega
  ·have:=o.el T hT he;omega
  ·obtain⟨q1,q2⟩:=o.ak T hT hp
   refine⟨by omega,fun i hi=>?_⟩
   rcases q2 i hi with⟨W,w1,w2,w3⟩|h
   ·exact Or.inl ⟨W,w1,by omega,w3⟩
   ·exact Or.inr (by rw[h3];exact h)
  ·rw[h3,h4]
   exact o.cm.mono (Nat.le_refl _) (by omega)
 ·rw[dJ _ _ huv]
  exact I.on u hu
theorem yf (l:List En):Up l l:=Or.inr ⟨O,Nat.le_refl _⟩
theorem One.le {C:Cf} {g h:Gh} (F:Ft C g) (H:Le g h) {v:Int} (hn:v≠0) {a:Sv} (o:One C g v a)
  (hv: ∀ U,h.vt U v=g.vt U v) (hs: ∀ U,h.sd U v→g.sd U v) (he: ∀ T,h.El T→h.ec T=v→g.El T) (hk: ∀ T,h.ak T v=g.ak T v) (hl:a.role=4→h.LL a.term=g.LL a.term)
  (hk2: ∀ T,h.El T→ ¬ g.El T→g.ak T v=0) (hlen: ∀ T,g.El T→g.ak T v≤(g.LL T).length):One C h v a where
 wf:=⟨H.wf o.wf.1,o.wf.2⟩
 vt:=by rw[hv];exact o.vt
 v0:=fun U hU=>by rw[hv];exact o.v0 U hU
 sl:=fun U hU=>o.sl U (hs U hU)
 el:=fun T hT hc=>by
  have h1:=he T hT hc
  exact o.el T h1 (by rw[← (H.el T h1).2.1];exact hc)
 st:=fun h3=>by
  have q:=o.st h3
  refine⟨⟨(H.sd _ _ q.sd.1).1,by rw[(H.sd _ _ q.sd.1).2];exact q.sd.2⟩,q.vt,fun u hu=>?_,fun hc=>?_⟩
  ·have h1:=q.vs u hu
   rw[(H.vt _ _ (by rw[h1];exact hn)).1]
   exact h1
  ·have h1:=he _ hc.1 hc.2
   exact q.ne ⟨h1,by rw[← (H.el _ h1).2.1];exact hc.2⟩
 ld:=fun h4=>by
  have q:=o.ld h4
  have hL:=hl h4
  refine⟨⟨(H.el _ q.el.1).1,by rw[(H.el _ q.el.1).2.1];exact q.el.2⟩,by rw[hL];exact q.ll,fun p hp=>Nat.le_trans (q.mt p hp) (H.ak _ _),Nat.le_trans q.ak (H.ak _ _),fun k e h1 h2 h3=>?_,?_⟩
  ·rw[(H.el _ q.el.1).2.2] at h1
   obtain⟨c,c1,c2⟩:=q.l1 k e h1 h2 h3
   exact⟨c,c1,H.rc F (by rw[q.ll];exact Nat.le_of_lt (fP h2)) c2⟩
  ·rw[(H.el _ q.el.1).2.2]
   rcases q.l2 with h|⟨j,hj⟩
   ·exact Or.inl h
   ·exact Or.inr ⟨j,H.kk _ _ _ hj⟩
 ak:=fun T hT hp=>by
  rw[hk] at hp
  rcases Classical.em (g.El T) with h1|h1
  ·obtain⟨q1,q2⟩:=o.ak T h1 hp
   refine⟨q1,fun i hi=>?_⟩
   rw[hk] at hi
   rcases q2 i hi with⟨W,w1,w2,w3,w4⟩|q
   ·refine Or.inl ⟨W,w1,w2,(H.el W w3).1,fun hc=>w4 (H.agb F h1 w3 w1 (Nat.le_trans hi (hlen T h1)) hc)⟩
   ·exact Or.inr (H.agS h1 q)
  ·have:=hk2 T hT h1
   omega
 cm:=o.cm.le F H
theorem DU {C:Cf} {g:Gh} {s:Int→Sv} (I:Inv C g s) (v:Int) (hv:v≠0) (n:Nat) (hE:g.El (s v).term) (hn:Ag n (s v).log (g.LL (s v).term)):
  ∃ h,Le g h∧Inv C h s∧n≤h.ak (s v).term v∧h.El=g.El∧h.LL=g.LL∧h.ec=g.ec:=by
 obtain⟨T,hT⟩: ∃ T,T=(s v).term:=⟨_,O⟩
 rw[← hT] at hE hn ⊢
 have F:=I.F
 have H:Le g {g with ak:=g9 g.ak T v (max (g.ak T v) n)}:=⟨fun _ h=>⟨h,O,O⟩,fun _ _=>⟨[],(List.append_nil _).symm,fun _ h=>by cases h⟩,fun _ _ _ h=>h,fun S u=>by
  show g.ak S u≤g9 g.ak T v (max (g.ak T v) n) S u
  by_cases h:S=T∧u=v
  ·obtain⟨rfl,rfl⟩:=h
   rw[cY]
   exact Nat.le_max_left _ _
  ·rw[bQ _ _ h]
   exact Nat.le_refl _,fun _ _ _=>⟨O,O⟩,fun _ _ h=>⟨h,O⟩⟩
 have hx: ∀ S U u,S<U→g.vt U u≠0→g9 g.ak T v (max (g.ak T v) n) S u=g.ak S u:=fun S U u h1 h2=>by
  refine bQ _ _ fun h=>h2 ?_
  obtain⟨rfl,rfl⟩:=h
  exact(I.on u hv).v0 U (by omega)
 refine⟨_,H,⟨⟨F.ll,F.lo,fun U hU=>?_,F.vw,F.vu,F.vc,F.sw,F.es,fun S U u h1 h2 h3 i hi=>F.vf S U u h1 h2 h3 i (by rw[← hx S U u h1 h3];exact hi),fun S u hS=>?_,F.rc,fun S i j hK=>?_⟩,fun S u hS=>?_,fun u hu=>?_⟩,?_,O,O,O⟩
 ·obtain⟨Q,q1,q2⟩:=F.el U hU
  refine⟨Q,q1,fun u hu=>?_⟩
  obtain⟨v1,v2,v3,v4⟩:=q2 u hu
  exact⟨v1,v2,v3,fun S hS hE i hi=>v4 S hS hE i (by rw[← hx S U u hS (by rw[v1];exact v2)];exact hi)⟩
 ·show g9 g.ak T v (max (g.ak T v) n) S u≤(g.LL S).length
  by_cases h:S=T∧u=v
  ·obtain⟨rfl,rfl⟩:=h
   rw[cY]
   exact Nat.max_le.2 ⟨F.aks _ _ hS,hn.len2⟩
  ·rw[bQ _ _ h]
   exact F.aks _ _ hS
 ·obtain⟨a1,a2,a3,a4,⟨Q,q1,q2⟩,a6⟩:=F.kk S i j hK
  exact⟨a1,a2,a3,a4,⟨Q,q1,fun u hu=>Nat.le_trans (q2 u hu) (H.ak S u)⟩,a6⟩
 ·show g9 g.ak T v (max (g.ak T v) n) S u=0
  rw[bQ _ _ (fun h=>hS (by show g.El S;rw[h.1];exact hE))]
  exact I.a0 S u hS
 ·have o:=I.on u hu
  by_cases huv:u=v
  ·subst huv
   refine⟨o.wf,o.vt,o.v0,o.sl,o.el,fun h=>?_,fun h=>?_,fun S hS hp=>?_,o.cm⟩
   ·have q:=o.st h
    exact⟨q.sd,q.vt,q.vs,q.ne⟩
   ·have q:=o.ld h
    exact⟨q.el,q.ll,fun p hp=>Nat.le_trans (q.mt p hp) (H.ak _ _),Nat.le_trans q.ak (H.ak _ _),q.l1,q.l2⟩
   ·by_cases h:S=T
    ·subst h
     refine⟨by omega,fun i hi=>?_⟩
     have hi:i≤g9 g.ak S u (max (g.ak S u) n) S u:=hi
     rw[cY] at hi
     rcases Nat.lt_or_ge n i with h1|h1
     ·have h2:i≤g.ak S u:=by omega
      exact(o.ak S hS (by omega)).2 i h2
     ·exact Or.inr (hn.symm.mono h1)
    ·have e:g9 g.ak T u (max (g.ak T u) n) S u=g.ak S u:=bQ _ _ fun hh=>h hh.1
     have hp:0<g9 g.ak T u (max (g.ak T u) n) S u:=hp
     rw[e] at hp
     refine⟨(o.ak S hS hp).1,fun i hi=>(o.ak S hS hp).2 i ?_⟩
     have hi:i≤g9 g.ak T u (max (g.ak T u) n) S u:=hi
     rw[e] at hi
     exact hi
  ·refine One.le F H hu o (fun _=>O) (fun _ h=>h) (fun _ h _=>h) (fun S=>bQ _ _ fun h=>huv h.2) (fun _=>O) (fun _ h1 h2=>absurd h1 h2) (fun S hS=>F.aks S u hS)
 ·show n≤g9 g.ak T v (max (g.ak T v) n) T v
  rw[cY]
  exact Nat.le_max_right _ _
theorem yV {C:Cf} {g:Gh} {s:Int→Sv} (I:Inv C g s) (v:Int) (a:Sv) (h1:a.term=(s v).term) (h2:a.vote=(s v).vote) (h3:a.log=(s v).log) (h4:Cd g (s v).log a.commit (s v).term) (h5:a.role≠3) (h6:a.role≠4):Inv C g (upd s v a):=by
 refine⟨I.F,I.a0,fun u hu=>?_⟩
 by_cases huv:u=v
 ·subst huv
  rw[aX]
  have o:=I.on u hu
  exact⟨by rw[h1,h3];exact o.wf,by rw[h1,h2];exact o.vt,by rw[h1];exact o.v0,by rw[h1];exact o.sl,by rw[h1];exact o.el,fun h=>absurd h h5,fun h=>absurd h h6,by rw[h1,h3];exact o.ak,by rw[h1,h3];exact h4⟩
 ·rw[dJ _ _ huv]
  exact I.on u hu
theorem DV {C:Cf} {g:Gh} {s:Int→Sv} (I:Inv C g s) (v:Int) (hv:v≠0) (a:Sv) (n:Nat) (hE:g.El (s v).term) (hn:n≤(g.LL (s v).term).length) (hno: ¬ Ag n (s v).log (g.LL (s v).term)) (h1:a.term=(s v).term) (h2:a.vote=(s v).vote) (h3:a.log=(g.LL (s v).term).take n) (h4:a.commit=(s v).commit) (h5:a.role≠3) (h6:a.role≠4):Inv C g (upd s v a):=by
 have F:=I.F
 refine⟨I.F,I.a0,fun u hu=>?_⟩
 by_cases huv:u=v
 ·subst huv
  rw[aX]
  have o:=I.on u hu
  obtain⟨w1,w2⟩:=F.ll _ hE
  have hAg:Ag n a.log (g.LL (s u).term):=by
   rw[h3]
   exact((Ag.refl hn).takeR (Nat.le_refl _)).symm
  refine⟨⟨by rw[h3];exact w1.take n,by rw[h3];exact w2.take n,fun e he=>?_⟩,by rw[h1,h2];exact o.vt,by rw[h1];exact o.v0,by rw[h1];exact o.sl,by rw[h1];exact o.el,fun h=>absurd h h5,fun h=>absurd h h6,fun T hT hp=>?_,?_⟩
  ·rw[h3] at he
   obtain⟨k,hk,rfl⟩:=List.mem_iff_getElem.1 he
   have h9:=gv (List.getElem?_eq_getElem hk)
   have h8:=(F.lo _ hE).2 _ _ h9.1
   rw[h1]
   rcases Nat.lt_or_ge k (g.en (s u).term) with h|h
   ·exact Nat.le_of_lt (h8.1 h)
   ·exact Nat.le_of_eq (h8.2 h)
  ·obtain⟨q1,q2⟩:=o.ak T hT hp
   refine⟨by omega,fun i hi=>?_⟩
   rw[h1]
   rcases q2 i hi with h|h
   ·exact Or.inl h
   ·rcases Classical.em (Ag i (g.LL T) (g.LL (s u).term)) with h7|h7
    ·right
     rcases Nat.lt_or_ge n i with h8|h8
     ·exact absurd ((h.symm.trans h7).mono (Nat.le_of_lt h8)) hno
     ·rw[h3]
      exact h7.takeR h8 |>.mono (Nat.le_refl _)
    ·left
     rcases Nat.lt_or_ge T (s u).term with h8|h8
     ·exact⟨_,h8,Nat.le_refl _,hE,h7⟩
     ·obtain rfl:T=(s u).term:=by omega
      exact absurd (Ag.refl (Nat.le_trans hi (F.aks _ _ hT))) h7
  ·rw[h1,h4]
   have hc:=o.cm.in F hE
   rcases Nat.lt_or_ge n (s u).commit with h8|h8
   ·exact absurd (hc.mono (Nat.le_of_lt h8)) hno
   ·refine o.cm.of ?_
    exact(hAg.mono h8).trans hc.symm
 ·rw[dJ _ _ huv]
  exact I.on u hu
theorem wj {C:Cf} {g:Gh} (F:Ft C g) {T k:Nat} {e:En} (hT:g.El T) (h:(g.LL T)[k]? =some e) (he:e.1=T):g.en T≤k:=by
 rcases Nat.lt_or_ge k (g.en T) with h1|h1
 ·have:=((F.lo T hT).2 k e h).1 h1;omega
 ·exact h1
theorem z7 {C:Cf} {g:Gh} {s:Int→Sv} (I:Inv C g s) (v:Int) (hv:v≠0) (a:Sv) (hr:(s v).role=4) (n:Nat) (hn:(s v).commit<n) (e:En) (he:(s v).log[n-1]? =some e) (het:e.1=(s v).term)
  (Q:List Int) (hQ:C.Mj (C.cf (s v).log) Q) (hq: ∀ u∈Q,u=v∨ ∃ p∈(s v).mt,p.1=u∧n≤p.2)
  (h1:a.term=(s v).term) (h2:a.vote=(s v).vote) (h3:a.log=(s v).log) (h4:a.commit=n) (h5:a.role=4) (h6:a.mt=(s v).mt):
  ∃ h,Le g h∧Inv C h (upd s v a)∧h.LL=g.LL:=by
 obtain⟨T,hT⟩: ∃ T,T=(s v).term:=⟨_,O⟩
 obtain⟨l,hl⟩: ∃ l,l=(s v).log:=⟨_,O⟩
 have F:=I.F
 have o:=I.on v hv
 have q:=o.ld hr
 have hnl:=fP he
 rw[← hl] at he hQ hnl h3
 rw[← hT] at het h1
 have qe:=q.el;have ql:=q.ll;have qm:=q.mt;have qa:=q.ak;have q1:=q.l1;have q2:=q.l2
 rw[← hT] at qe ql qm qa q1 q2
 rw[← hl] at ql qa q1
 have H:Le g {g with K:=fun S i j=>g.K S i j∨S=T∧i=n∧j=l.length}:=⟨fun _ h=>⟨h,O,O⟩,fun _ _=>⟨[],(List.append_nil _).symm,fun _ h=>by cases h⟩,fun _ _ _ h=>Or.inl h,fun _ _=>Nat.le_refl _,fun _ _ _=>⟨O,O⟩,fun _ _ h=>⟨h,O⟩⟩
 have hR: ∀ S k c,wh C g S k c→wh C {g with K:=fun S i j=>g.K S i j∨S=T∧i=n∧j=l.length} S k c:=fun S k c hc=>⟨hc.1.elim fun j hj=>⟨j,Or.inl hj⟩,hc.2⟩
 refine⟨_,H,⟨⟨F.ll,F.lo,F.el,F.vw,F.vu,F.vc,F.sw,F.es,F.vf,F.aks,fun S k e a1 a2 a3 a4=>?_,fun S i j hK=>?_⟩,I.a0,fun u hu=>?_⟩,O⟩
 ·obtain⟨⟨c,hc⟩,h9⟩:=F.rc S k e a1 a2 a3 a4
  exact⟨⟨c,hR _ _ _ hc⟩,h9⟩
 ·rcases hK with hK|⟨rfl,rfl,rfl⟩
  ·obtain⟨a1,a2,a3,a4,a5,a6⟩:=F.kk S i j hK
   exact⟨a1,a2,a3,a4,a5,fun k e b1 b2 b3 b4=>by
    obtain⟨c,c1,c2⟩:=a6 k e b1 b2 b3 b4
    exact⟨c,c1,hR _ _ _ c2⟩⟩
  ·rw[← ql] at he
   have:=wj F qe.1 he het
   refine⟨qe.1,by show g.en S<i;omega,by omega,by show l.length≤(g.LL S).length;rw[ql];exact Nat.le_refl _,⟨Q,?_,fun u hu=>?_⟩,fun k e b1 b2 b3 b4=>?_⟩
   ·show C.Mj (C.cf ((g.LL S).take l.length)) Q
    rw[ql,List.take_length]
    exact hQ
   ·show i≤g.ak S u
    rcases hq u hu with rfl|⟨p,p1,p2,p3⟩
    ·omega
    ·have:=qm p p1
     rw[p2] at this
     omega
   ·have b3:(g.LL S)[k]? =some e:=b3
    rw[ql] at b3
    obtain⟨c,c1,c2⟩:=q1 k e b1 b3 b4
    exact⟨c,by omega,hR _ _ _ c2⟩
 ·by_cases huv:u=v
  ·subst huv
   rw[aX]
   refine⟨by rw[h3,h1,hl,hT];exact o.wf,by rw[h1,h2,hT];exact o.vt,by rw[h1,hT];exact o.v0,by rw[h1,hT];exact o.sl,by rw[h1,hT];exact o.el,fun h=>absurd (h5.symm.trans h) (by decide),fun _=>?_,by rw[h1,h3,hT,hl];exact o.ak,?_⟩
   ·refine⟨by rw[h1];exact qe,by rw[h1,h3];exact ql,by rw[h1,h6];exact qm,by rw[h1,h3];exact qa,fun k e b1 b2 b3=>?_,Or.inr ⟨l.length,Or.inr ⟨h1,h4,O⟩⟩⟩
    rw[h1] at b1 ⊢
    rw[h3] at b2
    obtain⟨c,c1,c2⟩:=q1 k e b1 b2 b3
    exact⟨c,by omega,hR _ _ _ c2⟩
   ·rw[h1,h3,h4]
    refine Or.inr ⟨T,n,l.length,Or.inr ⟨O,O,O⟩,Nat.le_refl _,Nat.le_refl _,?_⟩
    show Ag n l (g.LL T)
    rw[ql]
    exact Ag.refl (by omega)
  ·rw[dJ _ _ huv]
   exact One.le F H hu (I.on u hu) (fun _=>O) (fun _ h=>h) (fun _ h _=>h) (fun _=>O) (fun _=>O) (fun _ h1 h2=>absurd h1 h2) (fun S hS=>F.aks S u hS)
theorem more {C:Cf} {g:Gh} {s:Int→Sv} (I:Inv C g s) (v:Int) (hv:v≠0) (a:Sv) (hr:(s v).role=3) (hs: ∀ u∈a.votes,u∈(s v).votes∨g.vt (s v).term u=v)
  (h1:a.term=(s v).term) (h2:a.vote=(s v).vote) (h3:a.log=(s v).log) (h4:a.commit=(s v).commit) (h5:a.role=3):Inv C g (upd s v a):=by
 refine⟨I.F,I.a0,fun u hu=>?_⟩
 by_cases huv:u=v
 ·subst huv
  rw[aX]
  have o:=I.on u hu
  have q:=o.st hr
  refine⟨by rw[h1,h3];exact o.wf,by rw[h1,h2];exact o.vt,by rw[h1];exact o.v0,by rw[h1];exact o.sl,by rw[h1];exact o.el,fun _=>⟨by rw[h1,h3];exact q.sd,by rw[h2];exact q.vt,fun w hw=>?_,by rw[h1];exact q.ne⟩,fun h=>absurd (h5.symm.trans h) (by decide),by rw[h1,h3];exact o.ak,by rw[h1,h3,h4];exact o.cm⟩
  rw[h1]
  exact(hs w hw).elim (q.vs w) id
 ·rw[dJ _ _ huv]
  exact I.on u hu
theorem yg {C:Cf} {g:Gh} {s:Int→Sv} (I:Inv C g s) (v:Int) (hv:v≠0) (a:Sv) (hr:(s v).role=4) (hs: ∀ p∈a.mt,p.2≤g.ak (s v).term p.1)
  (h1:a.term=(s v).term) (h2:a.vote=(s v).vote) (h3:a.log=(s v).log) (h4:a.commit=(s v).commit) (h5:a.role=4):Inv C g (upd s v a):=by
 refine⟨I.F,I.a0,fun u hu=>?_⟩
 by_cases huv:u=v
 ·subst huv
  rw[aX]
  have o:=I.on u hu
  have q:=o.ld hr
  exact⟨by rw[h1,h3];exact o.wf,by rw[h1,h2];exact o.vt,by rw[h1];exact o.v0,by rw[h1];exact o.sl,by rw[h1];exact o.el,fun h=>absurd (h5.symm.trans h) (by decide),fun _=>⟨by rw[h1];exact q.el,by rw[h1,h3];exact q.ll,by rw[h1];exact hs,by rw[h1,h3];exact q.ak,by rw[h1,h3,h4];exact q.l1,by rw[h1,h4];exact q.l2⟩,by rw[h1,h3];exact o.ak,by rw[h1,h3,h4];exact o.cm⟩
 ·rw[dJ _ _ huv]
  exact I.on u hu
theorem wk {C:Cf} {g:Gh} {s:Int→Sv} (I:Inv C g s) (v:Int) (hv:v≠0) (a:Sv) (T:Nat) (c:Int) (hc:c≠0) (hT:(s v).term≤T) (h0:g.vt T v=0) (cl:List En) (sdn:Bool) (hup:Up cl (s v).log)
  (hcl:if sdn then c=v∧(s v).term<T∧cl=(s v).log∧ ¬ (g.El T∧g.ec T=v) else g.sd T c∧g.cl T c=cl∧a.role≠3)
  (h1:a.term=T) (h2:a.vote=c) (h3:a.log=(s v).log) (h4:a.commit=(s v).commit) (h5:a.role=3→a.votes=[v]) (h6:a.role≠4):
  ∃ h,Le g h∧Inv C h (upd s v a)∧h.vt T v=c∧h.sd T c∧h.cl T c=cl∧h.El=g.El∧h.LL=g.LL:=by
 have F:=I.F
 have o:=I.on v hv
 obtain⟨l,hl⟩: ∃ l,l=(s v).log:=⟨_,O⟩
 rw[← hl] at hup h3
 have hsn:sdn=true→ ∀ c',g.sd T c'→ ¬ c'=v:=fun hs c' h9 h8=>by
  subst h8
  have:=o.sl T h9
  rw[if_pos hs] at hcl
  omega
 obtain⟨cl',hcl'⟩: ∃ x,x=(if sdn then g9 g.cl T v (s v).log else g.cl):=⟨_,O⟩
 obtain⟨sd',hsd'⟩: ∃ x:Nat→Int→Prop,x=(fun U c'=>g.sd U c'∨sdn=true∧U=T∧c'=v):=⟨_,O⟩
 have hso: ∀ U c',g.sd U c'→cl' U c'=g.cl U c':=fun U c' hs=>by
  rw[hcl']
  split
  ·exact bQ _ _ fun h=>hsn (by assumption) c' (h.1▸hs) h.2
  ·rfl
 have hsT:sd' T c∧cl' T c=cl:=by
  cases sdn with
  |true=>
   rw[if_pos O] at hcl
   rw[hsd',hcl',if_pos O,hcl.1,hcl.2.2.1,cY]
   exact⟨Or.inr ⟨O,O,O⟩,O⟩
  |false=>
   rw[if_neg (by simp)] at hcl
   rw[hsd',hcl',if_neg (by simp)]
   exact⟨Or.inl hcl.1,hcl.2.1⟩
 obtain⟨h,hh⟩: ∃ h:Gh,h={g with vt:=g9 g.vt T v c,vl:=g9 g.vl T v l,cl:=cl',sd:=sd'}:=⟨_,O⟩
 have evt: ∀ U u,h.vt U u=g9 g.vt T v c U u:=fun _ _=>by rw[hh]
 have evl: ∀ U u,h.vl U u=g9 g.vl T v l U u:=fun _ _=>by rw[hh]
 have eLL:h.LL=g.LL:=by rw[hh]
 have eEl:h.El=g.El:=by rw[hh]
 have ec:h.ec=g.ec:=by rw[hh]
 have een:h.en=g.en:=by rw[hh]
 have eK:h.K=g.K:=by rw[hh]
 have eak:h.ak=g.ak:=by rw[hh]
 have ecl:h.cl=cl':=by rw[hh]
 have esd:h.sd=sd':=by rw[hh]
 have hne: ∀ U u,g.vt U u≠0→ ¬ (U=T∧u=v):=fun U u hu hc=>hu (by rw[hc.1,hc.2];exact h0)
 have H:Le g h:=⟨fun _ hT=>by rw[eEl,ec,een];exact⟨hT,O,O⟩,fun _ _=>⟨[],by rw[eLL,List.append_nil],fun _ h=>by cases h⟩,fun _ _ _ h=>by rw[eK];exact h,fun _ _=>by rw[eak];exact Nat.le_refl _,fun U u hu=>by rw[evt,evl,bQ _ _ (hne U u hu),bQ _ _ (hne U u hu)];exact⟨O,O⟩,fun U c' hs=>by rw[esd,ecl,hsd'];exact⟨Or.inl hs,hso U c' hs⟩⟩
 have hW: ∀ l,Wf h l↔Wf g l:=fun l=>by unfold Wf;rw[eEl,eLL]
 have hRec: ∀ S k c,wh C h S k c↔wh C g S k c:=fun S k c=>by unfold wh;rw[eK,eLL]
 have F':Ft C h:=by
  refine⟨fun U hU=>?_,fun U hU=>?_,fun U hU=>?_,fun U u hu=>?_,fun U u hu=>?_,fun U u hu=>?_,fun U c' hs=>?_,fun U hU=>?_,fun S U u h1 h2 h3 i hi=>?_,fun U u hU=>?_,fun U k e a1 a2 a3 a4=>?_,fun S i j hK=>?_⟩
  ·rw[eEl] at hU;rw[hW,eLL];exact F.ll U hU
  ·rw[eEl] at hU;rw[een,eLL];exact F.lo U hU
  ·rw[eEl] at hU
   obtain⟨Q,q1,q2⟩:=F.el U hU
   rw[eLL,een,ec,eEl,eak]
   refine⟨Q,q1,fun u hu=>?_⟩
   obtain⟨v1,v2,v3,v4⟩:=q2 u hu
   have hne:=hne U u (by rw[v1];exact v2)
   rw[evt,evl,bQ _ _ hne,bQ _ _ hne]
   exact⟨v1,v2,v3,v4⟩
  ·rw[evl]
   by_cases hc:U=T∧u=v
   ·rw[hc.1,hc.2,cY,hl]
    exact o.wf.2.1
   ·rw[evt,bQ _ _ hc] at hu
    rw[bQ _ _ hc]
    exact F.vw U u hu
  ·rw[evl,evt,ecl]
   by_cases hc:U=T∧u=v
   ·rw[hc.1,hc.2,cY,cY,hsT.2]
    exact hup
   ·rw[evt,bQ _ _ hc] at hu
    rw[bQ _ _ hc,bQ _ _ hc,hso _ _ (F.vc U u hu)]
    exact F.vu U u hu
  ·rw[evt,esd]
   by_cases hc:U=T∧u=v
   ·rw[hc.1,hc.2,cY]
    exact hsT.1
   ·rw[evt,bQ _ _ hc] at hu
    rw[bQ _ _ hc,hsd']
    exact Or.inl (F.vc U u hu)
  ·rw[hW,ecl]
   rw[esd] at hs
   rcases Classical.em (g.sd U c') with hg|hg
   ·rw[hso _ _ hg]
    exact F.sw U c' hg
   ·rw[hsd'] at hs
    rcases hs with hs|⟨s1,s2,s3⟩
    ·exact absurd hs hg
    ·rw[if_pos s1] at hcl
     rw[hcl',if_pos s1,s2,s3,cY]
     exact⟨o.wf.1,o.wf.2.1,fun e he=>by have:=o.wf.2.2 e he;omega⟩
  ·rw[eEl] at hU
   obtain⟨s1,s2,s3⟩:=F.es U hU
   rw[esd,ecl,ec,eLL,een,hso _ _ s1,hsd']
   exact⟨Or.inl s1,s2,s3⟩
  ·rw[eEl] at h2
   rw[eak] at hi
   rw[evl,eEl,eLL]
   by_cases hc:U=T∧u=v
   ·rw[hc.1,hc.2,cY]
    rw[hc.2] at hi
    rw[hc.1] at h1
    rcases Nat.eq_zero_or_pos (g.ak S v) with h9|h9
    ·exact Or.inr fun k hk=>absurd hk (by omega)
    ·rcases(o.ak S h2 h9).2 i hi with⟨W,w1,w2,w3,w4⟩|q
     ·exact Or.inl ⟨W,w1,by omega,w3,w4⟩
     ·exact Or.inr (by rw[hl];exact q)
   ·rw[evt,bQ _ _ hc] at h3
    rw[bQ _ _ hc]
    exact F.vf S U u h1 h2 h3 i hi
  ·rw[eEl] at hU;rw[eak,eLL];exact F.aks U u hU
  ·rw[eEl] at a1;rw[een] at a2;rw[eLL] at a3 ⊢
   obtain⟨⟨c,hc⟩,h9⟩:=F.rc U k e a1 a2 a3 a4
   exact⟨⟨c,(hRec _ _ _).2 hc⟩,h9⟩
  ·rw[eK] at hK
   rw[eEl,een,eLL,eak]
   obtain⟨a1,a2,a3,a4,a5,a6⟩:=F.kk S i j hK
   exact⟨a1,a2,a3,a4,a5,fun k e b1 b2 b3 b4=>by
    obtain⟨c,c1,c2⟩:=a6 k e b1 b2 b3 b4
    exact⟨c,c1,(hRec _ _ _).2 c2⟩⟩
 refine⟨h,H,⟨F',fun U u hU=>by rw[eEl] at hU;rw[eak];exact I.a0 U u hU,fun u hu=>?_⟩,by rw[evt,cY],by rw[esd];exact hsT.1,by rw[ecl];exact hsT.2,eEl,eLL⟩
 by_cases huv:u=v
 ·subst huv
  rw[aX]
  refine⟨⟨by rw[hW,h3,hl];exact o.wf.1,by rw[h3,hl];exact o.wf.2.1,fun e he=>?_⟩,by rw[evt,h1,h2,cY],fun U hU=>?_,fun U hU=>?_,fun U hU hc=>?_,fun h3'=>?_,fun h=>absurd h h6,fun S hS hp=>?_,?_⟩
  ·rw[h3,hl] at he
   have:=o.wf.2.2 e he
   omega
  ·rw[evt,bQ _ _ (fun hc=>by omega)]
   exact o.v0 U (by omega)
  ·rw[esd,hsd'] at hU
   rcases hU with hU|⟨_,hU,_⟩
   ·have:=o.sl U hU;omega
   ·omega
  ·rw[eEl] at hU;rw[ec] at hc
   have:=o.el U hU hc;omega
  ·cases sdn with
   |false=>rw[if_neg (by simp)] at hcl;exact absurd h3' hcl.2.2
   |true=>
    rw[if_pos O] at hcl
    refine⟨?_,?_,fun w hw=>?_,?_⟩
    ·rw[h1,esd,ecl, ← hcl.1,hsT.2,h3,hcl.2.2.1,hl]
     exact⟨hsT.1,O⟩
    ·rw[h2,hcl.1]
    ·rw[h5 h3'] at hw
     obtain rfl:w=u:=by simpa using hw
     rw[evt,h1,cY,hcl.1]
    ·rw[h1,eEl,ec]
     exact hcl.2.2.2
  ·rw[eEl] at hS
   rw[eak] at hp ⊢
   obtain⟨q1,q2⟩:=o.ak S hS hp
   refine⟨by omega,fun i hi=>?_⟩
   rw[eEl,eLL,h1,h3,hl]
   rcases q2 i hi with⟨W,w1,w2,w3⟩|q
   ·exact Or.inl ⟨W,w1,by omega,w3⟩
   ·exact Or.inr q
  ·rw[h3,h4,h1,hl]
   exact(o.cm.le F H).mono (Nat.le_refl _) hT
 ·rw[dJ _ _ huv]
  refine One.le F H hu (I.on u hu) (fun U=>by rw[evt,bQ _ _ (fun hc=>huv hc.2)]) (fun U hs=>?_) (fun U hU _=>by rw[eEl] at hU;exact hU) (fun U=>by rw[eak]) (fun _=>by rw[eLL]) (fun U hU hn=>absurd (by rw[eEl] at hU;exact hU) hn) (fun S hS=>F.aks S u hS)
  rw[esd,hsd'] at hs
  rcases hs with hs|⟨_,_,hs⟩
  ·exact hs
  ·exact absurd hs huv
theorem fB {l:List En} {e f:En} {k:Nat} (h:(l++[e])[k]? =some f):(k<l.length∧l[k]? =some f)∨(k=l.length∧f=e):=by
 have hk:=fP h
 rw[List.length_append,List.length_singleton] at hk
 rcases Nat.lt_or_ge k l.length with h1|h1
 ·rw[List.getElem?_append_left h1] at h
  exact Or.inl ⟨h1,h⟩
 ·have h2:k=l.length:=by omega
  subst h2
  rw[List.getElem?_append_right (Nat.le_refl _),Nat.sub_self] at h
  exact Or.inr ⟨O,(Option.some.inj h).symm⟩
theorem yh {C:Cf} {g:Gh} {s:Int→Sv} (I:Inv C g s) (v:Int) (hv:v≠0) (a:Sv) (hr:(s v).role=4) (e:En) (he:e.1=(s v).term)
  (hic:C.ic e=true→(∃ f,1≤(s v).commit∧(s v).log[(s v).commit-1]? =some f∧f.1=(s v).term)∧(∀ k f,(s v).commit≤k→(s v).log[k]? =some f→C.ic f=false)∧C.Nr (C.cf (s v).log) (C.cf ((s v).log++[e])))
  (h1:a.term=(s v).term) (h2:a.vote=(s v).vote) (h3:a.log=(s v).log++[e]) (h4:a.commit=(s v).commit) (h5:a.role=4) (h6:a.mt=(s v).mt):
  ∃ h,Le g h∧Inv C h (upd s v a)∧h.LL=upd g.LL (s v).term ((s v).log++[e]):=by
 obtain⟨T,hT⟩: ∃ T,T=(s v).term:=⟨_,O⟩
 obtain⟨l,hl⟩: ∃ l,l=(s v).log:=⟨_,O⟩
 have F:=I.F
 have o:=I.on v hv
 have q:=o.ld hr
 rw[← hl] at hic h3
 rw[← hT] at he h1 hic
 have qe:=q.el;have ql:=q.ll;have qm:=q.mt;have qa:=q.ak;have q1:=q.l1;have q2:=q.l2
 rw[← hT] at qe ql qm qa q1 q2
 rw[← hl] at ql qa q1
 have ow:=o.wf
 rw[← hl, ← hT] at ow
 obtain⟨h,hh⟩: ∃ h:Gh,h={g with LL:=upd g.LL T (l++[e]),ak:=g9 g.ak T v (l.length+1)}:=⟨_,O⟩
 have eLL: ∀ S,h.LL S=upd g.LL T (l++[e]) S:=fun _=>by rw[hh]
 have eak: ∀ S u,h.ak S u=g9 g.ak T v (l.length+1) S u:=fun _ _=>by rw[hh]
 have eEl:h.El=g.El:=by rw[hh]
 have ec:h.ec=g.ec:=by rw[hh]
 have een:h.en=g.en:=by rw[hh]
 have eK:h.K=g.K:=by rw[hh]
 have evt:h.vt=g.vt:=by rw[hh]
 have evl:h.vl=g.vl:=by rw[hh]
 have ecl:h.cl=g.cl:=by rw[hh]
 have esd:h.sd=g.sd:=by rw[hh]
 have eLT:h.LL T=l++[e]:=by rw[eLL,aX]
 have eLn: ∀ S,S≠T→h.LL S=g.LL S:=fun S hS=>by rw[eLL,dJ _ _ hS]
 have aT:g.ak T v≤l.length:=by have:=F.aks T v qe.1;rw[ql] at this;exact this
 have H:Le g h:=⟨fun _ hT=>by rw[eEl,ec,een];exact⟨hT,O,O⟩,fun S _=>by
  by_cases hS:S=T
  ·subst hS
   exact⟨[e],by rw[eLT,ql],fun f hf=>by rw[List.mem_singleton.1 hf];exact he⟩
  ·exact⟨[],by rw[eLn S hS,List.append_nil],fun _ h=>by cases h⟩,fun _ _ _ h=>by rw[eK];exact h,fun S u=>by
  rw[eak]
  by_cases hc:S=T∧u=v
  ·rw[hc.1,hc.2,cY]
   omega
  ·rw[bQ _ _ hc]
   exact Nat.le_refl _,fun U u hu=>by rw[evt,evl];exact⟨O,O⟩,fun U c' hs=>by rw[esd,ecl];exact⟨hs,O⟩⟩
 have hx: ∀ S U u,S<U→g.vt U u≠0→h.ak S u=g.ak S u:=fun S U u h1 h2=>by
  rw[eak]
  refine bQ _ _ fun h=>h2 ?_
  rw[h.2]
  exact o.v0 U (by omega)
 have hNA: ∀ S W i u,g.El S→g.El W→S<W→i≤g.ak S u→ ¬ Ag i (g.LL S) (g.LL W)→ ¬ Ag i (h.LL S) (h.LL W):=fun S W i u h1 h2 h3 h4 h5 h6=>h5 (H.agb F h1 h2 h3 (Nat.le_trans h4 (F.aks S u h1)) h6)
 have F':Ft C h:=by
  refine⟨fun U hU=>?_,fun U hU=>?_,fun U hU=>?_,fun U u hu=>?_,fun U u hu=>?_,fun U u hu=>?_,fun U c' hs=>?_,fun U hU=>?_,fun S U u h1 h2 h3 i hi=>?_,fun U u hU=>?_,fun U k f a1 a2 a3 a4=>?_,fun S i j hK=>?_⟩
  ·rw[eEl] at hU
   by_cases hUT:U=T
   ·subst hUT
    rw[eLT]
    refine⟨fun k f hk=>?_,fun i j f f' hij hi hj=>?_⟩
    ·rcases fB hk with⟨k1,k2⟩|⟨k1,k2⟩
     ·obtain⟨b1,b2⟩:=H.wf ow.1 k f k2
      exact⟨b1,(b2.symm.app [e]).symm⟩
     ·subst k1
      subst k2
      rw[he,eEl,eLT]
      exact⟨hU,Ag.refl (by simp)⟩
    ·rcases fB hi with⟨k1,k2⟩|⟨k1,k2⟩
     ·rcases fB hj with⟨m1,m2⟩|⟨m1,m2⟩
      ·exact ow.2.1 i j f f' hij k2 m2
      ·rw[m2,he]
       exact ow.2.2 f (gM k2)
     ·rcases fB hj with⟨m1,m2⟩|⟨m1,m2⟩
      ·omega
      ·rw[m2,k2];exact Nat.le_refl _
   ·rw[eLn U hUT]
    exact⟨H.wf (F.ll U hU).1,(F.ll U hU).2⟩
  ·rw[eEl] at hU
   rw[een]
   by_cases hUT:U=T
   ·subst hUT
    have hlo:=F.lo U hU
    rw[ql] at hlo
    rw[eLT]
    refine⟨by rw[List.length_append];omega,fun k f hk=>?_⟩
    rcases fB hk with⟨k1,k2⟩|⟨k1,k2⟩
    ·exact hlo.2 k f k2
    ·rw[k2]
     exact⟨fun h=>by omega,fun _=>he⟩
   ·rw[eLn U hUT]
    exact F.lo U hU
  ·rw[eEl] at hU
   obtain⟨Q,q1,q2⟩:=F.el U hU
   rw[een,ec,evt,evl,H.tk hU (F.lo U hU).1]
   refine⟨Q,q1,fun u hu=>?_⟩
   obtain⟨v1,v2,v3,v4⟩:=q2 u hu
   refine⟨v1,v2,v3,fun S hS hE i hi=>?_⟩
   rw[eEl] at hE
   rw[hx S U u hS (by rw[v1];exact v2)] at hi
   rcases v4 S hS hE i hi with⟨W,w1,w2,w3,w4⟩|hq
   ·exact Or.inl ⟨W,w1,w2,by rw[eEl];exact w3,hNA S W i u hE w3 w1 hi w4⟩
   ·exact Or.inr (H.agS hE hq)
  ·rw[evt] at hu;rw[evl];exact F.vw U u hu
  ·rw[evt] at hu ⊢;rw[evl,ecl];exact F.vu U u hu
  ·rw[evt] at hu ⊢;rw[esd];exact F.vc U u hu
  ·rw[esd] at hs;rw[ecl];exact⟨H.wf (F.sw U c' hs).1,(F.sw U c' hs).2⟩
  ·rw[eEl] at hU
   rw[esd,ecl,ec,een,H.tk hU (F.lo U hU).1]
   exact F.es U hU
  ·rw[eEl] at h2
   rw[evt] at h3
   rw[hx S U u h1 h3] at hi
   rw[evl]
   rcases F.vf S U u h1 h2 h3 i hi with⟨W,w1,w2,w3,w4⟩|hq
   ·exact Or.inl ⟨W,w1,w2,by rw[eEl];exact w3,hNA S W i u h2 w3 w1 hi w4⟩
   ·exact Or.inr (H.agS h2 hq)
  ·rw[eEl] at hU
   rw[eak]
   by_cases hc:U=T∧u=v
   ·rw[hc.1,hc.2,cY,eLT,List.length_append]
    exact Nat.le_refl _
   ·rw[bQ _ _ hc]
    by_cases hUT:U=T
    ·subst hUT
     have:=F.aks U u hU
     rw[ql] at this
     rw[eLT,List.length_append]
     omega
    ·rw[eLn U hUT]
     exact F.aks U u hU
  ·rw[eEl] at a1
   rw[een] at a2
   have hold: ∀ k f,(g.LL U)[k]? =some f→g.en U≤k→C.ic f=true→(∃ c,wh C h U k c)∧C.Nr (C.cf ((h.LL U).take k)) (C.cf ((h.LL U).take (k+1))):=fun k f a3 a2 a4=>by
    have:=fP a3
    obtain⟨⟨c,hc⟩,h9⟩:=F.rc U k f a1 a2 a3 a4
    rw[H.tk a1 (by omega),H.tk a1 (by omega)]
    exact⟨⟨c,H.rc F (by omega) hc⟩,h9⟩
   by_cases hUT:U=T
   ·subst hUT
    rw[eLT] at a3
    rcases fB a3 with⟨k1,k2⟩|⟨k1,k2⟩
    ·rw[← ql] at k2
     exact hold k f k2 a2 a4
    ·subst k1
     subst k2
     obtain⟨⟨f',c1,c2,c3⟩,c4,c5⟩:=hic a4
     rw[eLT,List.take_append_of_le_length (Nat.le_refl _),List.take_length,show l.length+1=(l++[f]).length by simp,List.take_length]
     refine⟨⟨(s v).commit,?_,?_,fun k e' b1 b2 b3=>?_⟩,c5⟩
     ·rw[eK]
      rcases q2 with h|h
      ·rw[← ql] at c2
       have:=wj F a1 c2 c3
       omega
      ·exact h
     ·have:=fP c2;omega
     ·rw[eLT,List.getElem?_append_left b2] at b3
      exact c4 k e' b1 b3
   ·rw[eLn U hUT] at a3
    exact hold k f a3 a2 a4
  ·rw[eK] at hK
   obtain⟨a1,a2,a3,a4,⟨Q,b1,b2⟩,a6⟩:=F.kk S i j hK
   rw[eEl,een,H.tk a1 a4]
   refine⟨a1,a2,a3,?_,⟨Q,b1,fun u hu=>Nat.le_trans (b2 u hu) (H.ak S u)⟩,fun k f b1 b2 b3 b4=>?_⟩
   ·obtain⟨x,hx,_⟩:=H.ll S a1
    rw[hx,List.length_append]
    omega
   ·have b3':(g.LL S)[k]? =some f:=by
     obtain⟨x,hx,_⟩:=H.ll S a1
     rw[hx,List.getElem?_append_left (by omega)] at b3
     exact b3
    obtain⟨c,c1,c2⟩:=a6 k f b1 b2 b3' b4
    exact⟨c,c1,H.rc F (by omega) c2⟩
 refine⟨h,H,⟨F',fun U u hU=>?_,fun u hu=>?_⟩,by rw[hh, ← hT, ← hl]⟩
 ·rw[eEl] at hU
  rw[eak,bQ _ _ (fun hc=>hU (by rw[hc.1];exact qe.1))]
  exact I.a0 U u hU
 by_cases huv:u=v
 ·subst huv
  rw[aX]
  have hll:=F'.ll T (by rw[eEl];exact qe.1)
  rw[eLT] at hll
  have hbe: ∀ f∈l++[e],f.1≤T:=fun f hf=>by
   rcases List.mem_append.1 hf with hf|hf
   ·exact ow.2.2 f hf
   ·rw[List.mem_singleton.1 hf,he]
    exact Nat.le_refl _
  refine⟨by rw[h3,h1];exact⟨hll.1,hll.2,hbe⟩,by rw[h1,h2,evt,hT];exact o.vt,by rw[h1,evt,hT];exact o.v0,by rw[h1,esd,hT];exact o.sl,by rw[h1,eEl,ec,hT];exact o.el,fun h=>absurd (h5.symm.trans h) (by decide),fun _=>?_,fun S hS hp=>?_,?_⟩
  ·refine⟨by rw[h1,eEl,ec];exact qe,by rw[h1,eLT,h3],fun p hp=>?_,by rw[h1,h3,eak,cY,List.length_append];exact Nat.le_refl _,fun k f b1 b2 b3=>?_,by rw[h1,h4,een,eK];exact q2⟩
   ·rw[h6] at hp
    rw[h1]
    exact Nat.le_trans (qm p hp) (H.ak _ _)
   ·rw[h3] at b2
    rw[h1,een] at b1
    rw[h1,h4]
    rcases fB b2 with⟨k1,k2⟩|⟨k1,k2⟩
    ·obtain⟨c,c1,c2⟩:=q1 k f b1 k2 b3
     exact⟨c,c1,H.rc F (by rw[ql];omega) c2⟩
    ·subst k1
     subst k2
     obtain⟨⟨f',c1,c2,c3⟩,c4,c5⟩:=hic b3
     refine⟨(s u).commit,Nat.le_refl _,?_,?_,fun k e' b1 b2 b3=>?_⟩
     ·rw[eK]
      rcases q2 with h|h
      ·rw[← ql] at c2
       have:=wj F qe.1 c2 c3
       omega
      ·exact h
     ·have:=fP c2;omega
     ·rw[eLT,List.getElem?_append_left b2] at b3
      exact c4 k e' b1 b3
  ·rw[eEl] at hS
   rw[h1,h3,eEl]
   by_cases hST:S=T
   ·subst hST
    refine⟨Nat.le_refl _,fun i hi=>?_⟩
    rw[eak,cY] at hi
    right
    rw[eLT]
    exact Ag.refl (by simpa using hi)
   ·have e1:h.ak S u=g.ak S u:=by rw[eak,bQ _ _ (fun hc=>hST hc.1)]
    rw[e1] at hp ⊢
    obtain⟨p1,p2⟩:=o.ak S hS hp
    refine⟨by omega,fun i hi=>?_⟩
    rw[← hT] at p2
    rcases p2 i hi with⟨W,w1,w2,w3,w4⟩|hq
    ·exact Or.inl ⟨W,w1,w2,w3,hNA S W i u hS w3 w1 hi w4⟩
    ·right
     rw[← hl] at hq
     exact(H.agS hS hq).app [e]
  ·rw[h1,h3,h4]
   have hc:=o.cm.le F H
   have hn:(s u).commit≤l.length:=by
    rcases o.cm with h0|⟨T',i,j,h1',h2',h3',h4'⟩
    ·omega
    ·rw[hl];exact h4'.len
   rw[← hT, ← hl] at hc
   exact hc.of ((Ag.refl hn).app [e]).symm
 ·rw[dJ _ _ huv]
  refine One.le F H hu (I.on u hu) (fun U=>by rw[evt]) (fun U hs=>by rw[esd] at hs;exact hs) (fun U hU _=>by rw[eEl] at hU;exact hU) (fun U=>by rw[eak,bQ _ _ (fun hc=>huv hc.2)]) (fun h4=>?_) (fun U hU hn=>absurd (by rw[eEl] at hU;exact hU) hn) (fun S hS=>F.aks S u hS)
  refine eLn _ fun hc=>huv ?_
  have:=((I.on u hu).ld h4).el.2
  rw[hc] at this
  rw[← this,qe.2]
theorem Gg {C:Cf} {g:Gh} {s:Int→Sv} (I:Inv C g s) (v:Int) (hv:v≠0) (a:Sv) (hr:(s v).role=3) (e:En) (he:e.1=(s v).term) (hic:C.ic e=false) (hQ:C.Mj (C.cf (s v).log) (s v).votes)
  (h1:a.term=(s v).term) (h2:a.vote=(s v).vote) (h3:a.log=(s v).log++[e]) (h4:a.commit=(s v).commit) (h5:a.role=4) (h6: ∀ p∈a.mt,p.2=0):
  ∃ h,Le g h∧Inv C h (upd s v a)∧h.LL=upd g.LL (s v).term ((s v).log++[e]):=by
 obtain⟨T,hT⟩: ∃ T,T=(s v).term:=⟨_,O⟩
 obtain⟨l,hl⟩: ∃ l,l=(s v).log:=⟨_,O⟩
 have F:=I.F
 have o:=I.on v hv
 have q:=o.st hr
 rw[← hl] at h3 hQ
 rw[← hT] at he h1
 have qs:=q.sd;have qv:=q.vs;have qn:=q.ne
 rw[← hT] at qs qv qn
 rw[← hl] at qs
 have ow:=o.wf
 rw[← hl, ← hT] at ow
 have hbel:Aw T l:=by have:=(F.sw T v qs.1).2.2;rw[qs.2] at this;exact this
 have hnE: ¬ g.El T:=fun hE=>by
  obtain⟨Q,q1,q2⟩:=F.el T hE
  obtain⟨s1,s2,s3⟩:=F.es T hE
  have w1:Wn C g T v (s v).votes:=⟨by rw[qs.2];exact hQ,qv,hv,F.sw T v qs.1⟩
  have w2:Wn C g T (g.ec T) Q:=⟨by rw[s2];exact q1,fun u hu=>(q2 u hu).1,s3,F.sw T _ s1⟩
  exact qn ⟨hE,(Gf F w1 w2).symm⟩
 have hnE2: ∀ S,g.El S→S≠T:=fun S hS hc=>hnE (hc▸hS)
 obtain⟨h,hh⟩: ∃ h:Gh,h={g with El:=fun S=>g.El S∨S=T,ec:=upd g.ec T v,en:=upd g.en T l.length,LL:=upd g.LL T (l++[e]),ak:=g9 g.ak T v (l.length+1)}:=⟨_,O⟩
 have eLL: ∀ S,h.LL S=upd g.LL T (l++[e]) S:=fun _=>by rw[hh]
 have eak: ∀ S u,h.ak S u=g9 g.ak T v (l.length+1) S u:=fun _ _=>by rw[hh]
 have eEl: ∀ S,h.El S↔(g.El S∨S=T):=fun S=>by rw[hh]
 have ec: ∀ S,h.ec S=upd g.ec T v S:=fun _=>by rw[hh]
 have een: ∀ S,h.en S=upd g.en T l.length S:=fun _=>by rw[hh]
 have eK:h.K=g.K:=by rw[hh]
 have evt:h.vt=g.vt:=by rw[hh]
 have evl:h.vl=g.vl:=by rw[hh]
 have ecl:h.cl=g.cl:=by rw[hh]
 have esd:h.sd=g.sd:=by rw[hh]
 have eLT:h.LL T=l++[e]:=by rw[eLL,aX]
 have eLn: ∀ S,S≠T→h.LL S=g.LL S:=fun S hS=>by rw[eLL,dJ _ _ hS]
 have ecT:h.ec T=v:=by rw[ec,aX]
 have ecn: ∀ S,S≠T→h.ec S=g.ec S:=fun S hS=>by rw[ec,dJ _ _ hS]
 have enT:h.en T=l.length:=by rw[een,aX]
 have enn: ∀ S,S≠T→h.en S=g.en S:=fun S hS=>by rw[een,dJ _ _ hS]
 have hET:h.El T:=(eEl T).2 (Or.inr O)
 have aT: ∀ u,g.ak T u=0:=fun u=>I.a0 T u hnE
 have H:Le g h:=⟨fun S hS=>by
   have hS2:=hnE2 S hS
   exact⟨(eEl S).2 (Or.inl hS),ecn S hS2,enn S hS2⟩,fun S hS=>⟨[],by rw[eLn S (hnE2 S hS),List.append_nil],fun _ h=>by cases h⟩,fun _ _ _ h=>by rw[eK];exact h,fun S u=>by
  rw[eak]
  by_cases hc:S=T∧u=v
  ·rw[hc.1,hc.2,cY,aT]
   omega
  ·rw[bQ _ _ hc]
   exact Nat.le_refl _,fun U u hu=>by rw[evt,evl];exact⟨O,O⟩,fun U c' hs=>by rw[esd,ecl];exact⟨hs,O⟩⟩
 have hNA: ∀ S W i u,g.El S→g.El W→S<W→i≤g.ak S u→ ¬ Ag i (g.LL S) (g.LL W)→ ¬ Ag i (h.LL S) (h.LL W):=fun S W i u h1 h2 h3 h4 h5 h6=>h5 (H.agb F h1 h2 h3 (Nat.le_trans h4 (F.aks S u h1)) h6)
 have hak: ∀ S u,S≠T→h.ak S u=g.ak S u:=fun S u hS=>by rw[eak];exact bQ _ _ fun hc=>hS hc.1
 have hak2: ∀ U u,T<U→g.vt U u≠0→h.ak T u=0:=fun U u h1 h2=>by
  rw[eak,bQ _ _ (fun hc=>h2 (by rw[hc.2];exact o.v0 U (by omega)))]
  exact aT u
 have F':Ft C h:=by
  refine⟨fun U hU=>?_,fun U hU=>?_,fun U hU=>?_,fun U u hu=>?_,fun U u hu=>?_,fun U u hu=>?_,fun U c' hs=>?_,fun U hU=>?_,fun S U u g1 g2 g3 i hi=>?_,fun U u hU=>?_,fun U k f a1 a2 a3 a4=>?_,fun S i j hK=>?_⟩
  ·by_cases hUT:U=T
   ·subst hUT
    rw[eLT]
    refine⟨fun k f hk=>?_,fun i j f f' hij hi hj=>?_⟩
    ·rcases fB hk with⟨k1,k2⟩|⟨k1,k2⟩
     ·obtain⟨b1,b2⟩:=H.wf ow.1 k f k2
      exact⟨b1,(b2.symm.app [e]).symm⟩
     ·subst k1
      subst k2
      rw[he,eLT]
      exact⟨hU,Ag.refl (by simp)⟩
    ·rcases fB hi with⟨k1,k2⟩|⟨k1,k2⟩
     ·rcases fB hj with⟨m1,m2⟩|⟨m1,m2⟩
      ·exact ow.2.1 i j f f' hij k2 m2
      ·rw[m2,he]
       exact ow.2.2 f (gM k2)
     ·rcases fB hj with⟨m1,m2⟩|⟨m1,m2⟩
      ·omega
      ·rw[m2,k2];exact Nat.le_refl _
   ·have hU:=((eEl U).1 hU).resolve_right hUT
    rw[eLn U hUT]
    exact⟨H.wf (F.ll U hU).1,(F.ll U hU).2⟩
  ·by_cases hUT:U=T
   ·subst hUT
    rw[eLT,enT]
    refine⟨by rw[List.length_append];omega,fun k f hk=>?_⟩
    rcases fB hk with⟨k1,k2⟩|⟨k1,k2⟩
    ·exact⟨fun _=>hbel f (gM k2),fun h=>by omega⟩
    ·rw[k2]
     exact⟨fun h=>by omega,fun _=>he⟩
   ·have hU:=((eEl U).1 hU).resolve_right hUT
    rw[eLn U hUT,enn U hUT]
    exact F.lo U hU
  ·by_cases hUT:U=T
   ·subst hUT
    rw[eLT,enT,ecT,evt,evl,List.take_append_of_le_length (Nat.le_refl _),List.take_length]
    refine⟨(s v).votes,hQ,fun u hu=>?_⟩
    have hvu:=qv u hu
    have hn:g.vt U u≠0:=by rw[hvu];exact hv
    have hup:=F.vu U u hn
    rw[hvu,qs.2] at hup
    refine⟨hvu,hv,hup,fun S hS hE i hi=>?_⟩
    have hST:S≠U:=by omega
    have hE:=((eEl S).1 hE).resolve_right hST
    rw[hak S u hST] at hi
    rcases F.vf S U u hS hE hn i hi with⟨W,w1,w2,w3,w4⟩|hq
    ·have:=hnE2 W w3
     exact Or.inl ⟨W,w1,by omega,(H.el W w3).1,hNA S W i u hE w3 w1 hi w4⟩
    ·exact Or.inr (H.agS hE hq)
   ·have hU:=((eEl U).1 hU).resolve_right hUT
    obtain⟨Q,q1,q2⟩:=F.el U hU
    rw[enn U hUT,ecn U hUT,evt,evl,H.tk hU (F.lo U hU).1]
    refine⟨Q,q1,fun u hu=>?_⟩
    obtain⟨v1,v2,v3,v4⟩:=q2 u hu
    refine⟨v1,v2,v3,fun S hS hE i hi=>?_⟩
    by_cases hST:S=T
    ·subst hST
     rw[hak2 U u hS (by rw[v1];exact v2)] at hi
     exact Or.inr fun k hk=>absurd hk (by omega)
    have hE:=((eEl S).1 hE).resolve_right hST
    rw[hak S u hST] at hi
    rcases v4 S hS hE i hi with⟨W,w1,w2,w3,w4⟩|hq
    ·exact Or.inl ⟨W,w1,w2,(H.el W w3).1,hNA S W i u hE w3 w1 hi w4⟩
    ·exact Or.inr (H.agS hE hq)
  ·rw[evt] at hu;rw[evl];exact F.vw U u hu
  ·rw[evt] at hu ⊢;rw[evl,ecl];exact F.vu U u hu
  ·rw[evt] at hu ⊢;rw[esd];exact F.vc U u hu
  ·rw[esd] at hs;rw[ecl];exact⟨H.wf (F.sw U c' hs).1,(F.sw U c' hs).2⟩
  ·by_cases hUT:U=T
   ·subst hUT
    rw[esd,ecl,ecT,eLT,enT,List.take_append_of_le_length (Nat.le_refl _),List.take_length]
    exact⟨qs.1,qs.2,hv⟩
   ·have hU:=((eEl U).1 hU).resolve_right hUT
    rw[esd,ecl,ecn U hUT,enn U hUT,H.tk hU (F.lo U hU).1]
    exact F.es U hU
  ·rw[evt] at g3
   rw[evl]
   by_cases hST:S=T
   ·subst hST
    rw[hak2 U u g1 g3] at hi
    exact Or.inr fun k hk=>absurd hk (by omega)
   have g2:=((eEl S).1 g2).resolve_right hST
   rw[hak S u hST] at hi
   rcases F.vf S U u g1 g2 g3 i hi with⟨W,w1,w2,w3,w4⟩|hq
   ·exact Or.inl ⟨W,w1,w2,(H.el W w3).1,hNA S W i u g2 w3 w1 hi w4⟩
   ·exact Or.inr (H.agS g2 hq)
  ·by_cases hUT:U=T
   ·subst hUT
    rw[eak,eLT,List.length_append]
    by_cases hc:U=U∧u=v
    ·rw[hc.2,cY]
     exact Nat.le_refl _
    ·rw[bQ _ _ hc,aT]
     exact Nat.zero_le _
   ·have hU:=((eEl U).1 hU).resolve_right hUT
    rw[hak U u hUT,eLn U hUT]
    exact F.aks U u hU
  ·by_cases hUT:U=T
   ·subst hUT
    rw[enT] at a2
    rw[eLT] at a3
    rcases fB a3 with⟨k1,k2⟩|⟨k1,k2⟩
    ·omega
    ·rw[k2,hic] at a4
     cases a4
   ·have hU:=((eEl U).1 a1).resolve_right hUT
    rw[enn U hUT] at a2
    rw[eLn U hUT] at a3 ⊢
    have:=fP a3
    obtain⟨⟨c,hc⟩,h9⟩:=F.rc U k f hU a2 a3 a4
    exact⟨⟨c,H.rc F (by omega) hc⟩,h9⟩
  ·rw[eK] at hK
   obtain⟨a1,a2,a3,a4,⟨Q,b1,b2⟩,a6⟩:=F.kk S i j hK
   have hST:=hnE2 S a1
   rw[enn S hST,eLn S hST]
   refine⟨(H.el S a1).1,a2,a3,a4,⟨Q,b1,fun u hu=>Nat.le_trans (b2 u hu) (H.ak S u)⟩,fun k f b1 b2 b3 b4=>?_⟩
   obtain⟨c,c1,c2⟩:=a6 k f b1 b2 b3 b4
   exact⟨c,c1,H.rc F (by omega) c2⟩
 refine⟨h,H,⟨F',fun U u hU=>?_,fun u hu=>?_⟩,by rw[hh, ← hT, ← hl]⟩
 ·rw[eak,bQ _ _ (fun hc=>hU (by rw[hc.1];exact hET))]
  exact I.a0 U u fun hc=>hU ((eEl U).2 (Or.inl hc))
 by_cases huv:u=v
 ·subst huv
  rw[aX]
  have hll:=F'.ll T hET
  rw[eLT] at hll
  have hbe: ∀ f∈l++[e],f.1≤T:=fun f hf=>by
   rcases List.mem_append.1 hf with hf|hf
   ·exact ow.2.2 f hf
   ·rw[List.mem_singleton.1 hf,he]
    exact Nat.le_refl _
  have hcm:(s u).commit≤l.length:=by
   rcases o.cm with h0|⟨T',i,j,h1',h2',h3',h4'⟩
   ·omega
   ·rw[hl];exact h4'.len
  refine⟨by rw[h3,h1];exact⟨hll.1,hll.2,hbe⟩,by rw[h1,h2,evt,hT];exact o.vt,by rw[h1,evt,hT];exact o.v0,by rw[h1,esd,hT];exact o.sl,fun U hU hc=>?_,fun h=>absurd (h5.symm.trans h) (by decide),fun _=>?_,fun S hS hp=>?_,?_⟩
  ·rw[h1]
   by_cases hUT:U=T
   ·omega
   ·have hU:=((eEl U).1 hU).resolve_right hUT
    rw[ecn U hUT] at hc
    rw[hT]
    exact o.el U hU hc
  ·refine⟨by rw[h1];exact⟨hET,ecT⟩,by rw[h1,eLT,h3],fun p hp=>by rw[h6 p hp];exact Nat.zero_le _,by rw[h1,h3,eak,cY,List.length_append];exact Nat.le_refl _,fun k f b1 b2 b3=>?_,Or.inl (by rw[h1,h4,enT];exact hcm)⟩
   rw[h3] at b2
   rw[h1,enT] at b1
   rcases fB b2 with⟨k1,k2⟩|⟨k1,k2⟩
   ·omega
   ·rw[k2,hic] at b3
    cases b3
  ·rw[h1,h3]
   by_cases hST:S=T
   ·subst hST
    refine⟨Nat.le_refl _,fun i hi=>?_⟩
    rw[eak,cY] at hi
    right
    rw[eLT]
    exact Ag.refl (by simpa using hi)
   ·have hS:=((eEl S).1 hS).resolve_right hST
    rw[hak S u hST] at hp ⊢
    obtain⟨p1,p2⟩:=o.ak S hS hp
    refine⟨by omega,fun i hi=>?_⟩
    rw[← hT] at p2
    rcases p2 i hi with⟨W,w1,w2,w3,w4⟩|hq
    ·exact Or.inl ⟨W,w1,w2,(H.el W w3).1,hNA S W i u hS w3 w1 hi w4⟩
    ·right
     rw[← hl] at hq
     exact(H.agS hS hq).app [e]
  ·rw[h1,h3,h4]
   have hc:=o.cm.le F H
   rw[← hT, ← hl] at hc
   exact hc.of ((Ag.refl hcm).app [e]).symm
 ·rw[dJ _ _ huv]
  refine One.le F H hu (I.on u hu) (fun U=>by rw[evt]) (fun U hs=>by rw[esd] at hs;exact hs) (fun U hU hc=>?_) (fun U=>?_) (fun h4=>?_) (fun U hU hn=>I.a0 U u hn) (fun S hS=>F.aks S u hS)
  ·rcases(eEl U).1 hU with h|h
   ·exact h
   ·rw[h,ecT] at hc
    exact absurd hc.symm huv
  ·by_cases hUT:U=T
   ·subst hUT
    rw[eak,bQ _ _ (fun hc=>huv hc.2)]
   ·exact hak U u hUT
  ·exact eLn _ (hnE2 _ ((I.on u hu).ld h4).el.1)
def Gx (e:En):Bool:=decide (e.2.1=3)
def yX (c:List Int) (e:En):List Int:=if e.2.1=3 then C.cI e.2.2 else c
def lG (c0:List Int) (l:List En):List Int:=l.foldl yX c0
def Gi (a b:List Int):Prop:=C.right a=true∧C.right b=true∧(a=b∨C.kW a b=0)
def ind (b:Bool):Nat:=if b then 1 else 0
theorem r6: ∀ (ms:List Int) (b:Bool) (p:Int),(C.chk ms (b,p)).1=true→b=true
 |[],_,_,h=>h
 |m::ms,b,p,h=>by
  have:=r6 ms _ _ h
  simp only[Bool.and_eq_true] at this
  exact this.1.1
theorem r7: ∀ (ms:List Int) (b:Bool) (p:Int),(C.chk ms (b,p)).1=true→(∀ m∈ms,p<m∧1≤m∧m≤5)∧ms.Nodup
 |[],_,_,_=>⟨fun m hm=>absurd hm (List.not_mem_nil),List.nodup_nil⟩
 |m::ms,b,p,h=>by
  have h1:=r6 ms _ _ h
  have h2:=r7 ms _ _ h
  simp only[Bool.and_eq_true,C.kx,decide_eq_true_eq] at h1
  refine⟨fun k hk=>?_,List.nodup_cons.2 ⟨fun hm=>?_,h2.2⟩⟩
  ·rcases List.mem_cons.1 hk with rfl|hk
   ·exact⟨h1.2,h1.1.2⟩
   ·have:=h2.1 k hk
    exact⟨by omega,this.2⟩
  ·have:=h2.1 m hm;omega
theorem dL {ms:List Int} (h:C.right ms=true):(∀ m∈ms,1≤m∧m≤5)∧ms.Nodup:=by
 obtain⟨h1,h2⟩:=r7 ms _ _ h
 exact⟨fun m hm=>(h1 m hm).2,h2⟩
theorem tN (p:Int→Bool): ∀ (ms:List Int),(∀ m∈ms,1≤m∧m≤5)→ms.Nodup→
  ms.countP p=ind (decide ((1:Int)∈ms)&&p 1)+ind (decide ((2:Int)∈ms)&&p 2)+ind (decide ((3:Int)∈ms)&&p 3)+ind (decide ((4:Int)∈ms)&&p 4)+ind (decide ((5:Int)∈ms)&&p 5)
 |[],_,_=>by simp[ind]
 |m::ms,h,hn=>by
  rw[List.nodup_cons] at hn
  have ih:=tN p ms (fun k hk=>h k (List.mem_cons_of_mem _ hk)) hn.2
  have hm:=h m (List.mem_cons_self ..)
  rw[List.countP_cons,ih]
  have hn1:=hn.1
  rcases(by omega:m=1∨m=2∨m=3∨m=4∨m=5) with rfl|rfl|rfl|rfl|rfl<;>cases hp:p _<;>simp[ind,hn1,hp]<;>omega
theorem z8 {ms:List Int} (h:C.right ms=true):ms.length=ind (decide ((1:Int)∈ms))+ind (decide ((2:Int)∈ms))+ind (decide ((3:Int)∈ms))+ind (decide ((4:Int)∈ms))+ind (decide ((5:Int)∈ms)):=by
 have:=tN (fun _=>true) ms (dL h).1 (dL h).2
 simpa using this
theorem kQ (a b q r:Bool) (h:(q&&r)=false):2*(ind (a&&q)+ind (b&&r))≤ind a+ind b+ind (a&& !b)+ind (b&& !a):=by
 cases a<;>cases b<;>cases q<;>cases r<;>simp[ind] at h ⊢
theorem wl {a b q r:List Int} (h:Gi a b) (h1:C.dD a q=true) (h2:C.dD b r=true): ∃ v,v∈q∧v∈r:=by
 refine Classical.byContradiction fun hno=>?_
 have hd: ∀ v:Int,(decide (v∈q)&&decide (v∈r))=false:=fun v=>by
  cases hb:(decide (v∈q)&&decide (v∈r)) with
  |false=>rfl
  |true=>
   simp only[Bool.and_eq_true,decide_eq_true_eq] at hb
   exact absurd ⟨v,hb⟩ hno
 obtain⟨ra,rb,hs⟩:=h
 simp only[C.dD,Bool.and_eq_true,decide_eq_true_eq] at h1 h2
 have m1:=h1.2
 have m2:=h2.2
 rw[tN _ a (dL ra).1 (dL ra).2,z8 ra] at m1
 rw[tN _ b (dL rb).1 (dL rb).2,z8 rb] at m2
 have hd5:ind (decide ((1:Int)∈a)&& !decide ((1:Int)∈b))+ind (decide ((2:Int)∈a)&& !decide ((2:Int)∈b))+ind (decide ((3:Int)∈a)&& !decide ((3:Int)∈b))+ind (decide ((4:Int)∈a)&& !decide ((4:Int)∈b))+ind (decide ((5:Int)∈a)&& !decide ((5:Int)∈b))+(ind (decide ((1:Int)∈b)&& !decide ((1:Int)∈a))+ind (decide ((2:Int)∈b)&& !decide ((2:Int)∈a))+ind (decide ((3:Int)∈b)&& !decide ((3:Int)∈a))+ind (decide ((4:Int)∈b)&& !decide ((4:Int)∈a))+ind (decide ((5:Int)∈b)&& !decide ((5:Int)∈a)))≤1:=by
  rcases hs with rfl|hs
  ·simp[ind]
  ·have hl:C.lA a b+C.lA b a≤1:=by
    rw[C.kW,ra,rb] at hs
    simp only[Bool.and_self,if_true] at hs
    split at hs
    ·cases hs
    ·omega
   rw[C.lA,C.lA,ra,rb] at hl
   simp only[Bool.true_and] at hl
   rw[tN _ a (dL ra).1 (dL ra).2,tN _ b (dL rb).1 (dL rb).2] at hl
   exact hl
 have p1:=kQ (decide ((1:Int)∈a)) (decide ((1:Int)∈b)) _ _ (hd 1)
 have p2:=kQ (decide ((2:Int)∈a)) (decide ((2:Int)∈b)) _ _ (hd 2)
 have p3:=kQ (decide ((3:Int)∈a)) (decide ((3:Int)∈b)) _ _ (hd 3)
 have p4:=kQ (decide ((4:Int)∈a)) (decide ((4:Int)∈b)) _ _ (hd 4)
 have p5:=kQ (decide ((5:Int)∈a)) (decide ((5:Int)∈b)) _ _ (hd 5)
 omega
theorem na {a q:List Int} (h:C.dD a q=true):C.right a=true:=by
 simp only[C.dD,Bool.and_eq_true] at h
 exact h.1
theorem wm {a b:List Int} (h:C.kW a b=0):C.kW b a=0:=by
 unfold C.kW at h ⊢
 rw[Bool.and_comm,Nat.add_comm]
 exact h
def CC (c0:List Int):Cf where
 ic:=Gx
 cf:=lG c0
 Mj:=fun a q=>C.dD a q=true
 Nr:=Gi
 same:=fun l e h=>by
  unfold lG
  rw[List.foldl_append]
  simp only[List.foldl_cons,List.foldl_nil,yX]
  rw[if_neg (by simpa[Gx] using h)]
 over:=fun a b q r h h1 h2=>wl h h1 h2
 symm:=fun a b h=>⟨h.2.1,h.1,h.2.2.elim (fun e=>Or.inl e.symm) fun e=>Or.inr (wm e)⟩
 refl:=fun a q h=>⟨na h,na h,Or.inl O⟩
theorem k8 (m:Int) (a:Nat): ∀ (L:List (Int×Nat)) (b:Nat),a≤L.foldl (fun n x=>if x.1=m then max n x.2 else n) b↔a≤b∨ ∃ x∈L,x.1=m∧a≤x.2
 |[],b=>by simp
 |y::L,b=>by
  rw[List.foldl_cons,k8 m a L]
  simp only[List.mem_cons,exists_eq_or_imp]
  split
  ·rename_i h
   simp only[h,true_and]
   constructor
   ·rintro(h1|h1)
    ·rcases Nat.le_total b y.2 with h2|h2
     ·rw[Nat.max_eq_right h2] at h1
      exact Or.inr (Or.inl h1)
     ·rw[Nat.max_eq_left h2] at h1
      exact Or.inl h1
    ·exact Or.inr (Or.inr h1)
   ·rintro(h1|h1|h1)
    ·exact Or.inl (by omega)
    ·exact Or.inl (by omega)
    ·exact Or.inr h1
  ·rename_i h
   simp[h]
theorem yi {ms:List Int} {L:List (Int×Nat)} {n:Nat} (h:kI ms L=n) (h0:0<n): ∃ Q,C.dD ms Q=true∧ ∀ u∈Q, ∃ p∈L,p.1=u∧n≤p.2:=by
 unfold kI at h
 split at h
 ·rename_i hr
  refine⟨ms.filter fun x=>decide (n≤C.dH L x),?_,fun u hu=>?_⟩
  ·have key: ∀ (k:List Int) (b:Nat),(k.foldl (fun b m=>if ms.length<2*ms.countP (fun x=>decide (C.dH L m≤C.dH L x)) then max b (C.dH L m) else b) b=b)∨ ∃ m,k.foldl (fun b m=>if ms.length<2*ms.countP (fun x=>decide (C.dH L m≤C.dH L x)) then max b (C.dH L m) else b) b=C.dH L m∧ms.length<2*ms.countP (fun x=>decide (C.dH L m≤C.dH L x)):=by
    intro k
    induction k with
    |nil=>exact fun b=>Or.inl O
    |cons m k ih=>
     intro b
     rw[List.foldl_cons]
     split
     ·rename_i hm
      rcases ih (max b (C.dH L m)) with h1|h1
      ·rw[h1]
       rcases Nat.le_total b (C.dH L m) with h2|h2
       ·exact Or.inr ⟨m,Nat.max_eq_right h2,hm⟩
       ·exact Or.inl (Nat.max_eq_left h2)
      ·exact Or.inr h1
     ·exact ih b
   unfold C.sP at h
   rw[List.take_length] at h
   rcases key ms 0 with h1|⟨m,h1,h2⟩
   ·rw[h1] at h;omega
   ·rw[h1] at h
    simp only[C.dD,hr,Bool.true_and,decide_eq_true_eq]
    rw[h] at h2
    rw[show ms.countP (fun m=>decide (m∈ms.filter fun x=>decide (n≤C.dH L x)))=ms.countP (fun x=>decide (n≤C.dH L x)) from List.countP_congr fun x hx=>by simp[List.mem_filter,hx]]
    exact h2
  ·rw[List.mem_filter,decide_eq_true_eq] at hu
   rcases(k8 u n L 0).1 hu.2 with h1|h1
   ·omega
   ·exact h1
 ·omega
def tmA (l:List En) (k:Nat):Nat:=if k=0 then 0 else ((l[k-1]?).map (·.1)).getD 0
structure Rl (c0:List Int) (x:Rs) (l:List En):Prop where
 bl:x.base.1≤l.length
 es:x.es=l.drop x.base.1
 bt:x.base.2=tmA l x.base.1
 cf:x.cf=lG c0 (l.take x.base.1)
theorem iT {l:List En} {k:Nat} {e:En} (h:l[k]? =some e):tmA l (k+1)=e.1:=by
 rw[tmA,if_neg (by omega),Nat.add_sub_cancel,h];rfl
theorem nN (l:List En):tmA l l.length=lt l:=by
 unfold tmA lt
 split
 ·rename_i h
  rw[List.length_eq_zero_iff.1 h];rfl
 ·rw[List.getLast?_eq_getElem?]
theorem wn {n:Nat} {a b:List En} (h:Ag n a b) {k:Nat} (hk:k≤n):tmA a k=tmA b k:=by
 unfold tmA
 split
 ·rfl
 ·rw[h.at (by omega)]
theorem kR {l:List En} {n k:Nat} (h:k≤n):tmA (l.take n) k=tmA l k:=by
 unfold tmA
 split
 ·rfl
 ·rw[List.getElem?_take,if_pos (by omega)]
variable {c0:List Int} {x:Rs} {l:List En}
theorem Rl.len (h:Rl c0 x l):x.base.1+x.es.length=l.length:=by
 have:=h.bl
 rw[h.es,List.length_drop];omega
theorem Rl.at (h:Rl c0 x l) (j:Nat):x.es[j]? =l[x.base.1+j]? :=by rw[h.es,List.getElem?_drop]
theorem Rl.plc (h:Rl c0 x l) {j:Nat} (hj:j≤x.es.length):db x.base x.es j=(x.base.1+j,tmA l (x.base.1+j)):=by
 unfold db
 split
 ·rename_i h0
  rw[h0,Nat.add_zero, ← h.bt]
 ·rename_i h0
  congr 1
  rw[tmA,if_neg (by omega),show x.base.1+j-1=x.base.1+(j-1) by omega, ← h.at]
  obtain⟨e,he⟩:=dj (l:=x.es) (k:=j-1) (by omega)
  rw[he,List.getD_eq_getElem?_getD,he]
  rfl
theorem Rl.lst (h:Rl c0 x l):cM x.base x.es=(l.length,lt l):=by
 have hl:=h.len
 rw[cM,hl]
 congr 1
 unfold eM
 rw[← nN, ← hl]
 rcases Nat.eq_zero_or_pos x.es.length with h0|h0
 ·rw[List.length_eq_zero_iff.1 h0]
  simp[h.bt]
 ·obtain⟨e,he⟩:=dj (l:=x.es) (k:=x.es.length-1) (by omega)
  rw[List.getLast?_eq_getElem?,he,tmA,if_neg (by omega),show x.base.1+x.es.length-1=x.base.1+(x.es.length-1) by omega, ← h.at,he]
  rfl
theorem Rl.lastP (h:Rl c0 x l) (hr:br x.base x.es=true):lastP x=(l.length,lt l):=by
 rw[Go.Proofs.YtdeffdldifepkaaGreat.lastP,if_pos hr,h.lst]
theorem Rl.fnd (h:Rl c0 x l) (idx:Nat):d5 x.base x.es idx=if x.base.1≤idx∧idx≤l.length then (((idx-x.base.1:Nat):Int),(idx,tmA l idx)) else (-1,(0,0)):=by
 unfold d5
 rw[h.len]
 split
 ·rename_i hc
  have:=h.len
  rw[h.plc (by omega),show x.base.1+(idx-x.base.1)=idx by omega]
 ·rfl
theorem Rl.has (h:Rl c0 x l) (p:At):fu x.base x.es p=true↔x.base.1≤p.1∧p.1≤l.length∧p.2=tmA l p.1:=by
 unfold fu
 rw[h.fnd]
 split
 ·rename_i hc
  obtain⟨a,b⟩:=p
  simp only[Bool.and_eq_true,decide_eq_true_eq,Prod.mk.injEq,true_and]
  constructor
  ·rintro⟨_,h2⟩;exact⟨hc.1,hc.2,h2.symm⟩
  ·rintro⟨_,_,h3⟩;exact⟨by omega,h3.symm⟩
 ·rename_i hc
  constructor
  ·intro h2;simp at h2
  ·rintro⟨h1,h2,_⟩;exact absurd ⟨h1,h2⟩ hc
theorem Rl.trm (h:Rl c0 x l) (hr:br x.base x.es=true) {idx:Nat} (h1:x.base.1≤idx) (h2:idx≤l.length):eC x.base x.es idx=(tmA l idx,true):=by
 unfold eC
 rw[if_pos hr,h.fnd,if_pos ⟨h1,h2⟩]
 simp
theorem nO (c:List Int) (a b:List En):lG c (a++b)=lG (lG c a) b:=by unfold lG;rw[List.foldl_append]
theorem qI (x:Rs) (idx:Nat) (hi: ∀ j,j≤x.es.length→(x.base.1+j≤idx↔j≤idx-x.base.1)): ∀ m,m≤x.es.length→(if kG x.base x.es idx m=0 then x.cf else C.cI (x.es.getD (kG x.base x.es idx m-1) default).2.2)=lG x.cf (x.es.take (min m (idx-x.base.1))):=by
 intro m
 induction m with
 |zero=>intro _;simp[kG,lG]
 |succ m ih=>
  intro hm
  have ih:=ih (by omega)
  have hi:=hi (m+1) hm
  obtain⟨e,he⟩:=dj (l:=x.es) (k:=m) (by omega)
  have hg:x.es.getD m default=e:=by rw[List.getD_eq_getElem?_getD,he];rfl
  have hcf:kG x.base x.es idx (m+1)=if s5 x.base x.es idx (m+1)=true then m+1 else kG x.base x.es idx m:=rfl
  by_cases hc:x.base.1+(m+1)≤idx
  ·have hmin:min (m+1) (idx-x.base.1)=m+1:=by omega
   have hmin2:min m (idx-x.base.1)=m:=by omega
   rw[hmin2] at ih
   have hT:s5 x.base x.es idx (m+1)=decide (e.2.1=3):=by
    unfold s5
    rw[Nat.add_sub_cancel,hg,decide_eq_true hc]
    simp
   rw[hmin,List.take_add_one,he,nO, ← ih,hcf,hT]
   by_cases h3:e.2.1=3
   ·rw[if_pos (decide_eq_true h3),if_neg (Nat.succ_ne_zero m),Nat.add_sub_cancel,hg]
    simp only[Option.toList_some,lG,List.foldl_cons,List.foldl_nil,yX,if_pos h3]
   ·have h4: ¬ decide (e.2.1=3)=true:=by simpa using h3
    rw[if_neg h4]
    simp only[Option.toList_some,lG,List.foldl_cons,List.foldl_nil,yX,if_neg h3]
  ·have hmin:min (m+1) (idx-x.base.1)=min m (idx-x.base.1):=by omega
   have hT:s5 x.base x.es idx (m+1)=false:=by
    unfold s5
    simp[hc]
   have h4: ¬ s5 x.base x.es idx (m+1)=true:=by rw[hT];simp
   rw[hmin, ← ih,hcf,if_neg h4]
theorem Rl.frc (h:Rl c0 x l) (hr:br x.base x.es=true) {idx:Nat} (h1:x.base.1≤idx):iQ x idx=lG c0 (l.take idx):=by
 have hf:=qI x idx (fun j hj=>by omega) x.es.length (Nat.le_refl _)
 unfold iQ fv
 rw[if_pos hr]
 have e:lG c0 (l.take idx)=lG x.cf (x.es.take (min x.es.length (idx-x.base.1))):=by
  have e1:l.take idx=l.take x.base.1++x.es.take (idx-x.base.1):=by
   have:=List.take_append_drop x.base.1 (l.take idx)
   rw[List.take_take,Nat.min_eq_left h1,List.drop_take] at this
   rw[h.es,this]
  rw[e1,nO,h.cf]
  congr 1
  rcases Nat.le_total x.es.length (idx-x.base.1) with h2|h2
  ·rw[Nat.min_eq_left h2,List.take_of_length_le h2,List.take_length]
  ·rw[Nat.min_eq_right h2]
 rw[e, ← hf]
 by_cases h0:kG x.base x.es idx x.es.length=0
 ·simp only[if_pos h0]
  simp
 ·simp only[if_neg h0]
  simp
theorem Rl.now (h:Rl c0 x l) (hr:br x.base x.es=true):aJ x=lG c0 l:=by
 rw[aJ,h.lastP hr,h.frc hr h.bl,List.take_length]
def okE (e:En):Prop:=eQ e=true∧(e.2.1=3→gm e.2.2=true)
theorem okE.pos {e:En} (h:okE e):0<e.1:=by
 have:=h.1
 unfold eQ at this
 split at this
 ·simp at this;exact this.1
 ·split at this
  ·simp at this;exact this.1
  ·cases this
theorem nb: ∀ (l:List En) (t:Nat),(∀ e∈l,okE e)→Mono l→(∀ e∈l,t≤e.1)→bw l t=true
 |[],_,_,_,_=>rfl
 |e::l,t,ho,hm,ht=>by
  rw[bw,(ho e (List.mem_cons_self ..)).1,decide_eq_true (ht e (List.mem_cons_self ..))]
  refine nb l e.1 (fun f hf=>ho f (List.mem_cons_of_mem _ hf)) (fun i j a b hij ha hb=>hm (i+1) (j+1) a b (by omega) ha hb) (fun f hf=>?_)
  obtain⟨k,hk⟩:=List.mem_iff_getElem?.1 hf
  exact hm 0 (k+1) e f (by omega) O hk
theorem mn {l:List En} {n:Nat} {e:En} (h:e∈l.drop n):e∈l:=List.mem_of_mem_drop h
variable {c0:List Int} {x:Rs} {l:List En}
theorem nP (ok: ∀ e∈l,okE e) {k:Nat} (h0:0<k) (hk:k≤l.length):0<tmA l k:=by
 obtain⟨e,he⟩:=dj (l:=l) (k:=k-1) (by omega)
 have:=iT he
 rw[show k-1+1=k by omega] at this
 rw[this]
 exact(ok e (gM he)).pos
theorem z9 (mo:Mono l) {k j:Nat} {e:En} (hk:k≤j) (hj:l[j]? =some e):tmA l k≤e.1:=by
 rcases Nat.eq_zero_or_pos k with h0|h0
 ·rw[h0];exact Nat.zero_le _
 ·have:=fP hj
  obtain⟨f,hf⟩:=dj (l:=l) (k:=k-1) (by omega)
  have h1:=iT hf
  rw[show k-1+1=k by omega] at h1
  rw[h1]
  exact mo _ _ _ _ (by omega) hf hj
theorem Mono.drop (h:Mono l) (n:Nat):Mono (l.drop n):=fun i j e f hij h1 h2=>by
 rw[List.getElem?_drop] at h1 h2
 exact h _ _ _ _ (by omega) h1 h2
theorem r8 (mo:Mono l) (ok: ∀ e∈l,okE e) (n:Nat):bw (l.drop n) (tmA l n)=true:=
 nb _ _ (fun e he=>ok e (mn he)) (mo.drop n) (fun e he=>by
  obtain⟨k,hk⟩:=List.mem_iff_getElem?.1 he
  rw[List.getElem?_drop] at hk
  exact z9 mo (by omega) hk)
theorem yj (l:List En) (ok: ∀ e∈l,okE e) (k:Nat) (hk:k≤l.length):(decide (((k,tmA l k):At)=(0,0))||(decide (0<k)&&decide (0<tmA l k)))=true:=by
 rcases Nat.eq_zero_or_pos k with h0|h0
 ·subst h0;rfl
 ·have:=nP ok h0 hk
  simp[h0,this]
theorem Rl.right (h:Rl c0 x l) (ok: ∀ e∈l,okE e) (mo:Mono l) (h16:x.es.length≤16) (hb:l.length≤100000):br x.base x.es=true:=by
 have hl:=h.len
 have hbl:=h.bl
 have e1:x.base=(x.base.1,tmA l x.base.1):=by rw[← h.bt]
 unfold br
 rw[e1,yj l ok _ h.bl,h.es,r8 mo ok, ← h.es,decide_eq_true h16,decide_eq_true (show x.base.1≤18446744073709551614-x.es.length by omega)]
 rfl
theorem DW {n:Nat} (ht: ∀ e∈l,e.1≤n):lt l≤n:=by
 rcases Nat.eq_zero_or_pos l.length with h0|h0
 ·rw[List.length_eq_zero_iff.1 h0];exact Nat.zero_le _
 ·obtain⟨e,he,h1⟩:=r5 h0
  rw[h1];exact ht e (gM he)
theorem Rl.chk (h:Rl c0 x l) (hr:br x.base x.es=true) (ht: ∀ e∈l,e.1≤x.term):eL x.base x.es x.term=0:=by
 unfold eL
 rw[if_pos hr,h.lst,if_neg (by have:=DW ht;omega)]
theorem o7 {l:List En} (ok: ∀ e∈l,okE e):ea l=true:=by
 unfold ea
 rw[List.all_eq_true]
 intro e he
 by_cases h3:e.2.1=3
 ·rw[(ok e he).2 h3];simp
 ·simp[h3]
theorem Rl.sound (h:Rl c0 x l) (ok: ∀ e∈l,okE e):ea x.es=true:=o7 fun e he=>ok e (by rw[h.es] at he;exact mn he)
theorem qJ {d:List UInt8} (h:gm d=true):C.right (C.cI d)=true:=by
 have h0:C.jJ d=0:=by simpa[gm] using h
 rw[C.cI,if_pos h0]
 unfold C.jJ at h0
 split at h0
 ·cases h0
 ·split at h0
  ·rename_i h1;exact h1.2
  ·cases h0
theorem jE: ∀ (l:List En) (c:List Int),(∀ e∈l,okE e)→C.right c=true→C.right (lG c l)=true
 |[],_,_,h=>h
 |e::l,c,ok,h=>by
  have e1:lG c (e::l)=lG (yX c e) l:=rfl
  rw[e1]
  refine jE l _ (fun f hf=>ok f (List.mem_cons_of_mem _ hf)) ?_
  unfold yX
  split
  ·rename_i h3
   exact qJ ((ok e (List.mem_cons_self ..)).2 h3)
  ·exact h
structure Cr (x:Rs) (n:Nat):Prop where
 tm:x.term≤4611686018427387904
 vt:0≤x.vote∧x.vote≤5
 ld:0≤x.leader∧x.leader≤5
 cm:x.base.1≤x.commit∧x.commit≤n
 li:4≤x.limit∧x.limit≤16
 ck:0≤x.clock∧x.clock≤x.limit
 ro:di x n=true
structure Sp (c0:List Int) (v:Int) (x:Rs) (l:List En):Prop where
 rl:Rl c0 x l
 me:x.me=v
 es:x.es.length≤16
 cr:Cr x l.length
def nf (x:Rs) (l:List En):Sv:=⟨x.term,x.vote,x.role,x.votes,x.commit,x.peers.map fun p=>(p.1,p.2.2),l⟩
def Gk (g:Gh) (B:Nat):Prop:= ∀ T,(g.LL T).length≤B∧ ∀ e∈g.LL T,okE e
def tY (S:Int→Rs×List En):Int→Sv:=fun v=>nf (S v).1 (S v).2
theorem de (S:Int→Rs×List En) (v:Int) (y:Rs×List En):tY (upd S v y)=upd (tY S) v (nf y.1 y.2):=by
 funext u
 by_cases h:u=v
 ·subst h;simp[tY,aX]
 ·simp[tY,dJ _ _ h]
structure RI (c0:List Int) (g:Gh) (S:Int→Rs×List En) (B:Nat):Prop where
 inv:Inv (CC c0) g (tY S)
 gk:Gk g B
 lim:B≤100000
 rc:C.right c0=true
 sp: ∀ v,1≤v→v≤5→Sp c0 v (S v).1 (S v).2
section
variable {g:Gh} {S:Int→Rs×List En} {B:Nat}
theorem Gk.wf (hg:Gk g B) {l:List En} (hw:Wf g l):(∀ e∈l,okE e)∧l.length≤B:=by
 refine⟨fun e he=>?_,?_⟩
 ·obtain⟨k,hk⟩:=List.mem_iff_getElem?.1 he
  obtain⟨h1,h2⟩:=hw k e hk
  exact(hg e.1).2 e (gM (by rw[← h2.at (Nat.lt_succ_self k),hk]))
 ·rcases Nat.eq_zero_or_pos l.length with h0|h0
  ·omega
  ·obtain⟨e,he,_⟩:=r5 h0
   have:=(hw _ e he).2.len2
   have:=(hg e.1).1
   omega
theorem RI.ok (h:RI c0 g S B) {v:Int} (hv:v≠0):(∀ e∈(S v).2,okE e)∧(S v).2.length≤B:=h.gk.wf (h.inv.on v hv).wf.1
theorem RI.mo (h:RI c0 g S B) {v:Int} (hv:v≠0):Mono (S v).2:=(h.inv.on v hv).wf.2.1
theorem RI.tm (h:RI c0 g S B) {v:Int} (hv:v≠0): ∀ e∈(S v).2,e.1≤(S v).1.term:=(h.inv.on v hv).wf.2.2
theorem RI.rt (h:RI c0 g S B) {v:Int} (h1:1≤v) (h5:v≤5):br (S v).1.base (S v).1.es=true:=by
 have s:=h.sp v h1 h5
 have hl:=h.lim
 have o:=h.ok (v:=v) (by omega)
 exact s.rl.right o.1 (h.mo (by omega)) s.es (by omega)
theorem RI.ck (h:RI c0 g S B) {v:Int} (h1:1≤v) (h5:v≤5):cz (S v).1=true:=by
 have s:=h.sp v h1 h5
 have hr:=h.rt h1 h5
 have o:=h.ok (v:=v) (by omega)
 have c:=s.cr
 have hlp:=s.rl.lastP hr
 unfold cz
 rw[s.rl.chk hr (h.tm (v:=v) (by omega)),s.rl.sound o.1,s.rl.cf,jE _ _ (fun e he=>o.1 e (List.mem_of_mem_take he)) h.rc,hlp,c.ro,s.me]
 simp[iO,h1,h5,c.tm,c.vt,c.ld,c.cm,c.li,c.ck]
end
structure Om (c0:List Int) (g:Gh) (B:Nat) (m:Ms):Prop where
 r:dm m=true
 s:ea m.es=true
 cr:m.K=7→C.right m.cf=true
 ix:m.ix≤B
 k3:m.K=3→g.sd m.tm m.F∧m.pl=((g.cl m.tm m.F).length,lt (g.cl m.tm m.F))
 k4:m.K=4→m.ok=true→g.vt m.tm m.F=m.T
 k5:m.K=5→g.El m.tm∧m.pl.1+m.es.length≤(g.LL m.tm).length∧m.pl.2=tmA (g.LL m.tm) m.pl.1∧m.es=((g.LL m.tm).take (m.pl.1+m.es.length)).drop m.pl.1∧Cd g (g.LL m.tm) m.cm m.tm
 k6:m.K=6→m.ok=true→g.El m.tm∧m.ix≤g.ak m.tm m.F
 k7:m.K=7→g.El m.tm∧0<m.pl.1∧m.pl.1≤(g.LL m.tm).length∧m.pl.2=tmA (g.LL m.tm) m.pl.1∧Cd g (g.LL m.tm) m.pl.1 m.tm∧m.cf=lG c0 ((g.LL m.tm).take m.pl.1)
theorem Le.len {g h:Gh} (H:Le g h) {T:Nat} (hT:g.El T):(g.LL T).length≤(h.LL T).length:=by
 obtain⟨x,h1,_⟩:=H.ll T hT
 rw[h1,List.length_append];omega
theorem Le.tmA {g h:Gh} (H:Le g h) {T n:Nat} (hT:g.El T) (hn:n≤(g.LL T).length):tmA (h.LL T) n=tmA (g.LL T) n:=by
 rw[← kR (Nat.le_refl n),H.tk hT hn,kR (Nat.le_refl n)]
theorem Cd.grow {C:Cf} {g h:Gh} (F:Ft C g) (H:Le g h) {T n t:Nat} (hT:g.El T) (hc:Cd g (g.LL T) n t):Cd h (h.LL T) n t:=by
 rcases hc with h0|⟨S,i,j,h1,h2,h3,h4⟩
 ·exact Or.inl h0
 ·exact Or.inr ⟨S,i,j,H.kk _ _ _ h1,h2,h3,H.ag (F.kk _ _ _ h1).1 (H.agS hT h4)⟩
theorem Om.le {c0:List Int} {g h:Gh} {B B':Nat} {m:Ms} (o:Om c0 g B m) (F:Ft (CC c0) g) (H:Le g h) (hF:m.F≠0) (hT:m.T≠0) (hB:B≤B'):Om c0 h B' m where
 r:=o.r
 s:=o.s
 cr:=o.cr
 ix:=Nat.le_trans o.ix hB
 k3:=fun hk=>by
  obtain⟨h1,h2⟩:=o.k3 hk
  obtain⟨h3,h4⟩:=H.sd _ _ h1
  exact⟨h3,by rw[h4];exact h2⟩
 k4:=fun hk ho=>by
  have h1:=o.k4 hk ho
  rw[(H.vt _ _ (by rw[h1];exact hT)).1];exact h1
 k5:=fun hk=>by
  obtain⟨h1,h2,h3,h4,h5⟩:=o.k5 hk
  have hl:=H.len h1
  exact⟨(H.el _ h1).1,by omega,by rw[H.tmA h1 (by omega)];exact h3,by rw[H.tk h1 h2];exact h4,h5.grow F H h1⟩
 k6:=fun hk ho=>by
  obtain⟨h1,h2⟩:=o.k6 hk ho
  exact⟨(H.el _ h1).1,Nat.le_trans h2 (H.ak _ _)⟩
 k7:=fun hk=>by
  obtain⟨h1,h2,h3,h4,h5,h6⟩:=o.k7 hk
  have hl:=H.len h1
  exact⟨(H.el _ h1).1,h2,by omega,by rw[H.tmA h1 h3];exact h4,h5.grow F H h1,by rw[H.tk h1 h3];exact h6⟩
def Vk (x y:Rs):Prop:=x.term≤y.term∧(y.term=x.term→x.vote≠0→y.vote=x.vote)
def Tr (c0:List Int) (g:Gh) (S:Int→Rs×List En) (B:Nat) (v:Int) (y:Rs) (ms:List Ms) (B':Nat):Prop:=
 ∃ h l,Le g h∧RI c0 h (upd S v (y,l)) B'∧(∀ m∈ms,m.F=v∧Om c0 h B' m)∧Vk (S v).1 y
theorem gw {α β:Type} [DecidableEq α] (f:α→β) (a:α) (b c:β):upd (upd f a b) a c=upd f a c:=by
 funext u
 by_cases h:u=a
 ·subst h;rw[aX,aX]
 ·rw[dJ _ _ h,dJ _ _ h,dJ _ _ h]
section
variable {c0:List Int} {g:Gh} {S:Int→Rs×List En} {B B1 B2:Nat} {v:Int} {y z:Rs} {ms:List Ms}
theorem Tr.andThen (t:Tr c0 g S B v y [] B1) (k: ∀ h l,Le g h→RI c0 h (upd S v (y,l)) B1→Tr c0 h (upd S v (y,l)) B1 v z ms B2):Tr c0 g S B v z ms B2:=by
 obtain⟨h,l,H,R,_,V⟩:=t
 obtain⟨h2,l2,H2,R2,M2,V2⟩:=k h l H R
 rw[gw] at R2
 rw[aX] at V2
 refine⟨h2,l2,H.trans H2,R2,M2,Nat.le_trans V.1 V2.1,fun he hv=>?_⟩
 have h3:(S v).1.term≤y.term:=V.1
 have h4:y.term≤z.term:=V2.1
 have V3:z.term=y.term→y.vote≠0→z.vote=y.vote:=V2.2
 have e1:=V.2 (by omega) hv
 rw[V3 (by omega) (by rw[e1];exact hv),e1]
theorem RI.to (R:RI c0 g S B) {h:Gh} (l:List En) (B':Nat) (h1:1≤v) (h5:v≤5) (inv:Inv (CC c0) h (upd (tY S) v (nf y l))) (gk:Gk h B') (lim:B'≤100000) (sp:Sp c0 v y l):RI c0 h (upd S v (y,l)) B':=by
 refine⟨by rw[de];exact inv,gk,lim,R.rc,fun u a b=>?_⟩
 by_cases hu:u=v
 ·subst hu;rw[aX];exact sp
 ·rw[dJ _ _ hu];exact R.sp u a b
theorem Rl.same {x y:Rs} {l:List En} (h:Rl c0 x l) (hb:y.base=x.base) (he:y.es=x.es) (hc:y.cf=x.cf):Rl c0 y l:=⟨by rw[hb];exact h.bl,by rw[hb,he];exact h.es,by rw[hb];exact h.bt,by rw[hb,hc];exact h.cf⟩
theorem RI.soft (R:RI c0 g S B) (h1:1≤v) (h5:v≤5) (hm:y.me=v) (ht:y.term=(S v).1.term) (hv:y.vote=(S v).1.vote) (hb:y.base=(S v).1.base) (he:y.es=(S v).1.es) (hc:y.cf=(S v).1.cf) (hk:y.commit≤(S v).1.commit) (h3:y.role≠3) (h4:y.role≠4) (cr:Cr y (S v).2.length):RI c0 g (upd S v (y,(S v).2)) B:=by
 have s:=R.sp v h1 h5
 refine R.to _ B h1 h5 ?_ R.gk R.lim ⟨s.rl.same hb he hc,hm,by rw[he];exact s.es,cr⟩
 exact yU R.inv v _ ht hv O hk h3 h4
theorem Tr.one {h:Gh} {l:List En} (H:Le g h) (R:RI c0 h (upd S v (y,l)) B1) (M: ∀ m∈ms,m.F=v∧Om c0 h B1 m) (V:Vk (S v).1 y):Tr c0 g S B v y ms B1:=⟨h,l,H,R,M,V⟩
end
theorem mp {y:Rs} {n:Nat} (h1:y.role=1) (h2:y.votes=[]) (h3:y.peers=[]) (h4:y.leader≠y.me):di y n=true:=by
 unfold di
 simp[h1,h2,h3,h4]
theorem yY {y:Rs} {n:Nat} (h1:y.role=2) (h2:g7 y.votes=true) (h6:y.me∈y.votes) (h3:y.peers=[]) (h4:y.leader=0) (h5:y.me≠0):di y n=true:=by
 unfold di
 simp[h1,h2,h3,h4,h6,h5.symm]
theorem yZ {y:Rs} {n:Nat} (h1:y.role=3) (h2:g7 y.votes=true) (h6:y.me∈y.votes) (h3:y.peers=[]) (h4:y.leader=0) (h5:y.me≠0) (h7:y.vote=y.me) (h8:y.term≠0):di y n=true:=by
 unfold di
 simp[h1,h2,h3,h4,h6,h5.symm,h7,h8]
theorem r9 {y:Rs} {n:Nat} (h1:y.role=4) (h2:y.votes=[]) (h3:dY n y.peers (fj y.me)=true) (h4:y.leader=y.me) (h7:y.vote=y.me) (h8:y.term≠0):di y n=true:=by
 unfold di
 simp[h1,h2,h3,h4,h7,h8]
structure Ro (y:Rs) (n:Nat):Prop where
 rg:1≤y.role∧y.role≤4
 ld:y.role=4↔y.leader=y.me
 l0:(y.role=3∨y.role=2)→y.leader=0
 vt:(y.role=3∨y.role=4)→y.vote=y.me∧y.term≠0
 vs:(y.role=3∨y.role=2)→g7 y.votes=true∧y.me∈y.votes
 v0: ¬ (y.role=3∨y.role=2)→y.votes=[]
 ps:y.role=4→dY n y.peers (fj y.me)=true
 p0:y.role≠4→y.peers=[]
theorem iX {y:Rs} {n:Nat} (h:di y n=true):Ro y n:=by
 unfold di at h
 simp only[Bool.and_eq_true,decide_eq_true_eq] at h
 obtain⟨⟨⟨⟨⟨⟨a1,a2⟩,a3⟩,a4⟩,a5⟩,a6⟩,a7⟩:=h
 refine⟨⟨a1,a2⟩,?_,fun hr=>?_,fun hr=>?_,fun hr=>?_,fun hr=>?_,fun hr=>?_,fun hr=>?_⟩
 ·by_cases b:y.role=4<;>by_cases c:y.leader=y.me<;>simp[b,c] at a3 ⊢
 ·rcases hr with hr|hr<;>simpa[hr] using a4
 ·rcases hr with hr|hr<;>simpa[hr] using a5
 ·rw[if_pos hr] at a6;simpa using a6
 ·rw[if_neg hr] at a6;simpa using a6
 ·rw[if_pos hr] at a7;exact a7
 ·rw[if_neg hr] at a7;simpa using a7
theorem sa {v:Int} (h1:1≤v) (h5:v≤5):g7 [v]=true:=by
 simp[g7,iP,iO,h1,h5];omega
theorem fC {m:Ms} (h:dm m=true):1≤m.F∧m.F≤5∧1≤m.T∧m.T≤5∧m.F≠m.T∧0<m.tm∧m.tm≤4611686018427387904∧1≤m.K∧m.K≤7:=by
 simp only[dm,wN,List.all_cons,Bool.and_eq_true,id,decide_eq_true_eq] at h
 obtain⟨a1,a2,a3,a4,a5,a6,a7,a8,a9,a10,_⟩:=h
 exact⟨a4,a5,a6,a7,a8,a9,a10,a1,a2⟩
variable {c0:List Int} {g:Gh} {S:Int→Rs×List En} {B:Nat} {v:Int} {x:Rs} {l:List En} {m:Ms}
theorem Vk.refl (x:Rs):Vk x x:=⟨Nat.le_refl _,fun _ _=>O⟩
theorem mq {α β:Type} [DecidableEq α] (f:α→β) (a:α) (b:β) (h:f a=b):upd f a b=f:=by
 funext u
 by_cases hu:u=a
 ·subst hu;rw[aX,h]
 ·rw[dJ _ _ hu]
theorem jo (R:RI c0 g S B) (hx:(S v).1=x) {ms:List Ms} (M: ∀ m∈ms,m.F=v∧Om c0 g B m):Tr c0 g S B v x ms B:=by
 refine⟨g,(S v).2,Le.refl g,?_,M,by rw[hx];exact Vk.refl x⟩
 rw[mq _ _ _ (by rw[← hx])]
 exact R
theorem Aa (R:RI c0 g S B) (h1:1≤v) (h5:v≤5) (hx:(S v).1=x) {t:Nat} (ht:x.term<t) (hM:t≤4611686018427387904):Tr c0 g S B v (fl {x with term:=t,vote:=0}) [] B:=by
 subst hx
 have s:=R.sp v h1 h5
 have c:=s.cr
 refine Tr.one (l:=(S v).2) (Le.refl g) (R.to _ B h1 h5 ?_ R.gk R.lim ⟨s.rl.same O O O,s.me,s.es,?_⟩) (fun _ h=>by cases h) ⟨Nat.le_of_lt ht,fun he=>absurd he (Nat.ne_of_gt ht)⟩
 ·exact DT R.inv v _ ht O O O (show (1:Int)≠3 by decide) (show (1:Int)≠4 by decide)
 ·exact⟨hM,(show (0:Int)≤0∧(0:Int)≤5 by decide),(show (0:Int)≤0∧(0:Int)≤5 by decide),c.cm,c.li,c.ck,mp O O O (by show (0:Int)≠(S v).1.me;rw[s.me];omega)⟩
theorem wo (R:RI c0 g S B) (h1:1≤v) (h5:v≤5) (hx:(S v).1=x) (k:Int) (hk:0≤k∧k≤5) (hkv:k≠v) (z:Int) (hz:0≤z∧z≤x.limit):RI c0 g (upd S v ({fl x with leader:=k,clock:=z},(S v).2)) B:=by
 subst hx
 have s:=R.sp v h1 h5
 have c:=s.cr
 exact R.soft h1 h5 s.me O O O O O (Nat.le_refl _) (by decide:(1:Int)≠3) (by decide:(1:Int)≠4) ⟨c.tm,c.vt,hk,c.cm,c.li,hz,mp O O O (by show k≠(S v).1.me;rw[s.me];exact hkv)⟩
theorem iU {k:Int} {t i:Nat} {ok:Bool} (hk:k=2∨k=4∨k=6) (hi:k=6∨i=0) (h1:1≤x.me) (h5:x.me≤5) (hF:1≤m.F) (hF5:m.F≤5) (hne:x.me≠m.F) (ht:0<t) (hM:t≤4611686018427387904):dm (cD x m k t ok i)=true:=by
 simp only[dm,wN,oG,cD,gL,mJ,bw,List.length_nil,List.all_nil,List.all_cons,id]
 rcases hi with rfl|rfl
 ·simp[h1,h5,hF,hF5,hne,ht,hM]
 ·rcases hk with rfl|rfl|rfl<;>simp[h1,h5,hF,hF5,hne,ht,hM]
theorem gx {k:Int} {t i:Nat} {ok:Bool} (hk:k=2∨k=4∨k=6) (hr:dm (cD x m k t ok i)=true) (hi:i≤B) (h4:k=4→ok=true→g.vt t x.me=m.F) (h6:k=6→ok=true→g.El t∧i≤g.ak t x.me):Om c0 g B (cD x m k t ok i):=by
 refine⟨hr,O,fun h=>?_,hi,fun h=>?_,fun h=>h4 h,fun h=>?_,fun h=>h6 h,fun h=>?_⟩<;>(exfalso;have h:k=_:=h;rcases hk with rfl|rfl|rfl<;>cases h)
theorem DX {T k:Nat} {e f:En} (F:Ft (CC c0) g) (hT:g.El T) (hw:Wf g l) (he:l[k]? =some e) (hf:(g.LL T)[k]? =some f) (h:e.1=f.1):Ag (k+1) l (g.LL T):=by
 have a:=(hw k e he).2
 have b:=((F.ll T hT).1 k f hf).2
 rw[h] at a
 exact a.trans b.symm
theorem wq {T k:Nat} (F:Ft (CC c0) g) (hT:g.El T) (hw:Wf g l) (hk:k≤(g.LL T).length) (hr:Rl c0 x l) (h:fu x.base x.es (k,tmA (g.LL T) k)=true):Ag k l (g.LL T):=by
 rcases Nat.eq_zero_or_pos k with h0|h0
 ·subst h0;exact fun k hk=>absurd hk (by omega)
 ·obtain⟨h1,h2,h3⟩:=(hr.has _).1 h
  simp only at h1 h2 h3
  obtain⟨e,he⟩:=dj (l:=l) (k:=k-1) (by omega)
  obtain⟨f,hf⟩:=dj (l:=g.LL T) (k:=k-1) (by omega)
  have e1:=iT he
  have e2:=iT hf
  rw[show k-1+1=k by omega] at e1 e2
  have:=DX F hT hw he hf (by rw[← e1, ← e2,h3])
  rwa [show k-1+1=k by omega] at this
theorem pL {T k:Nat} (hr:Rl c0 x l) (ha:Ag k l (g.LL T)) (hb:x.base.1≤k):fu x.base x.es (k,tmA (g.LL T) k)=true:=by
 rw[hr.has]
 exact⟨hb,ha.len,(wn ha (Nat.le_refl _)).symm⟩
theorem nQ {T n:Nat} (hn:n≤(g.LL T).length):Ag n ((g.LL T).take n) (g.LL T):=(Ag.refl (a:=g.LL T) (n:=n) hn).symm.takeR (Nat.le_refl n) |>.symm
theorem yk {T:Nat} (F:Ft (CC c0) g) (hT:g.El T) (hw:Wf g l) (hr:Rl c0 x l) (hcm:Ag x.base.1 l (g.LL T)) {p:At} {es:List En} (hp:p.1+es.length≤(g.LL T).length) (hp2:p.2=tmA (g.LL T) p.1) (hes:es=((g.LL T).take (p.1+es.length)).drop p.1) (h0:(jR x.base x.es p es).1=0):
  (jR x.base x.es p es).2.1=p.1+es.length∧(jR x.base x.es p es).2.2.1=x.base∧(
   ((jR x.base x.es p es).2.2.2=x.es∧Ag (p.1+es.length) l (g.LL T))∨
   ((jR x.base x.es p es).2.2.2=((g.LL T).take (p.1+es.length)).drop x.base.1∧ ¬ Ag (p.1+es.length) l (g.LL T)∧(jR x.base x.es p es).2.2.2.length≤16)):=by
 have hat: ∀ i,i<es.length→ ∃ e,es[i]? =some e∧(g.LL T)[p.1+i]? =some e:=fun i hi=>by
  obtain⟨e,he⟩:=dj hi
  refine⟨e,he,?_⟩
  rw[hes,List.getElem?_drop] at he
  exact(gv he).1
 have hgt: ∀ i,i<es.length→(es.getD i default).1=tmA (g.LL T) (p.1+i+1):=fun i hi=>by
  obtain⟨e,h1,h2⟩:=hat i hi
  rw[iT h2,List.getD_eq_getElem?_getD,h1];rfl
 have hrow: ∀ k,x.base.1≤k→k≤(g.LL T).length→fu x.base x.es (k,tmA (g.LL T) k)=true→Ag k l (g.LL T):=fun k _ hk h=>wq F hT hw hk hr h
 unfold jR at h0 ⊢
 split at h0
 ·rename_i hR
  rw[if_pos hR]
  split at h0
  ·rename_i hP
   rw[if_pos hP]
   split at h0
   ·cases h0
   ·rename_i hH
    rw[if_neg hH]
    have hpl:x.base.1≤p.1→Ag p.1 l (g.LL T):=fun hb=>by
     refine hrow _ hb (by omega) ?_
     rw[← hp2]
     cases hh:fu x.base x.es p with
     |true=>rfl
     |false=>exact absurd ⟨hb,hh⟩ hH
    unfold Au at h0 ⊢
    split at h0
    ·rename_i hf
     refine⟨O,O,Or.inl ⟨O,?_⟩⟩
     rw[eX,List.find?_eq_none] at hf
     rcases Nat.eq_zero_or_pos es.length with hz|hz
     ·rw[hz,Nat.add_zero]
      rcases Nat.lt_or_ge p.1 x.base.1 with h|h
      ·exact hcm.mono (by omega)
      ·exact hpl h
     ·have:=hf (es.length-1) (List.mem_range.2 (by omega))
      simp only[jK,Bool.and_eq_true,decide_eq_true_eq,Bool.not_eq_true',not_and,Bool.not_eq_false] at this
      rw[hgt _ (by omega),show p.1+(es.length-1)+1=p.1+es.length by omega] at this
      rcases Nat.lt_or_ge x.base.1 (p.1+es.length) with h|h
      ·exact hrow _ (by omega) hp (this h)
      ·exact hcm.mono h
    ·rename_i i hf
     obtain⟨hi,hhit,hbef⟩:i<es.length∧jK x.base x.es p es i=true∧ ∀ j,j<i→jK x.base x.es p es j=false:=by
      rw[eX,List.find?_range_eq_some] at hf
      exact⟨List.mem_range.1 hf.2.1,hf.1,fun j hj=>by have:=hf.2.2 j hj;simpa using this⟩
     split at h0
     ·cases h0
     ·rename_i q1
      split at h0
      ·cases h0
      ·rename_i q2
       split at h0
       ·cases h0
       ·rename_i q3
        simp only[if_neg q1,if_neg q2,if_neg q3]
        simp only[jK,Bool.and_eq_true,decide_eq_true_eq,Bool.not_eq_true'] at hhit
        rw[hgt _ hi] at hhit
        have hai:Ag (p.1+i) l (g.LL T):=by
         rcases Nat.lt_or_ge x.base.1 (p.1+i) with h|h
         ·rcases Nat.eq_zero_or_pos i with hz|hz
          ·subst hz;exact hpl (by omega)
          ·have:=hbef (i-1) (by omega)
           simp only[jK,Bool.and_eq_false_iff,decide_eq_false_iff_not,Bool.not_eq_false'] at this
           rw[hgt _ (by omega),show p.1+(i-1)+1=p.1+i by omega] at this
           rcases this with h9|h9
           ·omega
           ·exact hrow _ (by omega) (by omega) h9
         ·exact hcm.mono h
        have hlen:=hai.len
        have hrl:=hr.len
        refine⟨trivial,trivial,Or.inr ⟨?_,fun hA=>?_,?_⟩⟩
        ·have e1:es.drop i=((g.LL T).take (p.1+es.length)).drop (p.1+i):=by
          conv=>lhs;rw[hes]
          rw[List.drop_drop]
         have e2:x.es.take (p.1+i-x.base.1)=((g.LL T).take (p.1+i)).drop x.base.1:=by
          rw[hr.es, ← hai.take,List.drop_take]
         rw[e1,e2]
         have e3:(g.LL T).take (p.1+es.length)=(g.LL T).take (p.1+i)++((g.LL T).take (p.1+es.length)).drop (p.1+i):=by
          have:=List.take_append_drop (p.1+i) ((g.LL T).take (p.1+es.length))
          rw[List.take_take,Nat.min_eq_left (by omega)] at this
          exact this.symm
         conv=>rhs;rw[e3]
         rw[List.drop_append_of_le_length (by rw[List.length_take];omega)]
        ·have:=pL hr (hA.mono (show p.1+i+1≤p.1+es.length by omega)) (by omega)
         rw[this] at hhit
         cases hhit.2
        ·rw[List.length_append,List.length_take,List.length_drop];omega
  ·cases h0
 ·cases h0
variable {c0:List Int} {g:Gh} {S:Int→Rs×List En} {B:Nat} {v:Int} {x:Rs} {l:List En} {m:Ms}
theorem Gk.of {h:Gh} (hg:Gk g B) (e:h.LL=g.LL):Gk h B:=fun T=>by rw[e];exact hg T
theorem wr (s:Sp c0 v x l) (h1:1≤v) {k:Int} (hk:0≤k∧k≤5) (hkv:k≠v) (y:Rs) (n:Nat) (ht:y.term=x.term) (hv:y.vote=x.vote) (hm:y.me=x.me) (hr:y.role=1) (hvs:y.votes=[]) (hp:y.peers=[]) (hl:y.leader=k) (hc:y.clock=0) (hli:y.limit=x.limit) (hcm:y.base.1≤y.commit∧y.commit≤n):Cr y n:=by
 have c:=s.cr
 refine⟨by rw[ht];exact c.tm,by rw[hv];exact c.vt,by rw[hl];exact hk,hcm,by rw[hli];exact c.li,?_,mp hr hvs hp (by rw[hl,hm,s.me];exact hkv)⟩
 have:=c.li
 rw[hc,hli];omega
theorem mr {T n:Nat} (hn:n≤(g.LL T).length):((g.LL T).take n).length=n:=by rw[List.length_take];omega
theorem tO (R:RI c0 g S B) (h1:1≤v) (h5:v≤5) (hx:(S v).1=x) (hK:m.K=5) (hT:m.T=v) (o:Om c0 g B m) (ht:m.tm≤x.term):Tr c0 g S B v (fy x m).1 (fy x m).2 B:=by
 obtain⟨f1,f2,f3,f4,f5,f6,f7,_,_⟩:=fC o.r
 subst hx
 have s:=R.sp v h1 h5
 have c:=s.cr
 have F:=R.inv.F
 have on:=R.inv.on v (by omega)
 have hR:=R.rt h1 h5
 have hok:=R.ok (v:=v) (by omega)
 have hne:(S v).1.me≠m.F:=by rw[s.me, ← hT];exact fun h=>f5 h.symm
 have hFv:m.F≠v:=by rw[← hT];exact f5
 have bk: ∀ {ok:Bool} {i:Nat},dm (cD (S v).1 m 6 (S v).1.term ok i)=true:=fun {ok i}=>iU (Or.inr (Or.inr O)) (Or.inl O) (by rw[s.me];exact h1) (by rw[s.me];exact h5) f1 f2 hne (by omega) c.tm
 have hback: ∀ {ok:Bool} {i:Nat} {mm:Ms},mm∈[cD (S v).1 m 6 (S v).1.term ok i]→mm=cD (S v).1 m 6 (S v).1.term ok i:=fun h=>List.mem_singleton.1 h
 unfold fy
 split
 ·refine jo R O (fun mm h=>?_)
  rw[hback h]
  exact⟨s.me,gx (Or.inr (Or.inr O)) bk (Nat.zero_le _) (fun h=>by cases h) (fun _ h=>by cases h)⟩
 ·rename_i hlt
  split
  ·exact jo R O (fun mm h=>by cases h)
  ·rename_i hr4
   have htm:m.tm=(S v).1.term:=by omega
   obtain⟨q1,q2,q3,q4,q5⟩:=o.k5 hK
   rw[htm] at q1 q2 q3 q4 q5
   have wf:=on.wf
   have cm:Ag (S v).1.commit (S v).2 (g.LL (S v).1.term):=on.cm.in F q1
   have Rf:=wo R h1 h5 O m.F ⟨by omega,f2⟩ hFv 0 ⟨by omega,by have:=c.li;omega⟩
   have hrow:=fun h0=>yk F q1 wf.1 s.rl (cm.mono c.cm.1) q2 q3 q4 h0
   split
   ·rename_i hs
    obtain⟨n1,n2,n3⟩:=hrow hs.1
    have key: ∀ (l':List En) (es':List En),(gh (S v).1 m).2.2.2=es'→Inv (CC c0) g (upd (tY S) v (nf ({fU (S v).1 m with es:=es'}:Rs) l'))→es'=l'.drop (S v).1.base.1→(S v).1.base.1≤l'.length→Ag (S v).1.base.1 l' (S v).2→es'.length≤16→(S v).1.commit≤l'.length→Ag (m.pl.1+m.es.length) l' (g.LL (S v).1.term)→
      Tr c0 g S B v {fU (S v).1 m with base:=(gh (S v).1 m).2.2.1,es:=(gh (S v).1 m).2.2.2,commit:=max (S v).1.commit (min m.cm (gh (S v).1 m).2.1)} [cD (S v).1 m 6 (S v).1.term true (gh (S v).1 m).2.1] B:=by
     intro l' es' e1 inv1 e2 e3 e4 e5 e6 e7
     have n1':(gh (S v).1 m).2.1=m.pl.1+m.es.length:=n1
     have n2':(gh (S v).1 m).2.2.1=(S v).1.base:=n2
     rw[n1',n2',e1]
     have one1:=inv1.on v (by omega)
     rw[aX] at one1
     have hlen:=e7.len
     obtain⟨y,hy⟩: ∃ y:Rs,y={fU (S v).1 m with base:=(S v).1.base,es:=es',commit:=max (S v).1.commit (min m.cm (m.pl.1+m.es.length))}:=⟨_,O⟩
     have inv2:Inv (CC c0) g (upd (tY S) v (nf y l')):=by
      have:=yV inv1 v (nf y l') (by rw[aX,hy];rfl) (by rw[aX,hy];rfl) (by rw[aX];rfl) (by
       rw[aX]
       show Cd g l' y.commit (S v).1.term
       rw[hy]
       show Cd g l' (max (S v).1.commit (min m.cm (m.pl.1+m.es.length))) (S v).1.term
       rcases Nat.le_total (S v).1.commit (min m.cm (m.pl.1+m.es.length)) with h9|h9
       ·rw[Nat.max_eq_right h9]
        exact(q5.mono (Nat.min_le_left _ _) (Nat.le_refl _)).of (e7.mono (Nat.min_le_right _ _))
       ·rw[Nat.max_eq_left h9]
        exact one1.cm) (by rw[hy];show (1:Int)≠3;decide) (by rw[hy];show (1:Int)≠4;decide)
      rwa [gw] at this
     have sp2:Sp c0 v y l':=by
      rw[hy]
      refine⟨⟨e3,e2,by show (S v).1.base.2=_;rw[s.rl.bt,wn e4 (Nat.le_refl _)],?_⟩,s.me,e5,?_⟩
      ·show (S v).1.cf=lG c0 (l'.take (S v).1.base.1)
       rw[s.rl.cf,e4.take]
      ·exact wr s h1 ⟨by omega,f2⟩ hFv _ _ O O O O O O O O O ⟨by show (S v).1.base.1≤max _ _;have:=c.cm.1;omega,by show max _ _≤_;omega⟩
     have R2:RI c0 g (upd S v (y,l')) B:=R.to l' B h1 h5 inv2 R.gk R.lim sp2
     have ht2:(tY (upd S v (y,l')) v).term=(S v).1.term:=by rw[de,aX,hy];rfl
     obtain⟨h,H,I3,ak,a1,a2,a3⟩:=DU R2.inv v (by omega) (m.pl.1+m.es.length) (by rw[ht2];exact q1) (by rw[ht2,de,aX];exact e7)
     rw[ht2] at ak
     have hy2:y={fU (S v).1 m with base:=(S v).1.base,es:=es',commit:=max (S v).1.commit (min m.cm (m.pl.1+m.es.length))}:=hy
     rw[← hy2]
     refine⟨h,l',H,⟨I3,R.gk.of a2,R.lim,R.rc,R2.sp⟩,fun mm hm=>?_,?_⟩
     ·rw[hback hm]
      refine⟨s.me,gx (Or.inr (Or.inr O)) bk ?_ (fun h=>by cases h) (fun _ _=>?_)⟩
      ·have:=(R.gk (S v).1.term).1;omega
      ·rw[a1,s.me]
       exact⟨q1,ak⟩
     ·rw[hy];exact Vk.refl _
    rcases n3 with⟨e1,e2⟩|⟨e1,e2,e3⟩
    ·refine key (S v).2 (S v).1.es e1 ?_ s.rl.es s.rl.bl (Ag.refl s.rl.bl) s.es c.cm.2 e2
     have:=Rf.inv
     rw[de] at this
     exact this
    ·have hbn:(S v).1.commit<m.pl.1+m.es.length:=by
      rcases Nat.lt_or_ge (S v).1.commit (m.pl.1+m.es.length) with h|h
      ·exact h
      ·exact absurd (cm.mono h) e2
     have hcb:=c.cm.1
     refine key ((g.LL (S v).1.term).take (m.pl.1+m.es.length)) _ e1 ?_ O ?_ ?_ ?_ ?_ (nQ q2)
     ·have:=DV Rf.inv v (by omega) (nf ({fU (S v).1 m with es:=((g.LL (S v).1.term).take (m.pl.1+m.es.length)).drop (S v).1.base.1}:Rs) ((g.LL (S v).1.term).take (m.pl.1+m.es.length))) (m.pl.1+m.es.length) (by rw[de,aX];exact q1) (by rw[de,aX];exact q2) (by rw[de,aX];exact e2) (by rw[de,aX];rfl) (by rw[de,aX];rfl) (by rw[de,aX];rfl) (by rw[de,aX];rfl) (show (1:Int)≠3 by decide) (show (1:Int)≠4 by decide)
      rw[de,gw] at this
      exact this
     ·rw[mr q2];omega
     ·exact((nQ q2).mono (by omega)).trans (cm.mono hcb).symm
     ·rw[← e1];exact e3
     ·rw[mr q2];omega
   ·refine Tr.one (Le.refl g) Rf (fun mm h=>?_) (Vk.refl _)
    rw[hback h]
    refine⟨s.me,gx (Or.inr (Or.inr O)) bk ?_ (fun h=>by cases h) (fun _ h=>by cases h)⟩
    have:(lastP (S v).1).1≤B:=by rw[s.rl.lastP hR];exact hok.2
    omega
variable {c0:List Int} {g:Gh} {S:Int→Rs×List En} {B:Nat} {v:Int} {x:Rs} {l:List En} {m:Ms}
theorem ws (R:RI c0 g S B) (h1:1≤v) (h5:v≤5) {T n:Nat} (hT:(S v).1.term=T) (hE:g.El T) (hn:Ag n (S v).2 (g.LL T)): ∃ h,Le g h∧RI c0 h S B∧h.El T∧n≤h.ak T v∧h.LL=g.LL:=by
 subst hT
 obtain⟨h,H,I,a,b,c,d⟩:=DU R.inv v (by omega) n hE hn
 exact⟨h,H,⟨I,R.gk.of c,R.lim,R.rc,R.sp⟩,by rw[b];exact hE,a,c⟩
theorem yl (R:RI c0 g S B) (h1:1≤v) (h5:v≤5) (hx:(S v).1=x) (hK:m.K=7) (hT:m.T=v) (o:Om c0 g B m) (ht:m.tm≤x.term):Tr c0 g S B v (jN x m).1 (jN x m).2.1 B:=by
 obtain⟨f1,f2,f3,f4,f5,f6,f7,_,_⟩:=fC o.r
 subst hx
 have s:=R.sp v h1 h5
 have c:=s.cr
 have F:=R.inv.F
 have on:=R.inv.on v (by omega)
 have hR:=R.rt h1 h5
 have hok:=R.ok (v:=v) (by omega)
 have hne:(S v).1.me≠m.F:=by rw[s.me, ← hT];exact fun h=>f5 h.symm
 have hFv:m.F≠v:=by rw[← hT];exact f5
 have bk: ∀ {ok:Bool} {i:Nat},dm (cD (S v).1 m 6 (S v).1.term ok i)=true:=fun {ok i}=>iU (Or.inr (Or.inr O)) (Or.inl O) (by rw[s.me];exact h1) (by rw[s.me];exact h5) f1 f2 hne (by omega) c.tm
 have hback: ∀ {ok:Bool} {i:Nat} {mm:Ms},mm∈[cD (S v).1 m 6 (S v).1.term ok i]→mm=cD (S v).1 m 6 (S v).1.term ok i:=fun h=>List.mem_singleton.1 h
 unfold jN
 split
 ·refine jo R O (fun mm h=>?_)
  rw[hback h]
  exact⟨s.me,gx (Or.inr (Or.inr O)) bk (Nat.zero_le _) (fun h=>by cases h) (fun _ h=>by cases h)⟩
 ·rename_i hlt
  split
  ·exact jo R O (fun mm h=>by cases h)
  ·rename_i hr4
   have htm:m.tm=(S v).1.term:=by omega
   obtain⟨q1,q2,q3,q4,q5,q6⟩:=o.k7 hK
   rw[htm] at q1 q3 q4 q5 q6
   have wf:=on.wf
   have cm:Ag (S v).1.commit (S v).2 (g.LL (S v).1.term):=on.cm.in F q1
   have Rf:=wo R h1 h5 O m.F ⟨by omega,f2⟩ hFv 0 ⟨by omega,by have:=c.li;omega⟩
   have hcb:=c.cm.1
   split
   ·rename_i hcp
    have key: ∀ (l':List En),Inv (CC c0) g (upd (tY S) v (nf (fU (S v).1 m) l'))→(gq (S v).1 m).1=(m.pl.1,tmA l' m.pl.1)→(gq (S v).1 m).2=l'.drop m.pl.1→(gq (S v).1 m).2.length≤16→Ag m.pl.1 l' (g.LL (S v).1.term)→
      Tr c0 g S B v {fU (S v).1 m with base:=(gq (S v).1 m).1,es:=(gq (S v).1 m).2,cf:=m.cf,commit:=m.pl.1} [cD (S v).1 m 6 (S v).1.term true m.pl.1] B:=by
     intro l' inv1 e1 e2 e3 e4
     obtain⟨y,hy⟩: ∃ y:Rs,y={fU (S v).1 m with base:=(gq (S v).1 m).1,es:=(gq (S v).1 m).2,cf:=m.cf,commit:=m.pl.1}:=⟨_,O⟩
     have hlen:=e4.len
     have inv2:Inv (CC c0) g (upd (tY S) v (nf y l')):=by
      have:=yV inv1 v (nf y l') (by rw[aX,hy];rfl) (by rw[aX,hy];rfl) (by rw[aX];rfl) (by
       rw[aX]
       show Cd g l' y.commit (S v).1.term
       rw[hy]
       exact q5.of e4) (by rw[hy];show (1:Int)≠3;decide) (by rw[hy];show (1:Int)≠4;decide)
      rwa [gw] at this
     have sp2:Sp c0 v y l':=by
      rw[hy]
      refine⟨⟨?_,?_,?_,?_⟩,s.me,e3,?_⟩
      ·show (gq (S v).1 m).1.1≤_
       rw[e1];exact hlen
      ·show (gq (S v).1 m).2=l'.drop (gq (S v).1 m).1.1
       rw[e1];exact e2
      ·show (gq (S v).1 m).1.2=tmA l' (gq (S v).1 m).1.1
       rw[e1]
      ·show m.cf=lG c0 (l'.take (gq (S v).1 m).1.1)
       rw[e1,q6,e4.take]
      ·exact wr s h1 ⟨by omega,f2⟩ hFv _ _ O O O O O O O O O ⟨by show (gq (S v).1 m).1.1≤m.pl.1;rw[e1];exact Nat.le_refl _,hlen⟩
     have R2:RI c0 g (upd S v (y,l')) B:=R.to l' B h1 h5 inv2 R.gk R.lim sp2
     obtain⟨h,H,R3,a1,a2,a3⟩:=ws R2 h1 h5 (T:=(S v).1.term) (n:=m.pl.1) (by rw[aX,hy];rfl) q1 (by rw[aX];exact e4)
     rw[← hy]
     refine⟨h,l',H,R3,fun mm hm=>?_,?_⟩
     ·rw[hback hm]
      refine⟨s.me,gx (Or.inr (Or.inr O)) bk ?_ (fun h=>by cases h) (fun _ _=>?_)⟩
      ·have:=(R.gk (S v).1.term).1;omega
      ·rw[s.me];exact⟨a1,a2⟩
     ·rw[hy];exact Vk.refl _
    have hpl:m.pl=(m.pl.1,tmA (g.LL (S v).1.term) m.pl.1):=by rw[← q4]
    by_cases hh:(br (S v).1.base (S v).1.es&&fu (S v).1.base (S v).1.es m.pl)=true
    ·have hs:gq (S v).1 m=(lC (S v).1.base (S v).1.es m.pl.1).2:=by unfold gq;rw[if_pos hh]
     rw[hR,Bool.true_and] at hh
     have ha:Ag m.pl.1 (S v).2 (g.LL (S v).1.term):=wq F q1 wf.1 q3 s.rl (by rw[← hpl];exact hh)
     have hal:=ha.len
     have hsl:=s.rl.len
     have hs2:gq (S v).1 m=((m.pl.1,tmA (S v).2 m.pl.1),(S v).2.drop m.pl.1):=by
      have hf:d5 (S v).1.base (S v).1.es m.pl.1=(((m.pl.1-(S v).1.base.1:Nat):Int),(m.pl.1,tmA (S v).2 m.pl.1)):=by rw[s.rl.fnd,if_pos ⟨by omega,hal⟩]
      rw[hs,lC,if_pos hR,hf,if_neg (by simp)]
      simp only[Int.toNat_natCast]
      rw[s.rl.es,List.drop_drop,show (S v).1.base.1+(m.pl.1-(S v).1.base.1)=m.pl.1 by omega]
     refine key (S v).2 ?_ (by rw[hs2]) (by rw[hs2]) ?_ ha
     ·have:=Rf.inv
      rw[de] at this
      exact this
     ·rw[hs2]
      show ((S v).2.drop m.pl.1).length≤16
      rw[List.length_drop]
      have:=s.es
      omega
    ·have hs:gq (S v).1 m=(m.pl,[]):=by unfold gq;rw[if_neg hh]
     rw[hR,Bool.true_and] at hh
     have hna: ¬ Ag m.pl.1 (S v).2 (g.LL (S v).1.term):=fun ha=>hh (by
      have:=pL s.rl ha (by omega)
      rw[← hpl] at this
      exact this)
     refine key ((g.LL (S v).1.term).take m.pl.1) ?_ ?_ ?_ ?_ (nQ q3)
     ·have:=DV Rf.inv v (by omega) (nf (fU (S v).1 m) ((g.LL (S v).1.term).take m.pl.1)) m.pl.1 (by rw[de,aX];exact q1) (by rw[de,aX];exact q3) (by rw[de,aX];exact hna) (by rw[de,aX];rfl) (by rw[de,aX];rfl) (by rw[de,aX];rfl) (by rw[de,aX];rfl) (show (1:Int)≠3 by decide) (show (1:Int)≠4 by decide)
      rw[de,gw] at this
      exact this
     ·rw[hs,kR (Nat.le_refl _)];exact hpl
     ·rw[hs,List.drop_eq_nil_of_le (by rw[mr q3];exact Nat.le_refl _)]
     ·rw[hs];exact Nat.zero_le _
   ·obtain⟨h,H,R3,a1,a2,a3⟩:=ws Rf h1 h5 (T:=(S v).1.term) (n:=(S v).1.commit) (by rw[aX];rfl) q1 (by rw[aX];exact cm)
    refine⟨h,(S v).2,H,R3,fun mm hm=>?_,Vk.refl _⟩
    rw[hback hm]
    refine⟨s.me,gx (Or.inr (Or.inr O)) bk ?_ (fun h=>by cases h) (fun _ _=>?_)⟩
    ·have:=cm.len;omega
    ·rw[s.me];exact⟨a1,a2⟩
theorem wt (R:RI c0 g S B) (h1:1≤v) (h5:v≤5) (hx:(S v).1=x) (hT:m.T=v) (o:Om c0 g B m):Tr c0 g S B v x (jU x m) B:=by
 obtain⟨f1,f2,f3,f4,f5,f6,f7,_,_⟩:=fC o.r
 subst hx
 have s:=R.sp v h1 h5
 have c:=s.cr
 have hne:(S v).1.me≠m.F:=by rw[s.me, ← hT];exact fun h=>f5 h.symm
 have bk: ∀ {ok:Bool} {t:Nat},0<t→t≤4611686018427387904→Om c0 g B (cD (S v).1 m 2 t ok 0):=fun h h9=>gx (Or.inl O) (iU (Or.inl O) (Or.inr O) (by rw[s.me];exact h1) (by rw[s.me];exact h5) f1 f2 hne h h9) (Nat.zero_le _) (fun h=>by cases h) (fun h=>by cases h)
 refine jo R O (fun mm h=>?_)
 unfold jU at h
 split at h
 ·skip
  rw[List.mem_singleton.1 h];exact⟨s.me,bk f6 f7⟩
 ·split at h
  ·rename_i h0
   rw[List.mem_singleton.1 h];exact⟨s.me,bk h0 c.tm⟩
  ·cases h
theorem Ad {p:At} (hr:Rl c0 x l) (hR:br x.base x.es=true) {c:List En} (hp:p=(c.length,lt c)) (h:oI x p=false):Up c l:=by
 unfold oI ja at h
 rw[hr.lastP hR,hp] at h
 simp only at h
 split at h
 ·rename_i hne
  have:=of_decide_eq_false h
  exact Or.inl (by omega)
 ·rename_i he
  have:=of_decide_eq_false h
  exact Or.inr ⟨by simpa using he,by omega⟩
theorem ym (R:RI c0 g S B) (h1:1≤v) (h5:v≤5) (hx:(S v).1=x) (hK:m.K=3) (hT:m.T=v) (o:Om c0 g B m) (ht:m.tm≤x.term):Tr c0 g S B v (iu x m).1 (iu x m).2 B:=by
 obtain⟨f1,f2,f3,f4,f5,f6,f7,_,_⟩:=fC o.r
 subst hx
 have s:=R.sp v h1 h5
 have c:=s.cr
 have on:=R.inv.on v (by omega)
 have hR:=R.rt h1 h5
 have hne:(S v).1.me≠m.F:=by rw[s.me, ← hT];exact fun h=>f5 h.symm
 have bk: ∀ {ok:Bool},dm (cD (S v).1 m 4 (S v).1.term ok 0)=true:=fun {ok}=>iU (Or.inr (Or.inl O)) (Or.inr O) (by rw[s.me];exact h1) (by rw[s.me];exact h5) f1 f2 hne (by omega) c.tm
 unfold iu
 cases hb:dX (S v).1 m with
 |false=>
  refine jo R O (fun mm h=>?_)
  rw[List.mem_singleton.1 h]
  exact⟨s.me,gx (Or.inr (Or.inl O)) bk (Nat.zero_le _) (fun _ h=>by cases h) (fun h=>by cases h)⟩
 |true=>
  simp only[dX,Bool.and_eq_true,Bool.or_eq_true,decide_eq_true_eq,Bool.not_eq_true',decide_eq_false_iff_not] at hb
  obtain⟨⟨⟨b1,b2⟩,b3⟩,b4⟩:=hb
  obtain⟨k1,k2⟩:=o.k3 hK
  rw[b1] at k1 k2
  have ro:=iX c.ro
  have hr3:(S v).1.role≠3:=fun h=>by
   have:=(ro.vt (Or.inl h)).1
   rcases b2 with b2|b2
   ·rw[b2,s.me] at this;omega
   ·rw[b2] at this;exact hne this.symm
  have hcr:Cr {(S v).1 with vote:=m.F,clock:=0} (S v).2.length:=by
   refine⟨c.tm,⟨by show 0≤m.F;omega,f2⟩,c.ld,c.cm,c.li,⟨Int.le_refl 0,by have:=c.li;show 0≤(S v).1.limit;omega⟩,?_⟩
   have:=c.ro
   unfold di at this ⊢
   simpa[hr3,b3] using this
  have fin: ∀ h,Le g h→Inv (CC c0) h (upd (tY S) v (nf {(S v).1 with vote:=m.F,clock:=0} (S v).2))→h.LL=g.LL→h.vt (S v).1.term v=m.F→Tr c0 g S B v {(S v).1 with vote:=m.F,clock:=0} [cD (S v).1 m 4 (S v).1.term true 0] B:=by
   intro h H I e1 e2
   refine⟨h,(S v).2,H,R.to _ B h1 h5 I (R.gk.of e1) R.lim ⟨s.rl.same O O O,s.me,s.es,hcr⟩,fun mm hm=>?_,Nat.le_refl _,fun _ h0=>?_⟩
   ·rw[List.mem_singleton.1 hm]
    exact⟨s.me,gx (Or.inr (Or.inl O)) bk (Nat.zero_le _) (fun _ _=>by rw[s.me];exact e2) (fun h=>by cases h)⟩
   ·rcases b2 with b2|b2
    ·exact absurd b2 h0
    ·exact b2.symm
  rcases b2 with b2|b2
  ·obtain⟨h,H,I,e1,_,_,_,e2⟩:=wk R.inv v (by omega) (nf {(S v).1 with vote:=m.F,clock:=0} (S v).2) (S v).1.term m.F (by omega) (Nat.le_refl _) (on.vt.trans b2) (g.cl (S v).1.term m.F) false (Ad s.rl hR k2 b4) ⟨k1,O,hr3⟩ O O O O (fun h=>absurd h hr3) b3
   exact fin h H I e2 e1
  ·refine fin g (Le.refl g) ?_ O (on.vt.trans b2)
   exact yU R.inv v _ O b2.symm O (Nat.le_refl _) hr3 b3
variable {c0:List Int} {g:Gh} {S:Int→Rs×List En} {B:Nat} {v:Int} {x:Rs} {l:List En} {m:Ms}
theorem sb: ∀ (n:Nat) (l:List Pe) (k:List Int),dY n l k=true→ ∀ p∈l,p.1∈k∧1≤p.2.1∧p.2.1≤n+1∧p.2.2<p.2.1
 |_,[],_,_,p,hp=>by cases hp
 |_,_::_,[],h,p,hp=>by simp[dY] at h
 |n,q::l,i::k,h,p,hp=>by
  simp only[dY,Bool.and_eq_true,decide_eq_true_eq] at h
  obtain⟨⟨⟨⟨a1,a2⟩,a3⟩,a4⟩,a5⟩:=h
  rcases List.mem_cons.1 hp with rfl|hp
  ·exact⟨by rw[a1];exact List.mem_cons_self ..,a2,a3,a4⟩
  ·obtain⟨b1,b2⟩:=sb n l k a5 p hp
   exact⟨List.mem_cons_of_mem _ b1,b2⟩
theorem io {ms:List Int} (h:C.right ms=true):ms.length≤5:=by
 rw[z8 h]
 unfold ind
 repeat' split
 all_goals omega
theorem tP {ms:List Int} (h:C.right ms=true):(ms.all fun n=>decide (1≤n)&&decide (n≤255))=true:=by
 rw[List.all_eq_true]
 intro n hn
 have:=(dL h).1 n hn
 simp only[Bool.and_eq_true,decide_eq_true_eq];omega
theorem lN (ok: ∀ e∈l,okE e) {k:Nat} (hk:k≤l.length):(!(decide ((k:Int)=0) !=decide ((tmA l k:Int)=0)))=true:=by
 rcases Nat.eq_zero_or_pos k with h0|h0
 ·subst h0;rfl
 ·have:=nP ok h0 hk
  have e1:decide ((k:Int)=0)=false:=decide_eq_false (by omega)
  have e2:decide ((tmA l k:Int)=0)=false:=decide_eq_false (by omega)
  rw[e1,e2];rfl
theorem nR {n:Nat} (ht: ∀ e∈l,e.1≤n) {k:Nat} (hk:k≤l.length):tmA l k≤n:=by
 rcases Nat.eq_zero_or_pos k with h0|h0
 ·subst h0;exact Nat.zero_le _
 ·obtain⟨e,he⟩:=dj (l:=l) (k:=k-1) (by omega)
  have:=iT he
  rw[show k-1+1=k by omega] at this
  rw[this];exact ht e (gM he)
theorem nS (R:RI c0 g S B) (h1:1≤v) (h5:v≤5) (hr:(S v).1.role=4) {who:Int} (hwv:who≠v): ∀ m∈ff (S v).1 who,m.F=v∧Om c0 g B m:=by
 intro m hm
 have s:=R.sp v h1 h5
 have c:=s.cr
 have ro:=iX c.ro
 have on:=R.inv.on v (by omega)
 have ld:=on.ld hr
 have el:g.El (S v).1.term:=ld.el.1
 have ll:g.LL (S v).1.term=(S v).2:=ld.ll
 have hR:=R.rt h1 h5
 have hok:=R.ok (v:=v) (by omega)
 have hmo:=R.mo (v:=v) (by omega)
 have htm:=R.tm (v:=v) (by omega)
 have hlim:=R.lim
 have hlen:=s.rl.len
 have hbl:=s.rl.bl
 have hcm:=c.cm
 have ht0:0<(S v).1.term:=Nat.pos_of_ne_zero (ro.vt (Or.inr hr)).2
 have cd:Cd g (S v).2 (S v).1.commit (S v).1.term:=on.cm
 unfold ff at hm
 split at hm
 ·cases hm
 ·rename_i p hf
  have hp:=List.mem_of_find?_eq_some hf
  have hpw:p.1=who:=by have:=List.find?_some hf;simpa using this
  obtain⟨p1,p2,p3,p4⟩:=sb _ _ _ (ro.ps hr) p hp
  have hw5:1≤who∧who≤5:=by
   rw[hpw] at p1
   have:=(List.mem_filter.1 p1).1
   simp at this
   omega
  split at hm
  ·rename_i hb
   rw[List.mem_singleton.1 hm]
   have hbp:0<(S v).1.base.2:=by rw[s.rl.bt];exact nP hok.1 (by omega) hbl
   have hcf:C.right (S v).1.cf=true:=by rw[s.rl.cf];exact jE _ _ (fun e he=>hok.1 e (List.mem_of_mem_take he)) R.rc
   have hbt:(S v).1.base.2≤(S v).1.term:=by rw[s.rl.bt];exact nR htm hbl
   refine⟨s.me,?_,O,fun _=>hcf,Nat.zero_le _,fun h=>absurd h (show ¬ (7:Int)=3 by decide),fun h=>absurd h (show ¬ (7:Int)=4 by decide),fun h=>absurd h (show ¬ (7:Int)=5 by decide),fun h=>absurd h (show ¬ (7:Int)=6 by decide),fun _=>⟨el,?_,?_,?_,?_,?_⟩⟩
   ·simp only[dm,wN,oG,gL,mJ,bw,List.length_nil,List.all_nil,List.all_cons,id]
    have e1:=io hcf
    have e2:=tP hcf
    have e3:(!(decide (((S v).1.base.1:Int)=0) !=decide (((S v).1.base.2:Int)=0)))=true:=by rw[s.rl.bt];exact lN hok.1 hbl
    rw[e2,e3]
    have e4:(S v).1.base.1≤18446744073709551614:=by omega
    have hvw: ¬ v=who:=fun h=>hwv h.symm
    have e5: ¬ (S v).1.base.2=0:=by omega
    simp[s.me,h1,h5,hw5.1,hw5.2,hvw,ht0,c.tm,hbt,e1,e4,e5]
   ·show 0<(S v).1.base.1;omega
   ·rw[ll];exact hbl
   ·rw[ll];exact s.rl.bt
   ·show Cd g (g.LL (S v).1.term) _ _
    rw[ll];exact cd.mono hcm.1 (Nat.le_refl _)
   ·show (S v).1.cf=lG c0 ((g.LL (S v).1.term).take _)
    rw[ll];exact s.rl.cf
  ·rename_i hb
   rw[List.mem_singleton.1 hm]
   have hfr:frm (S v).1.base (S v).1.es p.2.1 8=(0,(p.2.1-1,tmA (S v).2 (p.2.1-1)),((S v).2.take (p.2.1-1+min 8 ((S v).2.length-(p.2.1-1)))).drop (p.2.1-1)):=by
    rw[frm,if_pos hR,s.rl.lst,if_neg (by show ¬ (_∨(S v).2.length+1<_);omega),if_neg (by decide),s.rl.plc (by omega),show (S v).1.base.1+(p.2.1-1-(S v).1.base.1)=p.2.1-1 by omega]
    congr 2
    rw[s.rl.es,List.drop_drop,List.length_drop,show (S v).1.base.1+(p.2.1-1-(S v).1.base.1)=p.2.1-1 by omega,List.drop_take,show (S v).2.length-(S v).1.base.1-(p.2.1-1-(S v).1.base.1)=(S v).2.length-(p.2.1-1) by omega,show p.2.1-1+min 8 ((S v).2.length-(p.2.1-1))-(p.2.1-1)=min 8 ((S v).2.length-(p.2.1-1)) by omega]
    rfl
   rw[hfr]
   obtain⟨k,hk⟩: ∃ k,k=p.2.1-1:=⟨_,O⟩
   obtain⟨j,hj⟩: ∃ j,j=min 8 ((S v).2.length-(p.2.1-1)):=⟨_,O⟩
   rw[← hj, ← hk]
   obtain⟨q,hq⟩: ∃ q,q=((S v).2.take (k+j)).drop k:=⟨_,O⟩
   simp only
   rw[← hq]
   have hql:q.length=j:=by rw[hq,List.length_drop,List.length_take];omega
   have hqo: ∀ e∈q,okE e∧e.1≤(S v).1.term:=fun e he=>by
    rw[hq] at he
    have:=List.mem_of_mem_take (mn he)
    exact⟨hok.1 e this,htm e this⟩
   have hqr:bw q (tmA (S v).2 k)=true:=by
    rw[hq, ← kR (show k≤k+j by omega)]
    exact r8 (hmo.take _) (fun e he=>hok.1 e (List.mem_of_mem_take he)) k
   refine⟨s.me,?_,o7 fun e he=>(hqo e he).1,fun h=>absurd h (show ¬ (5:Int)=7 by decide),Nat.zero_le _,fun h=>absurd h (show ¬ (5:Int)=3 by decide),fun h=>absurd h (show ¬ (5:Int)=4 by decide),fun _=>⟨el,?_,?_,?_,?_⟩,fun h=>absurd h (show ¬ (5:Int)=6 by decide),fun h=>absurd h (show ¬ (5:Int)=7 by decide)⟩
   ·simp only[dm,wN,oG,gL,mJ,List.length_nil,List.all_nil,List.all_cons,id]
    have e3:=lN hok.1 (show k≤(S v).2.length by omega)
    have e6:(q.all fun e=>decide (e.1≤(S v).1.term))=true:=List.all_eq_true.2 fun e he=>decide_eq_true (hqo e he).2
    rw[e3,hqr,e6,hql]
    have e4:k≤18446744073709551614-j:=by omega
    have hvw: ¬ v=who:=fun h=>hwv h.symm
    have e5:tmA (S v).2 k≤(S v).1.term:=nR htm (by omega)
    have e7:j≤8:=by omega
    simp[s.me,h1,h5,hw5.1,hw5.2,hvw,ht0,c.tm,e4,e5,e7]
   ·show k+q.length≤(g.LL (S v).1.term).length
    rw[ll,hql];omega
   ·show tmA _ _=tmA (g.LL (S v).1.term) _
    rw[ll]
   ·show q=((g.LL (S v).1.term).take (k+q.length)).drop k
    rw[ll,hql,hq]
   ·show Cd g (g.LL (S v).1.term) _ _
    rw[ll];exact cd
theorem lO (R:RI c0 g S B) (h1:1≤v) (h5:v≤5) {n:Int} (h:n∈dr (S v).1):1≤n∧n≤5∧n≠v:=by
 have s:=R.sp v h1 h5
 have hok:=R.ok (v:=v) (by omega)
 obtain⟨a,b⟩:=List.mem_filter.1 h
 rw[s.rl.now (R.rt h1 h5)] at a
 have:=(dL (jE _ _ hok.1 R.rc)).1 n a
 rw[s.me] at b
 exact⟨this.1,this.2,by simpa using b⟩
theorem yn (R:RI c0 g S B) (h1:1≤v) (h5:v≤5) (hr:(S v).1.role=4): ∀ m∈kH (S v).1,m.F=v∧Om c0 g B m:=by
 intro m hm
 obtain⟨n,hn,hm⟩:=List.mem_flatMap.1 hm
 exact nS R h1 h5 hr (lO R h1 h5 hn).2.2 m hm
theorem se {y:Rs} (h:y.peers=[]) (n:Int):ff y n=[]:=by unfold ff;rw[h];rfl
theorem sf (R:RI c0 g S B) (h1:1≤v) (h5:v≤5) {who:Int} (hwv:who≠v): ∀ m∈fV (S v).1 who,m.F=v∧Om c0 g B m:=by
 intro m hm
 unfold fV at hm
 split at hm
 ·cases hm
 ·rename_i p hf
  split at hm
  ·by_cases hr:(S v).1.role=4
   ·exact nS R h1 h5 hr hwv m hm
   ·have:=(iX (R.sp v h1 h5).cr.ro).p0 hr
    rw[se this] at hm
    cases hm
  ·cases hm
theorem o8 (R:RI c0 g S B) (h1:1≤v) (h5:v≤5): ∀ m∈kH (S v).1,m.F=v∧Om c0 g B m:=by
 by_cases hr:(S v).1.role=4
 ·exact yn R h1 h5 hr
 ·intro m hm
  obtain⟨n,hn,hm⟩:=List.mem_flatMap.1 hm
  rw[se ((iX (R.sp v h1 h5).cr.ro).p0 hr)] at hm
  cases hm
variable {c0:List Int} {g:Gh} {S:Int→Rs×List En} {B:Nat} {v:Int} {x:Rs} {l:List En} {m:Ms}
theorem RI.up (R:RI c0 g S B) {B':Nat} (h:B≤B') (h2:B'≤100000):RI c0 g S B':=⟨R.inv,fun T=>⟨Nat.le_trans (R.gk T).1 h,(R.gk T).2⟩,h2,R.rc,R.sp⟩
theorem ng (x:Rs):(dI x=fl {x with commit:=i0 x})∨dI x={x with commit:=i0 x}:=by
 unfold dI
 split
 ·exact Or.inl O
 ·exact Or.inr O
theorem qK (R:RI c0 g S B) (h1:1≤v) (h5:v≤5) (hr:(S v).1.role=4): ∃ h,Le g h∧RI c0 h (upd S v (dI (S v).1,(S v).2)) B∧h.LL=g.LL:=by
 have s:=R.sp v h1 h5
 have c:=s.cr
 have ro:=iX c.ro
 have hR:=R.rt h1 h5
 have ht0:(S v).1.term≠0:=(ro.vt (Or.inr hr)).2
 have hnow:=s.rl.now hR
 have key: ∃ h,Le g h∧RI c0 h (upd S v ({(S v).1 with commit:=i0 (S v).1},(S v).2)) B∧h.LL=g.LL:=by
  by_cases hc:(S v).1.commit<kI (aJ (S v).1) (iZ (S v).1)∧(eC (S v).1.base (S v).1.es (kI (aJ (S v).1) (iZ (S v).1))).1=(S v).1.term
  ·have hN:i0 (S v).1=kI (aJ (S v).1) (iZ (S v).1):=by rw[i0,if_pos hc]
   obtain⟨n,hn⟩: ∃ n,kI (aJ (S v).1) (iZ (S v).1)=n:=⟨_,O⟩
   rw[hn] at hc hN
   obtain⟨hc1,hc2⟩:=hc
   have hfnd:n≤(S v).2.length∧tmA (S v).2 n=(S v).1.term:=by
    rw[eC,if_pos hR,s.rl.fnd] at hc2
    split at hc2
    ·rename_i hb
     exact⟨hb.2,hc2⟩
    ·exact absurd hc2.symm ht0
   have hn0:0<n:=by omega
   obtain⟨e,he⟩:=dj (l:=(S v).2) (k:=n-1) (by omega)
   have het:e.1=(S v).1.term:=by
    have:=iT he
    rw[show n-1+1=n by omega,hfnd.2] at this
    exact this.symm
   obtain⟨Q,q1,q2⟩:=yi hn hn0
   rw[hnow] at q1
   obtain⟨h,H,I,e1⟩:=z7 R.inv v (by omega) (nf {(S v).1 with commit:=n} (S v).2) hr n hc1 e he het Q q1 (fun u hu=>by
    obtain⟨p,hp,p1,p2⟩:=q2 u hu
    rcases List.mem_cons.1 hp with rfl|hp
    ·exact Or.inl (p1.symm.trans s.me)
    ·exact Or.inr ⟨p,hp,p1,p2⟩) O O O O hr O
   refine⟨h,H,?_,e1⟩
   rw[hN]
   refine R.to _ B h1 h5 I (R.gk.of e1) R.lim ⟨s.rl.same O O O,s.me,s.es,⟨c.tm,c.vt,c.ld,⟨by have:=c.cm.1;show (S v).1.base.1≤n;omega,hfnd.1⟩,c.li,c.ck,c.ro⟩⟩
  ·have hN:i0 (S v).1=(S v).1.commit:=by rw[i0,if_neg hc]
   refine⟨g,Le.refl g,?_,O⟩
   rw[hN,mq _ _ _ O]
   exact R
 obtain⟨h,H,R2,e1⟩:=key
 rcases ng (S v).1 with hc|hc
 ·refine⟨h,H,?_,e1⟩
  have s2:=R2.sp v h1 h5
  rw[aX] at s2
  have c2:=s2.cr
  have:=R2.soft (y:=dI (S v).1) h1 h5 (by rw[hc];exact s.me) (by rw[aX,hc];rfl) (by rw[aX,hc];rfl) (by rw[aX,hc];rfl) (by rw[aX,hc];rfl) (by rw[aX,hc];rfl) (by rw[aX,hc];exact Nat.le_refl _) (by rw[hc];show (1:Int)≠3;decide) (by rw[hc];show (1:Int)≠4;decide) (by
   rw[aX,hc]
   exact⟨c2.tm,c2.vt,(show (0:Int)≤0∧(0:Int)≤5 by decide),c2.cm,c2.li,c2.ck,mp O O O (by show (0:Int)≠(S v).1.me;rw[s.me];omega)⟩)
  rw[gw,aX] at this
  exact this
 ·exact⟨h,H,by rw[hc];exact R2,e1⟩
theorem qL (x:Rs):(dI x).term=x.term∧(dI x).vote=x.vote:=by
 rcases ng x with h|h<;>rw[h]<;>exact⟨O,O⟩
theorem yo {k:Nat} (hk:k≤l.length) (e:List En):tmA (l++e) k=tmA l k:=by
 unfold tmA
 split
 ·rfl
 ·rw[List.getElem?_append_left (by omega)]
theorem wu (hr:Rl c0 x l) (e:En) (y:Rs) (hb:y.base=x.base) (he:y.es=x.es++[e]) (hc:y.cf=x.cf):Rl c0 y (l++[e]):=by
 have:=hr.bl
 refine⟨by rw[hb,List.length_append];omega,?_,?_,?_⟩
 ·rw[hb,he,hr.es,List.drop_append_of_le_length this]
 ·rw[hb,hr.bt,yo this]
 ·rw[hb,hc,hr.cf,List.take_append_of_le_length this]
theorem yp (h1:1≤v) (h5:v≤5) (n:Nat):dY (n+1) ((fj v).map fun k=>(k,n+1,0)) (fj v)=true:=by
 rcases(by omega:v=1∨v=2∨v=3∨v=4∨v=5) with rfl|rfl|rfl|rfl|rfl<;>simp[fj,dY]
theorem sg (R:RI c0 g S B) (h1:1≤v) (h5:v≤5) (e:En) (h0:(app (S v).1.base (S v).1.es e).1=0):
  eQ e=true∧(S v).1.es.length<16∧(app (S v).1.base (S v).1.es e).2.2.1=(S v).1.base∧(app (S v).1.base (S v).1.es e).2.2.2=(S v).1.es++[e]:=by
 have s:=R.sp v h1 h5
 unfold app at h0 ⊢
 rw[if_pos (R.rt h1 h5)] at h0 ⊢
 split at h0
 ·rename_i hp
  rw[if_pos hp]
  split at h0
  ·cases h0
  ·rename_i hq
   rw[if_neg hq]
   have:=s.es
   exact⟨hp.1,by omega,O,O⟩
 ·cases h0
theorem wv {h:Gh} {T:Nat} {e:En} (hg:Gk g B) (hl: ∀ f∈l,okE f) (hn:l.length≤B) (he:okE e) (hh:h.LL=upd g.LL T (l++[e])):Gk h (B+1):=fun U=>by
 rw[hh]
 by_cases hU:U=T
 ·subst hU
  rw[aX]
  refine⟨by rw[List.length_append];show l.length+1≤B+1;omega,fun f hf=>?_⟩
  rcases List.mem_append.1 hf with hf|hf
  ·exact hl f hf
  ·rw[List.mem_singleton.1 hf];exact he
 ·rw[dJ _ _ hU]
  exact⟨Nat.le_succ_of_le (hg U).1,(hg U).2⟩
theorem sh (R:RI c0 g S B) (h1:1≤v) (h5:v≤5) (hx:(S v).1=x) (hr:x.role=3) (hmaj:C.dD (aJ x) x.votes=true) (hB:B+1≤100000):Tr c0 g S B v (da x) (eH x) (B+1):=by
 subst hx
 have s:=R.sp v h1 h5
 have c:=s.cr
 have ro:=iX c.ro
 have hR:=R.rt h1 h5
 have hok:=R.ok (v:=v) (by omega)
 have hvt:=ro.vt (Or.inl hr)
 unfold da eH
 by_cases h0:(nX (S v).1).1=0
 ·rw[if_pos h0,if_pos h0]
  obtain⟨a1,a2,a3,a4⟩:=sg R h1 h5 _ h0
  have hap:fx (S v).1=dI {tc (S v).1 with es:=(S v).1.es++[((S v).1.term,1,[])]}:=by
   unfold fx
   rw[show (nX (S v).1).2.2.1=(S v).1.base from a3,show (nX (S v).1).2.2.2=_ from a4]
   rfl
  obtain⟨y,hy⟩: ∃ y:Rs,y={tc (S v).1 with es:=(S v).1.es++[((S v).1.term,1,[])]}:=⟨_,O⟩
  have hlp:(lastP (S v).1).1=(S v).2.length:=by rw[s.rl.lastP hR]
  obtain⟨h,H,I,e1⟩:=Gg R.inv v (by omega) (nf y ((S v).2++[((S v).1.term,1,[])])) hr ((S v).1.term,1,[]) O (show decide ((1:Int)=3)=false by decide) (by
   rw[s.rl.now hR] at hmaj
   exact hmaj) (by rw[hy];rfl) (by rw[hy];rfl) O (by rw[hy];rfl) (by rw[hy];rfl) (fun p hp=>by
    rw[hy] at hp
    obtain⟨q,hq,rfl⟩:=List.mem_map.1 hp
    obtain⟨k,_,rfl⟩:=List.mem_map.1 hq
    rfl)
  have hli:=c.li
  have R2:RI c0 h (upd S v (y,(S v).2++[((S v).1.term,1,[])])) (B+1):=by
   refine R.to _ (B+1) h1 h5 I (wv R.gk hok.1 hok.2 ⟨a1,fun h=>absurd h (show ¬ (1:Int)=3 by decide)⟩ e1) hB ⟨wu s.rl _ y (by rw[hy];rfl) (by rw[hy]) (by rw[hy];rfl),by rw[hy];exact s.me,by rw[hy];show ((S v).1.es++[_]).length≤16;rw[List.length_append];show _+1≤16;omega,?_⟩
   rw[hy]
   refine⟨c.tm,c.vt,?_,?_,c.li,?_,r9 O O ?_ O hvt.1 hvt.2⟩
   ·show 0≤(S v).1.me∧(S v).1.me≤5
    rw[s.me];omega
   ·show (S v).1.base.1≤(S v).1.commit∧(S v).1.commit≤_
    have:=c.cm
    rw[List.length_append];omega
   ·show (0:Int)≤0∧(0:Int)≤(S v).1.limit
    omega
   ·show dY _ ((fj (S v).1.me).map fun n=>(n,(lastP (S v).1).1+1,0)) (fj (S v).1.me)=true
    rw[s.me,hlp,List.length_append]
    exact yp h1 h5 _
  obtain⟨h2,H2,R3,e2⟩:=qK R2 h1 h5 (by rw[aX,hy];rfl)
  rw[gw,aX] at R3
  have e3:dI y=fx (S v).1:=by rw[hap,hy]
  rw[← e3]
  refine⟨h2,_,H.trans H2,R3,?_,?_⟩
  ·have:=o8 R3 h1 h5
   rw[aX] at this
   exact this
  ·obtain⟨b1,b2⟩:=qL y
   refine⟨by rw[b1,hy];exact Nat.le_refl _,fun _ _=>by rw[b2,hy];rfl⟩
 ·rw[if_neg h0,if_neg h0]
  refine Tr.one (l:=(S v).2) (Le.refl g) ((R.soft (y:=fl (tc (S v).1)) h1 h5 s.me O O O O O (Nat.le_refl _) (show (1:Int)≠3 by decide) (show (1:Int)≠4 by decide) ⟨c.tm,c.vt,(show (0:Int)≤0∧(0:Int)≤5 by decide),c.cm,c.li,?_,mp O O O (by show (0:Int)≠(S v).1.me;rw[s.me];omega)⟩).up (Nat.le_succ B) hB) (fun _ h=>by cases h) (Vk.refl _)
  have:=c.li
  show (0:Int)≤0∧(0:Int)≤(S v).1.limit
  omega
theorem o9 (R:RI c0 g S B) (h1:1≤v) (h5:v≤5) (hx:(S v).1=x) (hr:x.role=2) (hM:x.term<4611686018427387904) (hB:B+1≤100000):Tr c0 g S B v (jS x) (jT x) (B+1):=by
 subst hx
 have s:=R.sp v h1 h5
 have c:=s.cr
 have ro:=iX c.ro
 have hR:=R.rt h1 h5
 have hok:=R.ok (v:=v) (by omega)
 have on:=R.inv.on v (by omega)
 have hp:=ro.p0 (by rw[hr];decide)
 have hmo:=R.mo (v:=v) (by omega)
 have htm:=R.tm (v:=v) (by omega)
 have hlim:=R.lim
 obtain⟨h,H,I,e1,e2,e3,e4,e5⟩:=wk R.inv v (by omega) (nf (bf (S v).1) (S v).2) ((S v).1.term+1) v (by omega) (Nat.le_succ _) (on.v0 _ (Nat.lt_succ_self _)) (S v).2 true (yf _) ⟨O,Nat.lt_succ_self _,O,fun hc=>by
  have:(S v).1.term+1≤(S v).1.term:=on.el _ hc.1 hc.2
  omega⟩ O s.me O O (fun _=>by show [(S v).1.me]=[v];rw[s.me]) (show (3:Int)≠4 by decide)
 have hme0:(S v).1.me≠0:=by rw[s.me];omega
 have R2:RI c0 h (upd S v (bf (S v).1,(S v).2)) B:=by
  refine R.to _ B h1 h5 I (R.gk.of e5) R.lim ⟨s.rl.same O O O,s.me,s.es,⟨?_,?_,(show (0:Int)≤0∧(0:Int)≤5 by decide),c.cm,c.li,c.ck,yZ O ?_ ?_ hp O hme0 O (Nat.succ_ne_zero _)⟩⟩
  ·show (S v).1.term+1≤_;omega
  ·show 0≤(S v).1.me∧(S v).1.me≤5;rw[s.me];omega
  ·show g7 [(S v).1.me]=true;rw[s.me];exact sa h1 h5
  ·show (S v).1.me∈[(S v).1.me];exact List.mem_singleton.2 O
 have hV:Vk (S v).1 (bf (S v).1):=⟨Nat.le_succ _,fun he=>absurd he (Nat.succ_ne_self _)⟩
 unfold jS jT
 split
 ·rename_i hm
  refine Tr.andThen (Tr.one H R2 (fun _ h=>by cases h) hV) (fun h3 l3 H3 R3=>?_)
  refine sh R3 h1 h5 (by rw[aX]) O ?_ hB
  exact hm
 ·refine Tr.one H (R2.up (Nat.le_succ B) hB) (fun mm hm=>?_) hV
  obtain⟨n,hn,rfl⟩:=List.mem_map.1 hm
  obtain⟨n1,n2,n3⟩:=lO R h1 h5 hn
  have hlp:=s.rl.lastP hR
  refine⟨s.me,?_,O,fun h=>absurd h (show ¬ (3:Int)=7 by decide),Nat.zero_le _,fun _=>?_,fun h=>absurd h (show ¬ (3:Int)=4 by decide),fun h=>absurd h (show ¬ (3:Int)=5 by decide),fun h=>absurd h (show ¬ (3:Int)=6 by decide),fun h=>absurd h (show ¬ (3:Int)=7 by decide)⟩
  ·have e3:=lN hok.1 (Nat.le_refl (S v).2.length)
   have e6:tmA (S v).2 (S v).2.length≤(S v).1.term+1:=Nat.le_succ_of_le (nR htm (Nat.le_refl _))
   rw[nN] at e3 e6
   rw[hlp]
   simp only[dm,wN,oG,gL,mJ,bw,List.length_nil,List.all_nil,List.all_cons,id]
   rw[e3]
   have e4:(S v).2.length≤18446744073709551614:=by omega
   have e7:(S v).1.term+1≤4611686018427387904:=by omega
   have e8: ¬ v=n:=fun h=>n3 h.symm
   simp[s.me,h1,h5,n1,n2,e8,e4,e6,e7]
  ·show h.sd ((S v).1.term+1) (S v).1.me∧lastP (S v).1=((h.cl ((S v).1.term+1) (S v).1.me).length,lt (h.cl ((S v).1.term+1) (S v).1.me))
   rw[s.me,e3,hlp]
   exact⟨e2,O⟩
variable {c0:List Int} {g:Gh} {S:Int→Rs×List En} {B:Nat} {v:Int} {x:Rs} {l:List En} {m:Ms}
theorem Tr.up {y:Rs} {ms:List Ms} {B' B2:Nat} (t:Tr c0 g S B v y ms B') (h:B'≤B2) (h2:B2≤100000) (hM: ∀ m∈ms,m.T≠0) (hv:v≠0):Tr c0 g S B v y ms B2:=by
 obtain⟨h3,l,H,R,M,V⟩:=t
 exact⟨h3,l,H,R.up h h2,fun m hm=>⟨(M m hm).1,(M m hm).2.le R.inv.F (Le.refl _) (by rw[(M m hm).1];exact hv) (hM m hm) h⟩,V⟩
theorem Tr.upR {y:Rs} {ms:List Ms} {B' B2:Nat} (t:Tr c0 g S B v y ms B') (h:B'≤B2) (h2:B2≤100000) (hv:v≠0):Tr c0 g S B v y ms B2:=by
 refine t.up h h2 (fun m hm=>?_) hv
 obtain⟨h3,l,H,R,M,V⟩:=t
 have:=fC (M m hm).2.r
 omega
theorem RI.alike (R:RI c0 g S B) (h1:1≤v) (h5:v≤5) {y:Rs} (hs:nf y (S v).2=nf (S v).1 (S v).2) (sp:Sp c0 v y (S v).2):RI c0 g (upd S v (y,(S v).2)) B:=by
 refine R.to _ B h1 h5 ?_ R.gk R.lim sp
 rw[mq _ _ _ (by rw[hs];rfl)]
 exact R.inv
theorem Sp.to (s:Sp c0 v x l) {y:Rs} (hm:y.me=x.me) (hb:y.base=x.base) (he:y.es=x.es) (hc:y.cf=x.cf) (cr:Cr y l.length):Sp c0 v y l:=⟨s.rl.same hb he hc,hm.trans s.me,by rw[he];exact s.es,cr⟩
theorem Ae (R:RI c0 g S B) (h1:1≤v) (h5:v≤5) (hx:(S v).1=x) {lim:Int} (hl:4≤lim∧lim≤16) (hM:x.term<4611686018427387904) (hr4:x.role≠4) (hB:B+1≤100000):Tr c0 g S B v (vz {x with clock:=0,limit:=lim}) (vB {x with clock:=0,limit:=lim}) (B+1):=by
 subst hx
 have s:=R.sp v h1 h5
 have c:=s.cr
 have ro:=iX c.ro
 have hR:=R.rt h1 h5
 have hok:=R.ok (v:=v) (by omega)
 have htm:=R.tm (v:=v) (by omega)
 have hlim:=R.lim
 have hp:=ro.p0 hr4
 have hme0:(S v).1.me≠0:=by rw[s.me];omega
 have R2:RI c0 g (upd S v (bF {(S v).1 with clock:=0,limit:=lim},(S v).2)) B:=by
  refine R.soft h1 h5 s.me O O O O O (Nat.le_refl _) (show (2:Int)≠3 by decide) (show (2:Int)≠4 by decide) ⟨c.tm,c.vt,(show (0:Int)≤0∧(0:Int)≤5 by decide),c.cm,hl,?_,yY O ?_ ?_ hp O hme0⟩
  ·show (0:Int)≤0∧(0:Int)≤lim;omega
  ·show g7 [(S v).1.me]=true;rw[s.me];exact sa h1 h5
  ·show (S v).1.me∈[(S v).1.me];exact List.mem_singleton.2 O
 unfold vz vB
 split
 ·refine Tr.andThen (Tr.one (Le.refl g) R2 (fun _ h=>by cases h) (Vk.refl _)) (fun h3 l3 H3 R3=>?_)
  exact o9 R3 h1 h5 (by rw[aX]) O hM hB
 ·refine Tr.one (Le.refl g) (R2.up (Nat.le_succ B) hB) (fun mm hm=>?_) (Vk.refl _)
  obtain⟨n,hn,rfl⟩:=List.mem_map.1 hm
  obtain⟨n1,n2,n3⟩:=lO R h1 h5 (n:=n) hn
  have hlp:lastP {(S v).1 with clock:=0,limit:=lim}=((S v).2.length,lt (S v).2):=s.rl.lastP hR
  refine⟨s.me,?_,O,fun h=>absurd h (show ¬ (1:Int)=7 by decide),Nat.zero_le _,fun h=>absurd h (show ¬ (1:Int)=3 by decide),fun h=>absurd h (show ¬ (1:Int)=4 by decide),fun h=>absurd h (show ¬ (1:Int)=5 by decide),fun h=>absurd h (show ¬ (1:Int)=6 by decide),fun h=>absurd h (show ¬ (1:Int)=7 by decide)⟩
  have e3:=lN hok.1 (Nat.le_refl (S v).2.length)
  have e6:tmA (S v).2 (S v).2.length≤(S v).1.term:=nR htm (Nat.le_refl _)
  rw[nN] at e3 e6
  rw[hlp]
  simp only[dm,wN,oG,gL,mJ,bw,List.length_nil,List.all_nil,List.all_cons,id]
  rw[e3]
  have e4:(S v).2.length≤18446744073709551614:=by have:=hok.2;omega
  have e7:(S v).1.term+1≤4611686018427387904:=by omega
  have e8: ¬ v=n:=fun h=>n3 h.symm
  have e9:lt (S v).2≤(S v).1.term+1:=by omega
  have e10: ¬ lt (S v).2=(S v).1.term+1:=by omega
  simp[s.me,h1,h5,n1,n2,e8,e4,e9,e10,e7]
theorem yq (R:RI c0 g S B) (h1:1≤v) (h5:v≤5) (hx:(S v).1=x) {lim:Int} (hl:4≤lim∧lim≤16) (hB:B+1≤100000):Tr c0 g S B v (dW x lim).1 (dW x lim).2 (B+1):=by
 have hup: ∀ {y:Rs} {ms:List Ms},Tr c0 g S B v y ms B→Tr c0 g S B v y ms (B+1):=fun t=>t.upR (Nat.le_succ B) hB (by omega)
 subst hx
 have s:=R.sp v h1 h5
 have c:=s.cr
 have hc:=c.ck
 have hli:=c.li
 have ro: ∀ (k z:Int),di {(S v).1 with clock:=k,limit:=z} (S v).2.length=true:=fun _ _=>c.ro
 unfold dW
 split
 ·rename_i hr
  split
  ·rename_i h2
   have R2:RI c0 g (upd S v ({(S v).1 with clock:=0},(S v).2)) B:=R.alike h1 h5 O (s.to O O O O ⟨c.tm,c.vt,c.ld,c.cm,c.li,by show (0:Int)≤0∧(0:Int)≤(S v).1.limit;omega,ro _ _⟩)
   refine hup (Tr.one (Le.refl g) R2 ?_ (Vk.refl _))
   have:=o8 R2 h1 h5
   rw[aX] at this
   exact this
  ·refine hup (Tr.one (l:=(S v).2) (Le.refl g) ?_ (fun _ h=>by cases h) (Vk.refl _))
   exact R.alike h1 h5 O (s.to O O O O ⟨c.tm,c.vt,c.ld,c.cm,c.li,by show (0:Int)≤(S v).1.clock+1∧(S v).1.clock+1≤(S v).1.limit;omega,ro _ _⟩)
 ·rename_i hr
  split
  ·rename_i h2
   split
   ·rename_i h3
    exact Ae R h1 h5 O hl h3.2 hr hB
   ·refine hup (Tr.one (l:=(S v).2) (Le.refl g) ?_ (fun _ h=>by cases h) (Vk.refl _))
    exact R.alike h1 h5 O (s.to O O O O ⟨c.tm,c.vt,c.ld,c.cm,hl,by show (0:Int)≤0∧(0:Int)≤lim;omega,ro _ _⟩)
  ·refine hup (Tr.one (l:=(S v).2) (Le.refl g) ?_ (fun _ h=>by cases h) (Vk.refl _))
   exact R.alike h1 h5 O (s.to O O O O ⟨c.tm,c.vt,c.ld,c.cm,c.li,by show (0:Int)≤(S v).1.clock+1∧(S v).1.clock+1≤(S v).1.limit;omega,ro _ _⟩)
theorem yr {l:List Int} {n u:Int} (h:u∈bg l n):u∈l∨u=n:=by
 unfold bg at h
 split at h
 ·exact Or.inl h
 ·rcases List.mem_append.1 h with h|h
  ·exact Or.inl (List.mem_of_mem_take h)
  ·rcases List.mem_cons.1 h with h|h
   ·exact Or.inr h
   ·exact Or.inl (List.mem_of_mem_drop h)
theorem si {l:List Int} {n u:Int} (h:u∈l):u∈bg l n:=by
 unfold bg
 split
 ·exact h
 ·rw[← List.take_append_drop (C.cut l n) l] at h
  rcases List.mem_append.1 h with h|h
  ·exact List.mem_append.2 (Or.inl h)
  ·exact List.mem_append.2 (Or.inr (List.mem_cons_of_mem _ h))
theorem sj: ∀ (l:List Int) (n q:Int),iP q l=true→iO n=true→q<n→n∉l→iP q (l.take (C.cut l n)++n::l.drop (C.cut l n))=true
 |[],n,q,_,hs,hq,_=>by simp[iP,C.cut,hs,hq]
 |a::l,n,q,h,hs,hq,hn=>by
  simp only[iP,Bool.and_eq_true,decide_eq_true_eq] at h
  obtain⟨⟨a1,a2⟩,a3⟩:=h
  have hna:n≠a:=fun h=>hn (h▸List.mem_cons_self ..)
  by_cases hc:n≤a
  ·have e:C.cut (a::l) n=0:=by simp[C.cut,List.findIdx_cons,hc]
   rw[e]
   simp[iP,hs,hq,a1,a3]
   omega
  ·have e:C.cut (a::l) n=C.cut l n+1:=by simp[C.cut,List.findIdx_cons,hc]
   rw[e]
   have:=sj l n a a3 hs (by omega) (fun h=>hn (List.mem_cons_of_mem _ h))
   simp[iP,a1,a2,this]
theorem sk {l:List Int} {n:Int} (h:g7 l=true) (h1:1≤n) (h5:n≤5):g7 (bg l n)=true:=by
 unfold bg
 split
 ·exact h
 ·rename_i hn
  exact sj l n 0 h (by simp[iO,h1,h5]) (by omega) hn
theorem ww (R:RI c0 g S B) (h1:1≤v) (h5:v≤5) (hx:(S v).1=x) (o:Om c0 g B m) (hB:B+1≤100000):Tr c0 g S B v (dP x m).1 (dP x m).2 (B+1):=by
 obtain⟨f1,f2,f3,f4,f5,f6,f7,_,_⟩:=fC o.r
 have hup: ∀ {y:Rs} {ms:List Ms},Tr c0 g S B v y ms B→Tr c0 g S B v y ms (B+1):=fun t=>t.upR (Nat.le_succ B) hB (by omega)
 subst hx
 have s:=R.sp v h1 h5
 have c:=s.cr
 have ro:=iX c.ro
 unfold dP
 split
 ·rename_i hc
  obtain⟨hr,ho,ht⟩:=hc
  obtain⟨w1,w2⟩:=ro.vs (Or.inr hr)
  have R2:RI c0 g (upd S v ({(S v).1 with votes:=bg (S v).1.votes m.F},(S v).2)) B:=
   R.soft h1 h5 s.me O O O O O (Nat.le_refl _) (by show (S v).1.role≠3;rw[hr];decide) (by show (S v).1.role≠4;rw[hr];decide) ⟨c.tm,c.vt,c.ld,c.cm,c.li,c.ck,yY hr (sk w1 f1 f2) (si w2) (ro.p0 (by rw[hr];decide)) (ro.l0 (Or.inr hr)) (by show (S v).1.me≠0;rw[s.me];omega)⟩
  split
  ·refine Tr.andThen (Tr.one (Le.refl g) R2 (fun _ h=>by cases h) (Vk.refl _)) (fun h3 l3 H3 R3=>?_)
   exact o9 R3 h1 h5 (by rw[aX]) hr (by show (S v).1.term<_;omega) hB
  ·exact hup (Tr.one (Le.refl g) R2 (fun _ h=>by cases h) (Vk.refl _))
 ·exact hup (jo R O (fun _ h=>by cases h))
theorem wx (R:RI c0 g S B) (h1:1≤v) (h5:v≤5) (hx:(S v).1=x) (hK:m.K=4) (hT:m.T=v) (o:Om c0 g B m) (hB:B+1≤100000):Tr c0 g S B v (ee x m).1 (ee x m).2 (B+1):=by
 obtain⟨f1,f2,f3,f4,f5,f6,f7,_,_⟩:=fC o.r
 have hup: ∀ {y:Rs} {ms:List Ms},Tr c0 g S B v y ms B→Tr c0 g S B v y ms (B+1):=fun t=>t.upR (Nat.le_succ B) hB (by omega)
 subst hx
 have s:=R.sp v h1 h5
 have c:=s.cr
 have ro:=iX c.ro
 unfold ee
 split
 ·rename_i hc
  obtain⟨hr,ho,ht⟩:=hc
  obtain⟨w1,w2⟩:=ro.vs (Or.inl hr)
  obtain⟨w3,w4⟩:=ro.vt (Or.inl hr)
  have hvt:=o.k4 hK ho
  rw[ht,hT] at hvt
  have R2:RI c0 g (upd S v ({(S v).1 with votes:=bg (S v).1.votes m.F},(S v).2)) B:=by
   refine R.to _ B h1 h5 ?_ R.gk R.lim (s.to O O O O ⟨c.tm,c.vt,c.ld,c.cm,c.li,c.ck,yZ hr (sk w1 f1 f2) (si w2) (ro.p0 (by rw[hr];decide)) (ro.l0 (Or.inl hr)) (by show (S v).1.me≠0;rw[s.me];omega) w3 w4⟩)
   refine more R.inv v (by omega) _ hr (fun u hu=>?_) O O O O hr
   rcases yr hu with h|h
   ·exact Or.inl h
   ·rw[h];exact Or.inr hvt
  split
  ·rename_i hm
   refine Tr.andThen (Tr.one (Le.refl g) R2 (fun _ h=>by cases h) (Vk.refl _)) (fun h3 l3 H3 R3=>?_)
   exact sh R3 h1 h5 (by rw[aX]) hr hm hB
  ·exact hup (Tr.one (Le.refl g) R2 (fun _ h=>by cases h) (Vk.refl _))
 ·exact hup (jo R O (fun _ h=>by cases h))
variable {c0:List Int} {g:Gh} {S:Int→Rs×List En} {B:Nat} {v:Int} {x:Rs} {l:List En} {m:Ms}
theorem mu (p:Pe) (l:List Pe) (who:Int) (f:Pe→Pe):eO (p::l) who f=if p.1=who then f p::l else p::eO l who f:=by
 unfold eO
 rw[List.findIdx_cons]
 by_cases h:p.1=who
 ·simp[h]
 ·simp[h]
theorem sm: ∀ (l:List Pe) (who:Int) (f:Pe→Pe), ∀ q∈eO l who f,q∈l∨ ∃ p∈l,p.1=who∧q=f p
 |[],_,_,q,h=>by simp[eO] at h
 |p::l,who,f,q,h=>by
  rw[mu] at h
  split at h
  ·rename_i hp
   rcases List.mem_cons.1 h with h|h
   ·exact Or.inr ⟨p,List.mem_cons_self ..,hp,h⟩
   ·exact Or.inl (List.mem_cons_of_mem _ h)
  ·rcases List.mem_cons.1 h with h|h
   ·exact Or.inl (h▸List.mem_cons_self ..)
   ·rcases sm l who f q h with h|⟨p',h1,h2⟩
    ·exact Or.inl (List.mem_cons_of_mem _ h)
    ·exact Or.inr ⟨p',List.mem_cons_of_mem _ h1,h2⟩
theorem so {α:Type} (k:Pe→α) (f:Pe→Pe) (hf: ∀ p,k (f p)=k p): ∀ (l:List Pe) (who:Int),(eO l who f).map k=l.map k
 |[],_=>rfl
 |p::l,who=>by
  rw[mu]
  split
  ·simp[hf]
  ·simp[so k f hf l who]
theorem nT (n:Nat) (f:Pe→Pe) (hf: ∀ p:Pe,1≤p.2.1→p.2.1≤n+1→p.2.2<p.2.1→(f p).1=p.1∧1≤(f p).2.1∧(f p).2.1≤n+1∧(f p).2.2<(f p).2.1): ∀ (l:List Pe) (k:List Int) (who:Int),dY n l k=true→dY n (eO l who f) k=true
 |[],k,who,h=>h
 |p::l,[],who,h=>by simp[dY] at h
 |p::l,i::k,who,h=>by
  simp only[dY,Bool.and_eq_true,decide_eq_true_eq] at h
  obtain⟨⟨⟨⟨a1,a2⟩,a3⟩,a4⟩,a5⟩:=h
  rw[mu]
  split
  ·obtain⟨b1,b2,b3,b4⟩:=hf p a2 a3 a4
   simp only[dY,Bool.and_eq_true,decide_eq_true_eq]
   exact⟨⟨⟨⟨b1.trans a1,b2⟩,b3⟩,b4⟩,a5⟩
  ·simp only[dY,Bool.and_eq_true,decide_eq_true_eq]
   exact⟨⟨⟨⟨a1,a2⟩,a3⟩,a4⟩,nT n f hf l k who a5⟩
theorem pb (R:RI c0 g S B) (h1:1≤v) (h5:v≤5) (hx:(S v).1=x) (hK:m.K=6) (hT:m.T=v) (o:Om c0 g B m):Tr c0 g S B v (bZ x m).1 (bZ x m).2 B:=by
 obtain⟨f1,f2,f3,f4,f5,f6,f7,_,_⟩:=fC o.r
 subst hx
 have s:=R.sp v h1 h5
 have c:=s.cr
 have ro:=iX c.ro
 have hR:=R.rt h1 h5
 have hFv:m.F≠v:=by rw[← hT];exact f5
 have hlp:(lastP (S v).1).1=(S v).2.length:=by rw[s.rl.lastP hR]
 unfold bZ
 split
 ·rename_i hc
  obtain⟨hr,ht,hp⟩:=hc
  obtain⟨w3,w4⟩:=ro.vt (Or.inr hr)
  split
  ·have R2:RI c0 g (upd S v ({(S v).1 with peers:=eO (S v).1.peers m.F (tU m)},(S v).2)) B:=by
    refine R.alike h1 h5 ?_ (s.to O O O O ⟨c.tm,c.vt,c.ld,c.cm,c.li,c.ck,r9 hr (ro.v0 (by rw[hr];decide)) (nT _ (tU m) (fun p a1 a2 a3=>?_) _ _ _ (ro.ps hr)) (ro.ld.1 hr) w3 w4⟩)
    ·unfold nf
     simp only
     rw[so (fun p:Pe=>(p.1,p.2.2)) (tU m) (fun _=>O)]
    ·refine⟨O,?_,?_,?_⟩
     ·show 1≤max _ _;omega
     ·show max (min p.2.1 (m.ix+1)) (p.2.2+1)≤_;omega
     ·show p.2.2<max _ (p.2.2+1);omega
   refine Tr.one (Le.refl g) R2 ?_ (Vk.refl _)
   intro mm hm
   have:=nS R2 h1 h5 (by rw[aX];exact hr) hFv mm (by rw[aX];exact hm)
   exact this
  ·rename_i ho
   have ho:m.ok=true:=by simpa using ho
   obtain⟨q1,q2⟩:=o.k6 hK ho
   rw[ht] at q1 q2
   split
   ·exact jo R O (fun _ h=>by cases h)
   ·rename_i hix
    rw[hlp] at hix
    have R2:RI c0 g (upd S v ({(S v).1 with peers:=eO (S v).1.peers m.F (tV m)},(S v).2)) B:=by
     refine R.to _ B h1 h5 ?_ R.gk R.lim (s.to O O O O ⟨c.tm,c.vt,c.ld,c.cm,c.li,c.ck,r9 hr (ro.v0 (by rw[hr];decide)) (nT _ (tV m) (fun p a1 a2 a3=>?_) _ _ _ (ro.ps hr)) (ro.ld.1 hr) w3 w4⟩)
     ·refine yg R.inv v (by omega) _ hr (fun p hp=>?_) O O O O hr
      obtain⟨q,hq,rfl⟩:=List.mem_map.1 hp
      have old:=((R.inv.on v (by omega)).ld hr).mt
      have hold: ∀ q∈(S v).1.peers,q.2.2≤g.ak (S v).1.term q.1:=fun q hq=>old (q.1,q.2.2) (List.mem_map.2 ⟨q,hq,O⟩)
      rcases sm _ _ _ q hq with hq|⟨p',hp',e1,rfl⟩
      ·exact hold q hq
      ·have:=hold p' hp'
       show max p'.2.2 m.ix≤g.ak (S v).1.term p'.1
       rw[e1] at this ⊢
       omega
     ·refine⟨O,?_,?_,?_⟩
      ·show 1≤max _ _;omega
      ·show max p.2.1 (max p.2.2 m.ix+1)≤_;omega
      ·show max p.2.2 m.ix<max p.2.1 (max p.2.2 m.ix+1);omega
    obtain⟨h,H,R3,_⟩:=qK R2 h1 h5 (by rw[aX];exact hr)
    rw[gw,aX] at R3
    refine Tr.one H R3 ?_ ?_
    ·intro mm hm
     exact sf R3 h1 h5 hFv mm (by rw[aX];exact hm)
    ·obtain⟨b1,b2⟩:=qL {(S v).1 with peers:=eO (S v).1.peers m.F (tV m)}
     exact⟨by rw[b1];exact Nat.le_refl _,fun _ _=>by rw[b2]⟩
 ·exact jo R O (fun _ h=>by cases h)
theorem yt (R:RI c0 g S B) (h1:1≤v) (h5:v≤5) (hx:(S v).1=x) (hT:m.T=v) (o:Om c0 g B m) (hB:B+1≤100000):Tr c0 g S B v (cO x m).1 (cO x m).2.1 (B+1):=by
 obtain⟨f1,f2,f3,f4,f5,f6,f7,f8,f9⟩:=fC o.r
 have n1:Tr c0 g S B v (kJ x m) [] B:=by
  unfold kJ
  split
  ·rename_i hc
   exact Aa R h1 h5 hx hc.1 f7
  ·exact jo R hx (fun _ h=>by cases h)
 refine n1.andThen (fun h l' H R2=>?_)
 have o2:=o.le R.inv.F H (by omega) (by omega) (Nat.le_refl B)
 have hx2:(upd S v (kJ x m,l') v).1=kJ x m:=by rw[aX]
 have hup: ∀ {y:Rs} {ms:List Ms},Tr c0 h (upd S v (kJ x m,l')) B v y ms B→Tr c0 h (upd S v (kJ x m,l')) B v y ms (B+1):=fun t=>t.upR (Nat.le_succ B) hB (by omega)
 have htm: ¬ m.K=1→ ¬ m.K=2→m.tm≤(kJ x m).term:=fun k1 k2=>by
  unfold kJ
  split
  ·exact Nat.le_refl m.tm
  ·rename_i hc
   rcases Nat.lt_or_ge x.term m.tm with h9|h9
   ·exact absurd ⟨h9,k1,fun k3=>k2 k3.1⟩ hc
   ·exact h9
 unfold cO fz
 split
 ·exact hup (wt R2 h1 h5 hx2 hT o2)
 ·rename_i k1
  split
  ·exact ww R2 h1 h5 hx2 o2 hB
  ·rename_i k2
   split
   ·rename_i k3
    exact hup (ym R2 h1 h5 hx2 k3 hT o2 (htm k1 k2))
   ·split
    ·rename_i k4
     exact wx R2 h1 h5 hx2 k4 hT o2 hB
    ·split
     ·rename_i k5
      exact hup (tO R2 h1 h5 hx2 k5 hT o2 (htm k1 k2))
     ·split
      ·rename_i k6
       exact hup (pb R2 h1 h5 hx2 k6 hT o2)
      ·exact hup (yl R2 h1 h5 hx2 (by omega) hT o2 (htm k1 k2))
theorem tQ (o:Om c0 g B m) {v:Int} (hm:x.me=v) (hT:m.T=v):lF x m=true:=by
 unfold lF
 rw[o.r,o.s,hT,hm]
 by_cases h7:m.K=7
 ·simp[h7,o.cr h7]
 ·simp[h7]
end Go.Proofs.YtdeffdldifepkaaGreat.Rq
