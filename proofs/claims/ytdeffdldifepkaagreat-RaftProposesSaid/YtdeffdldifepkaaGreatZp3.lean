/- Lemmas of the proof, part 3. -/
import Derived.Test.YtdeffdldifepkaaGreatZp2
set_option maxRecDepth 100000
set_option maxHeartbeats 4000000
namespace Go.Proofs.YtdeffdldifepkaaGreat
open Go.RowKit
open Asn (pt row rb)
set_option linter.unusedVariables false
set_option linter.unusedSimpArgs false
theorem entD_any (w:World) (A:Option Addr) (c k:Nat) (Q:List Em) (l:List En) (hk:Q.length=k) (hl:Q.map emv=l) (h:Rd w All 3 A k (cellsL emc Q)) (hd:RDt w All (Q.map emd)) (hn:k≤1000) (hkk: ∀ m∈Q,m.2.2.2.2.length≤100000):
  Gives Tryz.prog 23 [.slice A k c] [] w (X:=(Option Addr×Nat)×Sh l) (fun x=> .slice x.1.1 k x.1.2) (fun x=>k≤x.1.2) (fun x=>[row 59 3 x.1.1 k x.1.2 (cellsL emc x.2.1),dtB 5 (x.2.1.map emd)]):=by
 refine gives_S Tryz.func23 O Tryz.ntmps23 Tryz.results23 (by simp) (St.enter w) (fun B hB=>?_)
 have hne:0<k→A≠none:=fun h0=>by obtain⟨ad,rfl,_⟩:=h.2 (by omega);simp
 repeat' (first|refine R_p O ?_ O O|refine R_nil ?_|refine S_seq O ?_|refine S_region O O ?_|refine S_block O ?_)
 refine S_loop (X:=Nat×(Option Addr×Nat)×List Em) (fun x=>[(3,.slice x.2.1.1 x.1 x.2.1.2),(6,.slice A k c),(7,.int .i64 (k:Int)),(8,.int .i64 (x.1:Int))]) (fun x=>[row 59 3 x.2.1.1 x.1 x.2.1.2 (cellsL emc x.2.2),dtB 5 (x.2.2.map emd)]) (fun x=>x.1≤k∧x.2.2.map emv=(Q.take x.1).map emv) (fun x=>k-x.1) O (0,(none,0),[]) ⟨Nat.zero_le _,O⟩ (Sub.cons O (Sub.cons O (Sub.cons O (Sub.cons O Sub.nil)))) (fun w hS=>(dtB_nil (e:=5) (hS.sublist (List.nil_sublist _))).nilrow 59 3) ?_
 rintro⟨j,⟨A5,c5⟩,P⟩ ⟨hj,hP⟩ J hJ
 dsimp only at hj hP ⊢
 rcases Nat.lt_or_ge j k with hjl|hjl
 ·have hne:=hne (by omega)
  have hat:=cellsL_at (f:=emc) emc_len Q default j (by omega)
  obtain⟨m,hm⟩: ∃ m,Q.getD j default=m:=⟨_,O⟩
  have hmem:m∈Q:=by rw[← hm];simp[List.getD,show j<Q.length by omega]
  rw[hm] at hat
  have hnx:=emv_take Q j (by omega) hm
  have hkm:=hkk m hmem
  have hd1:=hd (emd m) (List.mem_map.2 ⟨m,hmem,O⟩)
  obtain⟨t,kd,D,cd,bs⟩:=m
  obtain⟨q,hql⟩: ∃ q,bs.length=q:=⟨_,O⟩
  have hkm:bs.length≤100000:=hkm
  have hd1:Rd w All 1 D bs.length (bs.map bv):=hd1
  have hat: ∀ e v,([Value.int .u64 (t:Int),.int .i64 kd,.slice D bs.length cd]:List Value)[e]? =some v→(cellsL emc Q)[j*3+e]? =some v:=hat
  rw[hql] at hkm hd1 hat
  focus (refine qs ?_;refine qd ?_;refine qz ?_;refine qq ?_;refine qT ?_;refine qx ?_;refine qq ?_;refine qb ?_;refine qs ?_;refine qt (T_ixM (sz:=3) O O O O O O hne hjl) ?_;refine qt (T_lda (ds:=[.int .u64 (t:Int),.int .i64 kd,.slice D q cd]) O O O (Srd.old h (fun k _=>noOwns k)) O (by omega) hat) ?_;(refine qe (E_alloca O em_zero) ?_;rintro _ _ ⟨b7,rfl,rfl⟩);(refine qw (E_storew (cs:=emc (0,0,none,0,[])) (ds:=[.int .u64 (t:Int),.int .i64 kd,.slice D q cd]) O O O O (by simp[Value.oneCell']) O) ?_;rintro _ _ rfl);refine qn ?_;(refine qe (E_lit1 (m:=0) (vs:=[]) O O O O O O O (by simp) (by decide)) ?_;rintro _ _ ⟨bl,rfl,rfl⟩);refine qp ?_;refine qt (T_load O O O O) ?_;(refine qe (E_apple (sz:=1) (news:=bs.map bv) O O O O O O O (by decide) .here (Srd.old hd1 (fun k _=>noOwns k)) (bv_ones _) (by show q*1≤_;omega) (by unfold maxLen;omega)) ?_;rintro _ _ ⟨A',c',rfl,rfl⟩);refine qp ?_;(refine qw (E_store1 O O O O O O (by show _<3;omega)) ?_;rintro _ _ rfl);refine qz ?_;refine qr ?_;refine qp ?_;refine qt (T_loads (ds:=[.int .u64 (t:Int),.int .i64 kd,.slice A' q c']) O O O O O) ?_;(refine qe (E_litS (vs:=[.agg [.int .u64 (t:Int),.int .i64 kd,.slice A' q c'].toArray]) (size:=3) (ds:=[.int .u64 (t:Int),.int .i64 kd,.slice A' q c']) O O O O O O (by simp[vcells]) O (by omega)) ?_;rintro _ _ ⟨vb,rfl,rfl⟩);(refine qe (E_appS (sz:=3) (m:=j) (c:=c5) (A:=A5) O O O O O O O (by decide) (Srd.pt (n:=1) (g:=vb) (ds:=[.int .u64 (t:Int),.int .i64 kd,.slice A' q c']) O (fun j u hj=>by rw[Nat.zero_add];exact hj)) (by simp[Value.oneCell']) (by show (j+1)*40≤_;omega) (by unfold maxLen;omega)) ?_;rintro _ _ ⟨A7,c7,rfl,rfl⟩);refine qp ?_;refine qz ?_;refine RS_blk ?_;refine qr ?_;refine qt (T_addN O O (by unfold fits;omega)) ?_;refine qp ?_;refine qz ?_)
  refine hJ (j+1,(A7,c7),P++[(t,kd,A',c',bs)]) _ _ ⟨by show j+1≤_;omega,by dsimp only;rw[hnx,List.map_append,hP];rfl⟩ (Sub.cons O (Sub.cons O (Sub.cons O (Sub.cons O Sub.nil)))) (fun w' hS=>?_) (by show k-(j+1)<_;omega)
  dsimp only
  have e1:emc (t,kd,A',c',bs)=[.int .u64 (t:Int),.int .i64 kd,.slice A' q c']:=by
   show [Value.int .u64 (t:Int),.int .i64 kd,.slice A' bs.length c']=_
   rw[hql]
  have h1:=sub_st (H':=[row 5 1 A' q c' (bs.map bv),dtB 5 (P.map emd),row 59 3 A7 (j+1) c7 (cellsL emc P++[.int .u64 (t:Int),.int .i64 kd,.slice A' q c'])]) w' hS
  have h2:St w (owns []) [dtA 5 (A',c',bs),dtB 5 (P.map emd),row 59 3 A7 (j+1) c7 (cellsL emc P++[.int .u64 (t:Int),.int .i64 kd,.slice A' q c'])] w':=by
   unfold dtA
   rw[hql]
   exact h1
  have h3:=dtB_put h2
  rw[cellsL_app,cellsL_one,e1,List.map_append]
  exact sub_st (H':=[row 59 3 A7 (j+1) c7 (cellsL emc P++[.int .u64 (t:Int),.int .i64 kd,.slice A' q c']),dtB 5 (P.map emd++[(A',c',bs)])]) w' h3
 have hjq:j=k:=by omega
 subst hjq
 rw[← hk,List.take_length,hl] at hP
 focus (refine qs ?_;refine qf ?_;refine qz ?_;refine qq ?_;refine qF ?_;refine S_exit O O ?_;refine qs ?_;refine qp ?_;refine qp ?_;refine qz ?_)
 refine hB _ _ _ _ _ O O fun w' hS=>?_
 have hS:=sub_st (H':=[row 59 3 A5 j c5 (cellsL emc P),dtB 5 (P.map emd)]) w' hS
 exact⟨((A5,c5),⟨P,hP,fun m hm=>dtB_caps (e:=5) (D:=P.map emd) hS (by simp) (emd m) (List.mem_map.2 ⟨m,hm,O⟩)⟩),O,(row_facts (hS.at_ (A:=row 59 3 A5 j c5 (cellsL emc P)) (by simp))).1,hS⟩
theorem copyD_any (w:World) (a:At) (A:Option Addr) (c k:Nat) (Q:List Em) (l:List En) (hk:Q.length=k) (hl:Q.map emv=l) (h:Rd w All 3 A k (cellsL emc Q)) (hd:RDt w All (Q.map emd)) (hn:k≤1000) (hkk: ∀ m∈Q,m.2.2.2.2.length≤100000):
  Gives Tryz.prog 62 [.agg (lgc a A k c).toArray] [] w (X:=(Option Addr×Nat)×Sh l) (fun x=> .agg (lgc a x.1.1 k x.1.2).toArray) (fun x=>k≤x.1.2) (fun x=>[row 59 3 x.1.1 k x.1.2 (cellsL emc x.2.1),dtB 5 (x.2.1.map emd)]):=by
 refine gives_C Tryz.func62 O Tryz.ntmps62 Tryz.results62 (by simp) (St.enter w) (fun B hB=>?_)
 obtain⟨i,t⟩:=a
 focus (refine qs ?_;(refine qe (E_boxa (cs:=lgc (i,t) A k c) O) ?_;rintro _ _ ⟨b1,rfl,rfl⟩);(refine qe (E_alloca O lg_zero) ?_;rintro _ _ ⟨b2,rfl,rfl⟩);refine qz ?_;refine qq ?_)
 refine S_draw ([pt b1 39 (lgc (i,t) A k c)]) sub_st (by kernel_rfl) O (by kernel_rfl) (by kernel_rfl:_=7) ?_
 refine dp 0 ?_
 refine dt 1 O (T_loads (ds:=atc (i,t)) O O O O O) ?_
 refine dp 2 ?_
 refine dl 3 ?_
 refine D_one 4 O (E_hvG (f:=23) F23 (fun w hS=>entD_any w A c k Q l hk hl ((Srd.old h (fun k _=>noOwns k)).rd w hS) ((SDt.old hd (fun k _=>noOwns k)).rd w hS) hn hkk) O O) ?_ O O (by kernel_rfl)
 rintro _ _ ⟨⟨⟨A5,c5⟩,P5⟩,rfl,hc5,rfl⟩;dsimp only[List.cons_append,List.nil_append]
 refine nx ?_
 refine dt 5 O (T_build2 O O (lg_built2 (i,t) _ _ _)) ?_
 refine D_one 6 O (E_storew (cs:=lgc (0,0) none 0 0) (ds:=lgc (i,t) A5 k c5) O O O O (lgc_one _ _ _ _) O) ?_ O O (by kernel_rfl)
 rintro _ _ rfl
 refine nx ?_
 refine dn ?_
 skip
 skip
 refine hB _ _ _ _ _ O (.cell O O O inferInstance O .nil) fun w' hS=>⟨((A5,c5),P5),O,hc5,sub_st _ hS⟩
def fndT (a:At) (l:List En) (idx:Nat):Nat×Bool:=((findR a l idx).2.2,decide (0≤(findR a l idx).1))
theorem termD_any (w:World) (a:At) (A:Option Addr) (c k:Nat) (Q:List Em) (l:List En) (hk:Q.length=k) (hl:Q.map emv=l) (h:Rd w All 3 A k (cellsL emc Q)) (hn:k≤1000) (hf:a.1+k≤18446744073709551615) (idx:Nat) (r:Nat×Bool) (hr:fndT a l idx=r):
  Gives Tryz.prog 103 [.agg (lgc a A k c).toArray,.int .u64 (idx:Int)] [] w (X:=Unit) (fun _=> .tuple #[.int .u64 (r.1:Int),.bool r.2]) (fun _=>True) (fun _=>[]):=by
 refine gives_S Tryz.func103 O Tryz.ntmps103 Tryz.results103 (by simp) (St.enter w) (fun B hB=>?_)
 have hll:l.length=k:=by rw[← hl,List.length_map,hk]
 focus (refine qs ?_;(refine qe (E_boxa (cs:=lgc a A k c) O) ?_;rintro _ _ ⟨b1,rfl,rfl⟩);refine qp ?_;refine qp ?_;refine qz ?_;refine qq ?_;refine qs ?_;refine qp ?_;refine qt (T_load O O O O) ?_;refine qp ?_;refine qt (T_addN O O (by unfold fits;omega)) ?_;refine qp ?_;refine qz ?_;refine qb ?_)
 refine S_loop (X:=Nat) (fun j=>[(1,.int .u64 (idx:Int)),(2,.pointer (some ⟨b1,0,none⟩)),(11,.int .i64 ((k+1:Nat):Int)),(12,.int .i64 (j:Int))]) (fun _=>[pt b1 39 (lgc a A k c)]) (fun j=>j≤k+1∧ ∀ i,i<j→(placeN a l i).1≠idx) (fun j=>k+1-j) O 0 ⟨Nat.zero_le _,fun i hi=>by omega⟩ (Sub.cons O (Sub.cons O (Sub.cons O (Sub.cons O Sub.nil)))) sub_st ?_
 rintro j ⟨hj,hno⟩ J hJ
 rcases Nat.lt_or_ge j (k+1) with hjl|hjl
 ·have hpn:=placeN_fst a l j
  obtain⟨⟨p,u⟩,hp⟩: ∃ p,placeN a l j=p:=⟨_,O⟩
  rw[hp] at hpn
  have hpn:p=a.1+j:=hpn
  by_cases hpi:p=idx
  ·have e:fndT a l idx=(u,true):=by
    unfold fndT
    rw[findR_hit (j:=j) (by omega) (by rw[hp];exact hpi),hp,decide_eq_true (by show (0:Int)≤(j:Int);omega)]
   rw[← hr,e] at hB
   repeat' (first|refine R_take (T_decT O (by omega)) ?_ O O|refine R_p O ?_ O O|refine R_nil ?_|refine R_take (T_loads (ds:=lgc a A k c) O O O O O) ?_ O O|refine R_take (T_load O O O O) ?_ O O|refine S_seq O ?_|refine S_region O O ?_|refine S_true O O ?_|refine S_block O ?_|refine S_skip O ?_|((refine R_eff (E_hv0 (f:=140) F140 (fun w hS=>placeD_any w a A c k Q l hk hl ((Srd.old h (fun k _=>noOwns k)).rd w hS) (by omega) hf j (by omega) (p,u) hp) O O (fun _=>O)) ?_ O O;rintro _ _ ⟨_,rfl,_,rfl⟩))|(refine R_eff (E_alloca O at_zero) ?_ O O;rintro _ _ ⟨b7,rfl,rfl⟩)|(refine R_eff0 (E_storew (cs:=atc (0,0)) (ds:=atc (p,u)) O O O O (atc_one _) O) ?_ O;rintro _ _ rfl))
   exact hB _ _ _ _ _ O O (qE O)
  ·focus (refine qs ?_;refine qd ?_;refine qz ?_;refine qq ?_;refine qT ?_;refine qx ?_;refine qq ?_;refine qb ?_;refine qs ?_;refine qp ?_;refine qp ?_;refine qn ?_;refine qt (T_loads (ds:=lgc a A k c) O O O O O) ?_;refine qp ?_;(refine qh F140 (fun w hS=>placeD_any w a A c k Q l hk hl ((Srd.old h (fun k _=>noOwns k)).rd w hS) (by omega) hf j (by omega) (p,u) hp) ?_);(refine qe (E_alloca O at_zero) ?_;rintro _ _ ⟨b7,rfl,rfl⟩);(refine qw (E_storew (cs:=atc (0,0)) (ds:=atc (p,u)) O O O O (atc_one _) O) ?_;rintro _ _ rfl);refine qn ?_;refine qp ?_;refine qt (T_load O O O O) ?_;refine qp ?_;refine qf ?_;refine qz ?_;refine qF ?_;refine qx ?_;refine RS_blk ?_;refine qr ?_;refine qt (T_addN O O (by unfold fits;omega)) ?_;refine qp ?_;refine qz ?_)
   refine hJ (j+1) _ _ ⟨by omega,fun i hi=>?_⟩ (Sub.cons O (Sub.cons O (Sub.cons O (Sub.cons O Sub.nil)))) sub_st (by omega)
   rcases Nat.lt_or_ge i j with h3|h3
   ·exact hno i h3
   ·rw[show i=j by omega,hp];exact hpi
 ·have e:fndT a l idx=(0,false):=by
   unfold fndT
   rw[findR_not (fun i hi=>hno i (by omega))]
   rfl
  rw[← hr,e] at hB
  focus (refine qs ?_;refine qf ?_;refine qz ?_;refine qq ?_;refine qF ?_;refine S_exit O O ?_;refine qs ?_;refine qp ?_;refine qp ?_;refine qz ?_)
  exact hB _ _ _ _ _ O O (qE O)
theorem T_subE {P:Program} {n:Nat} {w0:World} {M:Nat→Prop} {T:Slots} {H:List Asn} {dd:Option Tmp} {tt:TypeId} {pos:String} {af:Array Edge} {g:Option (Nat×Bool)} {x y:Operand} {t u:TypeId} {kk:IntKind} {i j:Int} {p q r:Nat} (h:p-q=r) (hx:oget T x=some (.int kk i)) (hy:oget T y=some (.int kk j)) [hi:NatOf i p] [hj:NatOf j q] (hq:q≤p) (hf:fits kk ((p-q:Nat):Int)):Tk P n w0 M T H ⟨dd,.binOp .sub t x y u,tt,pos,af,g⟩ (.int kk (r:Int)):=by
 have:=T_subN (P:=P) (n:=n) (w0:=w0) (M:=M) (H:=H) (dd:=dd) (tt:=tt) (pos:=pos) (af:=af) (g:=g) (t:=t) (u:=u) hx hy hq hf
 rwa [h] at this
end Go.Proofs.YtdeffdldifepkaaGreat
namespace Go.Proofs.YtdeffdldifepkaaGreat
open Go.RowKit Go.ChangeShapes Go.WideShapes Go.ChangeAt
open Asn (pt row rb)
set_option linter.unusedVariables false
set_option linter.unusedSimpArgs false
end Go.Proofs.YtdeffdldifepkaaGreat
namespace Go.Proofs.YtdeffdldifepkaaGreat
open Go.RowKit
open Asn (pt row rb)
set_option linter.unusedVariables false
set_option linter.unusedSimpArgs false
def app (a:At) (l:List En) (x:En):Int×At×At×List En:=
 if rightB a l=true then
  if placedB x=true∧(lastA a l).2≤x.1 then
   if l.length=16∨(lastA a l).1=18446744073709551614 then (6,(0,0),(0,0),[]) else (0,lastA a (l++[x]),a,l++[x])
  else (2,(0,0),(0,0),[])
 else (220,(0,0),(0,0),[])
theorem last_app (a:At) (l:List En) (x:En):lastA a (l++[x])=(a.1+(l.length+1),x.1):=by
 rw[lastA,lastT_app,List.length_append]
 rfl
theorem right_k (w:World) (a:At) (A:Option Addr) (c k:Nat) (Q:List Em) (l:List En) (hk:Q.length=k) (hl:Q.map emv=l) (h:Rd w All 3 A k (cellsL emc Q)) (hn:k≤100000) (r:Bool) (hr:rightB a l=r):
  Gives Tryz.prog 121 [.agg (lgc a A k c).toArray] [] w (X:=Unit) (fun _=> .bool r) (fun _=>True) (fun _=>[]):=by
 subst hk
 subst hl
 subst hr
 exact right_any w a A c Q h hn
theorem lastI_k (w:World) (a:At) (A:Option Addr) (c k:Nat) (Q:List Em) (l:List En) (hk:Q.length=k) (hl:Q.map emv=l) (h:Rd w All 3 A k (cellsL emc Q)) (hn:k≤100000) (hf:a.1+k≤18446744073709551615) (p:At) (hp:lastA a l=p):
  Gives Tryz.prog 124 [.agg (lgc a A k c).toArray] [] w (X:=Unit) (fun _=> .agg (atc p).toArray) (fun _=>True) (fun _=>[]):=by
 subst hk
 subst hl
 subst hp
 exact last_any w a A c Q h hn hf
theorem placed_k (w:World) (m:Em) (r:Bool) (hr:placedB (emv m)=r):
  Gives Tryz.prog 129 [.agg (emc m).toArray] [] w (X:=Unit) (fun _=> .bool r) (fun _=>True) (fun _=>[]):=by
 subst hr
 exact placed_any w m
theorem rightE_k (w:World) (m:Em) (r:Bool) (hr:placedB (emv m)=r):
  Gives Tryz.prog 150 [.agg (emc m).toArray] [] w (X:=Unit) (fun _=> .bool r) (fun _=>True) (fun _=>[]):=by
 subst hr
 exact rightEntry_any w m
theorem copied_S (w:World) (A:Option Addr) (c k:Nat) (Q:List Em) (l:List En) (hk:Q.length=k) (hl:Q.map emv=l) (h:Rd w All 3 A k (cellsL emc Q)) (hd:RDt w All (Q.map emd)) (hn:k≤1000) (hkk: ∀ m∈Q,m.2.2.2.2.length≤100000):
  Gives Tryz.prog 130 [.slice A k c] [] w (X:=(Option Addr×Nat)×Sh l) (fun x=> .slice x.1.1 k x.1.2) (fun _=>True) (fun x=>[row 59 3 x.1.1 k x.1.2 (cellsL emc x.2.1),dtB 5 (x.2.1.map emd)]):=by
 subst hk
 exact(copied_any w A c Q h hd hn hkk).mono fun u w' ⟨⟨⟨A5,c5⟩,P⟩,he,h1,hS⟩=>⟨((A5,c5),⟨P.1,P.2.trans hl,fun m hm=>dtB_caps (e:=5) (D:=P.1.map emd) hS (by simp) (emd m) (List.mem_map.2 ⟨m,hm,O⟩)⟩),he,trivial,hS⟩
theorem apA_any (w:World) (a:At) (A:Option Addr) (c k:Nat) (Q:List Em) (l:List En) (hk:Q.length=k) (hl:Q.map emv=l) (h:Rd w All 3 A k (cellsL emc Q)) (hd:RDt w All (Q.map emd)) (hn:k≤1000) (hkk: ∀ m∈Q,m.2.2.2.2.length≤100000) (m:Em) (hm:Rd w All 1 m.2.2.1 m.2.2.2.2.length (m.2.2.2.2.map bv)) (hmk:m.2.2.2.2.length≤100000) (e:Int) (p b:At) (r:List En) (K:Nat) (hK:r.length=K) (hs:app a l (emv m)=(e,p,b,r)):
  Gives Tryz.prog 54 [.agg (lgc a A k c).toArray,.agg (emc m).toArray] [] w (X:=(Option Addr×Nat)×Sh r) (fun x=> .tuple #[.agg (lgc b x.1.1 K x.1.2).toArray,.agg (atc p).toArray,zi e]) (fun _=>True) (fun x=>[row 59 3 x.1.1 K x.1.2 (cellsL emc x.2.1),dtB 5 (x.2.1.map emd)]):=by
 refine gives_C Tryz.func54 O Tryz.ntmps54 Tryz.results54 (by simp) (St.enter w) (fun B hB=>?_)
 obtain⟨i,t⟩:=a
 have hll:l.length=k:=by rw[← hl,List.length_map,hk]
 obtain⟨lt,hla0⟩: ∃ x,(lastA (i,t) l).2=x:=⟨_,O⟩
 have hla:lastA (i,t) l=(i+k,lt):=by
  have:lastA (i,t) l=(i+k,(lastA (i,t) l).2):=by rw[lastA,hll]
  rw[this,hla0]
 obtain⟨q0,hp⟩: ∃ q,placedB (emv m)=q:=⟨_,O⟩
 have hla8:lastA (i,t) (l++[emv m])=(i+(k+1),m.1):=by rw[last_app,hll];rfl
 obtain⟨r0,hr0⟩: ∃ q,rightB (i,t) l=q:=⟨_,O⟩
 have hs:(if r0=true then if q0=true∧lt≤m.1 then if k=16∨i+k=18446744073709551614 then (6,(0,0),(0,0),[]) else (0,lastA (i,t) (l++[emv m]),(i,t),l++[emv m]) else (2,(0,0),(0,0),[]) else ((220,(0,0),(0,0),[]):Int×At×At×List En))=(e,p,b,r):=by
  rw[← hs,app,hr0,hp,hla,hll]
  rfl
 cases r0
 ·rw[if_neg Bool.false_ne_true] at hs
  injection hs with e1 e2
  injection e2 with e2 e3
  injection e3 with e3 e4
  subst e1 e2 e3 e4 hK
  focus (refine qs ?_;(refine qe (E_boxa (cs:=lgc (i,t) A k c) O) ?_;rintro _ _ ⟨b2,rfl,rfl⟩);(refine qe (E_boxa (cs:=emc m) O) ?_;rintro _ _ ⟨b3,rfl,rfl⟩);(refine qe (E_alloca O lg_zero) ?_;rintro _ _ ⟨b4,rfl,rfl⟩);(refine qe (E_alloca O at_zero) ?_;rintro _ _ ⟨b5,rfl,rfl⟩);refine qp ?_;refine qn ?_;refine qp ?_;refine qz ?_;refine qq ?_;refine qb ?_;refine qs ?_;refine qt (T_loads (ds:=lgc (i,t) A k c) O O O O O) ?_;(refine qh F121 (fun w hS=>right_k w (i,t) A c k Q l hk hl ((Srd.old h (fun k _=>noOwns k)).rd w hS) (by omega) _ hr0) ?_);refine qt (T_not O) ?_;refine qd ?_;refine qz ?_;refine qT ?_;refine qr ?_;refine qp ?_;refine qz ?_;refine RS_blk ?_;refine qq ?_;refine qs ?_;refine qp ?_;refine qd ?_;refine qz ?_;refine qT ?_;refine qs ?_;refine qt (T_build0 lg_built0) ?_;refine qt (T_build0 at_built0) ?_;refine qp ?_;(refine qw (E_storew (cs:=lgc (0,0) none 0 0) (ds:=lgc (0,0) none 0 0) O O O O (lgc_one _ _ _ _) O) ?_;rintro _ _ rfl);(refine qw (E_storew (cs:=atc (0,0)) (ds:=atc (0,0)) O O O O (atc_one _) O) ?_;rintro _ _ rfl);refine qp ?_;refine qz ?_)
  refine hB _ _ _ _ _ O (.cell O O O inferInstance O (.cell O O O inferInstance O (.tmp O .nil))) fun w' hS=>⟨((none,0),⟨[],O,fun m hm=>absurd hm (by simp)⟩),O,trivial,dtB_nil2 (hS.sublist (List.nil_sublist _))⟩
 have hff:=right_fits hr0
 rw[hll] at hff
 have hff:k≤16∧i+k≤18446744073709551614:=hff
 have hfit:(i,t).1+k≤18446744073709551615:=by show i+k≤_;omega
 rw[if_pos O] at hs
 cases q0
 ·rw[if_neg (fun h=>Bool.false_ne_true h.1)] at hs
  injection hs with e1 e2
  injection e2 with e2 e3
  injection e3 with e3 e4
  subst e1 e2 e3 e4 hK
  focus (refine qs ?_;(refine qe (E_boxa (cs:=lgc (i,t) A k c) O) ?_;rintro _ _ ⟨b2,rfl,rfl⟩);(refine qe (E_boxa (cs:=emc m) O) ?_;rintro _ _ ⟨b3,rfl,rfl⟩);(refine qe (E_alloca O lg_zero) ?_;rintro _ _ ⟨b4,rfl,rfl⟩);(refine qe (E_alloca O at_zero) ?_;rintro _ _ ⟨b5,rfl,rfl⟩);refine qp ?_;refine qn ?_;refine qp ?_;refine qz ?_;refine qq ?_;refine qb ?_;refine qs ?_;refine qt (T_loads (ds:=lgc (i,t) A k c) O O O O O) ?_;(refine qh F121 (fun w hS=>right_k w (i,t) A c k Q l hk hl ((Srd.old h (fun k _=>noOwns k)).rd w hS) (by omega) _ hr0) ?_);refine qt (T_not O) ?_;refine qp ?_;refine qz ?_;refine qF ?_;refine qq ?_)
  refine S_draw ([pt b3 59 (emc m),pt b2 39 (lgc (i,t) A k c)]) sub_st (by kernel_rfl) O (by kernel_rfl) (by kernel_rfl:_=12) ?_
  refine dt 0 O (T_loads (ds:=emc m) O O O O O) ?_
  refine D_one 1 O (E_hv0 (f:=129) F129 (fun w hS=>placed_k w m _ hp) O O (fun _=>O)) ?_ O O (by kernel_rfl)
  rintro _ _ ⟨_,rfl,_,rfl⟩
  refine nx ?_
  refine dt 2 O (T_not O) ?_
  refine dqT 3 ?_
  refine dk 4 ?_
  refine dk 5 ?_
  refine dk 6 ?_
  refine dk 7 ?_
  refine dk 8 ?_
  refine dk 9 ?_
  refine dqT 10 ?_
  refine dqT 11 ?_
  refine dn ?_
  skip
  focus (refine qT ?_;refine qr ?_;refine qp ?_;refine qz ?_;refine RS_blk ?_;refine qq ?_;refine qs ?_;refine qp ?_;refine qd ?_;refine qz ?_;refine qT ?_;refine qs ?_;refine qt (T_build0 lg_built0) ?_;refine qt (T_build0 at_built0) ?_;refine qp ?_;(refine qw (E_storew (cs:=lgc (0,0) none 0 0) (ds:=lgc (0,0) none 0 0) O O O O (lgc_one _ _ _ _) O) ?_;rintro _ _ rfl);(refine qw (E_storew (cs:=atc (0,0)) (ds:=atc (0,0)) O O O O (atc_one _) O) ?_;rintro _ _ rfl);refine qp ?_;refine qz ?_)
  refine hB _ _ _ _ _ O (.cell O O O inferInstance O (.cell O O O inferInstance O (.tmp O .nil))) fun w' hS=>⟨((none,0),⟨[],O,fun m hm=>absurd hm (by simp)⟩),O,trivial,dtB_nil2 (hS.sublist (List.nil_sublist _))⟩
 focus (refine qs ?_;(refine qe (E_boxa (cs:=lgc (i,t) A k c) O) ?_;rintro _ _ ⟨b2,rfl,rfl⟩);(refine qe (E_boxa (cs:=emc m) O) ?_;rintro _ _ ⟨b3,rfl,rfl⟩);(refine qe (E_alloca O lg_zero) ?_;rintro _ _ ⟨b4,rfl,rfl⟩);(refine qe (E_alloca O at_zero) ?_;rintro _ _ ⟨b5,rfl,rfl⟩);refine qp ?_;refine qn ?_;refine qp ?_;refine qz ?_;refine qq ?_;refine qb ?_;refine qs ?_;refine qt (T_loads (ds:=lgc (i,t) A k c) O O O O O) ?_;(refine qh F121 (fun w hS=>right_k w (i,t) A c k Q l hk hl ((Srd.old h (fun k _=>noOwns k)).rd w hS) (by omega) _ hr0) ?_);refine qt (T_not O) ?_;refine qp ?_;refine qz ?_;refine qF ?_;refine qq ?_)
 by_cases hlt:m.1<lt
 ·rw[if_neg (by omega)] at hs
  injection hs with e1 e2
  injection e2 with e2 e3
  injection e3 with e3 e4
  subst e1 e2 e3 e4 hK
  refine S_draw ([pt b3 59 (emc m),pt b2 39 (lgc (i,t) A k c)]) sub_st (by kernel_rfl) O (by kernel_rfl) (by kernel_rfl:_=12) ?_
  refine dt 0 O (T_loads (ds:=emc m) O O O O O) ?_
  refine D_one 1 O (E_hv0 (f:=129) F129 (fun w hS=>placed_k w m _ hp) O O (fun _=>O)) ?_ O O (by kernel_rfl)
  rintro _ _ ⟨_,rfl,_,rfl⟩
  refine nx ?_
  refine dt 2 O (T_not O) ?_
  refine dp 3 ?_
  refine dp 4 ?_
  refine dl 5 ?_
  refine dt 6 O (T_loads (ds:=lgc (i,t) A k c) O O O O O) ?_
  refine D_one 7 O (E_hv0 (f:=124) F124 (fun w hS=>lastI_k w (i,t) A c k Q l hk hl ((Srd.old h (fun k _=>noOwns k)).rd w hS) (by omega) hfit _ hla) O O (fun _=>O)) ?_ O O (by kernel_rfl)
  rintro _ _ ⟨_,rfl,_,rfl⟩
  refine nx ?_
  refine dt 8 O (T_fldv (xs:=atc (i+k,lt)) O O O O O O) ?_
  refine dqT 9 ?_
  refine dqT 10 ?_
  refine dqT 11 ?_
  refine dn ?_
  skip
  focus (refine qT ?_;refine qr ?_;refine qp ?_;refine qz ?_;refine RS_blk ?_;refine qq ?_;refine qs ?_;refine qp ?_;refine qd ?_;refine qz ?_;refine qT ?_;refine qs ?_;refine qt (T_build0 lg_built0) ?_;refine qt (T_build0 at_built0) ?_;refine qp ?_;(refine qw (E_storew (cs:=lgc (0,0) none 0 0) (ds:=lgc (0,0) none 0 0) O O O O (lgc_one _ _ _ _) O) ?_;rintro _ _ rfl);(refine qw (E_storew (cs:=atc (0,0)) (ds:=atc (0,0)) O O O O (atc_one _) O) ?_;rintro _ _ rfl);refine qp ?_;refine qz ?_)
  refine hB _ _ _ _ _ O (.cell O O O inferInstance O (.cell O O O inferInstance O (.tmp O .nil))) fun w' hS=>⟨((none,0),⟨[],O,fun m hm=>absurd hm (by simp)⟩),O,trivial,dtB_nil2 (hS.sublist (List.nil_sublist _))⟩
 rw[if_pos ⟨O,by omega⟩] at hs
 refine S_draw ([pt b3 59 (emc m),pt b2 39 (lgc (i,t) A k c)]) sub_st (by kernel_rfl) O (by kernel_rfl) (by kernel_rfl:_=12) ?_
 refine dt 0 O (T_loads (ds:=emc m) O O O O O) ?_
 refine D_one 1 O (E_hv0 (f:=129) F129 (fun w hS=>placed_k w m _ hp) O O (fun _=>O)) ?_ O O (by kernel_rfl)
 rintro _ _ ⟨_,rfl,_,rfl⟩
 refine nx ?_
 refine dt 2 O (T_not O) ?_
 refine dp 3 ?_
 refine dp 4 ?_
 refine dl 5 ?_
 refine dt 6 O (T_loads (ds:=lgc (i,t) A k c) O O O O O) ?_
 refine D_one 7 O (E_hv0 (f:=124) F124 (fun w hS=>lastI_k w (i,t) A c k Q l hk hl ((Srd.old h (fun k _=>noOwns k)).rd w hS) (by omega) hfit _ hla) O O (fun _=>O)) ?_ O O (by kernel_rfl)
 rintro _ _ ⟨_,rfl,_,rfl⟩
 refine nx ?_
 refine dt 8 O (T_fldv (xs:=atc (i+k,lt)) O O O O O O) ?_
 refine dqF 9 ?_
 refine dp 10 ?_
 refine dp 11 ?_
 refine dn ?_
 skip
 by_cases hfull:k=16∨i+k=18446744073709551614
 ·rw[if_pos hfull] at hs
  injection hs with e1 e2
  injection e2 with e2 e3
  injection e3 with e3 e4
  subst e1 e2 e3 e4 hK
  by_cases h16:k=16
  ·repeat' (first|refine R_take (T_decT O (by omega)) ?_ O O|refine R_p O ?_ O O|refine R_nil ?_|refine R_skip ?_ O O|refine R_take (T_load O O O O) ?_ O O|refine R_take (T_build0 lg_built0) ?_ O O|refine R_take (T_build0 at_built0) ?_ O O|refine S_seq O ?_|refine S_region O O ?_|refine S_true O O ?_|refine S_false O O ?_|refine RS_blk ?_|(refine R_eff0 (E_storew (cs:=lgc (0,0) none 0 0) (ds:=lgc (0,0) none 0 0) O O O O (lgc_one _ _ _ _) O) ?_ O;rintro _ _ rfl)|(refine R_eff0 (E_storew (cs:=atc (0,0)) (ds:=atc (0,0)) O O O O (atc_one _) O) ?_ O;rintro _ _ rfl))
   refine hB _ _ _ _ _ O (.cell O O O inferInstance O (.cell O O O inferInstance O (.tmp O .nil))) fun w' hS=>⟨((none,0),⟨[],O,fun m hm=>absurd hm (by simp)⟩),O,trivial,dtB_nil2 (hS.sublist (List.nil_sublist _))⟩
  ·focus (refine qF ?_;refine qs ?_;refine qp ?_;refine qt (T_load O O O O) ?_;refine qp ?_;refine qf ?_;refine qp ?_;refine qt (T_loads (ds:=lgc (i,t) A k c) O O O O O) ?_;(refine qh F124 (fun w hS=>lastI_k w (i,t) A c k Q l hk hl ((Srd.old h (fun k _=>noOwns k)).rd w hS) (by omega) hfit _ hla) ?_);refine qt (T_fldv (xs:=atc (i+k,lt)) O O O O O O) ?_;(iterate 3 refine qd ?_);refine qz ?_;refine qT ?_;refine qr ?_;refine qp ?_;refine qz ?_;refine RS_blk ?_;refine qq ?_;refine qs ?_;refine qp ?_;refine qd ?_;refine qz ?_;refine qT ?_;refine qs ?_;refine qt (T_build0 lg_built0) ?_;refine qt (T_build0 at_built0) ?_;refine qp ?_;(refine qw (E_storew (cs:=lgc (0,0) none 0 0) (ds:=lgc (0,0) none 0 0) O O O O (lgc_one _ _ _ _) O) ?_;rintro _ _ rfl);(refine qw (E_storew (cs:=atc (0,0)) (ds:=atc (0,0)) O O O O (atc_one _) O) ?_;rintro _ _ rfl);refine qp ?_;refine qz ?_)
   refine hB _ _ _ _ _ O (.cell O O O inferInstance O (.cell O O O inferInstance O (.tmp O .nil))) fun w' hS=>⟨((none,0),⟨[],O,fun m hm=>absurd hm (by simp)⟩),O,trivial,dtB_nil2 (hS.sublist (List.nil_sublist _))⟩
 rw[if_neg hfull,hla8] at hs
 injection hs with e1 e2
 injection e2 with e2 e3
 injection e3 with e3 e4
 subst e1 e2 e3 e4
 have hKK:K=k+1:=by rw[← hK,List.length_append,hll];rfl
 subst hKK
 focus (refine qF ?_;refine qs ?_;refine qp ?_;refine qt (T_load O O O O) ?_;refine qp ?_;refine qf ?_;refine qp ?_;refine qt (T_loads (ds:=lgc (i,t) A k c) O O O O O) ?_;(refine qh F124 (fun w hS=>lastI_k w (i,t) A c k Q l hk hl ((Srd.old h (fun k _=>noOwns k)).rd w hS) (by omega) hfit _ hla) ?_);refine qt (T_fldv (xs:=atc (i+k,lt)) O O O O O O) ?_;refine qf ?_;refine qp ?_;refine qp ?_;refine qz ?_;refine qF ?_;refine qx ?_;refine RS_blk ?_;refine qq ?_;refine qs ?_;refine qp ?_;refine qf ?_;refine qz ?_;refine qF ?_;refine qx ?_;refine qq ?_)
 have hl1:[m].map emv=[emv m]:=rfl
 have hk1: ∀ m'∈[m],m'.2.2.2.2.length≤100000:=fun m' h'=>by rw[List.mem_singleton.1 h'];exact hmk
 have hc1:cellsL emc [m]=emc m:=cellsL_one m
 have hd1:RDt w All ([m].map emd):=fun d hd'=>by
  obtain⟨m',h',rfl⟩:=List.mem_map.1 hd'
  rw[List.mem_singleton.1 h']
  exact hm
 refine S_draw ([pt b3 59 (emc m),pt b2 39 (lgc (i,t) A k c)]) sub_st (by kernel_rfl) O (by kernel_rfl) (by kernel_rfl:_=12) ?_
 refine dp 0 ?_
 refine dt 1 O (T_loads (ds:=atc (i,t)) O O O O O) ?_
 refine dp 2 ?_
 refine dl 3 ?_
 refine dt 5 O (T_loads (ds:=emc m) O O O O O) ?_
 refine D_node #[U,U,U,U,U,U,U,U,U,U,U,Y] (fun x:Option Addr×Nat×Sh l×Nat×Option Addr×Nat×Sh [emv m]×Option Addr×Nat×Nat=>[(50,.agg (lgc (i,t) x.2.2.2.2.2.2.2.1 (k+1) x.2.2.2.2.2.2.2.2.1).toArray),(8,.pointer (some ⟨x.2.2.2.2.2.2.2.2.2,0,none⟩)),(49,.slice x.2.2.2.2.2.2.2.1 (k+1) x.2.2.2.2.2.2.2.2.1),(48,.slice x.2.2.2.2.1 1 x.2.2.2.2.2.1),(47,.slice (some ⟨x.2.2.2.1,0,none⟩) 1 1),(45,.slice x.1 k x.2.1),(46,.agg (emc m).toArray),(44,.slice A k c),(42,.agg (atc (i,t)).toArray),(4,.pointer (some ⟨b4,0,none⟩)),(5,.pointer (some ⟨b5,0,none⟩))]) (fun x:Option Addr×Nat×Sh l×Nat×Option Addr×Nat×Sh [emv m]×Option Addr×Nat×Nat=>[pt x.2.2.2.2.2.2.2.2.2 39 (lgc (0,0) none 0 0),row 59 3 x.2.2.2.2.2.2.2.1 (k+1) x.2.2.2.2.2.2.2.2.1 (cellsL emc x.2.2.1.1++cellsL emc x.2.2.2.2.2.2.1.1),dtB 5 (x.2.2.1.1.map emd),row 59 3 x.2.2.2.2.1 1 x.2.2.2.2.2.1 (cellsL emc x.2.2.2.2.2.2.1.1),dtB 5 (x.2.2.2.2.2.2.1.1.map emd),pt x.2.2.2.1 59 (emc m),pt b4 39 (lgc (0,0) none 0 0),pt b5 36 (atc (0,0)),pt b3 59 (emc m),pt b2 39 (lgc (i,t) A k c)]) (fun nd0=>?_) (fun x=>?_)
 refine D_nodeR #[U,U,U,U,U,U,U,U,U,U,Y,Y] (fun x:Option Addr×Nat×Sh l×Nat×Option Addr×Nat×Sh [emv m]×Option Addr×Nat=>[(50,.agg (lgc (i,t) x.2.2.2.2.2.2.2.1 (k+1) x.2.2.2.2.2.2.2.2).toArray),(49,.slice x.2.2.2.2.2.2.2.1 (k+1) x.2.2.2.2.2.2.2.2),(48,.slice x.2.2.2.2.1 1 x.2.2.2.2.2.1),(47,.slice (some ⟨x.2.2.2.1,0,none⟩) 1 1),(45,.slice x.1 k x.2.1),(46,.agg (emc m).toArray),(44,.slice A k c),(42,.agg (atc (i,t)).toArray),(4,.pointer (some ⟨b4,0,none⟩)),(5,.pointer (some ⟨b5,0,none⟩))]) (fun x:Option Addr×Nat×Sh l×Nat×Option Addr×Nat×Sh [emv m]×Option Addr×Nat=>[row 59 3 x.2.2.2.2.2.2.2.1 (k+1) x.2.2.2.2.2.2.2.2 (cellsL emc x.2.2.1.1++cellsL emc x.2.2.2.2.2.2.1.1),dtB 5 (x.2.2.1.1.map emd),row 59 3 x.2.2.2.2.1 1 x.2.2.2.2.2.1 (cellsL emc x.2.2.2.2.2.2.1.1),dtB 5 (x.2.2.2.2.2.2.1.1.map emd),pt x.2.2.2.1 59 (emc m),pt b4 39 (lgc (0,0) none 0 0),pt b5 36 (atc (0,0)),pt b3 59 (emc m),pt b2 39 (lgc (i,t) A k c)]) (fun x=>?_) (fun nd1=>?_)
 ·skip
  obtain⟨A5,c5,P5,vb,A7,c7,P7,A8,c8⟩:=x
  try dsimp only
  refine D_one 10 O (E_alloca O lg_zero) ?_ O O (by kernel_rfl)
  rintro _ _ ⟨b8,rfl,rfl⟩
  refine nx ?_
  have h:=nd0 (A5,c5,P5,vb,A7,c7,P7,A8,c8,b8)
  try dsimp only at h
  exact Da h
 refine D_nodeR #[U,U,U,U,U,U,U,U,Y,Y,U,Y] (fun x:Option Addr×Nat×Sh l×Nat×Option Addr×Nat×Sh [emv m]×Nat=>[(8,.pointer (some ⟨x.2.2.2.2.2.2.2,0,none⟩)),(48,.slice x.2.2.2.2.1 1 x.2.2.2.2.2.1),(47,.slice (some ⟨x.2.2.2.1,0,none⟩) 1 1),(45,.slice x.1 k x.2.1),(46,.agg (emc m).toArray),(44,.slice A k c),(42,.agg (atc (i,t)).toArray),(4,.pointer (some ⟨b4,0,none⟩)),(5,.pointer (some ⟨b5,0,none⟩))]) (fun x:Option Addr×Nat×Sh l×Nat×Option Addr×Nat×Sh [emv m]×Nat=>[pt x.2.2.2.2.2.2.2 39 (lgc (0,0) none 0 0),row 59 3 x.2.2.2.2.1 1 x.2.2.2.2.2.1 (cellsL emc x.2.2.2.2.2.2.1.1),dtB 5 (x.2.2.2.2.2.2.1.1.map emd),pt x.2.2.2.1 59 (emc m),row 59 3 x.1 k x.2.1 (cellsL emc x.2.2.1.1),dtB 5 (x.2.2.1.1.map emd),pt b4 39 (lgc (0,0) none 0 0),pt b5 36 (atc (0,0)),pt b3 59 (emc m),pt b2 39 (lgc (i,t) A k c)]) (fun x=>?_) (fun nd2=>?_)
 ·skip
  obtain⟨A5,c5,P5,vb,A7,c7,P7,b8⟩:=x
  try dsimp only
  refine D_one 8 O (E_appS (sz:=3) (m:=k) (c:=c5) (A:=A5) O O O O O O O (by decide) (Srd.row (A:=A7) (n:=1) (c:=c7)) (em_ones P7.1) (by show (k+1)*40≤_;omega) (by unfold maxLen;omega)) ?_ O O (by kernel_rfl)
  rintro _ _ ⟨A8,c8,rfl,rfl⟩
  refine nx ?_
  refine dt 9 O (T_build2 O O (lg_built2 (i,t) _ _ _)) ?_
  have h:=nd0 (A5,c5,P5,vb,A7,c7,P7,A8,c8,b8)
  try dsimp only at h
  exact Da h
 refine D_nodeR #[U,U,U,U,U,U,U,U,Y,Y,Y,Y] (fun x:Option Addr×Nat×Sh l×Nat×Option Addr×Nat×Sh [emv m]=>[(48,.slice x.2.2.2.2.1 1 x.2.2.2.2.2.1),(47,.slice (some ⟨x.2.2.2.1,0,none⟩) 1 1),(45,.slice x.1 k x.2.1),(46,.agg (emc m).toArray),(44,.slice A k c),(42,.agg (atc (i,t)).toArray),(4,.pointer (some ⟨b4,0,none⟩)),(5,.pointer (some ⟨b5,0,none⟩))]) (fun x:Option Addr×Nat×Sh l×Nat×Option Addr×Nat×Sh [emv m]=>[row 59 3 x.2.2.2.2.1 1 x.2.2.2.2.2.1 (cellsL emc x.2.2.2.2.2.2.1),dtB 5 (x.2.2.2.2.2.2.1.map emd),pt x.2.2.2.1 59 (emc m),row 59 3 x.1 k x.2.1 (cellsL emc x.2.2.1.1),dtB 5 (x.2.2.1.1.map emd),pt b4 39 (lgc (0,0) none 0 0),pt b5 36 (atc (0,0)),pt b3 59 (emc m),pt b2 39 (lgc (i,t) A k c)]) (fun x=>?_) (fun nd3=>?_)
 ·skip
  obtain⟨A5,c5,P5,vb,A7,c7,P7⟩:=x
  try dsimp only
  refine D_two 8 10 (by decide) O O (E_appS (sz:=3) (m:=k) (c:=c5) (A:=A5) O O O O O O O (by decide) (Srd.row (A:=A7) (n:=1) (c:=c7)) (em_ones P7.1) (by show (k+1)*40≤_;omega) (by unfold maxLen;omega)) (E_alloca O lg_zero) ?_ ?_ O O O O (by kernel_rfl)
  ·rintro _ _ ⟨A8,c8,rfl,rfl⟩
   refine nx ?_
   refine dt 9 O (T_build2 O O (lg_built2 (i,t) _ _ _)) ?_
   have h:=nd1 (A5,c5,P5,vb,A7,c7,P7,A8,c8)
   try dsimp only at h
   exact Da h
  ·rintro _ _ ⟨b8,rfl,rfl⟩
   refine nx ?_
   have h:=nd2 (A5,c5,P5,vb,A7,c7,P7,b8)
   try dsimp only at h
   exact Da h
 refine D_nodeR #[U,U,U,U,U,U,U,Y,Y,Y,U,Y] (fun x:Option Addr×Nat×Sh l×Nat×Nat=>[(8,.pointer (some ⟨x.2.2.2.2,0,none⟩)),(47,.slice (some ⟨x.2.2.2.1,0,none⟩) 1 1),(45,.slice x.1 k x.2.1),(46,.agg (emc m).toArray),(44,.slice A k c),(42,.agg (atc (i,t)).toArray),(4,.pointer (some ⟨b4,0,none⟩)),(5,.pointer (some ⟨b5,0,none⟩))]) (fun x:Option Addr×Nat×Sh l×Nat×Nat=>[pt x.2.2.2.2 39 (lgc (0,0) none 0 0),pt x.2.2.2.1 59 (emc m),row 59 3 x.1 k x.2.1 (cellsL emc x.2.2.1.1),dtB 5 (x.2.2.1.1.map emd),pt b4 39 (lgc (0,0) none 0 0),pt b5 36 (atc (0,0)),pt b3 59 (emc m),pt b2 39 (lgc (i,t) A k c)]) (fun x=>?_) (fun nd4=>?_)
 ·skip
  obtain⟨A5,c5,P5,vb,b8⟩:=x
  try dsimp only
  refine D_one 7 O (E_hvG (f:=130) F130 (fun w hS=>copied_S w (some ⟨vb,0,none⟩) 1 1 [m] [emv m] O hl1 (by rw[hc1];exact(Srd.pt (n:=1) (g:=vb) (ds:=emc m) O (fun j u hj=>by rw[Nat.zero_add];exact hj)).rd w hS) ((SDt.old hd1 (fun k _=>noOwns k)).rd w hS) (by omega) hk1) O O) ?_ O O (by kernel_rfl)
  rintro _ _ ⟨⟨⟨A7,c7⟩,P7⟩,rfl,_,rfl⟩;dsimp only[List.cons_append,List.nil_append]
  refine nx ?_
  have h:=nd2 (A5,c5,P5,vb,A7,c7,P7,b8)
  try dsimp only at h
  exact Da h
 refine D_nodeR #[U,U,U,U,U,U,U,Y,Y,Y,Y,Y] (fun x:Option Addr×Nat×Sh l×Nat=>[(47,.slice (some ⟨x.2.2.2,0,none⟩) 1 1),(45,.slice x.1 k x.2.1),(46,.agg (emc m).toArray),(44,.slice A k c),(42,.agg (atc (i,t)).toArray),(4,.pointer (some ⟨b4,0,none⟩)),(5,.pointer (some ⟨b5,0,none⟩))]) (fun x:Option Addr×Nat×Sh l×Nat=>[pt x.2.2.2 59 (emc m),row 59 3 x.1 k x.2.1 (cellsL emc x.2.2.1.1),dtB 5 (x.2.2.1.1.map emd),pt b4 39 (lgc (0,0) none 0 0),pt b5 36 (atc (0,0)),pt b3 59 (emc m),pt b2 39 (lgc (i,t) A k c)]) (fun x=>?_) (fun nd5=>?_)
 ·skip
  obtain⟨A5,c5,P5,vb⟩:=x
  try dsimp only
  refine D_two 7 10 (by decide) O O (E_hvG (f:=130) F130 (fun w hS=>copied_S w (some ⟨vb,0,none⟩) 1 1 [m] [emv m] O hl1 (by rw[hc1];exact(Srd.pt (n:=1) (g:=vb) (ds:=emc m) O (fun j u hj=>by rw[Nat.zero_add];exact hj)).rd w hS) ((SDt.old hd1 (fun k _=>noOwns k)).rd w hS) (by omega) hk1) O O) (E_alloca O lg_zero) ?_ ?_ O O O O (by kernel_rfl)
  ·rintro _ _ ⟨⟨⟨A7,c7⟩,P7⟩,rfl,_,rfl⟩;dsimp only[List.cons_append,List.nil_append]
   refine nx ?_
   have h:=nd3 (A5,c5,P5,vb,A7,c7,P7)
   try dsimp only at h
   exact Da h
  ·rintro _ _ ⟨b8,rfl,rfl⟩
   refine nx ?_
   have h:=nd4 (A5,c5,P5,vb,b8)
   try dsimp only at h
   exact Da h
 refine D_nodeR #[U,U,U,U,U,U,Y,Y,Y,Y,U,Y] (fun x:Option Addr×Nat×Sh l×Nat=>[(8,.pointer (some ⟨x.2.2.2,0,none⟩)),(45,.slice x.1 k x.2.1),(46,.agg (emc m).toArray),(44,.slice A k c),(42,.agg (atc (i,t)).toArray),(4,.pointer (some ⟨b4,0,none⟩)),(5,.pointer (some ⟨b5,0,none⟩))]) (fun x:Option Addr×Nat×Sh l×Nat=>[pt x.2.2.2 39 (lgc (0,0) none 0 0),row 59 3 x.1 k x.2.1 (cellsL emc x.2.2.1.1),dtB 5 (x.2.2.1.1.map emd),pt b4 39 (lgc (0,0) none 0 0),pt b5 36 (atc (0,0)),pt b3 59 (emc m),pt b2 39 (lgc (i,t) A k c)]) (fun x=>?_) (fun nd6=>?_)
 ·skip
  obtain⟨A5,c5,P5,b8⟩:=x
  try dsimp only
  refine D_one 6 O (E_litS (vs:=[.agg (emc m).toArray]) (size:=3) (ds:=emc m) O O O O O O (by simp[vcells,emc_len]) (by simp[vcells]) (by omega)) ?_ O O (by kernel_rfl)
  rintro _ _ ⟨vb,rfl,rfl⟩
  refine nx ?_
  have h:=nd4 (A5,c5,P5,vb,b8)
  try dsimp only at h
  exact Da h
 refine D_nodeR #[U,U,U,U,Y,U,U,Y,Y,Y,U,Y] (fun x:Nat×Nat=>[(8,.pointer (some ⟨x.2,0,none⟩)),(47,.slice (some ⟨x.1,0,none⟩) 1 1),(46,.agg (emc m).toArray),(44,.slice A k c),(42,.agg (atc (i,t)).toArray),(4,.pointer (some ⟨b4,0,none⟩)),(5,.pointer (some ⟨b5,0,none⟩))]) (fun x:Nat×Nat=>[pt x.2 39 (lgc (0,0) none 0 0),pt x.1 59 (emc m),pt b4 39 (lgc (0,0) none 0 0),pt b5 36 (atc (0,0)),pt b3 59 (emc m),pt b2 39 (lgc (i,t) A k c)]) (fun x=>?_) (fun nd7=>?_)
 ·skip
  obtain⟨vb,b8⟩:=x
  try dsimp only
  refine D_one 4 O (E_hvG (f:=130) F130 (fun w hS=>copied_S w A c k Q l hk hl ((Srd.old h (fun k _=>noOwns k)).rd w hS) ((SDt.old hd (fun k _=>noOwns k)).rd w hS) (by omega) hkk) O O) ?_ O O (by kernel_rfl)
  rintro _ _ ⟨⟨⟨A5,c5⟩,P5⟩,rfl,_,rfl⟩;dsimp only[List.cons_append,List.nil_append]
  refine nx ?_
  have h:=nd4 (A5,c5,P5,vb,b8)
  try dsimp only at h
  exact Da h
 refine D_nodeR #[U,U,U,U,U,U,Y,Y,Y,Y,Y,Y] (fun x:Option Addr×Nat×Sh l=>[(45,.slice x.1 k x.2.1),(46,.agg (emc m).toArray),(44,.slice A k c),(42,.agg (atc (i,t)).toArray),(4,.pointer (some ⟨b4,0,none⟩)),(5,.pointer (some ⟨b5,0,none⟩))]) (fun x:Option Addr×Nat×Sh l=>[row 59 3 x.1 k x.2.1 (cellsL emc x.2.2.1),dtB 5 (x.2.2.1.map emd),pt b4 39 (lgc (0,0) none 0 0),pt b5 36 (atc (0,0)),pt b3 59 (emc m),pt b2 39 (lgc (i,t) A k c)]) (fun x=>?_) (fun nd8=>?_)
 ·skip
  obtain⟨A5,c5,P5⟩:=x
  try dsimp only
  refine D_two 6 10 (by decide) O O (E_litS (vs:=[.agg (emc m).toArray]) (size:=3) (ds:=emc m) O O O O O O (by simp[vcells,emc_len]) (by simp[vcells]) (by omega)) (E_alloca O lg_zero) ?_ ?_ O O O O (by kernel_rfl)
  ·rintro _ _ ⟨vb,rfl,rfl⟩
   refine nx ?_
   have h:=nd5 (A5,c5,P5,vb)
   try dsimp only at h
   exact Da h
  ·rintro _ _ ⟨b8,rfl,rfl⟩
   refine nx ?_
   have h:=nd6 (A5,c5,P5,b8)
   try dsimp only at h
   exact Da h
 refine D_nodeR #[U,U,U,U,Y,U,U,Y,Y,Y,Y,Y] (fun x:Nat=>[(47,.slice (some ⟨x,0,none⟩) 1 1),(46,.agg (emc m).toArray),(44,.slice A k c),(42,.agg (atc (i,t)).toArray),(4,.pointer (some ⟨b4,0,none⟩)),(5,.pointer (some ⟨b5,0,none⟩))]) (fun x:Nat=>[pt x 59 (emc m),pt b4 39 (lgc (0,0) none 0 0),pt b5 36 (atc (0,0)),pt b3 59 (emc m),pt b2 39 (lgc (i,t) A k c)]) (fun x=>?_) (fun nd9=>?_)
 ·skip
  revert x;intro vb
  try dsimp only
  refine D_two 4 10 (by decide) O O (E_hvG (f:=130) F130 (fun w hS=>copied_S w A c k Q l hk hl ((Srd.old h (fun k _=>noOwns k)).rd w hS) ((SDt.old hd (fun k _=>noOwns k)).rd w hS) (by omega) hkk) O O) (E_alloca O lg_zero) ?_ ?_ O O O O (by kernel_rfl)
  ·rintro _ _ ⟨⟨⟨A5,c5⟩,P5⟩,rfl,_,rfl⟩;dsimp only[List.cons_append,List.nil_append]
   refine nx ?_
   have h:=nd5 (A5,c5,P5,vb)
   try dsimp only at h
   exact Da h
  ·rintro _ _ ⟨b8,rfl,rfl⟩
   refine nx ?_
   have h:=nd7 (vb,b8)
   try dsimp only at h
   exact Da h
 refine D_nodeR #[U,U,U,U,Y,U,Y,Y,Y,Y,U,Y] (fun x:Nat=>[(8,.pointer (some ⟨x,0,none⟩)),(46,.agg (emc m).toArray),(44,.slice A k c),(42,.agg (atc (i,t)).toArray),(4,.pointer (some ⟨b4,0,none⟩)),(5,.pointer (some ⟨b5,0,none⟩))]) (fun x:Nat=>[pt x 39 (lgc (0,0) none 0 0),pt b4 39 (lgc (0,0) none 0 0),pt b5 36 (atc (0,0)),pt b3 59 (emc m),pt b2 39 (lgc (i,t) A k c)]) (fun x=>?_) (fun nd10=>?_)
 ·skip
  revert x;intro b8
  try dsimp only
  refine D_two 4 6 (by decide) O O (E_hvG (f:=130) F130 (fun w hS=>copied_S w A c k Q l hk hl ((Srd.old h (fun k _=>noOwns k)).rd w hS) ((SDt.old hd (fun k _=>noOwns k)).rd w hS) (by omega) hkk) O O) (E_litS (vs:=[.agg (emc m).toArray]) (size:=3) (ds:=emc m) O O O O O O (by simp[vcells,emc_len]) (by simp[vcells]) (by omega)) ?_ ?_ O O O O (by kernel_rfl)
  ·rintro _ _ ⟨⟨⟨A5,c5⟩,P5⟩,rfl,_,rfl⟩;dsimp only[List.cons_append,List.nil_append]
   refine nx ?_
   have h:=nd6 (A5,c5,P5,b8)
   try dsimp only at h
   exact Da h
  ·rintro _ _ ⟨vb,rfl,rfl⟩
   refine nx ?_
   have h:=nd7 (vb,b8)
   try dsimp only at h
   exact Da h
 refine D_nodeR #[U,U,U,U,Y,U,Y,Y,Y,Y,Y,Y] (fun _:Unit=>[(46,.agg (emc m).toArray),(44,.slice A k c),(42,.agg (atc (i,t)).toArray),(4,.pointer (some ⟨b4,0,none⟩)),(5,.pointer (some ⟨b5,0,none⟩))]) (fun _:Unit=>[pt b4 39 (lgc (0,0) none 0 0),pt b5 36 (atc (0,0)),pt b3 59 (emc m),pt b2 39 (lgc (i,t) A k c)]) (fun x=>?_) (fun nd11=>?_)
 ·skip
  obtain⟨⟩:=x
  try dsimp only
  refine D_three 4 6 10 O O O (E_hvG (f:=130) F130 (fun w hS=>copied_S w A c k Q l hk hl ((Srd.old h (fun k _=>noOwns k)).rd w hS) ((SDt.old hd (fun k _=>noOwns k)).rd w hS) (by omega) hkk) O O) (E_litS (vs:=[.agg (emc m).toArray]) (size:=3) (ds:=emc m) O O O O O O (by simp[vcells,emc_len]) (by simp[vcells]) (by omega)) (E_alloca O lg_zero) ?_ ?_ ?_ O O O O O O (by kernel_rfl)
  ·rintro _ _ ⟨⟨⟨A5,c5⟩,P5⟩,rfl,_,rfl⟩;dsimp only[List.cons_append,List.nil_append]
   refine nx ?_
   have h:=nd8 (A5,c5,P5)
   try dsimp only at h
   exact Da h
  ·rintro _ _ ⟨vb,rfl,rfl⟩
   refine nx ?_
   have h:=nd9 (vb)
   try dsimp only at h
   exact Da h
  ·rintro _ _ ⟨b8,rfl,rfl⟩
   refine nx ?_
   have h:=nd10 (b8)
   try dsimp only at h
   exact Da h
 have h:=nd11 ()
 try dsimp only at h
 exact Da h
 obtain⟨A5,c5,P5,vb,A7,c7,P7,A8,c8,b8⟩:=x
 try dsimp only
 refine D_one 11 O (E_storew (cs:=lgc (0,0) none 0 0) (ds:=lgc (i,t) A8 (k+1) c8) O O O O (lgc_one _ _ _ _) O) ?_ O O (by kernel_rfl)
 rintro _ _ rfl
 refine nx ?_
 refine dn ?_
 skip
 have hl5:P5.1.length=k:=(em_len P5.2.1).trans hll
 have hl7:P7.1.length=1:=(em_len P7.2.1).trans O
 focus (refine qq ?_)
 refine S_draw ([pt b8 39 (lgc (i,t) A8 (k+1) c8)]) sub_st (by kernel_rfl) O (by kernel_rfl) (by kernel_rfl:_=6) ?_
 refine dt 0 O (T_loads (ds:=lgc (i,t) A8 (k+1) c8) O O O O O) ?_
 refine dt 1 O (T_loads (ds:=lgc (i,t) A8 (k+1) c8) O O O O O) ?_
 refine D_one 2 O (E_hv0 (f:=124) F124 (fun w hS=>lastI_k w (i,t) A8 c8 (k+1) (P5.1++P7.1) (l++[emv m]) (by rw[List.length_append,hl5,hl7]) (by rw[List.map_append,P5.2.1,P7.2.1]) (by rw[cellsL_app];exact((Srd.row (A:=A8) (n:=(k+1)) (c:=c8)).rd w hS)) (by omega) (by show i+(k+1)≤_;omega) _ hla8) O O (fun _=>O)) ?_ O O (by kernel_rfl)
 rintro _ _ ⟨_,rfl,_,rfl⟩
 refine nx ?_
 refine D_one 3 O (E_storew (cs:=lgc (0,0) none 0 0) (ds:=lgc (i,t) A8 (k+1) c8) O O O O (lgc_one _ _ _ _) O) ?_ O O (by kernel_rfl)
 rintro _ _ rfl
 refine nx ?_
 refine D_one 4 O (E_storew (cs:=atc (0,0)) (ds:=atc (i+(k+1),m.1)) O O O O (atc_one _) O) ?_ O O (by kernel_rfl)
 rintro _ _ rfl
 refine nx ?_
 refine dp 5 ?_
 refine dn ?_
 skip
 skip
 refine hB _ _ _ _ _ O (.cell O O O inferInstance O (.cell O O O inferInstance O (.tmp O .nil))) fun w' hS=>⟨((A8,c8),⟨P5.1++P7.1,by rw[List.map_append,P5.2.1,P7.2.1],fun m hm=>(List.mem_append.1 hm).elim (P5.2.2 m) (P7.2.2 m)⟩),O,trivial,?_⟩
 dsimp only
 rw[cellsL_app,List.map_append]
 have h9:=sub_st (H':=[dtB 5 (P5.1.map emd),dtB 5 (P7.1.map emd),row 59 3 A8 (k+1) c8 (cellsL emc P5.1++cellsL emc P7.1)]) w' hS
 have h10:=dtB_app h9
 exact sub_st w' h10
theorem apD_any (w:World) (a:At) (A:Option Addr) (c k:Nat) (Q:List Em) (l:List En) (hk:Q.length=k) (hl:Q.map emv=l) (h:Rd w All 3 A k (cellsL emc Q)) (hd:RDt w All (Q.map emd)) (hn:k≤1000) (hkk: ∀ m∈Q,m.2.2.2.2.length≤100000) (m:Em) (hm:Rd w All 1 m.2.2.1 m.2.2.2.2.length (m.2.2.2.2.map bv)) (hmk:m.2.2.2.2.length≤100000) (hr0:rightB a l=true) (e:Int) (p b:At) (r:List En) (K:Nat) (hK:r.length=K) (hs:app a l (emv m)=(e,p,b,r)):
  Gives Tryz.prog 105 [.agg (lgc a A k c).toArray,.agg (emc m).toArray] [] w (X:=(Option Addr×Nat)×Sh r) (fun x=> .tuple #[.agg (lgc b x.1.1 K x.1.2).toArray,.agg (atc p).toArray,zi e]) (fun _=>True) (fun x=>[row 59 3 x.1.1 K x.1.2 (cellsL emc x.2.1),dtB 5 (x.2.1.map emd)]):=by
 refine gives_C Tryz.func105 O Tryz.ntmps105 Tryz.results105 (by simp) (St.enter w) (fun B hB=>?_)
 obtain⟨i,t⟩:=a
 have hll:l.length=k:=by rw[← hl,List.length_map,hk]
 obtain⟨lt,hla0⟩: ∃ x,(lastA (i,t) l).2=x:=⟨_,O⟩
 have hla:lastA (i,t) l=(i+k,lt):=by
  have:lastA (i,t) l=(i+k,(lastA (i,t) l).2):=by rw[lastA,hll]
  rw[this,hla0]
 obtain⟨q0,hp⟩: ∃ q,placedB (emv m)=q:=⟨_,O⟩
 have hla8:lastA (i,t) (l++[emv m])=(i+(k+1),m.1):=by rw[last_app,hll];rfl
 have hs:(if q0=true∧lt≤m.1 then if k=16∨i+k=18446744073709551614 then (6,(0,0),(0,0),[]) else (0,lastA (i,t) (l++[emv m]),(i,t),l++[emv m]) else ((2,(0,0),(0,0),[]):Int×At×At×List En))=(e,p,b,r):=by
  rw[← hs,app,hr0,hp,hla,hll]
  rfl
 have hff:=right_fits hr0
 rw[hll] at hff
 have hff:k≤16∧i+k≤18446744073709551614:=hff
 have hfit:(i,t).1+k≤18446744073709551615:=by show i+k≤_;omega
 focus (refine qs ?_;(refine qe (E_boxa (cs:=lgc (i,t) A k c) O) ?_;rintro _ _ ⟨b2,rfl,rfl⟩);(refine qe (E_boxa (cs:=emc m) O) ?_;rintro _ _ ⟨b3,rfl,rfl⟩);(refine qe (E_alloca O lg_zero) ?_;rintro _ _ ⟨b4,rfl,rfl⟩);(refine qe (E_alloca O at_zero) ?_;rintro _ _ ⟨b5,rfl,rfl⟩);refine qp ?_;refine qz ?_;refine qq ?_;refine qq ?_)
 cases q0
 ·rw[if_neg (fun h=>Bool.false_ne_true h.1)] at hs
  injection hs with e1 e2
  injection e2 with e2 e3
  injection e3 with e3 e4
  subst e1 e2 e3 e4 hK
  refine S_draw ([pt b3 59 (emc m),pt b2 39 (lgc (i,t) A k c)]) sub_st (by kernel_rfl) O (by kernel_rfl) (by kernel_rfl:_=11) ?_
  refine dt 0 O (T_loads (ds:=emc m) O O O O O) ?_
  refine D_one 1 O (E_hv0 (f:=150) F150 (fun w hS=>rightE_k w m _ hp) O O (fun _=>O)) ?_ O O (by kernel_rfl)
  rintro _ _ ⟨_,rfl,_,rfl⟩
  refine nx ?_
  refine dt 2 O (T_not O) ?_
  refine dqT 3 ?_
  refine dk 4 ?_
  refine dk 5 ?_
  refine dk 6 ?_
  refine dk 7 ?_
  refine dk 8 ?_
  refine dk 9 ?_
  refine dqT 10 ?_
  refine dn ?_
  skip
  focus (refine qT ?_;refine qs ?_;refine qt (T_build0 lg_built0) ?_;refine qt (T_build0 at_built0) ?_;(refine qw (E_storew (cs:=lgc (0,0) none 0 0) (ds:=lgc (0,0) none 0 0) O O O O (lgc_one _ _ _ _) O) ?_;rintro _ _ rfl);(refine qw (E_storew (cs:=atc (0,0)) (ds:=atc (0,0)) O O O O (atc_one _) O) ?_;rintro _ _ rfl);refine qp ?_;refine qz ?_)
  refine hB _ _ _ _ _ O (.cell O O O inferInstance O (.cell O O O inferInstance O (.tmp O .nil))) fun w' hS=>⟨((none,0),⟨[],O,fun m hm=>absurd hm (by simp)⟩),O,trivial,dtB_nil2 (hS.sublist (List.nil_sublist _))⟩
 by_cases hlt:m.1<lt
 ·rw[if_neg (by omega)] at hs
  injection hs with e1 e2
  injection e2 with e2 e3
  injection e3 with e3 e4
  subst e1 e2 e3 e4 hK
  refine S_draw ([pt b3 59 (emc m),pt b2 39 (lgc (i,t) A k c)]) sub_st (by kernel_rfl) O (by kernel_rfl) (by kernel_rfl:_=11) ?_
  refine dt 0 O (T_loads (ds:=emc m) O O O O O) ?_
  refine D_one 1 O (E_hv0 (f:=150) F150 (fun w hS=>rightE_k w m _ hp) O O (fun _=>O)) ?_ O O (by kernel_rfl)
  rintro _ _ ⟨_,rfl,_,rfl⟩
  refine nx ?_
  refine dt 2 O (T_not O) ?_
  refine dp 3 ?_
  refine dp 4 ?_
  refine dl 5 ?_
  refine dt 6 O (T_loads (ds:=lgc (i,t) A k c) O O O O O) ?_
  refine D_one 7 O (E_hv0 (f:=67) F67 (fun w hS=>lastD_any w (i,t) A c k Q l hk hl ((Srd.old h (fun k _=>noOwns k)).rd w hS) (by omega) hfit _ hla) O O (fun _=>O)) ?_ O O (by kernel_rfl)
  rintro _ _ ⟨_,rfl,_,rfl⟩
  refine nx ?_
  refine dt 8 O (T_fldv (xs:=atc (i+k,lt)) O O O O O O) ?_
  refine dqT 9 ?_
  refine dqT 10 ?_
  refine dn ?_
  skip
  focus (refine qT ?_;refine qs ?_;refine qt (T_build0 lg_built0) ?_;refine qt (T_build0 at_built0) ?_;(refine qw (E_storew (cs:=lgc (0,0) none 0 0) (ds:=lgc (0,0) none 0 0) O O O O (lgc_one _ _ _ _) O) ?_;rintro _ _ rfl);(refine qw (E_storew (cs:=atc (0,0)) (ds:=atc (0,0)) O O O O (atc_one _) O) ?_;rintro _ _ rfl);refine qp ?_;refine qz ?_)
  refine hB _ _ _ _ _ O (.cell O O O inferInstance O (.cell O O O inferInstance O (.tmp O .nil))) fun w' hS=>⟨((none,0),⟨[],O,fun m hm=>absurd hm (by simp)⟩),O,trivial,dtB_nil2 (hS.sublist (List.nil_sublist _))⟩
 rw[if_pos ⟨O,by omega⟩] at hs
 refine S_draw ([pt b3 59 (emc m),pt b2 39 (lgc (i,t) A k c)]) sub_st (by kernel_rfl) O (by kernel_rfl) (by kernel_rfl:_=11) ?_
 refine dt 0 O (T_loads (ds:=emc m) O O O O O) ?_
 refine D_one 1 O (E_hv0 (f:=150) F150 (fun w hS=>rightE_k w m _ hp) O O (fun _=>O)) ?_ O O (by kernel_rfl)
 rintro _ _ ⟨_,rfl,_,rfl⟩
 refine nx ?_
 refine dt 2 O (T_not O) ?_
 refine dp 3 ?_
 refine dp 4 ?_
 refine dl 5 ?_
 refine dt 6 O (T_loads (ds:=lgc (i,t) A k c) O O O O O) ?_
 refine D_one 7 O (E_hv0 (f:=67) F67 (fun w hS=>lastD_any w (i,t) A c k Q l hk hl ((Srd.old h (fun k _=>noOwns k)).rd w hS) (by omega) hfit _ hla) O O (fun _=>O)) ?_ O O (by kernel_rfl)
 rintro _ _ ⟨_,rfl,_,rfl⟩
 refine nx ?_
 refine dt 8 O (T_fldv (xs:=atc (i+k,lt)) O O O O O O) ?_
 refine dqF 9 ?_
 refine dp 10 ?_
 refine dn ?_
 skip
 by_cases hfull:k=16∨i+k=18446744073709551614
 ·rw[if_pos hfull] at hs
  injection hs with e1 e2
  injection e2 with e2 e3
  injection e3 with e3 e4
  subst e1 e2 e3 e4 hK
  by_cases h16:k=16
  ·focus (refine qF ?_;refine qx ?_;refine qq ?_;refine qs ?_;refine qp ?_;refine qt (T_load O O O O) ?_;refine qp ?_;refine qd ?_;refine qp ?_;(iterate 4 refine qk ?_);refine qp ?_;refine qz ?_;refine qT ?_;refine qs ?_;refine qt (T_build0 lg_built0) ?_;refine qt (T_build0 at_built0) ?_;(refine qw (E_storew (cs:=lgc (0,0) none 0 0) (ds:=lgc (0,0) none 0 0) O O O O (lgc_one _ _ _ _) O) ?_;rintro _ _ rfl);(refine qw (E_storew (cs:=atc (0,0)) (ds:=atc (0,0)) O O O O (atc_one _) O) ?_;rintro _ _ rfl);refine qp ?_;refine qz ?_)
   refine hB _ _ _ _ _ O (.cell O O O inferInstance O (.cell O O O inferInstance O (.tmp O .nil))) fun w' hS=>⟨((none,0),⟨[],O,fun m hm=>absurd hm (by simp)⟩),O,trivial,dtB_nil2 (hS.sublist (List.nil_sublist _))⟩
  ·focus (refine qF ?_;refine qx ?_;refine qq ?_;refine qs ?_;refine qp ?_;refine qt (T_load O O O O) ?_;refine qp ?_;refine qf ?_;refine qp ?_;refine qt (T_loads (ds:=lgc (i,t) A k c) O O O O O) ?_;(refine qh F67 (fun w hS=>lastD_any w (i,t) A c k Q l hk hl ((Srd.old h (fun k _=>noOwns k)).rd w hS) (by omega) hfit _ hla) ?_);refine qt (T_fldv (xs:=atc (i+k,lt)) O O O O O O) ?_;refine qd ?_;refine qd ?_;refine qz ?_;refine qT ?_;refine qs ?_;refine qt (T_build0 lg_built0) ?_;refine qt (T_build0 at_built0) ?_;(refine qw (E_storew (cs:=lgc (0,0) none 0 0) (ds:=lgc (0,0) none 0 0) O O O O (lgc_one _ _ _ _) O) ?_;rintro _ _ rfl);(refine qw (E_storew (cs:=atc (0,0)) (ds:=atc (0,0)) O O O O (atc_one _) O) ?_;rintro _ _ rfl);refine qp ?_;refine qz ?_)
   refine hB _ _ _ _ _ O (.cell O O O inferInstance O (.cell O O O inferInstance O (.tmp O .nil))) fun w' hS=>⟨((none,0),⟨[],O,fun m hm=>absurd hm (by simp)⟩),O,trivial,dtB_nil2 (hS.sublist (List.nil_sublist _))⟩
 rw[if_neg hfull,hla8] at hs
 injection hs with e1 e2
 injection e2 with e2 e3
 injection e3 with e3 e4
 subst e1 e2 e3 e4
 have hKK:K=k+1:=by rw[← hK,List.length_append,hll];rfl
 subst hKK
 have hl1:[m].map emv=[emv m]:=rfl
 have hk1: ∀ m'∈[m],m'.2.2.2.2.length≤100000:=fun m' h'=>by rw[List.mem_singleton.1 h'];exact hmk
 have hc1:cellsL emc [m]=emc m:=cellsL_one m
 have hd1:RDt w All ([m].map emd):=fun d hd'=>by
  obtain⟨m',h',rfl⟩:=List.mem_map.1 hd'
  rw[List.mem_singleton.1 h']
  exact hm
 focus (refine qF ?_;refine qx ?_;refine qq ?_;refine qs ?_;refine qp ?_;refine qt (T_load O O O O) ?_;refine qp ?_;refine qf ?_;refine qp ?_;refine qt (T_loads (ds:=lgc (i,t) A k c) O O O O O) ?_;(refine qh F67 (fun w hS=>lastD_any w (i,t) A c k Q l hk hl ((Srd.old h (fun k _=>noOwns k)).rd w hS) (by omega) hfit _ hla) ?_);refine qt (T_fldv (xs:=atc (i+k,lt)) O O O O O O) ?_;refine qf ?_;refine qp ?_;refine qz ?_;refine qF ?_;refine qx ?_;refine qs ?_;refine qt (T_loads (ds:=lgc (i,t) A k c) O O O O O) ?_;(refine qe (E_hvG (f:=62) F62 (fun w hS=>copyD_any w (i,t) A c k Q l hk hl ((Srd.old h (fun k _=>noOwns k)).rd w hS) ((SDt.old hd (fun k _=>noOwns k)).rd w hS) (by omega) hkk) O O) ?_;rintro _ _ ⟨⟨⟨A5,c5⟩,P5⟩,rfl,hc5,rfl⟩;dsimp only[List.cons_append,List.nil_append]);(refine qe (E_alloca O lg_zero) ?_;rintro _ _ ⟨b7,rfl,rfl⟩);(refine qw (E_storew (cs:=lgc (0,0) none 0 0) (ds:=lgc (i,t) A5 k c5) O O O O (lgc_one _ _ _ _) O) ?_;rintro _ _ rfl);refine qz ?_;refine qq ?_)
 have hl5:P5.1.length=k:=(em_len P5.2.1).trans hll
 refine S_draw ([pt b7 39 (lgc (i,t) A5 k c5),pt b3 59 (emc m)]) sub_st (by kernel_rfl) O (by kernel_rfl) (by kernel_rfl:_=8) ?_
 refine dp 0 ?_
 refine dl 1 ?_
 refine dt 2 O (T_loads (ds:=emc m) O O O O O) ?_
 refine D_one 3 O (E_litS (vs:=[.agg (emc m).toArray]) (size:=3) (ds:=emc m) O O O O O O (by simp[vcells,emc_len]) (by simp[vcells]) (by omega)) ?_ O O (by kernel_rfl)
 rintro _ _ ⟨vb,rfl,rfl⟩
 refine nx ?_
 refine D_one 4 O (E_hvG (f:=23) F23 (fun w hS=>entD_any w (some ⟨vb,0,none⟩) 1 1 [m] [emv m] O hl1 (by rw[hc1];exact(Srd.pt (n:=1) (g:=vb) (ds:=emc m) O (fun j u hj=>by rw[Nat.zero_add];exact hj)).rd w hS) ((SDt.old hd1 (fun k _=>noOwns k)).rd w hS) (by omega) hk1) O O) ?_ O O (by kernel_rfl)
 rintro _ _ ⟨⟨⟨A7,c7⟩,P7⟩,rfl,_,rfl⟩;dsimp only[List.cons_append,List.nil_append]
 refine nx ?_
 refine D_one 5 O (E_appS (sz:=3) (m:=k) (c:=c5) (A:=A5) O O O O O O O (by decide) (Srd.row (A:=A7) (n:=1) (c:=c7)) (em_ones P7.1) (by show (k+1)*40≤_;omega) (by unfold maxLen;omega)) ?_ O O (by kernel_rfl)
 rintro _ _ ⟨A8,c8,rfl,rfl⟩
 refine nx ?_
 refine dp 6 ?_
 refine D_one 7 O (E_store1 O O O O O O (by show _<3;omega)) ?_ O O (by kernel_rfl)
 rintro _ _ rfl
 refine Nx_pivot (by kernel_rfl) ?_
 refine dn ?_
 skip
 have hl7:P7.1.length=1:=(em_len P7.2.1).trans O
 focus (refine qq ?_)
 refine S_draw ([pt b7 39 ((lgc (i,t) A5 k c5).set (0+2) (.slice A8 (k+1) c8))]) sub_st (by kernel_rfl) O (by kernel_rfl) (by kernel_rfl:_=6) ?_
 refine dt 0 O (T_loads (ds:=lgc (i,t) A8 (k+1) c8) O O O O O) ?_
 refine dt 1 O (T_loads (ds:=lgc (i,t) A8 (k+1) c8) O O O O O) ?_
 refine D_one 2 O (E_hv0 (f:=67) F67 (fun w hS=>lastD_any w (i,t) A8 c8 (k+1) (P5.1++P7.1) (l++[emv m]) (by rw[List.length_append,hl5,hl7]) (by rw[List.map_append,P5.2.1,P7.2.1]) (by rw[cellsL_app];exact((Srd.row (A:=A8) (n:=(k+1)) (c:=c8)).rd w hS)) (by omega) (by show i+(k+1)≤_;omega) _ hla8) O O (fun _=>O)) ?_ O O (by kernel_rfl)
 rintro _ _ ⟨_,rfl,_,rfl⟩
 refine nx ?_
 refine D_one 3 O (E_storew (cs:=lgc (0,0) none 0 0) (ds:=lgc (i,t) A8 (k+1) c8) O O O O (lgc_one _ _ _ _) O) ?_ O O (by kernel_rfl)
 rintro _ _ rfl
 refine nx ?_
 refine D_one 4 O (E_storew (cs:=atc (0,0)) (ds:=atc (i+(k+1),m.1)) O O O O (atc_one _) O) ?_ O O (by kernel_rfl)
 rintro _ _ rfl
 refine nx ?_
 refine dp 5 ?_
 refine dn ?_
 skip
 skip
 refine hB _ _ _ _ _ O (.cell O O O inferInstance O (.cell O O O inferInstance O (.tmp O .nil))) fun w' hS=>⟨((A8,c8),⟨P5.1++P7.1,by rw[List.map_append,P5.2.1,P7.2.1],fun m hm=>(List.mem_append.1 hm).elim (P5.2.2 m) (P7.2.2 m)⟩),O,trivial,?_⟩
 dsimp only
 rw[cellsL_app,List.map_append]
 have h9:=sub_st (H':=[dtB 5 (P5.1.map emd),dtB 5 (P7.1.map emd),row 59 3 A8 (k+1) c8 (cellsL emc P5.1++cellsL emc P7.1)]) w' hS
 have h10:=dtB_app h9
 exact sub_st w' h10
theorem cmpD_any (w:World) (a:At) (A:Option Addr) (c k:Nat) (Q:List Em) (l:List En) (hk:Q.length=k) (hl:Q.map emv=l) (h:Rd w All 3 A k (cellsL emc Q)) (hd:RDt w All (Q.map emd)) (hc:k≤c) (hn:k≤1000) (hkk: ∀ m∈Q,m.2.2.2.2.length≤100000) (hr0:rightB a l=true) (idx:Nat) (e:Int) (b:At) (r:List En) (K:Nat) (hK:r.length=K) (hs:cmp a l idx=(e,b,r)) (q:Bool) (hq:decide (e=0)=q):
  Gives Tryz.prog 84 [.agg (lgc a A k c).toArray,.int .u64 (idx:Int)] [] w (X:=(Option Addr×Nat)×Sh r) (fun x=> .tuple #[.agg (lgc b x.1.1 K x.1.2).toArray,.bool q]) (fun _=>True) (fun x=>[row 59 3 x.1.1 K x.1.2 (cellsL emc x.2.1),dtB 5 (x.2.1.map emd)]):=by
 refine gives_C Tryz.func84 O Tryz.ntmps84 Tryz.results84 (by simp) (St.enter w) (fun B hB=>?_)
 obtain⟨i,t⟩:=a
 have hll:l.length=k:=by rw[← hl,List.length_map,hk]
 have hff:=right_fits hr0
 rw[hll] at hff
 have hff:k≤16∧i+k≤18446744073709551614:=hff
 have hfit:(i,t).1+k≤18446744073709551615:=by show i+k≤_;omega
 focus (refine qs ?_;(refine qe (E_boxa (cs:=lgc (i,t) A k c) O) ?_;rintro _ _ ⟨b2,rfl,rfl⟩);(refine qe (E_alloca O lg_zero) ?_;rintro _ _ ⟨b4,rfl,rfl⟩);refine qp ?_;refine qz ?_;refine qq ?_;refine qs ?_;refine qp ?_;refine qt (T_load O O O O) ?_;refine qp ?_;refine qt (T_addN O O (by unfold fits;omega)) ?_;refine qp ?_;refine qz ?_;refine qb ?_)
 refine S_loop (X:=Nat) (fun j=>[(1,.int .u64 (idx:Int)),(2,.pointer (some ⟨b2,0,none⟩)),(4,.pointer (some ⟨b4,0,none⟩)),(11,.int .i64 ((k+1:Nat):Int)),(12,.int .i64 (j:Int))]) (fun _=>[pt b4 39 (lgc (0,0) none 0 0),pt b2 39 (lgc (i,t) A k c)]) (fun j=>j≤k+1∧ ∀ q,q<j→(placeN (i,t) l q).1≠idx) (fun j=>k+1-j) O 0 ⟨Nat.zero_le _,fun i hi=>by omega⟩ (Sub.cons O (Sub.cons O (Sub.cons O (Sub.cons O (Sub.cons O Sub.nil))))) sub_st ?_
 rintro j ⟨hj,hno⟩ J hJ
 rcases Nat.lt_or_ge j (k+1) with hjl|hjl
 ·have hpn:=placeN_fst (i,t) l j
  obtain⟨⟨p,u⟩,hp⟩: ∃ p,placeN (i,t) l j=p:=⟨_,O⟩
  rw[hp] at hpn
  have hpn:p=i+j:=hpn
  have hjk:j≤k:=by omega
  by_cases hpi:p=idx
  ·have ef:findR (i,t) l idx=((j:Int),placeN (i,t) l j):=findR_hit (j:=j) (by omega) (by rw[hp];exact hpi)
   have ec:cmp (i,t) l idx=(0,(p,u),l.drop j):=by
    unfold cmp
    rw[if_pos hr0,ef,hp]
    dsimp only
    rw[if_neg (by omega),Int.toNat_natCast]
   rw[ec] at hs
   injection hs with e1 e2
   injection e2 with e2 e3
   subst e1 e2 e3
   obtain rfl:q=true:=by rw[← hq];rfl
   have hKK:K=k-j:=by rw[← hK,List.length_drop,hll]
   subst hKK
   have h':Rd w All 3 A Q.length (cellsL emc Q):=by rw[hk];exact h
   have hcutr:Rd w All 3 (cutP A c j 3) (k-j) (cellsL emc (Q.drop j)):=by
    have:=rd_cutE (q:=j) (c:=c) h' (by omega) (by omega)
    rwa [hk] at this
   have hcutd:=rdt_drop hd j
   have hkd: ∀ m∈Q.drop j,m.2.2.2.2.length≤100000:=fun m hm=>hkk m (List.mem_of_mem_drop hm)
   focus (refine qs ?_;refine qd ?_;refine qz ?_;refine qq ?_;refine qT ?_;refine qx ?_;refine qq ?_;refine qb ?_;refine qs ?_;refine qp ?_;refine qp ?_;refine qn ?_;refine qt (T_loads (ds:=lgc (i,t) A k c) O O O O O) ?_;refine qp ?_;(refine qh F140 (fun w hS=>placeD_any w (i,t) A c k Q l hk hl ((Srd.old h (fun k _=>noOwns k)).rd w hS) (by omega) hfit j hjk (p,u) hp) ?_);(refine qe (E_alloca O at_zero) ?_;rintro _ _ ⟨b7,rfl,rfl⟩);(refine qw (E_storew (cs:=atc (0,0)) (ds:=atc (p,u)) O O O O (atc_one _) O) ?_;rintro _ _ rfl);refine qn ?_;refine qp ?_;refine qt (T_load O O O O) ?_;refine qp ?_;refine qd ?_;refine qz ?_;refine qT ?_;refine qq ?_)
   refine S_draw ([pt b7 36 (atc (p,u)),pt b2 39 (lgc (i,t) A k c)]) sub_st (by kernel_rfl) O (by kernel_rfl) (by kernel_rfl:_=9) ?_
   refine dt 0 O (T_loads (ds:=atc (p,u)) O O O O O) ?_
   refine dp 1 ?_
   refine dl 2 ?_
   refine dp 3 ?_
   refine dt 4 O (T_slN (sz:=3) (q:=j) O O O O O O hjk hc) ?_
   refine dt 5 O (T_build2 O O (lg_built2 (p,u) _ _ _)) ?_
   refine D_one 6 O (E_hvG (f:=62) F62 (fun w hS=>copyD_any w (p,u) (cutP A c j 3) (c-j) (k-j) (Q.drop j) (l.drop j) (by rw[List.length_drop];omega) (by rw[List.map_drop,hl]) ((Srd.old hcutr (fun k _=>noOwns k)).rd w hS) ((SDt.old hcutd (fun k _=>noOwns k)).rd w hS) (by omega) hkd) O O) ?_ O O (by kernel_rfl)
   rintro _ _ ⟨⟨⟨A5,c5⟩,P5⟩,rfl,_,rfl⟩;dsimp only[List.cons_append,List.nil_append]
   refine nx ?_
   refine D_one 7 O (E_storew (cs:=lgc (0,0) none 0 0) (ds:=lgc (p,u) A5 (k-j) c5) O O O O (lgc_one _ _ _ _) O) ?_ O O (by kernel_rfl)
   rintro _ _ rfl
   refine nx ?_
   refine dp 8 ?_
   refine dn ?_
   skip
   skip
   refine hB _ _ _ _ _ O (.cell O O O inferInstance O (.tmp O .nil)) fun w' hS=>⟨((A5,c5),P5),O,trivial,sub_st _ hS⟩
  ·focus (refine qs ?_;refine qd ?_;refine qz ?_;refine qq ?_;refine qT ?_;refine qx ?_;refine qq ?_;refine qb ?_;refine qs ?_;refine qp ?_;refine qp ?_;refine qn ?_;refine qt (T_loads (ds:=lgc (i,t) A k c) O O O O O) ?_;refine qp ?_;(refine qh F140 (fun w hS=>placeD_any w (i,t) A c k Q l hk hl ((Srd.old h (fun k _=>noOwns k)).rd w hS) (by omega) hfit j hjk (p,u) hp) ?_);(refine qe (E_alloca O at_zero) ?_;rintro _ _ ⟨b7,rfl,rfl⟩);(refine qw (E_storew (cs:=atc (0,0)) (ds:=atc (p,u)) O O O O (atc_one _) O) ?_;rintro _ _ rfl);refine qn ?_;refine qp ?_;refine qt (T_load O O O O) ?_;refine qp ?_;refine qf ?_;refine qz ?_;refine qF ?_;refine qx ?_;refine RS_blk ?_;refine qr ?_;refine qt (T_addN O O (by unfold fits;omega)) ?_;refine qp ?_;refine qz ?_)
   refine hJ (j+1) _ _ ⟨by omega,fun q hq=>?_⟩ (Sub.cons O (Sub.cons O (Sub.cons O (Sub.cons O (Sub.cons O Sub.nil))))) sub_st (by omega)
   rcases Nat.lt_or_ge q j with h3|h3
   ·exact hno q h3
   ·rw[show q=j by omega,hp];exact hpi
 ·have ec:cmp (i,t) l idx=(4,(0,0),[]):=by
   unfold cmp
   rw[if_pos hr0,findR_not (fun q hq=>hno q (by omega)),if_pos (by decide)]
  rw[ec] at hs
  injection hs with e1 e2
  injection e2 with e2 e3
  subst e1 e2 e3 hK
  obtain rfl:q=false:=by rw[← hq];rfl
  focus (refine qs ?_;refine qf ?_;refine qz ?_;refine qq ?_;refine qF ?_;refine S_exit O O ?_;refine qs ?_;refine qt (T_build0 lg_built0) ?_;(refine qw (E_storew (cs:=lgc (0,0) none 0 0) (ds:=lgc (0,0) none 0 0) O O O O (lgc_one _ _ _ _) O) ?_;rintro _ _ rfl);refine qp ?_;refine qz ?_)
  refine hB _ _ _ _ _ O (.cell O O O inferInstance O (.tmp O .nil)) fun w' hS=>⟨((none,0),⟨[],O,fun m hm=>absurd hm (by simp)⟩),O,trivial,dtB_nil2 (hS.sublist (List.nil_sublist _))⟩
end Go.Proofs.YtdeffdldifepkaaGreat
namespace Go.Proofs.YtdeffdldifepkaaGreat
open Go.RowKit Go.ChangeShapes Go.WideShapes Go.ChangeAt
open Asn (pt row rb)
set_option linter.unusedVariables false
set_option linter.unusedSimpArgs false
end Go.Proofs.YtdeffdldifepkaaGreat
namespace Go.Proofs.YtdeffdldifepkaaGreat
open Go.RowKit
open Asn (pt row rb)
set_option linter.unusedVariables false
set_option linter.unusedSimpArgs false
def cfT (a:At) (l:List En) (idx n:Nat):Bool:=decide (0<n)&&decide (a.1+n≤idx)&&decide ((l.getD (n-1) default).2.1=3)
def cfN (a:At) (l:List En) (idx:Nat):Nat→Nat
 |0=>0
 |m+1=>if cfT a l idx (m+1)=true then m+1 else cfN a l idx m
def confR (a:At) (l:List En) (idx:Nat):Nat×List UInt8×Bool:=
 if rightB a l=true then (if cfN a l idx l.length=0 then (0,[],false) else (a.1+cfN a l idx l.length,(l.getD (cfN a l idx l.length-1) default).2.2,true)) else (0,[],false)
theorem cfN_le (a:At) (l:List En) (idx:Nat): ∀ m,cfN a l idx m≤m
 |0=>Nat.le_refl _
 |m+1=>by
  unfold cfN
  have:=cfN_le a l idx m
  split<;>omega
theorem cfN_hit {a:At} {l:List En} {idx n:Nat} (h:cfT a l idx n=true): ∀ m,n≤m→(∀ q,n<q→q≤m→cfT a l idx q=false)→cfN a l idx m=n
 |0,h0,_=>by
  have:n=0:=by omega
  subst this
  rfl
 |m+1,h0,hno=>by
  unfold cfN
  by_cases he:n=m+1
  ·rw[← he,h,if_pos O]
  ·rw[hno (m+1) (by omega) (Nat.le_refl _),if_neg Bool.false_ne_true]
   exact cfN_hit h m (by omega) fun q h1 h2=>hno q h1 (by omega)
theorem cfN_none {a:At} {l:List En} {idx:Nat}: ∀ m,(∀ q,0<q→q≤m→cfT a l idx q=false)→cfN a l idx m=0
 |0,_=>rfl
 |m+1,hno=>by
  unfold cfN
  rw[hno (m+1) (by omega) (Nat.le_refl _),if_neg Bool.false_ne_true]
  exact cfN_none m fun q h1 h2=>hno q h1 (by omega)
theorem T_slbE {P:Program} {n:Nat} {w0:World} {M:Nat→Prop} {T:Slots} {H:List Asn} {dd:Option Tmp} {tt:TypeId} {pos:String} {af:Array Edge} {g:Option (Nat×Bool)} [HasTab P] {sz:Nat} {x y z:Operand} {s e:TypeId} {A:Option Addr} {m c q r u:Nat} {z1 z2:Int} {kk kj:IntKind} {i ei:Ti} (hu:r-q=u) (hx:oget T x=some (.slice A m c)) (hy:oget T y=some (.int kk z1)) (hz:oget T z=some (.int kj z2)) [h1:NatOf z1 q] [h2:NatOf z2 r] (hs:ty P s=some i) (hi:i.desc= .slice e) (he:ty P e=some ei) (hsz:ei.size=sz) (hq:q≤r) (hc:r≤c):
  Tk P n w0 M T H ⟨dd,.slice s x (some y) (some z) none,tt,pos,af,g⟩ (.slice (cutP A c q sz) u (c-q)):=by
 subst hsz
 subst hu
 rw[h1.is] at hy
 rw[h2.is] at hz
 exact T_slb hx hy hz hs hi he hq hc
theorem confP_any (w:World) (a:At) (A:Option Addr) (c k:Nat) (Q:List Em) (l:List En) (hk:Q.length=k) (hl:Q.map emv=l) (h:Rd w All 3 A k (cellsL emc Q)) (hd:RDt w All (Q.map emd)) (hn:k≤1000) (hkk: ∀ m∈Q,m.2.2.2.2.length≤100000) (idx:Nat) (ri:Nat) (rbs:List UInt8) (rq:Bool) (N:Nat) (hN:rbs.length=N) (hs:confR a l idx=(ri,rbs,rq)):
  Gives Tryz.prog 49 [.agg (lgc a A k c).toArray,.int .u64 (idx:Int)] [] w (X:=Option Addr×Nat) (fun x=> .tuple #[.int .u64 (ri:Int),.slice x.1 N x.2,.bool rq]) (fun _=>True) (fun x=>[row 5 1 x.1 N x.2 (rbs.map bv)]):=by
 refine gives_M Tryz.func49 O Tryz.ntmps49 Tryz.results49 (by simp) (St.enter w) (fun B hB0 hB=>?_)
 obtain⟨i,t⟩:=a
 have hll:l.length=k:=by rw[← hl,List.length_map,hk]
 obtain⟨r0,hr0⟩: ∃ q,rightB (i,t) l=q:=⟨_,O⟩
 cases r0
 ·rw[confR,hr0,if_neg Bool.false_ne_true] at hs
  injection hs with e1 e2
  injection e2 with e2 e3
  subst e1 e2 e3 hN
  focus (refine qs ?_;(refine qe (E_boxa (cs:=lgc (i,t) A k c) O) ?_;rintro _ _ ⟨b2,rfl,rfl⟩);(refine qe (E_box1 (v:= .int .u64 (idx:Int)) O O) ?_;rintro _ _ ⟨b3,rfl,rfl⟩);(iterate 3 refine qp ?_);refine qz ?_;refine qq ?_;refine qs ?_;refine qt (T_loads (ds:=lgc (i,t) A k c) O O O O O) ?_;(refine qh F121 (fun w hS=>right_k w (i,t) A c k Q l hk hl ((Srd.old h (fun k _=>noOwns k)).rd w hS) (by omega) _ hr0) ?_);refine qt (T_not O) ?_;refine qz ?_;refine qT ?_;refine qs ?_;(iterate 3 refine qp ?_);refine qz ?_)
  exact hB0 _ _ _ _ _ O (.tmp O (.tmp O (.tmp O .nil))) fun w' hS=>⟨(none,0),O,trivial,(hS.sublist (List.nil_sublist _)).nilrow _ _⟩
 have hff:=right_fits hr0
 rw[hll] at hff
 have hff:k≤16∧i+k≤18446744073709551614:=hff
 have hfit:(i,t).1+k≤18446744073709551615:=by show i+k≤_;omega
 rw[confR,hr0,if_pos O,hll] at hs
 focus (refine qs ?_;(refine qe (E_boxa (cs:=lgc (i,t) A k c) O) ?_;rintro _ _ ⟨b2,rfl,rfl⟩);(refine qe (E_box1 (v:= .int .u64 (idx:Int)) O O) ?_;rintro _ _ ⟨b3,rfl,rfl⟩);(iterate 3 refine qp ?_);refine qz ?_;refine qq ?_;refine qs ?_;refine qt (T_loads (ds:=lgc (i,t) A k c) O O O O O) ?_;(refine qh F121 (fun w hS=>right_k w (i,t) A c k Q l hk hl ((Srd.old h (fun k _=>noOwns k)).rd w hS) (by omega) _ hr0) ?_);refine qt (T_not O) ?_;refine qz ?_;refine qF ?_;refine qx ?_;refine qs ?_;(refine qe (E_alloc1 (v:= .int .i64 0) O O O) ?_;rintro _ _ ⟨b7,rfl,rfl⟩);(refine qe (E_alloc1 (v:= .int .u64 0) O O O) ?_;rintro _ _ ⟨b8,rfl,rfl⟩);(iterate 2 (refine qw (E_store1 O O O O O O (by first|(simp;done)|(simp;omega)|decide)) ?_;rintro _ _ rfl));refine qz ?_;refine qq ?_;refine qs ?_;refine qt (T_loads (ds:=lgc (i,t) A k c) O O O O O) ?_;(refine qe (E_hv1 (f:=122) F122 (fun w hS=>places_any w (i,t) A k c) O O (fun _=>O)) ?_;rintro _ _ ⟨bI,rfl,_,rfl⟩);refine qz ?_;refine qb ?_)
 refine S_range (F:=fun k=>k<w.heap.size∨k=bI) (es:=plcs (i,t) l) (ps:=[16,17]) (X:=Int×Nat) (fun x=>[pt b7 3 [.int .i64 x.1],pt b8 34 [.int .u64 (x.2:Int)]]) (fun j x=>x.1=(cfN (i,t) l idx (j-1):Int)-1∧(0<cfN (i,t) l idx (j-1)→x.2=i+cfN (i,t) l idx (j-1))) (fun j x=>False) (-1,0) [pt bI 39 (lgc (i,t) A k c),pt b3 34 [.int .u64 (idx:Int)],pt b2 39 (lgc (i,t) A k c)] O O F168 (by kernel_rfl) (fun e he=>?_) ⟨O,fun h0=>absurd h0 (Nat.lt_irrefl 0)⟩ (fun w' hS=>?_) (fun w' hS=>?_) (fun w' hS=>reads_ok (b:=bI) (Hk:=[pt bI 39 (lgc (i,t) A k c),pt b3 34 [.int .u64 (idx:Int)],pt b2 39 (lgc (i,t) A k c)]) hS) (fun j x w' hx hj hS=>?_) (fun y D hy=>?_) (fun y D j hj hy=>absurd hy id)
 ·obtain⟨j,_,rfl⟩:=List.mem_map.1 he
  rfl
 ·simp only[Nat.add_zero,List.set_cons_zero] at hS
  exact sub_st (H':=[pt b7 3 [.int .i64 (-1)],pt b8 34 [.int .u64 0],pt bI 39 (lgc (i,t) A k c),pt b3 34 [.int .u64 (idx:Int)],pt b2 39 (lgc (i,t) A k c)]) w' hS
 ·have h1:Rd w All 3 A Q.length (cellsL emc Q):=by rw[hk];exact h
  have hb:Rd w' (fun k=>k<w.heap.size∨k=bI) 1 (some ⟨bI,0,none⟩) 3 (lgc (i,t) A k c):=rd_blk (b:=bI) hS O (.inr O)
  rw[← hk] at hb
  rw[← hl]
  exact places_iter w' _ bI (i,t) A c Q hb (rd_old h1 (by decide) (fun k=>noOwns k) hS (fun k hk=> .inl hk)) (by omega) (by rw[hk];exact hfit)
 ·rw[plcs_len,hll] at hj
  obtain⟨x1,x2⟩:=x
  obtain⟨hx1,hx2⟩:=hx
  dsimp only at hx1 hx2
  rw[plcs_at _ _ _ (by omega)]
  have hpf:=placeN_fst (i,t) l j
  obtain⟨⟨pi,pu⟩,hp⟩: ∃ p,placeN (i,t) l j=p:=⟨_,O⟩
  rw[hp] at hpf ⊢
  have hpf:pi=i+j:=hpf
  subst hpf
  intro l2 rA rB B0 B1 J hfull hbeg hend hret
  have hC3:=rd_kept (b:=b3) hfull O
  have hC2:=rd_kept (b:=b2) hfull O
  have hC4:=rd_rest h (by decide) (fun k=>noOwns k) hfull
  focus (refine qs ?_;refine qp ?_;refine qz ?_;refine qr ?_;(refine qe (E_alloca O at_zero) ?_;rintro _ _ ⟨b10,rfl,rfl⟩);(refine qw (E_storew (cs:=atc (0,0)) (ds:=atc (i+j,pu)) O O O O (atc_one _) O) ?_;rintro _ _ rfl);refine qz ?_)
  refine hbeg _ [pt b10 36 (atc (i+j,pu)),pt b7 3 [.int .i64 x1],pt b8 34 [.int .u64 (x2:Int)]] _ ?_ sub_st
  by_cases hj0:j=0
  ·subst hj0
   repeat' (first|refine R_take (T_decF O (by omega)) ?_ O O|refine R_p O ?_ O O|refine R_nil ?_|refine R_skip ?_ O O|refine S_seq O ?_|refine S_region O O ?_|refine S_false O O ?_|refine S_block O ?_|refine RS_blk ?_|refine S_skip O ?_)
   exact hend (x1,x2) _ _ ⟨hx1,hx2⟩ sub_st
  have hjj:j+1-1=(j-1)+1:=by omega
  by_cases hji:i+j≤idx
  ·have hne:A≠none:=by obtain⟨ad,rfl,_⟩:=h.2 (by omega);simp
   have hat:=cellsL_at (f:=emc) emc_len Q default (j-1) (by omega)
   have hlk:j-1<k:=by omega
   obtain⟨m,hm⟩: ∃ m,Q.getD (j-1) default=m:=⟨_,O⟩
   rw[hm] at hat
   have hat1:(cellsL emc Q)[(j-1)*3+1]? =some (.int .i64 m.2.1):=hat 1 _ O
   have hlm:l.getD (j-1) default=emv m:=by rw[← hl, ← hm];simp[List.getD,show j-1<Q.length by omega]
   have hT:cfT (i,t) l idx j=decide (m.2.1=3):=by
    unfold cfT
    rw[hlm,decide_eq_true (show 0<j by omega),decide_eq_true (show (i,t).1+j≤idx from hji)]
    rfl
   obtain⟨kd,hkd⟩: ∃ z,m.2.1=z:=⟨_,O⟩
   rw[hkd] at hat1 hT
   by_cases hk3:kd=3
   ·rw[decide_eq_true hk3] at hT
    focus (refine qb ?_;refine qs ?_;refine qp ?_;refine qd ?_;refine qp ?_;refine qp ?_;refine qt (T_load O O O O) ?_;refine qt (T_loadg O O O hC3 (fun k hk=>hk) O) ?_;refine qd ?_;(iterate 3 refine qp ?_);refine qt (T_loadg (v:= .slice A k c) O O O hC2 (fun k hk=>hk) O) ?_;refine qp ?_;refine qt (T_subN O O (by omega) (by unfold fits;omega)) ?_;refine qt (T_ixM (sz:=3) (q:=j-1) O O O O O O hne hlk) ?_;refine qt (T_fap O O O O O hne) ?_;refine qt (T_ldr O O O (Srd.old hC4 (fun k hk=>hk)) (by omega) hat1) ?_;refine qd ?_;refine qp ?_;refine qz ?_;refine qT ?_)
    refine S_drawR ([pt b10 36 (atc (i+j,pu))]) sub_st (by kernel_rfl) O (by kernel_rfl) (by kernel_rfl) (by kernel_rfl:_=6) ?_
    refine dp 0 ?_
    (refine dt 1 O (T_subN O O (by omega) (by unfold fits;omega)) ?_)
    refine dp 2 ?_
    refine dl 3 ?_
    refine D_one 4 O (E_store1 O O O O O O (by first|(simp;done)|(simp;omega)|decide)) ?_ O O (by kernel_rfl)
    rintro _ _ rfl
    refine nx ?_
    refine D_one 5 O (E_store1 O O O O O O (by first|(simp;done)|(simp;omega)|decide)) ?_ O O (by kernel_rfl)
    rintro _ _ rfl
    refine nx ?_
    refine dn ?_
    skip
    focus (refine RS_blk ?_)
    have e1:cfN (i,t) l idx (j+1-1)=j:=by rw[hjj,cfN,show j-1+1=j by omega,hT,if_pos O]
    refine hend (((j-1:Nat):Int),i+j) _ _ ⟨by rw[e1];dsimp only;omega,fun _=>by rw[e1]⟩ fun w' hS=>?_
    simp only[Nat.add_zero,List.set_cons_zero] at hS
    exact sub_st w' hS
   ·rw[decide_eq_false hk3] at hT
    focus (refine qb ?_;refine qs ?_;refine qp ?_;refine qd ?_;refine qp ?_;refine qp ?_;refine qt (T_load O O O O) ?_;refine qt (T_loadg O O O hC3 (fun k hk=>hk) O) ?_;refine qd ?_;(iterate 3 refine qp ?_);refine qt (T_loadg (v:= .slice A k c) O O O hC2 (fun k hk=>hk) O) ?_;refine qp ?_;refine qt (T_subN O O (by omega) (by unfold fits;omega)) ?_;refine qt (T_ixM (sz:=3) (q:=j-1) O O O O O O hne hlk) ?_;refine qt (T_fap O O O O O hne) ?_;refine qt (T_ldr O O O (Srd.old hC4 (fun k hk=>hk)) (by omega) hat1) ?_;refine qf ?_;refine qp ?_;refine qz ?_;refine qF ?_;refine qx ?_;refine RS_blk ?_)
    have e1:cfN (i,t) l idx (j+1-1)=cfN (i,t) l idx (j-1):=by rw[hjj,cfN,show j-1+1=j by omega,hT,if_neg Bool.false_ne_true]
    exact hend (x1,x2) _ _ ⟨by rw[e1];exact hx1,fun h0=>by rw[e1] at h0 ⊢;exact hx2 h0⟩ sub_st
  ·have hT:cfT (i,t) l idx j=false:=by
    unfold cfT
    rw[decide_eq_false (show ¬ (i,t).1+j≤idx from hji),Bool.and_false,Bool.false_and]
   focus (refine qb ?_;refine qs ?_;refine qp ?_;refine qd ?_;refine qp ?_;refine qp ?_;refine qt (T_load O O O O) ?_;refine qt (T_loadg O O O hC3 (fun k hk=>hk) O) ?_;refine qf ?_;refine qp ?_;refine qp ?_;(iterate 8 refine qk ?_);refine qp ?_;refine qz ?_;refine qF ?_;refine qx ?_;refine RS_blk ?_)
   have e1:cfN (i,t) l idx (j+1-1)=cfN (i,t) l idx (j-1):=by rw[hjj,cfN,show j-1+1=j by omega,hT,if_neg Bool.false_ne_true]
   exact hend (x1,x2) _ _ ⟨by rw[e1];exact hx1,fun h0=>by rw[e1] at h0 ⊢;exact hx2 h0⟩ sub_st
 ·rw[plcs_len,hll,Nat.add_sub_cancel] at hy
  obtain⟨x1,x2⟩:=y
  obtain⟨hx1,hx2⟩:=hy
  dsimp only at hx1 hx2
  simp only[List.cons_append,List.nil_append]
  have hle:=cfN_le (i,t) l idx k
  obtain⟨n,hn2⟩: ∃ n,cfN (i,t) l idx k=n:=⟨_,O⟩
  rw[hn2] at hs hx1 hx2 hle
  by_cases hn0:n=0
  ·rw[if_pos hn0] at hs
   injection hs with e1 e2
   injection e2 with e2 e3
   subst e1 e2 e3 hN
   focus (refine RS_blk ?_;refine qq ?_;refine qs ?_;refine qt (T_load O O O O) ?_;refine qd ?_;refine qz ?_;refine qT ?_;refine qs ?_;(iterate 3 refine qp ?_);refine qz ?_)
   refine hB _ _ _ _ _ _ _ O inferInstance (.tmp O (.tmp O (.tmp O .nil))) fun w' hS=>⟨(none,0),O,trivial,(hS.sublist (List.nil_sublist _)).nilrow _ _⟩
  rw[if_neg hn0] at hs
  injection hs with e1 e2
  injection e2 with e2 e3
  subst e1 e2 e3
  obtain⟨q,hq⟩: ∃ q,n-1=q:=⟨_,O⟩
  have hx2:=hx2 (by omega)
  obtain rfl:x1=(q:Int):=by omega
  subst hx2
  rw[hq] at hN
  have hqk:q<k:=by omega
  have hne:A≠none:=by obtain⟨ad,rfl,_⟩:=h.2 (by omega);simp
  have hat:=cellsL_at (f:=emc) emc_len Q default q (by omega)
  obtain⟨m,hm⟩: ∃ m,Q.getD q default=m:=⟨_,O⟩
  have hmem:m∈Q:=by rw[← hm];simp[List.getD,show q<Q.length by omega]
  rw[hm] at hat
  have hat2:(cellsL emc Q)[q*3+2]? =some (.slice m.2.2.1 m.2.2.2.2.length m.2.2.2.1):=hat 2 _ O
  have hlm:l.getD q default=emv m:=by rw[← hl, ← hm];simp[List.getD,show q<Q.length by omega]
  have hbk:=hkk m hmem
  have hd1:Rd w All 1 m.2.2.1 m.2.2.2.2.length (m.2.2.2.2.map bv):=hd (emd m) (List.mem_map.2 ⟨m,hmem,O⟩)
  rw[hlm] at hN
  obtain rfl:N=m.2.2.2.2.length:=hN.symm
  focus (refine RS_blk ?_;refine qq ?_;refine qs ?_;refine qt (T_load O O O O) ?_;refine qf ?_;refine qz ?_;refine qF ?_;refine qx ?_;refine qq ?_)
  refine S_draw ([pt b8 34 [.int .u64 ((i+n:Nat):Int)],pt b2 39 (lgc (i,t) A k c),pt b7 3 [.int .i64 (q:Int)]]) sub_st (by kernel_rfl) O (by kernel_rfl) (by kernel_rfl:_=11) ?_
  refine dl 0 ?_
  refine dp 1 ?_
  refine dl 2 ?_
  refine dl 3 ?_
  refine dt 4 O (T_ixM (sz:=3) (q:=q) O O O O O O hne hqk) ?_
  refine dt 5 O (T_fap O O O O O hne) ?_
  refine dt 6 O (T_ldr O O O (Srd.old h (fun k _=>noOwns k)) (by omega) hat2) ?_
  refine D_one 7 O (E_hvG (f:=123) F123 (fun w hS=>bclone_any w m.2.2.1 m.2.2.2.2.length m.2.2.2.1 (m.2.2.2.2.map bv) ((Srd.old hd1 (fun k _=>noOwns k)).rd w hS) (bv_ones _) hbk) O O) ?_ O O (by kernel_rfl)
  rintro _ _ ⟨⟨A9,c9⟩,rfl,_,rfl⟩;dsimp only[List.cons_append,List.nil_append]
  refine nx ?_
  refine dp 8 ?_
  refine dp 9 ?_
  refine dqT 10 ?_
  refine dn ?_
  skip
  skip
  refine hB _ _ _ _ _ _ _ O inferInstance (.tmp O (.tmp O (.tmp O .nil))) fun w' hS=>⟨(A9,c9),O,trivial,?_⟩
  rw[hq,hlm]
  exact sub_st (H':=[row 5 1 A9 m.2.2.2.2.length c9 (m.2.2.2.2.map bv)]) w' hS
theorem confD_any (w:World) (a:At) (A:Option Addr) (c k:Nat) (Q:List Em) (l:List En) (hk:Q.length=k) (hl:Q.map emv=l) (h:Rd w All 3 A k (cellsL emc Q)) (hd:RDt w All (Q.map emd)) (hn:k≤1000) (hkk: ∀ m∈Q,m.2.2.2.2.length≤100000) (hr0:rightB a l=true) (idx:Nat) (ri:Nat) (rbs:List UInt8) (rq:Bool) (N:Nat) (hN:rbs.length=N) (hs:confR a l idx=(ri,rbs,rq)):
  Gives Tryz.prog 102 [.agg (lgc a A k c).toArray,.int .u64 (idx:Int)] [] w (X:=Option Addr×Nat) (fun x=> .tuple #[.int .u64 (ri:Int),.slice x.1 N x.2,.bool rq]) (fun _=>True) (fun x=>[row 5 1 x.1 N x.2 (rbs.map bv)]):=by
 refine gives_S Tryz.func102 O Tryz.ntmps102 Tryz.results102 (by simp) (St.enter w) (fun B hB=>?_)
 obtain⟨i,t⟩:=a
 have hll:l.length=k:=by rw[← hl,List.length_map,hk]
 have hff:=right_fits hr0
 rw[hll] at hff
 have hff:k≤16∧i+k≤18446744073709551614:=hff
 have hfit:(i,t).1+k≤18446744073709551615:=by show i+k≤_;omega
 rw[confR,hr0,if_pos O,hll] at hs
 repeat' (first|refine R_p O ?_ O O|refine R_nil ?_|refine R_take (T_load O O O O) ?_ O O|refine S_seq O ?_|refine S_region O O ?_|refine S_block O ?_|(refine R_eff (E_boxa (cs:=lgc (i,t) A k c) O) ?_ O O;rintro _ _ ⟨b2,rfl,rfl⟩))
 refine S_loop (X:=Nat) (fun n=>[(1,.int .u64 (idx:Int)),(2,.pointer (some ⟨b2,0,none⟩)),(7,.int .i64 (n:Int))]) (fun _=>[pt b2 39 (lgc (i,t) A k c)]) (fun n=>n≤k∧ ∀ q,n<q→q≤k→cfT (i,t) l idx q=false) (fun n=>n) O k ⟨Nat.le_refl _,fun q h1 h2=>by omega⟩ (Sub.cons O (Sub.cons O (Sub.cons O Sub.nil))) sub_st ?_
 rintro n ⟨hnk,hno⟩ J hJ
 by_cases hn0:n=0
 ·rw[cfN_none k fun q h1 h2=>hno q (by omega) h2,if_pos O] at hs
  injection hs with e1 e2
  injection e2 with e2 e3
  subst e1 e2 e3 hN
  repeat' (first|refine R_take (T_decF O (by omega)) ?_ O O|refine R_p O ?_ O O|refine R_nil ?_|refine S_seq O ?_|refine S_region O O ?_|refine S_false O O ?_|refine S_exit O O ?_)
  refine hB _ _ _ _ _ O O fun w' hS=>⟨(none,0),O,trivial,(hS.sublist (List.nil_sublist _)).nilrow _ _⟩
 have hpf:=placeN_fst (i,t) l n
 obtain⟨⟨pi,pu⟩,hp⟩: ∃ p,placeN (i,t) l n=p:=⟨_,O⟩
 rw[hp] at hpf
 have hpf:pi=i+n:=hpf
 subst hpf
 obtain⟨q,hq⟩: ∃ q,n-1=q:=⟨_,O⟩
 have hqk:q<k:=by omega
 have hne:A≠none:=by obtain⟨ad,rfl,_⟩:=h.2 (by omega);simp
 have hat:=cellsL_at (f:=emc) emc_len Q default q (by omega)
 obtain⟨m,hm⟩: ∃ m,Q.getD q default=m:=⟨_,O⟩
 have hmem:m∈Q:=by rw[← hm];simp[List.getD,show q<Q.length by omega]
 rw[hm] at hat
 have hlm:l.getD q default=emv m:=by rw[← hl, ← hm];simp[List.getD,show q<Q.length by omega]
 have hbk:=hkk m hmem
 have hd1:=hd (emd m) (List.mem_map.2 ⟨m,hmem,O⟩)
 have hT:cfT (i,t) l idx n=(decide (i+n≤idx)&&decide (m.2.1=3)):=by
  unfold cfT
  rw[hq,hlm,decide_eq_true (show 0<n by omega)]
  rfl
 obtain⟨tm,kd,D,cd,bs⟩:=m
 have hd1:Rd w All 1 D bs.length (bs.map bv):=hd1
 have hT:cfT (i,t) l idx n=(decide (i+n≤idx)&&decide (kd=3)):=hT
 have hbk:bs.length≤100000:=hbk
 have hat1:(cellsL emc Q)[q*3+1]? =some (.int .i64 kd):=hat 1 _ O
 have hat2:(cellsL emc Q)[q*3+2]? =some (.slice D bs.length cd):=hat 2 _ O
 by_cases hi:i+n≤idx
 ·by_cases hk3:kd=3
  ·rw[decide_eq_true hi,decide_eq_true hk3] at hT
   rw[cfN_hit hT k hnk hno,if_neg hn0,hq,hlm] at hs
   injection hs with e1 e2
   injection e2 with e2 e3
   subst e1 e2 e3
   obtain rfl:N=bs.length:=hN.symm
   focus (refine qq ?_;refine qs ?_;refine qp ?_;refine qd ?_;refine qz ?_;refine qT ?_;refine qx ?_;refine qq ?_;refine qb ?_;refine qs ?_;refine qt (T_loads (ds:=lgc (i,t) A k c) O O O O O) ?_;refine qp ?_;(refine qh F140 (fun w hS=>placeD_any w (i,t) A c k Q l hk hl ((Srd.old h (fun k _=>noOwns k)).rd w hS) (by omega) hfit n hnk _ hp) ?_);(refine qe (E_alloca O at_zero) ?_;rintro _ _ ⟨b8,rfl,rfl⟩);(refine qw (E_storew (cs:=atc (0,0)) (ds:=atc (i+n,pu)) O O O O (atc_one _) O) ?_;rintro _ _ rfl);refine qn ?_;refine qp ?_;refine qt (T_load O O O O) ?_;refine qp ?_;refine qd ?_;refine qd ?_;refine qp ?_;refine qt (T_load O O O O) ?_;refine qp ?_;refine qt (T_subE hq O O (by omega) (by unfold fits;omega)) ?_;refine qt (T_ixM (sz:=3) (q:=q) O O O O O O hne hqk) ?_;refine qt (T_fap O O O O O hne) ?_;refine qt (T_ldr O O O (Srd.old h (fun k _=>noOwns k)) (by omega) hat1) ?_;refine qd ?_;refine qd ?_;refine qz ?_;refine qT ?_;refine qq ?_)
   refine S_draw ([pt b8 36 (atc (i+n,pu)),pt b2 39 (lgc (i,t) A k c)]) sub_st (by kernel_rfl) O (by kernel_rfl) (by kernel_rfl:_=14) ?_
   refine dp 0 ?_
   refine dl 1 ?_
   refine dp 3 ?_
   refine dl 4 ?_
   refine dp 5 ?_
   (refine dt 6 O (T_subE hq O O (by omega) (by unfold fits;omega)) ?_)
   refine dt 7 O (T_ixM (sz:=3) (q:=q) O O O O O O hne hqk) ?_
   refine dt 8 O (T_fap O O O O O hne) ?_
   refine dt 9 O (T_ldr O O O (Srd.old h (fun k _=>noOwns k)) (by omega) hat2) ?_
   refine D_one 2 O (E_lit1 (m:=0) (vs:=[]) O O O O O O O (by simp) (by decide)) ?_ O O (by kernel_rfl)
   rintro _ _ ⟨bl,rfl,rfl⟩
   refine nx ?_
   refine D_one 10 O (E_apple (sz:=1) (news:=bs.map bv) O O O O O O O (by decide) .here (Srd.old hd1 (fun k _=>noOwns k)) (bv_ones _) (by show bs.length*1≤_;omega) (by unfold maxLen;omega)) ?_ O O (by kernel_rfl)
   rintro _ _ ⟨A',c',rfl,rfl⟩
   refine nx ?_
   refine dp 11 ?_
   refine dp 12 ?_
   refine dqT 13 ?_
   refine dn ?_
   skip
   skip
   refine hB _ _ _ _ _ O O fun w' hS=>⟨(A',c'),O,trivial,sub_st (H':=[row 5 1 A' bs.length c' (bs.map bv)]) w' hS⟩
  ·rw[decide_eq_false hk3,Bool.and_false] at hT
   focus (refine qq ?_;refine qs ?_;refine qp ?_;refine qd ?_;refine qz ?_;refine qT ?_;refine qx ?_;refine qq ?_;refine qb ?_;refine qs ?_;refine qt (T_loads (ds:=lgc (i,t) A k c) O O O O O) ?_;refine qp ?_;(refine qh F140 (fun w hS=>placeD_any w (i,t) A c k Q l hk hl ((Srd.old h (fun k _=>noOwns k)).rd w hS) (by omega) hfit n hnk _ hp) ?_);(refine qe (E_alloca O at_zero) ?_;rintro _ _ ⟨b8,rfl,rfl⟩);(refine qw (E_storew (cs:=atc (0,0)) (ds:=atc (i+n,pu)) O O O O (atc_one _) O) ?_;rintro _ _ rfl);refine qn ?_;refine qp ?_;refine qt (T_load O O O O) ?_;refine qp ?_;refine qd ?_;refine qd ?_;refine qp ?_;refine qt (T_load O O O O) ?_;refine qp ?_;refine qt (T_subE hq O O (by omega) (by unfold fits;omega)) ?_;refine qt (T_ixM (sz:=3) (q:=q) O O O O O O hne hqk) ?_;refine qt (T_fap O O O O O hne) ?_;refine qt (T_ldr O O O (Srd.old h (fun k _=>noOwns k)) (by omega) hat1) ?_;refine qf ?_;refine qp ?_;refine qz ?_;refine qF ?_;refine qx ?_;refine RS_blk ?_;refine qr ?_;refine qp ?_;refine qt (T_subE hq O O (by omega) (by unfold fits;omega)) ?_;refine qp ?_;refine qz ?_)
   refine hJ q _ _ ⟨by omega,fun q2 h1 h2=>?_⟩ (Sub.cons O (Sub.cons O (Sub.cons O Sub.nil))) sub_st (by omega)
   rcases Nat.lt_or_ge n q2 with h3|h3
   ·exact hno q2 h3 h2
   ·rw[show q2=n by omega];exact hT
 ·rw[decide_eq_false hi,Bool.false_and] at hT
  focus (refine qq ?_;refine qs ?_;refine qp ?_;refine qd ?_;refine qz ?_;refine qT ?_;refine qx ?_;refine qq ?_;refine qb ?_;refine qs ?_;refine qt (T_loads (ds:=lgc (i,t) A k c) O O O O O) ?_;refine qp ?_;(refine qh F140 (fun w hS=>placeD_any w (i,t) A c k Q l hk hl ((Srd.old h (fun k _=>noOwns k)).rd w hS) (by omega) hfit n hnk _ hp) ?_);(refine qe (E_alloca O at_zero) ?_;rintro _ _ ⟨b8,rfl,rfl⟩);(refine qw (E_storew (cs:=atc (0,0)) (ds:=atc (i+n,pu)) O O O O (atc_one _) O) ?_;rintro _ _ rfl);refine qn ?_;refine qp ?_;refine qt (T_load O O O O) ?_;refine qp ?_;refine qf ?_;refine qp ?_;(iterate 8 refine qk ?_);refine qp ?_;refine qz ?_;refine qF ?_;refine qx ?_;refine RS_blk ?_;refine qr ?_;refine qp ?_;refine qt (T_subE hq O O (by omega) (by unfold fits;omega)) ?_;refine qp ?_;refine qz ?_)
  refine hJ q _ _ ⟨by omega,fun q2 h1 h2=>?_⟩ (Sub.cons O (Sub.cons O (Sub.cons O Sub.nil))) sub_st (by omega)
  rcases Nat.lt_or_ge n q2 with h3|h3
  ·exact hno q2 h3 h2
  ·rw[show q2=n by omega];exact hT
theorem from_S (w:World) (a:At) (A:Option Addr) (c k:Nat) (Q:List Em) (l:List En) (hk:Q.length=k) (hl:Q.map emv=l) (h:Rd w All 3 A k (cellsL emc Q)) (hd:RDt w All (Q.map emd)) (hc:k≤c) (hn:k≤1000) (hkk: ∀ m∈Q,m.2.2.2.2.length≤100000) (idx:Nat) (hidx:idx≤18446744073709551615) (n:Int) (e:Int) (p:At) (r:List En) (K:Nat) (hK:r.length=K) (hs:frm a l idx n=(e,p,r)):
  Gives Tryz.prog 135 [.agg (lgc a A k c).toArray,.int .u64 (idx:Int),zi n] [] w (X:=(Option Addr×Nat)×Sh r) (fun x=> .tuple #[.agg (atc p).toArray,.slice x.1.1 K x.1.2,zi e]) (fun _=>True) (fun x=>[row 59 3 x.1.1 K x.1.2 (cellsL emc x.2.1),dtB 5 (x.2.1.map emd)]):=by
 subst hk
 subst hl
 subst hK
 have h1:=from_any w a A c Q h hd hc hn hkk idx hidx n
 rw[hs] at h1
 exact h1.mono fun u w' ⟨⟨⟨A5,c5⟩,P⟩,he,h1,hS⟩=>⟨((A5,c5),⟨P,h1,fun m hm=>dtB_caps (e:=5) (D:=P.map emd) hS (by simp) (emd m) (List.mem_map.2 ⟨m,hm,O⟩)⟩),he,trivial,hS⟩
theorem fromD_any (w:World) (a:At) (A:Option Addr) (c k:Nat) (Q:List Em) (l:List En) (hk:Q.length=k) (hl:Q.map emv=l) (h:Rd w All 3 A k (cellsL emc Q)) (hd:RDt w All (Q.map emd)) (hc:k≤c) (hn:k≤1000) (hkk: ∀ m∈Q,m.2.2.2.2.length≤100000) (hr0:rightB a l=true) (idx:Nat) (hidx:idx≤18446744073709551615) (n:Int) (e:Int) (p:At) (r:List En) (K:Nat) (hK:r.length=K) (hs:frm a l idx n=(e,p,r)):
  Gives Tryz.prog 176 [.agg (lgc a A k c).toArray,.int .u64 (idx:Int),zi n] [] w (X:=(Option Addr×Nat)×Sh r) (fun x=> .tuple #[.agg (atc p).toArray,.slice x.1.1 K x.1.2,zi e]) (fun _=>True) (fun x=>[row 59 3 x.1.1 K x.1.2 (cellsL emc x.2.1),dtB 5 (x.2.1.map emd)]):=by
 refine gives_C Tryz.func176 O Tryz.ntmps176 Tryz.results176 (by simp) (St.enter w) (fun B hB=>?_)
 obtain⟨i,t⟩:=a
 have hll:l.length=k:=by rw[← hl,List.length_map,hk]
 have hff:=right_fits hr0
 rw[hll] at hff
 have hff:k≤16∧i+k≤18446744073709551614:=hff
 have hfit:(i,t).1+k≤18446744073709551615:=by show i+k≤_;omega
 have hla2:(lastA (i,t) l).1=i+k:=by rw[lastA,hll]
 obtain⟨lt,hlt⟩: ∃ x,(lastA (i,t) l).2=x:=⟨_,O⟩
 have hla:lastA (i,t) l=(i+k,lt):=Prod.ext hla2 hlt
 have hs0:frm (i,t) l idx n=if idx≤i∨i+k+1<idx then ((4,(0,0),[]):Int×At×List En) else if n<0 then (2,(0,0),[]) else (0,placeN (i,t) l (idx-1-i),(l.drop (idx-1-i)).take (min n.toNat (l.length-(idx-1-i)))):=by
  unfold frm
  rw[if_pos hr0,hla2]
 rw[hs0] at hs
 by_cases h1:idx≤i
 ·rw[if_pos (.inl h1)] at hs
  injection hs with e1 e2
  injection e2 with e2 e3
  subst e1 e2 e3 hK
  repeat' (first|refine R_take (T_decT O (by omega)) ?_ O O|refine R_p O ?_ O O|refine R_nil ?_|refine R_skip ?_ O O|refine R_take (T_load O O O O) ?_ O O|refine R_take (T_build0 at_built0) ?_ O O|refine S_seq O ?_|refine S_region O O ?_|refine S_true O O ?_|(refine R_eff (E_boxa (cs:=lgc (i,t) A k c) O) ?_ O O;rintro _ _ ⟨b3,rfl,rfl⟩)|(refine R_eff (E_alloca O at_zero) ?_ O O;rintro _ _ ⟨b6,rfl,rfl⟩)|(refine R_eff0 (E_storew (cs:=atc (0,0)) (ds:=atc (0,0)) O O O O (atc_one _) O) ?_ O;rintro _ _ rfl))
  refine hB _ _ _ _ _ O (.cell O O O inferInstance O (.tmp O (.tmp O .nil))) fun w' hS=>⟨((none,0),⟨[],O,fun m hm=>absurd hm (by simp)⟩),O,trivial,dtB_nil2 (hS.sublist (List.nil_sublist _))⟩
 by_cases h2:i+k+1<idx
 ·rw[if_pos (.inr h2)] at hs
  injection hs with e1 e2
  injection e2 with e2 e3
  subst e1 e2 e3 hK
  focus (refine qs ?_;(refine qe (E_boxa (cs:=lgc (i,t) A k c) O) ?_;rintro _ _ ⟨b3,rfl,rfl⟩);(refine qe (E_alloca O at_zero) ?_;rintro _ _ ⟨b6,rfl,rfl⟩);refine qp ?_;refine qp ?_;refine qz ?_;refine qq ?_;refine qs ?_;(iterate 3 refine qp ?_);refine qt (T_load O O O O) ?_;refine qf ?_;refine qp ?_;refine qp ?_;refine qt (T_loads (ds:=lgc (i,t) A k c) O O O O O) ?_;(refine qh F67 (fun w hS=>lastD_any w (i,t) A c k Q l hk hl ((Srd.old h (fun k _=>noOwns k)).rd w hS) (by omega) hfit _ hla) ?_);refine qt (T_fldv (xs:=atc (i+k,lt)) O O O O O O) ?_;refine qt (T_addN O O (by unfold fits;omega)) ?_;refine qd ?_;refine qd ?_;refine qz ?_;refine qT ?_;refine qs ?_;refine qt (T_build0 at_built0) ?_;(refine qw (E_storew (cs:=atc (0,0)) (ds:=atc (0,0)) O O O O (atc_one _) O) ?_;rintro _ _ rfl);refine qp ?_;refine qp ?_;refine qz ?_)
  refine hB _ _ _ _ _ O (.cell O O O inferInstance O (.tmp O (.tmp O .nil))) fun w' hS=>⟨((none,0),⟨[],O,fun m hm=>absurd hm (by simp)⟩),O,trivial,dtB_nil2 (hS.sublist (List.nil_sublist _))⟩
 rw[if_neg (fun e=>Or.elim e h1 h2)] at hs
 by_cases h3:n<0
 ·rw[if_pos h3] at hs
  injection hs with e1 e2
  injection e2 with e2 e3
  subst e1 e2 e3 hK
  focus (refine qs ?_;(refine qe (E_boxa (cs:=lgc (i,t) A k c) O) ?_;rintro _ _ ⟨b3,rfl,rfl⟩);(refine qe (E_alloca O at_zero) ?_;rintro _ _ ⟨b6,rfl,rfl⟩);refine qp ?_;refine qp ?_;refine qz ?_;refine qq ?_;refine qs ?_;(iterate 3 refine qp ?_);refine qt (T_load O O O O) ?_;refine qf ?_;refine qp ?_;refine qp ?_;refine qt (T_loads (ds:=lgc (i,t) A k c) O O O O O) ?_;(refine qh F67 (fun w hS=>lastD_any w (i,t) A c k Q l hk hl ((Srd.old h (fun k _=>noOwns k)).rd w hS) (by omega) hfit _ hla) ?_);refine qt (T_fldv (xs:=atc (i+k,lt)) O O O O O O) ?_;refine qt (T_addN O O (by unfold fits;omega)) ?_;refine qf ?_;refine qp ?_;refine qz ?_;refine qF ?_;refine qx ?_;refine qq ?_;refine qs ?_;refine qp ?_;refine qd ?_;refine qz ?_;refine qT ?_;refine qs ?_;refine qt (T_build0 at_built0) ?_;(refine qw (E_storew (cs:=atc (0,0)) (ds:=atc (0,0)) O O O O (atc_one _) O) ?_;rintro _ _ rfl);refine qp ?_;refine qp ?_;refine qz ?_)
  refine hB _ _ _ _ _ O (.cell O O O inferInstance O (.tmp O (.tmp O .nil))) fun w' hS=>⟨((none,0),⟨[],O,fun m hm=>absurd hm (by simp)⟩),O,trivial,dtB_nil2 (hS.sublist (List.nil_sublist _))⟩
 rw[if_neg h3] at hs
 obtain⟨m,rfl⟩: ∃ m:Nat,n=(m:Int):=⟨n.toNat,by omega⟩
 obtain⟨q,hq⟩: ∃ q,idx-i-1=q:=⟨_,O⟩
 rw[Int.toNat_natCast,show idx-1-i=q by omega,hll] at hs
 injection hs with e1 e2
 injection e2 with e2 e3
 subst e1 e3
 have hp:=e2
 have hqk:q≤k:=by omega
 have h':Rd w All 3 A Q.length (cellsL emc Q):=by rw[hk];exact h
 have hcutr:Rd w All 3 (cutP A c q 3) (min m (k-q)) (cellsL emc ((Q.drop q).take (min m (k-q)))):=by
  have:=rd_takeE (rd_cutE (q:=q) (c:=c) h' (by omega) (by omega)) (Nat.min_le_right m (Q.length-q))
  rwa [hk] at this
 have hcutd:RDt w All (((Q.drop q).take (min m (k-q))).map emd):=fun d hd'=>rdt_drop hd q d (by
  obtain⟨e,he,rfl⟩:=List.mem_map.1 hd'
  exact List.mem_map.2 ⟨e,List.mem_of_mem_take he,O⟩)
 have hkd: ∀ e∈(Q.drop q).take (min m (k-q)),e.2.2.2.2.length≤100000:=fun e he=>hkk e (List.mem_of_mem_drop (List.mem_of_mem_take he))
 have hml:((Q.drop q).take (min m (k-q))).length=min m (k-q):=by rw[List.length_take,List.length_drop];omega
 have hev:((Q.drop q).take (min m (k-q))).map emv=(l.drop q).take (min m (k-q)):=by rw[List.map_take,List.map_drop,hl]
 obtain⟨u,hu⟩: ∃ u,min m (k-q)=u:=⟨_,O⟩
 rw[hu] at hcutr hcutd hkd hml hev hK
 have hKu:K=u:=by rw[← hK,List.length_take,List.length_drop,hll];omega
 subst hKu
 have hsb:q+K-q=K:=by omega
 have hqc:q+K≤c:=by omega
 rw[hu] at hB
 focus (refine qs ?_;(refine qe (E_boxa (cs:=lgc (i,t) A k c) O) ?_;rintro _ _ ⟨b3,rfl,rfl⟩);(refine qe (E_alloca O at_zero) ?_;rintro _ _ ⟨b6,rfl,rfl⟩);refine qp ?_;refine qp ?_;refine qz ?_;refine qq ?_;refine qs ?_;(iterate 3 refine qp ?_);refine qt (T_load O O O O) ?_;refine qf ?_;refine qf ?_;refine qp ?_;refine qt (T_loads (ds:=lgc (i,t) A k c) O O O O O) ?_;(refine qh F67 (fun w hS=>lastD_any w (i,t) A c k Q l hk hl ((Srd.old h (fun k _=>noOwns k)).rd w hS) (by omega) hfit _ hla) ?_);refine qt (T_fldv (xs:=atc (i+k,lt)) O O O O O O) ?_;refine qt (T_addN O O (by unfold fits;omega)) ?_;refine qf ?_;refine qf ?_;refine qz ?_;refine qF ?_;refine qx ?_;refine qq ?_;refine qs ?_;refine qp ?_;refine qf ?_;refine qz ?_;refine qF ?_;refine qx ?_;refine qs ?_;(iterate 3 refine qp ?_);refine qt (T_load O O O O) ?_;refine qt (T_subN O O (by omega) (by unfold fits;omega)) ?_;refine qt (T_subE hq O O (by omega) (by unfold fits;omega)) ?_;refine qt (T_convf O O O O (by unfold fits;omega)) ?_;refine qp ?_;refine qz ?_;refine qq ?_)
 refine S_draw ([pt b3 39 (lgc (i,t) A k c)]) sub_st (by kernel_rfl) O (by kernel_rfl) (by kernel_rfl:_=20) ?_
 refine dt 0 O (T_loads (ds:=lgc (i,t) A k c) O O O O O) ?_
 refine dp 1 ?_
 refine dp 3 ?_
 refine dl 4 ?_
 refine dp 5 ?_
 refine dp 6 ?_
 refine dp 7 ?_
 refine dp 8 ?_
 refine dl 9 ?_
 refine dp 10 ?_
 refine dp 11 ?_
 (refine dt 12 O (T_subN O O (by omega) (by unfold fits;omega)) ?_)
 refine dt 13 O (T_minE hu O O) ?_
 (refine dt 14 O (T_addN O O (by unfold fits;omega)) ?_)
 refine dt 15 O (T_slbE (sz:=3) hsb O O O O O O O (by omega) hqc) ?_
 refine D_one 2 O (E_hv0 (f:=140) F140 (fun w hS=>placeD_any w (i,t) A c k Q l hk hl ((Srd.old h (fun k _=>noOwns k)).rd w hS) (by omega) hfit q hqk _ hp) O O (fun _=>O)) ?_ O O (by kernel_rfl)
 rintro _ _ ⟨_,rfl,_,rfl⟩
 refine nx ?_
 refine D_one 16 O (E_hvG (f:=23) F23 (fun w hS=>entD_any w (cutP A c q 3) (c-q) K ((Q.drop q).take K) ((l.drop q).take K) hml hev ((Srd.old hcutr (fun k _=>noOwns k)).rd w hS) ((SDt.old hcutd (fun k _=>noOwns k)).rd w hS) (by omega) hkd) O O) ?_ O O (by kernel_rfl)
 rintro _ _ ⟨⟨⟨A5,c5⟩,P5⟩,rfl,_,rfl⟩;dsimp only[List.cons_append,List.nil_append]
 refine nx ?_
 refine D_one 17 O (E_storew (cs:=atc (0,0)) (ds:=atc p) O O O O (atc_one _) O) ?_ O O (by kernel_rfl)
 rintro _ _ rfl
 refine nx ?_
 refine dp 18 ?_
 refine dp 19 ?_
 refine dn ?_
 skip
 skip
 refine hB _ _ _ _ _ O (.cell O O O inferInstance O (.tmp O (.tmp O .nil))) fun w' hS=>⟨((A5,c5),P5),O,trivial,sub_st _ hS⟩
theorem row_bs {w0 w:World} {M:Nat→Prop} {H:List Asn} {e:TypeId} {A:Option Addr} {n c:Nat} {l:List UInt8} (hS:St w0 M H w) (hm:row e 1 A n c (l.map bv)∈H) (hl:l.length=n):Bs w All A n c l:=by
 have h1:=hS.at_ hm
 have hf:=row_facts h1
 exact⟨hl.symm,hf.1,hf.2.1,(Rd.of_own h1).more fun _ _=>trivial⟩
section
variable {P:Program} {n:Nat} {w0:World} {M:Nat→Prop} {T:Slots} {H:List Asn} {dd:Option Tmp} {tt:TypeId} {pos:String} {af:Array Edge} {g:Option (Nat×Bool)}
theorem E_storeA [HasTab P] {x y:Operand} {s:TypeId} {gb off t:Nat} {cs cs' ds:List Value} {i:Ti} {K:List Value→List Asn} (hx:oget T x=some (.pointer (some ⟨gb,off,none⟩))) (hy:oget T y=some (.agg ds.toArray)) (hs:ty P s=some i) (hl:ds.length=i.size) (h1: ∀ u∈ds,u.oneCell'=true) [hu:HUp H gb t cs K] (hc:cs.take off++ds++cs.drop (off+ds.length)=cs') (hfit:off+ds.length≤cs.length):
  Ef P n w0 M T H ⟨none,.store s x y,tt,pos,af,g⟩ (fun _ H''=>H''=K cs'):=by
 subst hc
 exact E_store hx hy hs (by simp[vcells]) hl h1 O hfit
theorem E_storeA1 [HasTab P] {x y:Operand} {s:TypeId} {gb off t:Nat} {cs cs':List Value} {v:Value} {i:Ti} {K:List Value→List Asn} (hx:oget T x=some (.pointer (some ⟨gb,off,none⟩))) (hy:oget T y=some v) (hs:ty P s=some i) (h1:v.oneCell'=true) (hl:i.size=1) [hu:HUp H gb t cs K] (hc:cs.set off v=cs') (hfit:off<cs.length):
  Ef P n w0 M T H ⟨none,.store s x y,tt,pos,af,g⟩ (fun _ H''=>H''=K cs'):=by
 subst hc
 exact E_store1 hx hy hs h1 hl O hfit
end
theorem ogets_cap (T:Slots) (x:Operand) (v:Value) (hx:oget T x=some v): ∀ cap:List Value,ogets T (#[x]++(cap.map Operand.const).toArray).toList=some (v::cap):=fun cap=>by
 have h:ogets T (cap.map Operand.const)=some cap:=by
  induction cap with
  |nil=>rfl
  |cons u l ih=>simp[ogets,ih,oget]
 simp[ogets,hx,h]
theorem take2_succ {a b:List Int} (hl:a.length=b.length) {j:Nat} (hj:j<a.length):a.take (j+1)=b.take (j+1)↔a.take j=b.take j∧a.getD j 0=b.getD j 0:=by
 rw[List.take_succ_eq_append_getElem hj,List.take_succ_eq_append_getElem (by omega)]
 have e1:a.getD j 0=a[j]:=by simp[List.getD,hj]
 have e2:b.getD j 0=b[j]'(by omega):=by simp[List.getD,show j<b.length by omega]
 rw[e1,e2]
 constructor
 ·intro h
  have:=List.append_inj h (by simp[hl])
  exact⟨this.1,by simpa using this.2⟩
 ·rintro⟨h1,h2⟩
  rw[h1,h2]
structure Ms where
 K:Int
 F:Int
 T:Int
 tm:Nat
 pl:At
 es:List En
 cm:Nat
 ok:Bool
 ix:Nat
 cf:List Int
 dt:List UInt8
structure Mp where
 A:Option Addr
 n:Nat
 c:Nat
 cA:Option Addr
 cn:Nat
 cc:Nat
 dA:Option Addr
 dn:Nat
 dc:Nat
 Q:List Em
def mgc (x:Ms) (p:Mp):List Value:=[.int .i64 x.K,.int .i64 x.F,.int .i64 x.T,.int .u64 (x.tm:Int),.int .u64 (x.pl.1:Int),.int .u64 (x.pl.2:Int),.slice p.A p.n p.c,.int .u64 (x.cm:Int),.bool x.ok,.int .u64 (x.ix:Int),.slice p.cA p.cn p.cc,.slice p.dA p.dn p.dc]
theorem mgc_len (x:Ms) (p:Mp):(mgc x p).length=12:=rfl
theorem mgc_one (x:Ms) (p:Mp): ∀ u∈mgc x p,u.oneCell'=true:=by simp[mgc,Value.oneCell']
structure MsR (w:World) (x:Ms) (p:Mp):Prop where
 hn:p.Q.length=p.n
 hm:p.n≤maxLen
 hQ:p.Q.map emv=x.es
 rq:Rd w All 3 p.A p.n (cellsL emc p.Q)
 bq: ∀ m∈p.Q,BsM w m
 hc:x.cf.length=p.cn
 hmc:p.cn≤maxLen
 rc:Rd w All 1 p.cA p.cn (x.cf.map zv)
 bd:Bs w All p.dA p.dn p.dc x.dt
theorem MsR.keep {w w':World} {x:Ms} {p:Mp} (h:MsR w x p) (hk:Kp All w w'):MsR w' x p:=⟨h.hn,h.hm,h.hQ,h.rq.keep hk,fun m hm=>Bs.keep (h.bq m hm) hk,h.hc,h.hmc,h.rc.keep hk,Bs.keep h.bd hk⟩
theorem MsR.ln {w:World} {x:Ms} {p:Mp} (h:MsR w x p):x.es.length=p.n:=by rw[← h.hQ,List.length_map,h.hn]
theorem MsR.dn {w:World} {x:Ms} {p:Mp} (h:MsR w x p):p.dn=x.dt.length:=h.bd.len
def fldN (K:Int):Nat:=if K=1∨K=3 then 1 else if K=2∨K=4 then 2 else if K=5 then 13 else if K=6 then 18 else if K=7 then 97 else 0
theorem fields_any (w:World) (K:Int):
  Gives Tryz.prog 114 [.int .i64 K] [] w (X:=Unit) (fun _=> .int .i64 (fldN K:Int)) (fun _=>True) (fun _=>[]):=by
 refine gives_S Tryz.func114 O Tryz.ntmps114 Tryz.results114 (by simp) (St.enter w) (fun B hB=>?_)
 rcases(by omega:K=1∨K=2∨K=3∨K=4∨K=5∨K=6∨K=7∨(K≠1∧K≠2∧K≠3∧K≠4∧K≠5∧K≠6∧K≠7)) with rfl|rfl|rfl|rfl|rfl|rfl|rfl|hK
 ·repeat' (first|refine R_take (T_decT O (by omega)) ?_ O O|refine R_p O ?_ O O|refine R_nil ?_|refine S_seq O ?_|refine S_region O O ?_|refine S_true O O ?_|refine S_block O ?_|refine S_skip O ?_)
  exact hB _ _ _ _ _ O O (qE O)
 ·repeat' (first|refine R_take (T_decT O (by omega)) ?_ O O|refine R_take (T_decF O (by omega)) ?_ O O|refine R_p O ?_ O O|refine R_nil ?_|refine S_seq O ?_|refine S_region O O ?_|refine S_true O O ?_|refine S_false O O ?_|refine S_block O ?_|refine S_skip O ?_)
  exact hB _ _ _ _ _ O O (qE O)
 ·repeat' (first|refine R_take (T_decT O (by omega)) ?_ O O|refine R_take (T_decF O (by omega)) ?_ O O|refine R_p O ?_ O O|refine R_nil ?_|refine S_seq O ?_|refine S_region O O ?_|refine S_true O O ?_|refine S_false O O ?_|refine S_block O ?_)
  exact hB _ _ _ _ _ O O (qE O)
 ·repeat' (first|refine R_take (T_decT O (by omega)) ?_ O O|refine R_take (T_decF O (by omega)) ?_ O O|refine R_p O ?_ O O|refine R_nil ?_|refine S_seq O ?_|refine S_region O O ?_|refine S_true O O ?_|refine S_false O O ?_|refine S_block O ?_)
  exact hB _ _ _ _ _ O O (qE O)
 ·repeat' (first|refine R_take (T_decT O (by omega)) ?_ O O|refine R_take (T_decF O (by omega)) ?_ O O|refine R_p O ?_ O O|refine R_nil ?_|refine S_seq O ?_|refine S_region O O ?_|refine S_true O O ?_|refine S_false O O ?_|refine S_block O ?_)
  exact hB _ _ _ _ _ O O (qE O)
 ·repeat' (first|refine R_take (T_decT O (by omega)) ?_ O O|refine R_take (T_decF O (by omega)) ?_ O O|refine R_p O ?_ O O|refine R_nil ?_|refine S_seq O ?_|refine S_region O O ?_|refine S_true O O ?_|refine S_false O O ?_|refine S_block O ?_)
  exact hB _ _ _ _ _ O O (qE O)
 ·repeat' (first|refine R_take (T_decT O (by omega)) ?_ O O|refine R_take (T_decF O (by omega)) ?_ O O|refine R_p O ?_ O O|refine R_nil ?_|refine S_seq O ?_|refine S_region O O ?_|refine S_true O O ?_|refine S_false O O ?_|refine S_block O ?_)
  exact hB _ _ _ _ _ O O (qE O)
 ·repeat' (first|refine R_take (T_decF O (by omega)) ?_ O O|refine R_p O ?_ O O|refine R_nil ?_|refine S_seq O ?_|refine S_region O O ?_|refine S_false O O ?_|refine S_block O ?_|refine RS_blk ?_|refine S_skip O ?_)
  have e:fldN K=0:=by unfold fldN;rw[if_neg (by omega),if_neg (by omega),if_neg (by omega),if_neg (by omega),if_neg (by omega)]
  rw[e] at hB
  exact hB _ _ _ _ _ O O (qE O)
theorem server_any (w:World) (n:Int) (r:Bool) (hr:(decide (1≤n)&&decide (n≤5))=r):
  Gives Tryz.prog 116 [.int .i64 n] [] w (X:=Unit) (fun _=> .bool r) (fun _=>True) (fun _=>[]):=by
 refine gives_S Tryz.func116 O Tryz.ntmps116 Tryz.results116 (by simp) (St.enter w) (fun B hB=>?_)
 subst hr
 by_cases h1:1≤n
 ·by_cases h2:n≤5
  ·rw[decide_eq_true h1,decide_eq_true h2] at hB
   repeat' (first|refine R_take (T_decT O (by omega)) ?_ O O|refine R_p O ?_ O O|refine R_nil ?_|refine S_seq O ?_|refine S_region O O ?_)
   exact hB _ _ _ _ _ O O (qE O)
  ·rw[decide_eq_true h1,decide_eq_false h2] at hB
   repeat' (first|refine R_take (T_decT O (by omega)) ?_ O O|refine R_take (T_decF O (by omega)) ?_ O O|refine R_p O ?_ O O|refine R_nil ?_|refine S_seq O ?_|refine S_region O O ?_)
   exact hB _ _ _ _ _ O O (qE O)
 ·rw[decide_eq_false h1,Bool.false_and] at hB
  repeat' (first|refine R_take (T_decF O (by omega)) ?_ O O|refine R_p O ?_ O O|refine R_nil ?_|refine R_skip ?_ O O|refine S_seq O ?_|refine S_region O O ?_)
  exact hB _ _ _ _ _ O O (qE O)
theorem num255_any (w:World) (n:Int):
  Gives Tryz.prog 119 [zv n] [] w (X:=Unit) (fun _=> .bool (!(decide (1≤n)&&decide (n≤255)))) (fun _=>True) (fun _=>[]):=by
 refine gives_S Tryz.func119 O Tryz.ntmps119 Tryz.results119 (by simp) (St.enter w) (fun B hB=>?_)
 unfold zv
 by_cases h1:1≤n
 ·by_cases h2:n≤255
  ·rw[decide_eq_true h1,decide_eq_true h2] at hB
   repeat' (first|refine R_take (T_decF O (by omega)) ?_ O O|refine R_p O ?_ O O|refine R_nil ?_|refine S_seq O ?_|refine S_region O O ?_)
   exact hB _ _ _ _ _ O O (qE O)
  ·rw[decide_eq_true h1,decide_eq_false h2] at hB
   repeat' (first|refine R_take (T_decT O (by omega)) ?_ O O|refine R_take (T_decF O (by omega)) ?_ O O|refine R_p O ?_ O O|refine R_nil ?_|refine S_seq O ?_|refine S_region O O ?_)
   exact hB _ _ _ _ _ O O (qE O)
 ·rw[decide_eq_false h1,Bool.false_and] at hB
  repeat' (first|refine R_take (T_decT O (by omega)) ?_ O O|refine R_p O ?_ O O|refine R_nil ?_|refine R_skip ?_ O O|refine S_seq O ?_|refine S_region O O ?_)
  exact hB _ _ _ _ _ O O (qE O)
def idxZ (p:Int→Bool) (L:List Int):Int:=if L.all (fun x=> !p x) then-1 else (L.findIdx p:Nat)
theorem idxfZ_any (w:World) (A:Option Addr) (n c f:Nat) (cap:List Value) (L:List Int) (p:Int→Bool) (h:Rd w All 1 A n (L.map zv)) (hn:n≤100000) (hf:Fn_ Tryz.prog f)
  (hp: ∀ w',Kp All w w'→ ∀ x∈L,Gives Tryz.prog f (zv x::cap) [] w' (X:=Unit) (fun _=> .bool (p x)) (fun _=>True) (fun _=>[])):
  Gives Tryz.prog 166 [.slice A n c,.func (.func f) #[] cap.toArray] [] w (X:=Unit) (fun _=>zi (idxZ p L)) (fun _=>True) (fun _=>[]):=by
 refine gives_S Tryz.func166 O Tryz.ntmps166 Tryz.results166 (by simp) (St.enter w) (fun B hB=>?_)
 have hl:L.length=n:=by have:=h.1;simpa using this
 have hne:0<n→A≠none:=fun h0=>by obtain⟨ad,rfl,_⟩:=h.2 (by omega);simp
 subst hl
 focus (refine qs ?_;refine qp ?_;refine qz ?_;refine qq ?_;refine qs ?_;(iterate 3 refine qp ?_);refine qz ?_;refine qb ?_)
 refine S_loop (X:=Nat) (fun j=>[(0,.slice A L.length c),(1,.func (.func f) #[] cap.toArray),(7,.int .i64 (L.length:Int)),(8,.int .i64 (j:Int))]) (fun _=>[]) (fun j=>j≤L.length∧(L.take j).all (fun x=> !p x)=true) (fun j=>L.length-j) O 0 ⟨Nat.zero_le _,O⟩ (Sub.cons O (Sub.cons O (Sub.cons O (Sub.cons O Sub.nil)))) (fun _ h=>h) ?_
 rintro j ⟨hj,hok⟩ J hJ
 rcases Nat.lt_or_ge j L.length with hjl|hjl
 ·have hne:=hne (by omega)
  have hat:=zv_at (l:=L) (j:=j) hjl
  have hmem:L.getD j 0∈L:=by simp[List.getD,hjl]
  have htk:L.take (j+1)=L.take j++[L.getD j 0]:=by rw[List.take_succ_eq_append_getElem hjl];simp[List.getD,hjl]
  have hsp:L=L.take j++L.getD j 0::L.drop (j+1):=by
   conv=>lhs;rw[← List.take_append_drop j L,List.drop_eq_getElem_cons hjl]
   simp[List.getD,hjl]
  obtain⟨x,hx⟩: ∃ x,L.getD j 0=x:=⟨_,O⟩
  rw[hx] at hat hmem htk hsp
  obtain⟨r,hr⟩: ∃ r,p x=r:=⟨_,O⟩
  cases r
  ·focus (refine qs ?_;refine qd ?_;refine qz ?_;refine qq ?_;refine qT ?_;refine qx ?_;refine qq ?_;refine qb ?_;refine qs ?_;refine qp ?_;refine qp ?_;refine qn ?_;(iterate 3 refine qp ?_);refine qt (T_ix1 O O O O O O hne hjl) ?_;refine qt (T_ldr (v:=zv x) O O O (Srd.old h (fun k _=>noOwns k)) (by omega) hat) ?_;(refine qe (E_cloA (cap:=cap) O (E_gv0 hf (ogets_cap _ _ (zv x) O cap) (fun w' hS=>hp w' hS.kpO x hmem) (fun _=>O))) ?_;rintro _ _ ⟨_,rfl,_,rfl⟩;rw[hr]);refine qz ?_;refine qF ?_;refine qx ?_;refine RS_blk ?_;refine qr ?_;refine qt (T_addN O O (by unfold fits;omega)) ?_;refine qp ?_;refine qz ?_)
   exact hJ (j+1) _ _ ⟨by omega,by rw[htk,List.all_append,hok];simp[hr]⟩ (Sub.cons O (Sub.cons O (Sub.cons O (Sub.cons O Sub.nil)))) (fun _ h=>h) (by omega)
  ·repeat' (first|refine R_take (T_decT O (by omega)) ?_ O O|refine R_p O ?_ O O|refine R_nil ?_|refine R_take (T_ix1 O O O O O O hne hjl) ?_ O O|refine R_take (T_ldr (v:=zv x) O O O (Srd.old h (fun k _=>noOwns k)) (by omega) hat) ?_ O O|refine S_seq O ?_|refine S_region O O ?_|refine S_true O O ?_|refine S_block O ?_|refine S_skip O ?_|(refine R_eff (E_cloA (cap:=cap) O (E_gv0 hf (ogets_cap _ _ (zv x) O cap) (fun w' hS=>hp w' hS.kpO x hmem) (fun _=>O))) ?_ O O;rintro _ _ ⟨_,rfl,_,rfl⟩;rw[hr]))
   refine hB _ _ _ _ _ O O fun w' hS=>⟨(),?_,trivial,hS.sublist (List.nil_sublist _)⟩
   show Value.int _ _=Value.int _ _
   congr 1
   have h1: ¬ L.all (fun x=> !p x)=true:=by
    rw[List.all_eq_true]
    intro h
    have:=h x hmem
    rw[hr] at this
    cases this
   rw[idxZ,if_neg h1,hsp,List.findIdx_append]
   have h2:(L.take j).findIdx p=(L.take j).length:=by
    rw[List.findIdx_eq_length]
    intro y hy
    have:=List.all_eq_true.1 hok y hy
    simpa using this
   rw[h2,if_neg (Nat.lt_irrefl _),List.findIdx_cons,hr]
   simp
   omega
 have hjn:j=L.length:=by omega
 subst hjn
 rw[List.take_length] at hok
 focus (refine qs ?_;refine qf ?_;refine qz ?_;refine qq ?_;refine qF ?_;refine S_exit O O ?_;refine qs ?_;refine qp ?_;refine qz ?_)
 refine hB _ _ _ _ _ O O fun w' hS=>⟨(),?_,trivial,hS.sublist (List.nil_sublist _)⟩
 rw[idxZ,if_pos hok]
 rfl
theorem confZ_any (w:World) (A:Option Addr) (n c f:Nat) (cap:List Value) (L:List Int) (p:Int→Bool) (h:Rd w All 1 A n (L.map zv)) (hn:n≤100000) (hf:Fn_ Tryz.prog f)
  (hp: ∀ w',Kp All w w'→ ∀ x∈L,Gives Tryz.prog f (zv x::cap) [] w' (X:=Unit) (fun _=> .bool (p x)) (fun _=>True) (fun _=>[])):
  Gives Tryz.prog 118 [.slice A n c,.func (.func f) #[] cap.toArray] [] w (X:=Unit) (fun _=> .bool (!L.all (fun x=> !p x))) (fun _=>True) (fun _=>[]):=by
 refine gives_S Tryz.func118 O Tryz.ntmps118 Tryz.results118 (by simp) (St.enter w) (fun B hB=>?_)
 focus (refine qs ?_;refine qp ?_;refine qn ?_;refine qp ?_;refine qp ?_;refine qh F166 (fun w hS=>idxfZ_any w A n c f cap L p ((Srd.old h (fun k _=>noOwns k)).rd w hS) hn hf (fun w' hk x hx=>hp w' (hS.kpO.trans hk) x hx)) ?_;refine qp ?_;refine qp ?_;refine qz ?_)
 refine hB _ _ _ _ _ O O fun w' hS=>⟨(),?_,trivial,hS.sublist (List.nil_sublist _)⟩
 refine congrArg Value.bool ?_
 rw[idxZ]
 cases L.all (fun x=> !p x)
 ·simp
 ·simp
theorem cells_cut {α:Type} {f:α→List Value} {k:Nat} (hf: ∀ a,(f a).length=k) (l:List α) (d:α) (j:Nat) (hj:j<l.length):((cellsL f l).drop (j*k)).take k=f (l.getD j d):=by
 have h:=cellsL_at (f:=f) hf l d j hj
 have hl:=cellsL_len (f:=f) hf l
 have hle:(j+1)*k≤l.length*k:=Nat.mul_le_mul_right _ hj
 rw[Nat.succ_mul] at hle
 refine List.ext_getElem? fun i=>?_
 rw[List.getElem?_take]
 split
 ·rename_i hi
  rw[List.getElem?_drop]
  have h2:(f (l.getD j d))[i]? =some ((f (l.getD j d))[i]'(by rw[hf];exact hi)):=List.getElem?_eq_getElem _
  rw[h2]
  exact h i _ h2
 ·rename_i hi
  exact(List.getElem?_eq_none (by rw[hf];omega)).symm
def bitsN:List (Bool×Nat)→Nat→Nat
 |[],v=>v
 |z::l,v=>bitsN l (if z.1 then v|||z.2 else v)
def setL (x:Ms):List (Bool×Nat):=[(!decide (x.pl=(0,0)),1),(x.ok,2),(decide (0<x.es.length),4),(decide (0<x.cm),8),(decide (0<x.ix),16),(decide (0<x.cf.length),32),(decide (0<x.dt.length),64)]
def setN (x:Ms):Nat:=bitsN (setL x) 0
def sfc (z:Bool×Nat):List Value:=[.bool z.1,.int .i64 (z.2:Int)]
theorem sfc_len (z:Bool×Nat):(sfc z).length=2:=rfl
theorem sfc_one (z:Bool×Nat): ∀ u∈sfc z,u.oneCell'=true:=by simp[sfc,Value.oneCell']
theorem sf_zero:ti187.zero= .agg (sfc (false,0)).toArray:=by kernel_rfl
theorem sf_built (b:Bool) (f:Nat):Tryz.prog.built 187 [(0,.bool b),(1,.int .i64 (f:Int))]=some (sfc (b,f)).toArray:=by kernel_rfl
theorem s7_built (a b c d e f g:Bool×Nat):Tryz.prog.built 188 [(0,.agg (sfc a).toArray),(1,.agg (sfc b).toArray),(2,.agg (sfc c).toArray),(3,.agg (sfc d).toArray),(4,.agg (sfc e).toArray),(5,.agg (sfc f).toArray),(6,.agg (sfc g).toArray)]=some (cellsL sfc [a,b,c,d,e,f,g]).toArray:=by kernel_rfl
theorem bits_snoc (l:List (Bool×Nat)) (z:Bool×Nat) (v:Nat):bitsN (l++[z]) v=if z.1 then bitsN l v|||z.2 else bitsN l v:=by
 induction l generalizing v with
 |nil=>rfl
 |cons y l ih=>exact ih _
theorem bits_lt: ∀ (l:List (Bool×Nat)) (v:Nat),(∀ z∈l,z.2<128)→v<128→bitsN l v<128
 |[],v,_,hv=>hv
 |z::l,v,hl,hv=>by
  unfold bitsN
  refine bits_lt l _ (fun y hy=>hl y (List.mem_cons_of_mem _ hy)) ?_
  split
  ·exact Nat.or_lt_two_pow (n:=7) hv (hl z (List.mem_cons_self ..))
  ·exact hv
theorem setL_lt (x:Ms): ∀ z∈setL x,z.2<128:=by simp[setL]
section
variable {P:Program} {n:Nat} {w0:World} {M:Nat→Prop} {T:Slots} {H:List Asn} {dd:Option Tmp} {tt:TypeId} {pos:String} {af:Array Edge} {g:Option (Nat×Bool)} {x y:Operand} {t u:TypeId}
theorem wrap_nat {p:Nat} (hp:p<9223372036854775808):IntKind.i64.wrap (p:Int)=(p:Int):=wrap_fits (show fits .i64 (p:Int) by unfold fits;omega)
theorem T_orN {i j:Int} {p q r:Nat} (h:p|||q=r) (hx:oget T x=some (.int .i64 i)) (hy:oget T y=some (.int .i64 j)) [hi:NatOf i p] [hj:NatOf j q] (hp:p<128) (hq:q<128):
  Tk P n w0 M T H ⟨dd,.binOp .or t x y u,tt,pos,af,g⟩ (.int .i64 (r:Int)):=by
 subst h
 rw[hi.is] at hx
 rw[hj.is] at hy
 refine T_arith hx hy ?_
 have h1:p|||q<128:=Nat.or_lt_two_pow (n:=7) hp hq
 show some (IntKind.i64.wrap (((BitVec.ofInt 64 (p:Int)|||BitVec.ofInt 64 (q:Int)).toNat:Nat):Int))=_
 rw[BitVec.ofInt_natCast,BitVec.ofInt_natCast,BitVec.toNat_or,BitVec.toNat_ofNat,BitVec.toNat_ofNat,Nat.mod_eq_of_lt (by omega),Nat.mod_eq_of_lt (by omega),wrap_nat (by omega)]
theorem T_andN {i j:Int} {p q r:Nat} (h:p&&& q=r) (hx:oget T x=some (.int .i64 i)) (hy:oget T y=some (.int .i64 j)) [hi:NatOf i p] [hj:NatOf j q] (hp:p<128) (hq:q<128):
  Tk P n w0 M T H ⟨dd,.binOp .and t x y u,tt,pos,af,g⟩ (.int .i64 (r:Int)):=by
 subst h
 rw[hi.is] at hx
 rw[hj.is] at hy
 refine T_arith hx hy ?_
 have h1:p&&& q<128:=Nat.lt_of_le_of_lt Nat.and_le_left hp
 show some (IntKind.i64.wrap (((BitVec.ofInt 64 (p:Int)&&& BitVec.ofInt 64 (q:Int)).toNat:Nat):Int))=_
 rw[BitVec.ofInt_natCast,BitVec.ofInt_natCast,BitVec.toNat_and,BitVec.toNat_ofNat,BitVec.toNat_ofNat,Nat.mod_eq_of_lt (by omega),Nat.mod_eq_of_lt (by omega),wrap_nat (by omega)]
theorem part_ag {P:Program} {t:TypeId} {ds:TypeDesc} {xs ys:Array Value} {off n:Nat} (hu:P.underlying t=some ds) (ha:aggB ds=true) (hz: ∀ w,(sizeOf t).run P w= .ok n w) (hx:xs.extract off (off+n)=ys) (w:World):(part t xs off).run P w= .ok (.agg ys) w:=by
 subst hx
 cases ds<;>first|(cases ha;done)|simp[part,isAgg,run_underlying hu,hz]
theorem T_ixva [HasTab P] {s e:TypeId} {m q sz:Nat} {z:Int} {kk:IntKind} {i ei:Ti} {cs ds:List Value} (hx:oget T x=some (.agg cs.toArray)) (hy:oget T y=some (.int kk z)) [hz:NatOf z q] (hs:ty P s=some i) (hi:i.desc= .array m e) (he:ty P e=some ei) (ha:aggB ei.desc=true) (h1:ei.size=sz) (hq:q<m) (hv:(cs.drop (q*sz)).take sz=ds):
  Tk P n w0 M T H ⟨dd,.index s x y,tt,pos,af,g⟩ (.agg ds.toArray):= .mk fun a w hT hS=>by
 subst h1
 rw[hz.is] at hy
 have hu:=run_underlying (hi▸ty_ok hs) w
 have hp:=part_ag (P:=P) (t:=e) (ty_ok he) ha (xs:=cs.toArray) (off:=q*ei.size) (n:=ei.size) (ys:=ds.toArray) (fun w=>ty_size he w) (by subst hv;simp) w
 have hr:(Instr.index s (.agg cs.toArray) (.int kk (q:Int))).run P w= .ok (.agg ds.toArray) w:=by
  simp[Instr.index,hu,asIntOf,ty_size he w,hq,hp]
 simp only[execOp,hT.eval hx,hT.eval hy,Sem.run_bind,hr,Result.andThen_ok,Sem.run_pure]
theorem T_build7 {s:TypeId} {j1 j2 j3 j4 j5 j6 j7:Nat} {x1 x2 x3 x4 x5 x6 x7:Operand} {u1 u2 u3 u4 u5 u6 u7:Value} {cs:List Value} (h1:oget T x1=some u1) (h2:oget T x2=some u2) (h3:oget T x3=some u3) (h4:oget T x4=some u4) (h5:oget T x5=some u5) (h6:oget T x6=some u6) (h7:oget T x7=some u7) (hb:P.built s [(j1,u1),(j2,u2),(j3,u3),(j4,u4),(j5,u5),(j6,u6),(j7,u7)]=some cs.toArray):
  Tk P n w0 M T H ⟨dd,.build s #[(j1,x1),(j2,x2),(j3,x3),(j4,x4),(j5,x5),(j6,x6),(j7,x7)],tt,pos,af,g⟩ (.agg cs.toArray):= .mk fun a w ha hS=>by
 have hr:=run_build (P:=P) w s #[(j1,u1),(j2,u2),(j3,u3),(j4,u4),(j5,u5),(j6,u6),(j7,u7)] cs.toArray (by simpa using hb)
 simp only[execOp,List.map_toArray,List.map_cons,List.map_nil,ha.eval h1,ha.eval h2,ha.eval h3,ha.eval h4,ha.eval h5,ha.eval h6,ha.eval h7,Sem.run_bind,hr,Result.andThen_ok,Sem.run_pure]
end
theorem set_any (w:World) (x:Ms) (p:Mp) (h:MsR w x p):
  Gives Tryz.prog 115 [.agg (mgc x p).toArray] [] w (X:=Unit) (fun _=> .int .i64 (setN x:Int)) (fun _=>True) (fun _=>[]):=by
 refine gives_S Tryz.func115 O Tryz.ntmps115 Tryz.results115 (by simp) (St.enter w) (fun B hB=>?_)
 obtain⟨s,hs⟩: ∃ s,setL x=s:=⟨_,O⟩
 have hs7: ∀ z∈s,z.2<128:=hs▸setL_lt x
 have hsl:s.length=7:=by rw[← hs];rfl
 have hr:setN x=bitsN s 0:=by unfold setN;rw[hs]
 rw[hr] at hB
 have hln:=h.ln
 have hdn:=h.dn
 have hcn:=h.hc
 have e3:decide ((0:Int)<(p.n:Int))=decide (0<x.es.length):=decide_eq_decide.2 (by omega)
 have e4:decide ((0:Int)<(x.cm:Int))=decide (0<x.cm):=decide_eq_decide.2 (by omega)
 have e5:decide ((0:Int)<(x.ix:Int))=decide (0<x.ix):=decide_eq_decide.2 (by omega)
 have e6:decide ((0:Int)<(p.cn:Int))=decide (0<x.cf.length):=decide_eq_decide.2 (by omega)
 have e7:decide ((0:Int)<(p.dn:Int))=decide (0<x.dt.length):=decide_eq_decide.2 (by omega)
 focus (refine qs ?_;(refine qe (E_boxa (cs:=mgc x p) O) ?_;rintro _ _ ⟨b1,rfl,rfl⟩);refine qp ?_;refine qn ?_;refine qp ?_;refine qz ?_;refine qq ?_;refine qq ?_;(refine S_draw _ (fun _ h=>h) (by kernel_rfl) O (by kernel_rfl) (rfl:_=34) ?_;(refine dp 0 ?_);(refine dt 1 O (T_loads (ds:=atc x.pl) O O O O O) ?_);(refine dt 2 O (T_build0 at_built0) ?_);(refine dt 3 O (T_neAt (a:=x.pl) (b:=(0,0)) O O O) ?_);(refine dt 4 O (T_build2 O O (sf_built _ _)) ?_);(refine dp 5 ?_);(refine dl 6 ?_);(refine dt 7 O (T_build2 O O (sf_built _ _)) ?_);(refine dp 8 ?_);(refine dl 9 ?_);(refine dp 10 ?_);(refine dp 11 ?_);(refine dt 12 O (T_build2 O O (sf_built _ _)) ?_);(refine dp 13 ?_);(refine dl 14 ?_);(refine dp 15 ?_);(refine dt 16 O (T_build2 O O (sf_built _ _)) ?_);(refine dp 17 ?_);(refine dl 18 ?_);(refine dp 19 ?_);(refine dt 20 O (T_build2 O O (sf_built _ _)) ?_);(refine dp 21 ?_);(refine dp 22 ?_);(refine dl 23 ?_);(refine dp 24 ?_);(refine dp 25 ?_);(refine dt 26 O (T_build2 O O (sf_built _ _)) ?_);(refine dp 27 ?_);(refine dl 28 ?_);(refine dp 29 ?_);(refine dp 30 ?_);(refine dt 31 O (T_build2 O O (sf_built _ _)) ?_);(refine dt 32 O (T_build7 O O O O O O O (s7_built _ _ _ _ _ _ _)) ?_);(refine dp 33 ?_);refine dn ?_);refine qb ?_)
 rw[e3,e4,e5,e6,e7]
 have hs':[(!decide (x.pl=(0,0)),1),(x.ok,2),(decide (0<x.es.length),4),(decide (0<x.cm),8),(decide (0<x.ix),16),(decide (0<x.cf.length),32),(decide (0<x.dt.length),64)]=s:=hs
 rw[hs']
 refine S_loop (X:=Nat×Nat) (fun z=>[(38,.agg (cellsL sfc s).toArray),(39,.int .i64 (z.1:Int)),(3,.int .i64 (z.2:Int))]) (fun _=>[]) (fun z=>z.1≤7∧z.2=bitsN (s.take z.1) 0∧z.2<128) (fun z=>7-z.1) O (0,0) ⟨by decide,O,by decide⟩ (Sub.cons O (Sub.cons O (Sub.cons O Sub.nil))) sub_st ?_
 rintro⟨j,v⟩ ⟨hj,hv,hv7⟩ J hJ
 dsimp only at hj hv hv7 ⊢
 rcases Nat.lt_or_ge j 7 with hjl|hjl
 ·have htk:s.take (j+1)=s.take j++[s.getD j default]:=by rw[List.take_succ_eq_append_getElem (by omega)];simp[List.getD,show j<s.length by omega]
  have hm:s.getD j default∈s:=by simp[List.getD,show j<s.length by omega]
  have hdr:((cellsL sfc s).drop (j*2)).take 2=sfc (s.getD j default):=cells_cut sfc_len s default j (by omega)
  have hb7:=hs7 _ hm
  generalize s.getD j default=z at htk hdr hb7
  obtain⟨b,f⟩:=z
  have hb7:f<128:=hb7
  have hnx:bitsN (s.take (j+1)) 0=if b then v|||f else v:=by rw[htk,bits_snoc, ← hv]
  cases b
  ·skip
   focus (refine qs ?_;refine qd ?_;refine qz ?_;refine qq ?_;refine qT ?_;refine qx ?_;refine qq ?_;refine qb ?_;refine qs ?_;refine qt (T_ixva (q:=j) (sz:=2) (ds:=sfc (false,f)) O O O O O O O (by omega) hdr) ?_;(refine qe (E_alloca O sf_zero) ?_;rintro _ _ ⟨b5,rfl,rfl⟩);(refine qw (E_storew (cs:=sfc (false,0)) (ds:=sfc (false,f)) O O O O (sfc_one _) O) ?_;rintro _ _ rfl);refine qn ?_;refine qp ?_;refine qt (T_load O O O O) ?_;refine qz ?_;refine qF ?_;refine qx ?_;refine RS_blk ?_;refine qr ?_;refine qt (T_addN O O (by unfold fits;omega)) ?_;refine qp ?_;refine qz ?_)
   exact hJ (j+1,v) _ _ ⟨by show j+1≤7;omega,hnx.symm,hv7⟩ (Sub.cons O (Sub.cons O (Sub.cons O Sub.nil))) sub_st (by show 7-(j+1)<_;omega)
  ·skip
   focus (refine qs ?_;refine qd ?_;refine qz ?_;refine qq ?_;refine qT ?_;refine qx ?_;refine qq ?_;refine qb ?_;refine qs ?_;refine qt (T_ixva (q:=j) (sz:=2) (ds:=sfc (true,f)) O O O O O O O (by omega) hdr) ?_;(refine qe (E_alloca O sf_zero) ?_;rintro _ _ ⟨b5,rfl,rfl⟩);(refine qw (E_storew (cs:=sfc (false,0)) (ds:=sfc (true,f)) O O O O (sfc_one _) O) ?_;rintro _ _ rfl);refine qn ?_;refine qp ?_;refine qt (T_load O O O O) ?_;refine qz ?_;refine qT ?_;refine qr ?_;refine qp ?_;refine qp ?_;refine qt (T_load O O O O) ?_;refine qt (T_orN (p:=v) (q:=f) (r:=v|||f) O O O hv7 hb7) ?_;refine qp ?_;refine qz ?_;refine RS_blk ?_;refine qr ?_;refine qt (T_addN O O (by unfold fits;omega)) ?_;refine qp ?_;refine qz ?_)
   exact hJ (j+1,v|||f) _ _ ⟨by show j+1≤7;omega,hnx.symm,Nat.or_lt_two_pow (n:=7) hv7 hb7⟩ (Sub.cons O (Sub.cons O (Sub.cons O Sub.nil))) sub_st (by show 7-(j+1)<_;omega)
 obtain rfl:j=7:=by omega
 rw[List.take_of_length_le (by omega)] at hv
 subst hv
 focus (refine qs ?_;refine qf ?_;refine qz ?_;refine qq ?_;refine qF ?_;refine S_exit O O ?_;refine qs ?_;refine qp ?_;refine qp ?_;refine qz ?_)
 exact hB _ _ _ _ _ O O (qE O)
def sndB (K:Int) (tm a t n:Nat):Bool:=(decide (a=0)==decide (t=0))&&decide (t≤tm)&&decide (a≤18446744073709551614-n)&&(if K=1 then decide (t<tm) else if K=7 then decide (0<t) else true)
theorem sound_k (w:World) (x:Ms) (p:Mp) (h:MsR w x p) (r:Bool) (hr:sndB x.K x.tm x.pl.1 x.pl.2 p.n=r):
  Gives Tryz.prog 117 [.agg (mgc x p).toArray] [] w (X:=Unit) (fun _=> .bool r) (fun _=>True) (fun _=>[]):=by
 refine gives_S Tryz.func117 O Tryz.ntmps117 Tryz.results117 (by simp) (St.enter w) (fun B hB=>?_)
 have hm:=h.hm
 unfold maxLen at hm
 clear h
 rcases(by omega:(x.pl.1=0∧x.pl.2≠0)∨(x.pl.1≠0∧x.pl.2=0)∨(x.pl.1=0∧x.pl.2=0)∨(x.pl.1≠0∧x.pl.2≠0)) with⟨ha,ht⟩|⟨ha,ht⟩|⟨ha,ht⟩|⟨ha,ht⟩
 ·obtain rfl:r=false:=by rw[← hr];simp[sndB];omega
  focus (refine qs ?_;(refine qe (E_boxa (cs:=mgc x p) O) ?_;rintro _ _ ⟨b1,rfl,rfl⟩);refine qp ?_;refine qn ?_;refine qp ?_;refine qt (T_loads (ds:=atc x.pl) O O O O O) ?_;(refine qe (E_alloca O at_zero) ?_;rintro _ _ ⟨b3,rfl,rfl⟩);(refine qw (E_storew (cs:=atc (0,0)) (ds:=atc x.pl) O O O O (atc_one _) O) ?_;rintro _ _ rfl);refine qz ?_;refine qq ?_;refine qb ?_;refine qq ?_;refine qs ?_;refine qp ?_;refine qt (T_load O O O O) ?_;refine qd ?_;refine qp ?_;refine qt (T_load O O O O) ?_;refine qf ?_;refine qt (T_bnq O O O O O) ?_;refine qp ?_;refine qz ?_;refine qT ?_;refine qx ?_;refine qT ?_;refine qs ?_;refine qp ?_;refine qz ?_)
  exact hB _ _ _ _ _ O O (qE O)
 ·obtain rfl:r=false:=by rw[← hr];simp[sndB];omega
  focus (refine qs ?_;(refine qe (E_boxa (cs:=mgc x p) O) ?_;rintro _ _ ⟨b1,rfl,rfl⟩);refine qp ?_;refine qn ?_;refine qp ?_;refine qt (T_loads (ds:=atc x.pl) O O O O O) ?_;(refine qe (E_alloca O at_zero) ?_;rintro _ _ ⟨b3,rfl,rfl⟩);(refine qw (E_storew (cs:=atc (0,0)) (ds:=atc x.pl) O O O O (atc_one _) O) ?_;rintro _ _ rfl);refine qz ?_;refine qq ?_;refine qb ?_;refine qq ?_;refine qs ?_;refine qp ?_;refine qt (T_load O O O O) ?_;refine qf ?_;refine qp ?_;refine qt (T_load O O O O) ?_;refine qd ?_;refine qt (T_bnq O O O O O) ?_;refine qp ?_;refine qz ?_;refine qT ?_;refine qx ?_;refine qT ?_;refine qs ?_;refine qp ?_;refine qz ?_)
  exact hB _ _ _ _ _ O O (qE O)
 ·by_cases h1:x.pl.2≤x.tm
  ·by_cases h2:x.pl.1≤18446744073709551614-p.n
   ·by_cases hK:x.K=1
    ·by_cases h3:x.pl.2<x.tm
     ·obtain rfl:r=true:=by rw[← hr];simp[sndB,hK];omega
      repeat' (first|refine R_take (T_decT O (by omega)) ?_ O O|refine R_take (T_decF O (by omega)) ?_ O O|refine R_p O ?_ O O|refine R_nil ?_|refine R_take (T_loads (ds:=atc x.pl) O O O O O) ?_ O O|refine R_take (T_bnq O O O O O) ?_ O O|refine R_take (T_subN (p:=18446744073709551614) (q:=p.n) O O (by omega) (by unfold fits;omega)) ?_ O O|refine R_take (T_load O O O O) ?_ O O|refine R_take (T_convf O O O O (by unfold fits;omega)) ?_ O O|refine S_seq O ?_|refine S_region O O ?_|refine S_true O O ?_|refine S_false O O ?_|refine S_block O ?_|(refine R_eff (E_boxa (cs:=mgc x p) O) ?_ O O;rintro _ _ ⟨b1,rfl,rfl⟩)|(refine R_eff (E_alloca O at_zero) ?_ O O;rintro _ _ ⟨b3,rfl,rfl⟩)|(refine R_eff0 (E_storew (cs:=atc (0,0)) (ds:=atc x.pl) O O O O (atc_one _) O) ?_ O;rintro _ _ rfl))
      exact hB _ _ _ _ _ O O (qE O)
     ·obtain rfl:r=false:=by rw[← hr];simp[sndB,hK];omega
      repeat' (first|refine R_take (T_decT O (by omega)) ?_ O O|refine R_take (T_decF O (by omega)) ?_ O O|refine R_p O ?_ O O|refine R_nil ?_|refine R_take (T_loads (ds:=atc x.pl) O O O O O) ?_ O O|refine R_take (T_bnq O O O O O) ?_ O O|refine R_take (T_subN (p:=18446744073709551614) (q:=p.n) O O (by omega) (by unfold fits;omega)) ?_ O O|refine R_take (T_load O O O O) ?_ O O|refine R_take (T_convf O O O O (by unfold fits;omega)) ?_ O O|refine S_seq O ?_|refine S_region O O ?_|refine S_true O O ?_|refine S_false O O ?_|refine S_block O ?_|(refine R_eff (E_boxa (cs:=mgc x p) O) ?_ O O;rintro _ _ ⟨b1,rfl,rfl⟩)|(refine R_eff (E_alloca O at_zero) ?_ O O;rintro _ _ ⟨b3,rfl,rfl⟩)|(refine R_eff0 (E_storew (cs:=atc (0,0)) (ds:=atc x.pl) O O O O (atc_one _) O) ?_ O;rintro _ _ rfl))
      exact hB _ _ _ _ _ O O (qE O)
    ·by_cases hK7:x.K=7
     ·obtain rfl:r=false:=by rw[← hr];simp[sndB,hK7];omega
      repeat' (first|refine R_take (T_decT O (by omega)) ?_ O O|refine R_take (T_decF O (by omega)) ?_ O O|refine R_p O ?_ O O|refine R_nil ?_|refine R_take (T_loads (ds:=atc x.pl) O O O O O) ?_ O O|refine R_take (T_bnq O O O O O) ?_ O O|refine R_take (T_subN (p:=18446744073709551614) (q:=p.n) O O (by omega) (by unfold fits;omega)) ?_ O O|refine R_take (T_load O O O O) ?_ O O|refine R_take (T_convf O O O O (by unfold fits;omega)) ?_ O O|refine S_seq O ?_|refine S_region O O ?_|refine S_true O O ?_|refine S_false O O ?_|refine S_block O ?_|(refine R_eff (E_boxa (cs:=mgc x p) O) ?_ O O;rintro _ _ ⟨b1,rfl,rfl⟩)|(refine R_eff (E_alloca O at_zero) ?_ O O;rintro _ _ ⟨b3,rfl,rfl⟩)|(refine R_eff0 (E_storew (cs:=atc (0,0)) (ds:=atc x.pl) O O O O (atc_one _) O) ?_ O;rintro _ _ rfl))
      exact hB _ _ _ _ _ O O (qE O)
     ·obtain rfl:r=true:=by rw[← hr];simp[sndB,hK,hK7];omega
      repeat' (first|refine R_take (T_decT O (by omega)) ?_ O O|refine R_take (T_decF O (by omega)) ?_ O O|refine R_p O ?_ O O|refine R_nil ?_|refine R_take (T_loads (ds:=atc x.pl) O O O O O) ?_ O O|refine R_take (T_bnq O O O O O) ?_ O O|refine R_take (T_subN (p:=18446744073709551614) (q:=p.n) O O (by omega) (by unfold fits;omega)) ?_ O O|refine R_take (T_load O O O O) ?_ O O|refine R_take (T_convf O O O O (by unfold fits;omega)) ?_ O O|refine S_seq O ?_|refine S_region O O ?_|refine S_false O O ?_|refine S_block O ?_|refine RS_blk ?_|refine S_skip O ?_|(refine R_eff (E_boxa (cs:=mgc x p) O) ?_ O O;rintro _ _ ⟨b1,rfl,rfl⟩)|(refine R_eff (E_alloca O at_zero) ?_ O O;rintro _ _ ⟨b3,rfl,rfl⟩)|(refine R_eff0 (E_storew (cs:=atc (0,0)) (ds:=atc x.pl) O O O O (atc_one _) O) ?_ O;rintro _ _ rfl))
      exact hB _ _ _ _ _ O O (qE O)
   ·obtain rfl:r=false:=by rw[← hr];simp[sndB];omega
    repeat' (first|refine R_take (T_decT O (by omega)) ?_ O O|refine R_p O ?_ O O|refine R_nil ?_|refine R_take (T_loads (ds:=atc x.pl) O O O O O) ?_ O O|refine R_take (T_bnq O O O O O) ?_ O O|refine R_take (T_load O O O O) ?_ O O|refine S_seq O ?_|refine S_region O O ?_|refine S_true O O ?_|refine S_false O O ?_|refine S_block O ?_|refine S_skip O ?_|(refine R_eff (E_boxa (cs:=mgc x p) O) ?_ O O;rintro _ _ ⟨b1,rfl,rfl⟩)|(refine R_eff (E_alloca O at_zero) ?_ O O;rintro _ _ ⟨b3,rfl,rfl⟩)|(refine R_eff0 (E_storew (cs:=atc (0,0)) (ds:=atc x.pl) O O O O (atc_one _) O) ?_ O;rintro _ _ rfl))
    exact hB _ _ _ _ _ O O (qE O)
  ·obtain rfl:r=false:=by rw[← hr];simp[sndB];omega
   repeat' (first|refine R_take (T_decT O (by omega)) ?_ O O|refine R_p O ?_ O O|refine R_nil ?_|refine R_take (T_loads (ds:=atc x.pl) O O O O O) ?_ O O|refine R_take (T_bnq O O O O O) ?_ O O|refine R_take (T_load O O O O) ?_ O O|refine S_seq O ?_|refine S_region O O ?_|refine S_true O O ?_|refine S_false O O ?_|refine S_block O ?_|refine S_skip O ?_|(refine R_eff (E_boxa (cs:=mgc x p) O) ?_ O O;rintro _ _ ⟨b1,rfl,rfl⟩)|(refine R_eff (E_alloca O at_zero) ?_ O O;rintro _ _ ⟨b3,rfl,rfl⟩)|(refine R_eff0 (E_storew (cs:=atc (0,0)) (ds:=atc x.pl) O O O O (atc_one _) O) ?_ O;rintro _ _ rfl))
   exact hB _ _ _ _ _ O O (qE O)
 ·by_cases h1:x.pl.2≤x.tm
  ·by_cases h2:x.pl.1≤18446744073709551614-p.n
   ·by_cases hK:x.K=1
    ·by_cases h3:x.pl.2<x.tm
     ·obtain rfl:r=true:=by rw[← hr];simp[sndB,hK];omega
      repeat' (first|refine R_take (T_decT O (by omega)) ?_ O O|refine R_take (T_decF O (by omega)) ?_ O O|refine R_p O ?_ O O|refine R_nil ?_|refine R_take (T_loads (ds:=atc x.pl) O O O O O) ?_ O O|refine R_take (T_bnq O O O O O) ?_ O O|refine R_take (T_subN (p:=18446744073709551614) (q:=p.n) O O (by omega) (by unfold fits;omega)) ?_ O O|refine R_take (T_load O O O O) ?_ O O|refine R_take (T_convf O O O O (by unfold fits;omega)) ?_ O O|refine S_seq O ?_|refine S_region O O ?_|refine S_true O O ?_|refine S_false O O ?_|refine S_block O ?_|(refine R_eff (E_boxa (cs:=mgc x p) O) ?_ O O;rintro _ _ ⟨b1,rfl,rfl⟩)|(refine R_eff (E_alloca O at_zero) ?_ O O;rintro _ _ ⟨b3,rfl,rfl⟩)|(refine R_eff0 (E_storew (cs:=atc (0,0)) (ds:=atc x.pl) O O O O (atc_one _) O) ?_ O;rintro _ _ rfl))
      exact hB _ _ _ _ _ O O (qE O)
     ·obtain rfl:r=false:=by rw[← hr];simp[sndB,hK];omega
      repeat' (first|refine R_take (T_decT O (by omega)) ?_ O O|refine R_take (T_decF O (by omega)) ?_ O O|refine R_p O ?_ O O|refine R_nil ?_|refine R_take (T_loads (ds:=atc x.pl) O O O O O) ?_ O O|refine R_take (T_bnq O O O O O) ?_ O O|refine R_take (T_subN (p:=18446744073709551614) (q:=p.n) O O (by omega) (by unfold fits;omega)) ?_ O O|refine R_take (T_load O O O O) ?_ O O|refine R_take (T_convf O O O O (by unfold fits;omega)) ?_ O O|refine S_seq O ?_|refine S_region O O ?_|refine S_true O O ?_|refine S_false O O ?_|refine S_block O ?_|(refine R_eff (E_boxa (cs:=mgc x p) O) ?_ O O;rintro _ _ ⟨b1,rfl,rfl⟩)|(refine R_eff (E_alloca O at_zero) ?_ O O;rintro _ _ ⟨b3,rfl,rfl⟩)|(refine R_eff0 (E_storew (cs:=atc (0,0)) (ds:=atc x.pl) O O O O (atc_one _) O) ?_ O;rintro _ _ rfl))
      exact hB _ _ _ _ _ O O (qE O)
    ·by_cases hK7:x.K=7
     ·obtain rfl:r=true:=by rw[← hr];simp[sndB,hK7];omega
      repeat' (first|refine R_take (T_decT O (by omega)) ?_ O O|refine R_take (T_decF O (by omega)) ?_ O O|refine R_p O ?_ O O|refine R_nil ?_|refine R_take (T_loads (ds:=atc x.pl) O O O O O) ?_ O O|refine R_take (T_bnq O O O O O) ?_ O O|refine R_take (T_subN (p:=18446744073709551614) (q:=p.n) O O (by omega) (by unfold fits;omega)) ?_ O O|refine R_take (T_load O O O O) ?_ O O|refine R_take (T_convf O O O O (by unfold fits;omega)) ?_ O O|refine S_seq O ?_|refine S_region O O ?_|refine S_true O O ?_|refine S_false O O ?_|refine S_block O ?_|(refine R_eff (E_boxa (cs:=mgc x p) O) ?_ O O;rintro _ _ ⟨b1,rfl,rfl⟩)|(refine R_eff (E_alloca O at_zero) ?_ O O;rintro _ _ ⟨b3,rfl,rfl⟩)|(refine R_eff0 (E_storew (cs:=atc (0,0)) (ds:=atc x.pl) O O O O (atc_one _) O) ?_ O;rintro _ _ rfl))
      exact hB _ _ _ _ _ O O (qE O)
     ·obtain rfl:r=true:=by rw[← hr];simp[sndB,hK,hK7];omega
      repeat' (first|refine R_take (T_decF O (by omega)) ?_ O O|refine R_p O ?_ O O|refine R_nil ?_|refine R_take (T_loads (ds:=atc x.pl) O O O O O) ?_ O O|refine R_take (T_bnq O O O O O) ?_ O O|refine R_take (T_subN (p:=18446744073709551614) (q:=p.n) O O (by omega) (by unfold fits;omega)) ?_ O O|refine R_take (T_load O O O O) ?_ O O|refine R_take (T_convf O O O O (by unfold fits;omega)) ?_ O O|refine S_seq O ?_|refine S_region O O ?_|refine S_false O O ?_|refine S_block O ?_|refine RS_blk ?_|refine S_skip O ?_|(refine R_eff (E_boxa (cs:=mgc x p) O) ?_ O O;rintro _ _ ⟨b1,rfl,rfl⟩)|(refine R_eff (E_alloca O at_zero) ?_ O O;rintro _ _ ⟨b3,rfl,rfl⟩)|(refine R_eff0 (E_storew (cs:=atc (0,0)) (ds:=atc x.pl) O O O O (atc_one _) O) ?_ O;rintro _ _ rfl))
      exact hB _ _ _ _ _ O O (qE O)
   ·obtain rfl:r=false:=by rw[← hr];simp[sndB];omega
    repeat' (first|refine R_take (T_decT O (by omega)) ?_ O O|refine R_take (T_decF O (by omega)) ?_ O O|refine R_p O ?_ O O|refine R_nil ?_|refine R_take (T_loads (ds:=atc x.pl) O O O O O) ?_ O O|refine R_take (T_bnq O O O O O) ?_ O O|refine R_take (T_subN (p:=18446744073709551614) (q:=p.n) O O (by omega) (by unfold fits;omega)) ?_ O O|refine R_take (T_load O O O O) ?_ O O|refine R_take (T_convf O O O O (by unfold fits;omega)) ?_ O O|refine S_seq O ?_|refine S_region O O ?_|refine S_true O O ?_|refine S_false O O ?_|refine S_block O ?_|(refine R_eff (E_boxa (cs:=mgc x p) O) ?_ O O;rintro _ _ ⟨b1,rfl,rfl⟩)|(refine R_eff (E_alloca O at_zero) ?_ O O;rintro _ _ ⟨b3,rfl,rfl⟩)|(refine R_eff0 (E_storew (cs:=atc (0,0)) (ds:=atc x.pl) O O O O (atc_one _) O) ?_ O;rintro _ _ rfl))
    exact hB _ _ _ _ _ O O (qE O)
  ·obtain rfl:r=false:=by rw[← hr];simp[sndB];omega
   repeat' (first|refine R_take (T_decT O (by omega)) ?_ O O|refine R_take (T_decF O (by omega)) ?_ O O|refine R_p O ?_ O O|refine R_nil ?_|refine R_take (T_loads (ds:=atc x.pl) O O O O O) ?_ O O|refine R_take (T_bnq O O O O O) ?_ O O|refine R_take (T_load O O O O) ?_ O O|refine S_seq O ?_|refine S_region O O ?_|refine S_true O O ?_|refine S_false O O ?_|refine S_block O ?_|refine S_skip O ?_|(refine R_eff (E_boxa (cs:=mgc x p) O) ?_ O O;rintro _ _ ⟨b1,rfl,rfl⟩)|(refine R_eff (E_alloca O at_zero) ?_ O O;rintro _ _ ⟨b3,rfl,rfl⟩)|(refine R_eff0 (E_storew (cs:=atc (0,0)) (ds:=atc x.pl) O O O O (atc_one _) O) ?_ O;rintro _ _ rfl))
   exact hB _ _ _ _ _ O O (qE O)
theorem all_no {l:List Bool} (i:Nat) (h:l[i]? =some false):l.all id=false:=by
 rw[Bool.eq_false_iff]
 intro h2
 have:=List.all_eq_true.1 h2 false (List.mem_of_getElem? h)
 cases this
def chkL (x:Ms) (n dn cn:Nat):List Bool:=[decide (0<fldN x.K),decide (setN x&&& (127-fldN x.K)=0),decide (1≤x.F)&&decide (x.F≤5),decide (1≤x.T)&&decide (x.T≤5),decide (x.F≠x.T),decide (0<x.tm),decide (x.tm≤4611686018427387904),sndB x.K x.tm x.pl.1 x.pl.2 n,decide (n≤8),decide (dn≤65536),decide (cn≤5),decide (n=0)||decide (chkE x.pl x.es x.tm=0),x.cf.all fun n=>decide (1≤n)&&decide (n≤255)]
theorem chkL_eq (x:Ms) (n dn cn:Nat):chkL x n dn cn=[decide (0<fldN x.K),decide (setN x&&& (127-fldN x.K)=0),decide (1≤x.F)&&decide (x.F≤5),decide (1≤x.T)&&decide (x.T≤5),decide (x.F≠x.T),decide (0<x.tm),decide (x.tm≤4611686018427387904),sndB x.K x.tm x.pl.1 x.pl.2 n,decide (n≤8),decide (dn≤65536),decide (cn≤5),decide (n=0)||decide (chkE x.pl x.es x.tm=0),x.cf.all fun n=>decide (1≤n)&&decide (n≤255)]:=rfl
theorem fld_lt (K:Int):fldN K<128:=by
 unfold fldN
 split
 ·decide
 split
 ·decide
 split
 ·decide
 split
 ·decide
 split<;>decide
theorem T_notm {P:Program} {n:Nat} {w0:World} {M:Nat→Prop} {T:Slots} {H:List Asn} {dd:Option Tmp} {tt:TypeId} {pos:String} {af:Array Edge} {g:Option (Nat×Bool)} {x y:Operand} {t u:TypeId} {j:Int} {f:Nat} (hx:oget T x=some (.int .i64 127)) (hy:oget T y=some (.int .i64 j)) [hj:NatOf j f] (hf:f<128):
  Tk P n w0 M T H ⟨dd,.binOp .andNot t x y u,tt,pos,af,g⟩ (.int .i64 ((127-f:Nat):Int)):=by
 rw[hj.is] at hy
 exact T_arith hx hy ((by decide+kernel: ∀ f∈List.range 128,arith .andNot .i64 127 ((f:Nat):Int)=some ((127-f:Nat):Int)) f (List.mem_range.2 hf))
theorem checkM_k (w:World) (x:Ms) (p:Mp) (h:MsR w x p) (r:Bool) (hr:(chkL x p.n p.dn p.cn).all id=r):
  Gives Tryz.prog 45 [.agg (mgc x p).toArray] [] w (X:=Unit) (fun _=> .int .i64 (if r=true then 0 else 230)) (fun _=>True) (fun _=>[]):=by
 refine gives_S Tryz.func45 O Tryz.ntmps45 Tryz.results45 (by simp) (St.enter w) (fun B hB=>?_)
 have hsn:setN x<128:=bits_lt _ 0 (setL_lt x) (by decide)
 have hfn:=fld_lt x.K
 have hm:=h.hm
 unfold maxLen at hm
 by_cases hf:0<fldN x.K
 rotate_left
 ·obtain rfl:r=false:=by rw[← hr];exact all_no 0 (congrArg some (decide_eq_false hf))
  repeat' (first|refine R_take (T_decF O (by omega)) ?_ O O|refine R_p O ?_ O O|refine R_nil ?_|refine R_skip ?_ O O|refine R_take (T_load O O O O) ?_ O O|refine R_take (T_not O) ?_ O O|refine S_seq O ?_|refine S_region O O ?_|refine S_true O O ?_|refine S_false O O ?_|refine S_skip O ?_|(refine R_eff (E_boxa (cs:=mgc x p) O) ?_ O O;rintro _ _ ⟨b1,rfl,rfl⟩)|(refine R_eff (E_hv0 (f:=114) F114 (fun w hS=>fields_any w x.K) O O (fun _=>O)) ?_ O O;rintro _ _ ⟨_,rfl,_,rfl⟩))
  exact hB _ _ _ _ _ O O (qE O)
 by_cases hs:setN x&&& (127-fldN x.K)=0
 rotate_left
 ·obtain rfl:r=false:=by rw[← hr];exact all_no 1 (congrArg some (decide_eq_false hs))
  repeat' (first|refine R_take (T_decT O (by omega)) ?_ O O|refine R_take (T_decF O (by omega)) ?_ O O|refine R_p O ?_ O O|refine R_nil ?_|refine R_skip ?_ O O|refine R_take (T_loads (ds:=mgc x p) O O O O O) ?_ O O|refine R_take (T_notm (f:=fldN x.K) O O hfn) ?_ O O|refine R_take (T_andN (p:=setN x) (q:=127-fldN x.K) (r:=setN x&&& (127-fldN x.K)) O O O hsn (by omega)) ?_ O O|refine R_take (T_load O O O O) ?_ O O|refine R_take (T_not O) ?_ O O|refine S_seq O ?_|refine S_region O O ?_|refine S_true O O ?_|refine S_false O O ?_|refine S_skip O ?_|(refine R_eff (E_boxa (cs:=mgc x p) O) ?_ O O;rintro _ _ ⟨b1,rfl,rfl⟩)|(refine R_eff (E_hv0 (f:=114) F114 (fun w hS=>fields_any w x.K) O O (fun _=>O)) ?_ O O;rintro _ _ ⟨_,rfl,_,rfl⟩)|((refine R_eff (E_hv0 (f:=115) F115 (fun w hS=>set_any w x p (h.keep hS.kpO)) O O (fun _=>O)) ?_ O O;rintro _ _ ⟨_,rfl,_,rfl⟩)))
  exact hB _ _ _ _ _ O O (qE O)
 cases hF:(decide (1≤x.F)&&decide (x.F≤5))
 ·obtain rfl:r=false:=by rw[← hr];exact all_no 2 (congrArg some hF)
  repeat' (first|refine R_take (T_decT O (by omega)) ?_ O O|refine R_p O ?_ O O|refine R_nil ?_|refine R_skip ?_ O O|refine R_take (T_loads (ds:=mgc x p) O O O O O) ?_ O O|refine R_take (T_notm (f:=fldN x.K) O O hfn) ?_ O O|refine R_take (T_andN (p:=setN x) (q:=127-fldN x.K) (r:=setN x&&& (127-fldN x.K)) O O O hsn (by omega)) ?_ O O|refine R_take (T_load O O O O) ?_ O O|refine R_take (T_not O) ?_ O O|refine S_seq O ?_|refine S_region O O ?_|refine S_true O O ?_|refine S_false O O ?_|refine S_skip O ?_|(refine R_eff (E_boxa (cs:=mgc x p) O) ?_ O O;rintro _ _ ⟨b1,rfl,rfl⟩)|(refine R_eff (E_hv0 (f:=114) F114 (fun w hS=>fields_any w x.K) O O (fun _=>O)) ?_ O O;rintro _ _ ⟨_,rfl,_,rfl⟩)|((refine R_eff (E_hv0 (f:=115) F115 (fun w hS=>set_any w x p (h.keep hS.kpO)) O O (fun _=>O)) ?_ O O;rintro _ _ ⟨_,rfl,_,rfl⟩))|(refine R_eff (E_hv0 (f:=116) F116 (fun w hS=>server_any w x.F _ hF) O O (fun _=>O)) ?_ O O;rintro _ _ ⟨_,rfl,_,rfl⟩))
  exact hB _ _ _ _ _ O O (qE O)
 cases hT:(decide (1≤x.T)&&decide (x.T≤5))
 ·obtain rfl:r=false:=by rw[← hr];exact all_no 3 (congrArg some hT)
  repeat' (first|refine R_take (T_decT O (by omega)) ?_ O O|refine R_p O ?_ O O|refine R_nil ?_|refine R_skip ?_ O O|refine R_take (T_loads (ds:=mgc x p) O O O O O) ?_ O O|refine R_take (T_notm (f:=fldN x.K) O O hfn) ?_ O O|refine R_take (T_andN (p:=setN x) (q:=127-fldN x.K) (r:=setN x&&& (127-fldN x.K)) O O O hsn (by omega)) ?_ O O|refine R_take (T_load O O O O) ?_ O O|refine R_take (T_not O) ?_ O O|refine S_seq O ?_|refine S_region O O ?_|refine S_true O O ?_|refine S_false O O ?_|refine S_skip O ?_|(refine R_eff (E_boxa (cs:=mgc x p) O) ?_ O O;rintro _ _ ⟨b1,rfl,rfl⟩)|(refine R_eff (E_hv0 (f:=114) F114 (fun w hS=>fields_any w x.K) O O (fun _=>O)) ?_ O O;rintro _ _ ⟨_,rfl,_,rfl⟩)|((refine R_eff (E_hv0 (f:=115) F115 (fun w hS=>set_any w x p (h.keep hS.kpO)) O O (fun _=>O)) ?_ O O;rintro _ _ ⟨_,rfl,_,rfl⟩))|(refine R_eff (E_hv0 (f:=116) F116 (fun w hS=>server_any w x.F _ hF) O O (fun _=>O)) ?_ O O;rintro _ _ ⟨_,rfl,_,rfl⟩)|(refine R_eff (E_hv0 (f:=116) F116 (fun w hS=>server_any w x.T _ hT) O O (fun _=>O)) ?_ O O;rintro _ _ ⟨_,rfl,_,rfl⟩))
  exact hB _ _ _ _ _ O O (qE O)
 by_cases hFT:x.F≠x.T
 rotate_left
 ·obtain rfl:r=false:=by rw[← hr];exact all_no 4 (congrArg some (decide_eq_false hFT))
  repeat' (first|refine R_take (T_decT O (by omega)) ?_ O O|refine R_take (T_decF O (by omega)) ?_ O O|refine R_p O ?_ O O|refine R_nil ?_|refine R_skip ?_ O O|refine R_take (T_loads (ds:=mgc x p) O O O O O) ?_ O O|refine R_take (T_notm (f:=fldN x.K) O O hfn) ?_ O O|refine R_take (T_andN (p:=setN x) (q:=127-fldN x.K) (r:=setN x&&& (127-fldN x.K)) O O O hsn (by omega)) ?_ O O|refine R_take (T_load O O O O) ?_ O O|refine R_take (T_not O) ?_ O O|refine S_seq O ?_|refine S_region O O ?_|refine S_true O O ?_|refine S_false O O ?_|refine S_skip O ?_|(refine R_eff (E_boxa (cs:=mgc x p) O) ?_ O O;rintro _ _ ⟨b1,rfl,rfl⟩)|(refine R_eff (E_hv0 (f:=114) F114 (fun w hS=>fields_any w x.K) O O (fun _=>O)) ?_ O O;rintro _ _ ⟨_,rfl,_,rfl⟩)|((refine R_eff (E_hv0 (f:=115) F115 (fun w hS=>set_any w x p (h.keep hS.kpO)) O O (fun _=>O)) ?_ O O;rintro _ _ ⟨_,rfl,_,rfl⟩))|(refine R_eff (E_hv0 (f:=116) F116 (fun w hS=>server_any w x.F _ hF) O O (fun _=>O)) ?_ O O;rintro _ _ ⟨_,rfl,_,rfl⟩)|(refine R_eff (E_hv0 (f:=116) F116 (fun w hS=>server_any w x.T _ hT) O O (fun _=>O)) ?_ O O;rintro _ _ ⟨_,rfl,_,rfl⟩))
  exact hB _ _ _ _ _ O O (qE O)
 by_cases h0:0<x.tm
 rotate_left
 ·obtain rfl:r=false:=by rw[← hr];exact all_no 5 (congrArg some (decide_eq_false h0))
  repeat' (first|refine R_take (T_decT O (by omega)) ?_ O O|refine R_take (T_decF O (by omega)) ?_ O O|refine R_p O ?_ O O|refine R_nil ?_|refine R_skip ?_ O O|refine R_take (T_loads (ds:=mgc x p) O O O O O) ?_ O O|refine R_take (T_notm (f:=fldN x.K) O O hfn) ?_ O O|refine R_take (T_andN (p:=setN x) (q:=127-fldN x.K) (r:=setN x&&& (127-fldN x.K)) O O O hsn (by omega)) ?_ O O|refine R_take (T_load O O O O) ?_ O O|refine R_take (T_not O) ?_ O O|refine S_seq O ?_|refine S_region O O ?_|refine S_true O O ?_|refine S_false O O ?_|refine S_skip O ?_|(refine R_eff (E_boxa (cs:=mgc x p) O) ?_ O O;rintro _ _ ⟨b1,rfl,rfl⟩)|(refine R_eff (E_hv0 (f:=114) F114 (fun w hS=>fields_any w x.K) O O (fun _=>O)) ?_ O O;rintro _ _ ⟨_,rfl,_,rfl⟩)|((refine R_eff (E_hv0 (f:=115) F115 (fun w hS=>set_any w x p (h.keep hS.kpO)) O O (fun _=>O)) ?_ O O;rintro _ _ ⟨_,rfl,_,rfl⟩))|(refine R_eff (E_hv0 (f:=116) F116 (fun w hS=>server_any w x.F _ hF) O O (fun _=>O)) ?_ O O;rintro _ _ ⟨_,rfl,_,rfl⟩)|(refine R_eff (E_hv0 (f:=116) F116 (fun w hS=>server_any w x.T _ hT) O O (fun _=>O)) ?_ O O;rintro _ _ ⟨_,rfl,_,rfl⟩))
  exact hB _ _ _ _ _ O O (qE O)
 by_cases h62:x.tm≤4611686018427387904
 rotate_left
 ·obtain rfl:r=false:=by rw[← hr];exact all_no 6 (congrArg some (decide_eq_false h62))
  repeat' (first|refine R_take (T_decT O (by omega)) ?_ O O|refine R_take (T_decF O (by omega)) ?_ O O|refine R_p O ?_ O O|refine R_nil ?_|refine R_skip ?_ O O|refine R_take (T_loads (ds:=mgc x p) O O O O O) ?_ O O|refine R_take (T_notm (f:=fldN x.K) O O hfn) ?_ O O|refine R_take (T_andN (p:=setN x) (q:=127-fldN x.K) (r:=setN x&&& (127-fldN x.K)) O O O hsn (by omega)) ?_ O O|refine R_take (T_load O O O O) ?_ O O|refine R_take (T_not O) ?_ O O|refine S_seq O ?_|refine S_region O O ?_|refine S_true O O ?_|refine S_false O O ?_|refine S_skip O ?_|(refine R_eff (E_boxa (cs:=mgc x p) O) ?_ O O;rintro _ _ ⟨b1,rfl,rfl⟩)|(refine R_eff (E_hv0 (f:=114) F114 (fun w hS=>fields_any w x.K) O O (fun _=>O)) ?_ O O;rintro _ _ ⟨_,rfl,_,rfl⟩)|((refine R_eff (E_hv0 (f:=115) F115 (fun w hS=>set_any w x p (h.keep hS.kpO)) O O (fun _=>O)) ?_ O O;rintro _ _ ⟨_,rfl,_,rfl⟩))|(refine R_eff (E_hv0 (f:=116) F116 (fun w hS=>server_any w x.F _ hF) O O (fun _=>O)) ?_ O O;rintro _ _ ⟨_,rfl,_,rfl⟩)|(refine R_eff (E_hv0 (f:=116) F116 (fun w hS=>server_any w x.T _ hT) O O (fun _=>O)) ?_ O O;rintro _ _ ⟨_,rfl,_,rfl⟩))
  exact hB _ _ _ _ _ O O (qE O)
 cases hso:sndB x.K x.tm x.pl.1 x.pl.2 p.n
 ·obtain rfl:r=false:=by rw[← hr];exact all_no 7 (congrArg some hso)
  repeat' (first|refine R_take (T_decT O (by omega)) ?_ O O|refine R_p O ?_ O O|refine R_nil ?_|refine R_skip ?_ O O|refine R_take (T_loads (ds:=mgc x p) O O O O O) ?_ O O|refine R_take (T_notm (f:=fldN x.K) O O hfn) ?_ O O|refine R_take (T_andN (p:=setN x) (q:=127-fldN x.K) (r:=setN x&&& (127-fldN x.K)) O O O hsn (by omega)) ?_ O O|refine R_take (T_load O O O O) ?_ O O|refine R_take (T_not O) ?_ O O|refine S_seq O ?_|refine S_region O O ?_|refine S_true O O ?_|refine S_false O O ?_|refine S_skip O ?_|(refine R_eff (E_boxa (cs:=mgc x p) O) ?_ O O;rintro _ _ ⟨b1,rfl,rfl⟩)|(refine R_eff (E_hv0 (f:=114) F114 (fun w hS=>fields_any w x.K) O O (fun _=>O)) ?_ O O;rintro _ _ ⟨_,rfl,_,rfl⟩)|((refine R_eff (E_hv0 (f:=115) F115 (fun w hS=>set_any w x p (h.keep hS.kpO)) O O (fun _=>O)) ?_ O O;rintro _ _ ⟨_,rfl,_,rfl⟩))|(refine R_eff (E_hv0 (f:=116) F116 (fun w hS=>server_any w x.F _ hF) O O (fun _=>O)) ?_ O O;rintro _ _ ⟨_,rfl,_,rfl⟩)|(refine R_eff (E_hv0 (f:=116) F116 (fun w hS=>server_any w x.T _ hT) O O (fun _=>O)) ?_ O O;rintro _ _ ⟨_,rfl,_,rfl⟩)|(refine R_eff (E_hv0 (f:=117) F117 (fun w hS=>sound_k w x p (h.keep hS.kpO) _ hso) O O (fun _=>O)) ?_ O O;rintro _ _ ⟨_,rfl,_,rfl⟩))
  exact hB _ _ _ _ _ O O (qE O)
 by_cases hn8:p.n≤8
 rotate_left
 ·obtain rfl:r=false:=by rw[← hr];exact all_no 8 (congrArg some (decide_eq_false hn8))
  repeat' (first|refine R_take (T_decT O (by omega)) ?_ O O|refine R_take (T_decF O (by omega)) ?_ O O|refine R_p O ?_ O O|refine R_nil ?_|refine R_skip ?_ O O|refine R_take (T_loads (ds:=mgc x p) O O O O O) ?_ O O|refine R_take (T_notm (f:=fldN x.K) O O hfn) ?_ O O|refine R_take (T_andN (p:=setN x) (q:=127-fldN x.K) (r:=setN x&&& (127-fldN x.K)) O O O hsn (by omega)) ?_ O O|refine R_take (T_load O O O O) ?_ O O|refine R_take (T_not O) ?_ O O|refine S_seq O ?_|refine S_region O O ?_|refine S_true O O ?_|refine S_false O O ?_|refine S_skip O ?_|(refine R_eff (E_boxa (cs:=mgc x p) O) ?_ O O;rintro _ _ ⟨b1,rfl,rfl⟩)|(refine R_eff (E_hv0 (f:=114) F114 (fun w hS=>fields_any w x.K) O O (fun _=>O)) ?_ O O;rintro _ _ ⟨_,rfl,_,rfl⟩)|((refine R_eff (E_hv0 (f:=115) F115 (fun w hS=>set_any w x p (h.keep hS.kpO)) O O (fun _=>O)) ?_ O O;rintro _ _ ⟨_,rfl,_,rfl⟩))|(refine R_eff (E_hv0 (f:=116) F116 (fun w hS=>server_any w x.F _ hF) O O (fun _=>O)) ?_ O O;rintro _ _ ⟨_,rfl,_,rfl⟩)|(refine R_eff (E_hv0 (f:=116) F116 (fun w hS=>server_any w x.T _ hT) O O (fun _=>O)) ?_ O O;rintro _ _ ⟨_,rfl,_,rfl⟩)|(refine R_eff (E_hv0 (f:=117) F117 (fun w hS=>sound_k w x p (h.keep hS.kpO) _ hso) O O (fun _=>O)) ?_ O O;rintro _ _ ⟨_,rfl,_,rfl⟩))
  exact hB _ _ _ _ _ O O (qE O)
 by_cases hd6:p.dn≤65536
 rotate_left
 ·obtain rfl:r=false:=by rw[← hr];exact all_no 9 (congrArg some (decide_eq_false hd6))
  repeat' (first|refine R_take (T_decT O (by omega)) ?_ O O|refine R_take (T_decF O (by omega)) ?_ O O|refine R_p O ?_ O O|refine R_nil ?_|refine R_skip ?_ O O|refine R_take (T_loads (ds:=mgc x p) O O O O O) ?_ O O|refine R_take (T_notm (f:=fldN x.K) O O hfn) ?_ O O|refine R_take (T_andN (p:=setN x) (q:=127-fldN x.K) (r:=setN x&&& (127-fldN x.K)) O O O hsn (by omega)) ?_ O O|refine R_take (T_load O O O O) ?_ O O|refine R_take (T_not O) ?_ O O|refine S_seq O ?_|refine S_region O O ?_|refine S_true O O ?_|refine S_false O O ?_|refine S_skip O ?_|(refine R_eff (E_boxa (cs:=mgc x p) O) ?_ O O;rintro _ _ ⟨b1,rfl,rfl⟩)|(refine R_eff (E_hv0 (f:=114) F114 (fun w hS=>fields_any w x.K) O O (fun _=>O)) ?_ O O;rintro _ _ ⟨_,rfl,_,rfl⟩)|((refine R_eff (E_hv0 (f:=115) F115 (fun w hS=>set_any w x p (h.keep hS.kpO)) O O (fun _=>O)) ?_ O O;rintro _ _ ⟨_,rfl,_,rfl⟩))|(refine R_eff (E_hv0 (f:=116) F116 (fun w hS=>server_any w x.F _ hF) O O (fun _=>O)) ?_ O O;rintro _ _ ⟨_,rfl,_,rfl⟩)|(refine R_eff (E_hv0 (f:=116) F116 (fun w hS=>server_any w x.T _ hT) O O (fun _=>O)) ?_ O O;rintro _ _ ⟨_,rfl,_,rfl⟩)|(refine R_eff (E_hv0 (f:=117) F117 (fun w hS=>sound_k w x p (h.keep hS.kpO) _ hso) O O (fun _=>O)) ?_ O O;rintro _ _ ⟨_,rfl,_,rfl⟩))
  exact hB _ _ _ _ _ O O (qE O)
 by_cases hc5:p.cn≤5
 rotate_left
 ·obtain rfl:r=false:=by rw[← hr];exact all_no 10 (congrArg some (decide_eq_false hc5))
  repeat' (first|refine R_take (T_decT O (by omega)) ?_ O O|refine R_take (T_decF O (by omega)) ?_ O O|refine R_p O ?_ O O|refine R_nil ?_|refine R_skip ?_ O O|refine R_take (T_loads (ds:=mgc x p) O O O O O) ?_ O O|refine R_take (T_notm (f:=fldN x.K) O O hfn) ?_ O O|refine R_take (T_andN (p:=setN x) (q:=127-fldN x.K) (r:=setN x&&& (127-fldN x.K)) O O O hsn (by omega)) ?_ O O|refine R_take (T_load O O O O) ?_ O O|refine R_take (T_not O) ?_ O O|refine S_seq O ?_|refine S_region O O ?_|refine S_true O O ?_|refine S_false O O ?_|refine S_skip O ?_|(refine R_eff (E_boxa (cs:=mgc x p) O) ?_ O O;rintro _ _ ⟨b1,rfl,rfl⟩)|(refine R_eff (E_hv0 (f:=114) F114 (fun w hS=>fields_any w x.K) O O (fun _=>O)) ?_ O O;rintro _ _ ⟨_,rfl,_,rfl⟩)|((refine R_eff (E_hv0 (f:=115) F115 (fun w hS=>set_any w x p (h.keep hS.kpO)) O O (fun _=>O)) ?_ O O;rintro _ _ ⟨_,rfl,_,rfl⟩))|(refine R_eff (E_hv0 (f:=116) F116 (fun w hS=>server_any w x.F _ hF) O O (fun _=>O)) ?_ O O;rintro _ _ ⟨_,rfl,_,rfl⟩)|(refine R_eff (E_hv0 (f:=116) F116 (fun w hS=>server_any w x.T _ hT) O O (fun _=>O)) ?_ O O;rintro _ _ ⟨_,rfl,_,rfl⟩)|(refine R_eff (E_hv0 (f:=117) F117 (fun w hS=>sound_k w x p (h.keep hS.kpO) _ hso) O O (fun _=>O)) ?_ O O;rintro _ _ ⟨_,rfl,_,rfl⟩))
  exact hB _ _ _ _ _ O O (qE O)
 rcases Nat.eq_zero_or_pos p.n with hn0|hn0
 ·have hck2:(decide (p.n=0)||decide (chkE x.pl x.es x.tm=0))=true:=by rw[decide_eq_true hn0];rfl
  cases hcf:(x.cf.all fun n=>decide (1≤n)&&decide (n≤255))
  ·obtain rfl:r=false:=by rw[← hr,chkL_eq,hcf];exact all_no 12 O
   have hcf':(x.cf.all fun n=> !(!(decide (1≤n)&&decide (n≤255))))=false:=by simpa using hcf
   repeat' (first|refine R_take (T_decT O (by omega)) ?_ O O|refine R_take (T_decF O (by omega)) ?_ O O|refine R_p O ?_ O O|refine R_nil ?_|refine R_take (T_loads (ds:=mgc x p) O O O O O) ?_ O O|refine R_take (T_notm (f:=fldN x.K) O O hfn) ?_ O O|refine R_take (T_andN (p:=setN x) (q:=127-fldN x.K) (r:=setN x&&& (127-fldN x.K)) O O O hsn (by omega)) ?_ O O|refine R_take (T_load O O O O) ?_ O O|refine R_take (T_not O) ?_ O O|refine S_seq O ?_|refine S_region O O ?_|refine S_true O O ?_|refine S_false O O ?_|refine S_skip O ?_|(refine R_eff (E_boxa (cs:=mgc x p) O) ?_ O O;rintro _ _ ⟨b1,rfl,rfl⟩)|(refine R_eff (E_hv0 (f:=114) F114 (fun w hS=>fields_any w x.K) O O (fun _=>O)) ?_ O O;rintro _ _ ⟨_,rfl,_,rfl⟩)|((refine R_eff (E_hv0 (f:=115) F115 (fun w hS=>set_any w x p (h.keep hS.kpO)) O O (fun _=>O)) ?_ O O;rintro _ _ ⟨_,rfl,_,rfl⟩))|(refine R_eff (E_hv0 (f:=116) F116 (fun w hS=>server_any w x.F _ hF) O O (fun _=>O)) ?_ O O;rintro _ _ ⟨_,rfl,_,rfl⟩)|(refine R_eff (E_hv0 (f:=116) F116 (fun w hS=>server_any w x.T _ hT) O O (fun _=>O)) ?_ O O;rintro _ _ ⟨_,rfl,_,rfl⟩)|(refine R_eff (E_hv0 (f:=117) F117 (fun w hS=>sound_k w x p (h.keep hS.kpO) _ hso) O O (fun _=>O)) ?_ O O;rintro _ _ ⟨_,rfl,_,rfl⟩)|((refine R_eff (E_hv0 (f:=118) F118 (fun w hS=>confZ_any w p.cA p.cn p.cc 119 [] x.cf (fun n=> !(decide (1≤n)&&decide (n≤255))) (h.keep hS.kpO).rc (by omega) F119 (fun w' _ n _=>num255_any w' n)) O O (fun _=>O)) ?_ O O;rintro _ _ ⟨_,rfl,_,rfl⟩);rw[hcf']))
   exact hB _ _ _ _ _ O O (qE O)
  ·obtain rfl:r=true:=by rw[← hr,chkL_eq,hcf,decide_eq_true hf,decide_eq_true hs,hF,hT,decide_eq_true hFT,decide_eq_true h0,decide_eq_true h62,hso,decide_eq_true hn8,decide_eq_true hd6,decide_eq_true hc5,hck2];rfl
   have hcf':(x.cf.all fun n=> !(!(decide (1≤n)&&decide (n≤255))))=true:=by simpa using hcf
   repeat' (first|refine R_take (T_decT O (by omega)) ?_ O O|refine R_take (T_decF O (by omega)) ?_ O O|refine R_p O ?_ O O|refine R_nil ?_|refine R_take (T_loads (ds:=mgc x p) O O O O O) ?_ O O|refine R_take (T_notm (f:=fldN x.K) O O hfn) ?_ O O|refine R_take (T_andN (p:=setN x) (q:=127-fldN x.K) (r:=setN x&&& (127-fldN x.K)) O O O hsn (by omega)) ?_ O O|refine R_take (T_load O O O O) ?_ O O|refine R_take (T_not O) ?_ O O|refine S_seq O ?_|refine S_region O O ?_|refine S_false O O ?_|refine S_skip O ?_|(refine R_eff (E_boxa (cs:=mgc x p) O) ?_ O O;rintro _ _ ⟨b1,rfl,rfl⟩)|(refine R_eff (E_hv0 (f:=114) F114 (fun w hS=>fields_any w x.K) O O (fun _=>O)) ?_ O O;rintro _ _ ⟨_,rfl,_,rfl⟩)|((refine R_eff (E_hv0 (f:=115) F115 (fun w hS=>set_any w x p (h.keep hS.kpO)) O O (fun _=>O)) ?_ O O;rintro _ _ ⟨_,rfl,_,rfl⟩))|(refine R_eff (E_hv0 (f:=116) F116 (fun w hS=>server_any w x.F _ hF) O O (fun _=>O)) ?_ O O;rintro _ _ ⟨_,rfl,_,rfl⟩)|(refine R_eff (E_hv0 (f:=116) F116 (fun w hS=>server_any w x.T _ hT) O O (fun _=>O)) ?_ O O;rintro _ _ ⟨_,rfl,_,rfl⟩)|(refine R_eff (E_hv0 (f:=117) F117 (fun w hS=>sound_k w x p (h.keep hS.kpO) _ hso) O O (fun _=>O)) ?_ O O;rintro _ _ ⟨_,rfl,_,rfl⟩)|((refine R_eff (E_hv0 (f:=118) F118 (fun w hS=>confZ_any w p.cA p.cn p.cc 119 [] x.cf (fun n=> !(decide (1≤n)&&decide (n≤255))) (h.keep hS.kpO).rc (by omega) F119 (fun w' _ n _=>num255_any w' n)) O O (fun _=>O)) ?_ O O;rintro _ _ ⟨_,rfl,_,rfl⟩);rw[hcf']))
   exact hB _ _ _ _ _ O O (qE O)
 ·obtain⟨ck,hck⟩: ∃ c,chkE x.pl x.es x.tm=c:=⟨_,O⟩
  by_cases hc0:ck=0
  rotate_left
  ·have hck2:(decide (p.n=0)||decide (chkE x.pl x.es x.tm=0))=false:=by rw[hck,decide_eq_false (by omega),decide_eq_false hc0];rfl
   obtain rfl:r=false:=by rw[← hr];exact all_no 11 (congrArg some hck2)
   repeat' (first|refine R_take (T_decT O (by omega)) ?_ O O|refine R_take (T_decF O (by omega)) ?_ O O|refine R_p O ?_ O O|refine R_nil ?_|refine R_skip ?_ O O|refine R_take (T_loads (ds:=mgc x p) O O O O O) ?_ O O|refine R_take (T_loads (ds:=atc x.pl) O O O O O) ?_ O O|refine R_take (T_loads (ds:=lgc x.pl p.A p.n p.c) O O O O O) ?_ O O|refine R_take (T_build2 O O (lg_built2 x.pl p.A p.n p.c)) ?_ O O|refine R_take (T_notm (f:=fldN x.K) O O hfn) ?_ O O|refine R_take (T_andN (p:=setN x) (q:=127-fldN x.K) (r:=setN x&&& (127-fldN x.K)) O O O hsn (by omega)) ?_ O O|refine R_take (T_load O O O O) ?_ O O|refine R_take (T_not O) ?_ O O|refine S_seq O ?_|refine S_region O O ?_|refine S_true O O ?_|(refine R_eff (E_boxa (cs:=mgc x p) O) ?_ O O;rintro _ _ ⟨b1,rfl,rfl⟩)|(refine R_eff (E_hv0 (f:=114) F114 (fun w hS=>fields_any w x.K) O O (fun _=>O)) ?_ O O;rintro _ _ ⟨_,rfl,_,rfl⟩)|((refine R_eff (E_hv0 (f:=115) F115 (fun w hS=>set_any w x p (h.keep hS.kpO)) O O (fun _=>O)) ?_ O O;rintro _ _ ⟨_,rfl,_,rfl⟩))|(refine R_eff (E_hv0 (f:=116) F116 (fun w hS=>server_any w x.F _ hF) O O (fun _=>O)) ?_ O O;rintro _ _ ⟨_,rfl,_,rfl⟩)|(refine R_eff (E_hv0 (f:=116) F116 (fun w hS=>server_any w x.T _ hT) O O (fun _=>O)) ?_ O O;rintro _ _ ⟨_,rfl,_,rfl⟩)|(refine R_eff (E_hv0 (f:=117) F117 (fun w hS=>sound_k w x p (h.keep hS.kpO) _ hso) O O (fun _=>O)) ?_ O O;rintro _ _ ⟨_,rfl,_,rfl⟩)|(refine R_eff (E_alloca O lg_zero) ?_ O O;rintro _ _ ⟨b5,rfl,rfl⟩)|(refine R_eff0 (E_storew (cs:=lgc (0,0) none 0 0) (ds:=lgc x.pl p.A p.n p.c) O O O O (lgc_one _ _ _ _) O) ?_ O;rintro _ _ rfl)|(refine R_eff (E_hv0 (f:=94) F94 (fun w hS=>check_k w x.pl p.A p.c p.n p.Q x.es h.hn h.hQ (h.keep hS.kpO).rq (by omega) x.tm _ hck) O O (fun _=>O)) ?_ O O;rintro _ _ ⟨_,rfl,_,rfl⟩))
   exact hB _ _ _ _ _ O O (qE O)
  subst hc0
  have hck2:(decide (p.n=0)||decide (chkE x.pl x.es x.tm=0))=true:=by rw[hck];simp
  cases hcf:(x.cf.all fun n=>decide (1≤n)&&decide (n≤255))
  ·obtain rfl:r=false:=by rw[← hr,chkL_eq,hcf];exact all_no 12 O
   have hcf':(x.cf.all fun n=> !(!(decide (1≤n)&&decide (n≤255))))=false:=by simpa using hcf
   repeat' (first|refine R_take (T_decT O (by omega)) ?_ O O|refine R_p O ?_ O O|refine R_nil ?_|refine R_take (T_loads (ds:=mgc x p) O O O O O) ?_ O O|refine R_take (T_loads (ds:=atc x.pl) O O O O O) ?_ O O|refine R_take (T_loads (ds:=lgc x.pl p.A p.n p.c) O O O O O) ?_ O O|refine R_take (T_build2 O O (lg_built2 x.pl p.A p.n p.c)) ?_ O O|refine R_take (T_notm (f:=fldN x.K) O O hfn) ?_ O O|refine R_take (T_andN (p:=setN x) (q:=127-fldN x.K) (r:=setN x&&& (127-fldN x.K)) O O O hsn (by omega)) ?_ O O|refine R_take (T_load O O O O) ?_ O O|refine R_take (T_not O) ?_ O O|refine S_seq O ?_|refine S_region O O ?_|refine S_true O O ?_|(refine R_eff (E_boxa (cs:=mgc x p) O) ?_ O O;rintro _ _ ⟨b1,rfl,rfl⟩)|(refine R_eff (E_hv0 (f:=114) F114 (fun w hS=>fields_any w x.K) O O (fun _=>O)) ?_ O O;rintro _ _ ⟨_,rfl,_,rfl⟩)|((refine R_eff (E_hv0 (f:=115) F115 (fun w hS=>set_any w x p (h.keep hS.kpO)) O O (fun _=>O)) ?_ O O;rintro _ _ ⟨_,rfl,_,rfl⟩))|(refine R_eff (E_hv0 (f:=116) F116 (fun w hS=>server_any w x.F _ hF) O O (fun _=>O)) ?_ O O;rintro _ _ ⟨_,rfl,_,rfl⟩)|(refine R_eff (E_hv0 (f:=116) F116 (fun w hS=>server_any w x.T _ hT) O O (fun _=>O)) ?_ O O;rintro _ _ ⟨_,rfl,_,rfl⟩)|(refine R_eff (E_hv0 (f:=117) F117 (fun w hS=>sound_k w x p (h.keep hS.kpO) _ hso) O O (fun _=>O)) ?_ O O;rintro _ _ ⟨_,rfl,_,rfl⟩)|(refine R_eff (E_alloca O lg_zero) ?_ O O;rintro _ _ ⟨b5,rfl,rfl⟩)|(refine R_eff0 (E_storew (cs:=lgc (0,0) none 0 0) (ds:=lgc x.pl p.A p.n p.c) O O O O (lgc_one _ _ _ _) O) ?_ O;rintro _ _ rfl)|(refine R_eff (E_hv0 (f:=94) F94 (fun w hS=>check_k w x.pl p.A p.c p.n p.Q x.es h.hn h.hQ (h.keep hS.kpO).rq (by omega) x.tm _ hck) O O (fun _=>O)) ?_ O O;rintro _ _ ⟨_,rfl,_,rfl⟩)|((refine R_eff (E_hv0 (f:=118) F118 (fun w hS=>confZ_any w p.cA p.cn p.cc 119 [] x.cf (fun n=> !(decide (1≤n)&&decide (n≤255))) (h.keep hS.kpO).rc (by omega) F119 (fun w' _ n _=>num255_any w' n)) O O (fun _=>O)) ?_ O O;rintro _ _ ⟨_,rfl,_,rfl⟩);rw[hcf']))
   exact hB _ _ _ _ _ O O (qE O)
  ·obtain rfl:r=true:=by rw[← hr,chkL_eq,hcf,decide_eq_true hf,decide_eq_true hs,hF,hT,decide_eq_true hFT,decide_eq_true h0,decide_eq_true h62,hso,decide_eq_true hn8,decide_eq_true hd6,decide_eq_true hc5,hck2];rfl
   have hcf':(x.cf.all fun n=> !(!(decide (1≤n)&&decide (n≤255))))=true:=by simpa using hcf
   repeat' (first|refine R_take (T_decT O (by omega)) ?_ O O|refine R_p O ?_ O O|refine R_nil ?_|refine R_take (T_loads (ds:=mgc x p) O O O O O) ?_ O O|refine R_take (T_loads (ds:=atc x.pl) O O O O O) ?_ O O|refine R_take (T_loads (ds:=lgc x.pl p.A p.n p.c) O O O O O) ?_ O O|refine R_take (T_build2 O O (lg_built2 x.pl p.A p.n p.c)) ?_ O O|refine R_take (T_notm (f:=fldN x.K) O O hfn) ?_ O O|refine R_take (T_andN (p:=setN x) (q:=127-fldN x.K) (r:=setN x&&& (127-fldN x.K)) O O O hsn (by omega)) ?_ O O|refine R_take (T_load O O O O) ?_ O O|refine R_take (T_not O) ?_ O O|refine S_seq O ?_|refine S_region O O ?_|refine S_true O O ?_|refine S_false O O ?_|refine S_skip O ?_|(refine R_eff (E_boxa (cs:=mgc x p) O) ?_ O O;rintro _ _ ⟨b1,rfl,rfl⟩)|(refine R_eff (E_hv0 (f:=114) F114 (fun w hS=>fields_any w x.K) O O (fun _=>O)) ?_ O O;rintro _ _ ⟨_,rfl,_,rfl⟩)|((refine R_eff (E_hv0 (f:=115) F115 (fun w hS=>set_any w x p (h.keep hS.kpO)) O O (fun _=>O)) ?_ O O;rintro _ _ ⟨_,rfl,_,rfl⟩))|(refine R_eff (E_hv0 (f:=116) F116 (fun w hS=>server_any w x.F _ hF) O O (fun _=>O)) ?_ O O;rintro _ _ ⟨_,rfl,_,rfl⟩)|(refine R_eff (E_hv0 (f:=116) F116 (fun w hS=>server_any w x.T _ hT) O O (fun _=>O)) ?_ O O;rintro _ _ ⟨_,rfl,_,rfl⟩)|(refine R_eff (E_hv0 (f:=117) F117 (fun w hS=>sound_k w x p (h.keep hS.kpO) _ hso) O O (fun _=>O)) ?_ O O;rintro _ _ ⟨_,rfl,_,rfl⟩)|(refine R_eff (E_alloca O lg_zero) ?_ O O;rintro _ _ ⟨b5,rfl,rfl⟩)|(refine R_eff0 (E_storew (cs:=lgc (0,0) none 0 0) (ds:=lgc x.pl p.A p.n p.c) O O O O (lgc_one _ _ _ _) O) ?_ O;rintro _ _ rfl)|(refine R_eff (E_hv0 (f:=94) F94 (fun w hS=>check_k w x.pl p.A p.c p.n p.Q x.es h.hn h.hQ (h.keep hS.kpO).rq (by omega) x.tm _ hck) O O (fun _=>O)) ?_ O O;rintro _ _ ⟨_,rfl,_,rfl⟩)|((refine R_eff (E_hv0 (f:=118) F118 (fun w hS=>confZ_any w p.cA p.cn p.cc 119 [] x.cf (fun n=> !(decide (1≤n)&&decide (n≤255))) (h.keep hS.kpO).rc (by omega) F119 (fun w' _ n _=>num255_any w' n)) O O (fun _=>O)) ?_ O O;rintro _ _ ⟨_,rfl,_,rfl⟩);rw[hcf']))
   exact hB _ _ _ _ _ O O (qE O)
def zerL (x:Ms) (n cn dn:Nat):List Bool:=[decide (x.K=1)||decide (x.K=3)||decide (x.K=5)||decide (x.K=7)||decide (x.pl=(0,0)),decide (x.K=2)||decide (x.K=4)||decide (x.K=6)|| !x.ok,decide (x.K=5)||(decide (n=0)&&decide (x.cm=0)),decide (x.K=6)||decide (x.ix=0),decide (x.K=7)||(decide (cn=0)&&decide (dn=0))]
def risT (l:List En) (t tm:Nat):Bool:=risingB l t&&l.all fun e=>decide (e.1≤tm)
def mgL (x:Ms) (n cn dn:Nat):List Bool:=[decide (1≤x.K),decide (x.K≤7),(zerL x n cn dn).all id,decide (1≤x.F),decide (x.F≤5),decide (1≤x.T),decide (x.T≤5),decide (x.F≠x.T),decide (0<x.tm),decide (x.tm≤4611686018427387904),
 !(decide ((x.pl.1:Int)=0) !=decide ((x.pl.2:Int)=0)),decide (x.pl.2≤x.tm),decide (¬ (x.K=1∧x.pl.2=x.tm)),decide (¬ (x.K=7∧x.pl.2=0)),decide (n≤8),decide (cn≤5),decide (dn≤65536),risT x.es x.pl.2 x.tm,decide (x.pl.1≤18446744073709551614-n),x.cf.all fun n=>decide (1≤n)&&decide (n≤255)]
def rightM (x:Ms):Bool:=(mgL x x.es.length x.cf.length x.dt.length).all id
theorem fld_pos (K:Int):0<fldN K↔1≤K∧K≤7:=by
 unfold fldN
 constructor
 ·intro h
  split at h
  ·omega
  split at h
  ·omega
  split at h
  ·omega
  split at h
  ·omega
  split at h
  ·omega
  ·omega
 ·intro h
  split
  ·decide
  split
  ·decide
  split
  ·decide
  split
  ·decide
  split
  ·decide
  ·omega
theorem zer_bits (K:Int) (h:K=1∨K=2∨K=3∨K=4∨K=5∨K=6∨K=7): ∀ b0 b1 b2 b3 b4 b5 b6:Bool,(bitsN [(!b0,1),(b1,2),(b2,4),(b3,8),(b4,16),(b5,32),(b6,64)] 0&&& (127-fldN K)=0)↔[decide (K=1)||decide (K=3)||decide (K=5)||decide (K=7)||b0,decide (K=2)||decide (K=4)||decide (K=6)|| !b1,decide (K=5)||(!b2&& !b3),decide (K=6)|| !b4,decide (K=7)||(!b5&& !b6)].all id=true:=by
 rcases h with rfl|rfl|rfl|rfl|rfl|rfl|rfl
 ·decide+kernel
 ·decide+kernel
 ·decide+kernel
 ·decide+kernel
 ·decide+kernel
 ·decide+kernel
 ·decide+kernel
theorem dz (n:Nat):decide (n=0)= !decide (0<n):=by
 rw[Bool.eq_iff_iff]
 simp
theorem zer_set (x:Ms) (h:1≤x.K∧x.K≤7):(setN x&&& (127-fldN x.K)=0)↔(zerL x x.es.length x.cf.length x.dt.length).all id=true:=by
 have h1:=zer_bits x.K (by omega) (decide (x.pl=(0,0))) x.ok (decide (0<x.es.length)) (decide (0<x.cm)) (decide (0<x.ix)) (decide (0<x.cf.length)) (decide (0<x.dt.length))
 unfold setN setL zerL
 rw[dz,dz,dz,dz,dz]
 exact h1
theorem snd_iff (K:Int) (tm a t n:Nat):sndB K tm a t n=true↔(!(decide ((a:Int)=0) !=decide ((t:Int)=0)))=true∧t≤tm∧ ¬ (K=1∧t=tm)∧ ¬ (K=7∧t=0)∧a≤18446744073709551614-n:=by
 unfold sndB
 by_cases h1:K=1
 ·rw[if_pos h1]
  simp
  omega
 ·rw[if_neg h1]
  by_cases h7:K=7
  ·rw[if_pos h7]
   simp
   omega
  ·rw[if_neg h7]
   simp
   omega
theorem rising_last: ∀ (l:List En) (t tm:Nat),risingB l t=true→l≠[]→(lastT l t≤tm↔(l.all fun e=>decide (e.1≤tm))=true)
 |[],_,_,_,h=>absurd O h
 |[e],t,tm,_,_=>by
  show e.1≤tm↔_
  simp
 |e::f::l,t,tm,h,_=>by
  have h2:risingB (f::l) e.1=true:=by
   unfold risingB at h
   rw[Bool.and_eq_true] at h
   exact h.2
  have ih:=rising_last (f::l) e.1 tm h2 (by simp)
  have e1:lastT (e::f::l) t=lastT (f::l) e.1:=by
   have:=lastT_app [e] (f::l) t
   exact this
  have h3:e.1≤f.1:=by
   unfold risingB at h2
   simp only[Bool.and_eq_true,decide_eq_true_eq] at h2
   exact h2.1.2
  rw[e1,ih,List.all_cons (a:=e),Bool.and_eq_true]
  constructor
  ·intro h4
   refine⟨?_,h4⟩
   rw[List.all_cons,Bool.and_eq_true,decide_eq_true_eq] at h4
   exact decide_eq_true (by omega)
  ·exact fun h4=>h4.2
theorem ris_iff (a t:Nat) (es:List En) (tm:Nat) (h0:(!(decide ((a:Int)=0) !=decide ((t:Int)=0)))=true) (h8:es.length≤8) (ha:a≤18446744073709551614-es.length) (ht:t≤tm):
  (decide (es.length=0)||decide (chkE (a,t) es tm=0))=true↔risT es t tm=true:=by
 by_cases hn:es=[]
 ·subst hn
  simp[risT,risingB]
 ·have hl:es.length≠0:=fun h=>hn (List.eq_nil_of_length_eq_zero h)
  rw[decide_eq_false hl,Bool.false_or,decide_eq_true_eq]
  have hb:(decide (((a,t):At)=(0,0))||(decide (0<a)&&decide (0<t)))=true:=by
   simp at h0 ⊢
   omega
  have hr:rightB (a,t) es=risingB es t:=by
   unfold rightB
   dsimp only
   rw[hb,decide_eq_true (show es.length≤16 by omega),decide_eq_true ha]
   rfl
  unfold chkE risT
  rw[hr,Bool.and_eq_true]
  cases hq:risingB es t
  ·simp
  ·rw[if_pos O, ← rising_last es t tm hq hn]
   show ((if tm<lastT es t then (2:Int) else 0)=0)↔_
   split
   ·simp;omega
   ·simp;omega
theorem check_right (x:Ms):(chkL x x.es.length x.dt.length x.cf.length).all id=rightM x:=by
 unfold rightM
 rw[Bool.eq_iff_iff]
 unfold chkL mgL
 simp only[List.all_cons,List.all_nil,id,Bool.and_eq_true,decide_eq_true_eq,and_true]
 rw[snd_iff,fld_pos]
 constructor
 ·rintro⟨hK,hz,⟨hF1,hF5⟩,⟨hT1,hT5⟩,hFT,h0,h62,⟨hb,htt,hk1,hk7,ha⟩,hn,hd,hc,hck,hall⟩
  exact⟨hK.1,hK.2,by simpa only[List.all_cons,List.all_nil,id,Bool.and_eq_true,and_true] using(zer_set x hK).1 hz,hF1,hF5,hT1,hT5,hFT,h0,h62,hb,htt,hk1,hk7,hn,hc,hd,(ris_iff _ _ _ _ hb hn ha htt).1 hck,ha,hall⟩
 ·rintro⟨hK1,hK7,hz,hF1,hF5,hT1,hT5,hFT,h0,h62,hb,htt,hk1,hk7,hn,hc,hd,hr,ha,hall⟩
  exact⟨⟨hK1,hK7⟩,(zer_set x ⟨hK1,hK7⟩).2 hz,⟨hF1,hF5⟩,⟨hT1,hT5⟩,hFT,h0,h62,⟨hb,htt,hk1,hk7,ha⟩,hn,hd,hc,(ris_iff _ _ _ _ hb hn ha htt).2 hr,hall⟩
theorem checkM_any (w:World) (x:Ms) (p:Mp) (h:MsR w x p) (r:Bool) (hr:rightM x=r):
  Gives Tryz.prog 45 [.agg (mgc x p).toArray] [] w (X:=Unit) (fun _=> .int .i64 (if r=true then 0 else 230)) (fun _=>True) (fun _=>[]):=
 checkM_k w x p h r (by rw[← hr, ← check_right,h.ln,h.dn,h.hc])
def eqL (x y:Ms):List Bool:=[decide (x.K=y.K),decide (x.F=y.F),decide (x.T=y.T),decide (x.tm=y.tm),decide (x.pl=y.pl),decide (x.es=y.es),decide (x.cm=y.cm),x.ok==y.ok,decide (x.ix=y.ix),decide (x.cf=y.cf),decide (x.dt=y.dt)]
theorem eqL_eq (x y:Ms):eqL x y=[decide (x.K=y.K),decide (x.F=y.F),decide (x.T=y.T),decide (x.tm=y.tm),decide (x.pl=y.pl),decide (x.es=y.es),decide (x.cm=y.cm),x.ok==y.ok,decide (x.ix=y.ix),decide (x.cf=y.cf),decide (x.dt=y.dt)]:=rfl
theorem eqL_iff (x y:Ms):(eqL x y).all id=true↔x=y:=by
 obtain⟨a1,a2,a3,a4,a5,a6,a7,a8,a9,a10,a11⟩:=x
 obtain⟨b1,b2,b3,b4,b5,b6,b7,b8,b9,b10,b11⟩:=y
 simp only[eqL,List.all_cons,List.all_nil,id,Bool.and_eq_true,decide_eq_true_eq,beq_iff_eq,and_true,Ms.mk.injEq]
instance:DecidableEq Ms:=fun x y=>decidable_of_iff _ (eqL_iff x y)
theorem same01_k (w:World) (A1 A2:Option Addr) (n1 c1 n2 c2':Nat) (l1 l2:List UInt8) (h1:Bs w All A1 n1 c1 l1) (h2:Bs w All A2 n2 c2' l2):
  Gives Tryz.prog 155 [.slice A1 n1 c1,.slice A2 n2 c2'] [] w (X:=Unit) (fun _=> .bool (decide (l1=l2))) (fun _=>True) (fun _=>[]):=by
 refine gives_S Tryz.func155 O Tryz.ntmps155 Tryz.results155 (by simp) (St.enter w) (fun B hB=>?_)
 have hc1:=h1.capm
 have hk1:=h1.cap
 have hl1:=h1.len
 have hl2:=h2.len
 unfold maxLen at hc1
 have hr1:=h1.rd
 have hr2:=h2.rd
 repeat' (first|refine R_p O ?_ O O|refine R_nil ?_|refine S_seq O ?_|refine S_region O O ?_|refine S_block O ?_)
 refine S_loop (X:=Nat×Bool) (fun x=>[(0,.slice A1 n1 c1),(1,.slice A2 n2 c2'),(5,.bool x.2),(6,.int .i64 (x.1:Int))]) (fun _=>[]) (fun x=>x.1≤n1∧x.2=decide (n1=n2∧l1.take x.1=l2.take x.1)) (fun x=>n1-x.1) O (0,decide ((n1:Int)=(n2:Int))) ⟨Nat.zero_le _,by simp;omega⟩ (Sub.cons O (Sub.cons O (Sub.cons O (Sub.cons O Sub.nil)))) (fun _ h=>h) ?_
 rintro⟨j,b⟩ ⟨hj,hb⟩ J hJ
 dsimp only at hj hb ⊢
 cases b
 ·
  repeat' (first|refine R_p O ?_ O O|refine R_nil ?_|refine R_skip ?_ O O|refine S_seq O ?_|refine S_region O O ?_|refine S_false O O ?_|refine S_exit O O ?_)
  refine hB _ _ _ _ _ O O fun w' hS=>⟨(),?_,trivial,hS.sublist (List.nil_sublist _)⟩
  refine congrArg Value.bool ?_
  rw[eq_comm,decide_eq_false_iff_not]
  rintro rfl
  simp at hb
  omega
 simp at hb
 rcases Nat.lt_or_ge j n1 with hjl|hjl
 ·have hlt2:j<n2:=by omega
  have hA1:A1≠none:=fun e=>by obtain⟨ad,h,_⟩:=hr1.2 (by omega);rw[e] at h;cases h
  have hA2:A2≠none:=fun e=>by obtain⟨ad,h,_⟩:=hr2.2 (by omega);rw[e] at h;cases h
  have hat1:(l1.map bv)[j]? =some (.int .u8 ((l1.getD j 0).toNat:Int)):=by simp[bv,List.getD,show j<l1.length by omega]
  have hat2:(l2.map bv)[j]? =some (.int .u8 ((l2.getD j 0).toNat:Int)):=by simp[bv,List.getD,show j<l2.length by omega]
  obtain⟨q,hq⟩: ∃ q,decide (((l1.getD j 0).toNat:Int)=((l2.getD j 0).toNat:Int))=q:=⟨_,O⟩
  focus (refine qq ?_;refine qs ?_;(iterate 5 refine qp ?_);refine qd ?_;refine qp ?_;refine qz ?_;refine qT ?_;refine qx ?_;refine qq ?_;refine qb ?_;(refine S_draw _ (fun _ h=>h) (by kernel_rfl) O (by kernel_rfl) (rfl:_=10) ?_;(refine dp 0 ?_);(refine dp 1 ?_);(refine dt 2 O (T_ixN O O O O O O hA1 hjl) ?_);(refine dt 3 O (T_ldr O O O (Srd.old hr1 (fun k _=>noOwns k)) (by omega) hat1) ?_);(refine dp 4 ?_);(refine dp 5 ?_);(refine dt 6 O (T_ixN O O O O O O hA2 hlt2) ?_);(refine dt 7 O (T_ldr O O O (Srd.old hr2 (fun k _=>noOwns k)) (by omega) hat2) ?_);(refine dp 8 ?_);(refine dp 9 ?_);refine dn ?_);refine RS_blk ?_;refine qr ?_;refine qp ?_;refine qt (T_addN O O (by unfold fits;omega)) ?_;refine qp ?_;refine qz ?_)
  refine hJ (j+1,decide (((l1.getD j 0).toNat:Int)=((l2.getD j 0).toNat:Int))) _ _ ⟨by show j+1≤_;omega,?_⟩ (Sub.cons O (Sub.cons O (Sub.cons O (Sub.cons O Sub.nil)))) (fun _ h=>h) (by show n1-(j+1)<_;omega)
  rw[Bool.eq_iff_iff]
  have e1:l1.take (j+1)=l1.take j++[l1.getD j 0]:=by rw[List.take_succ_eq_append_getElem (by omega)];simp[List.getD,show j<l1.length by omega]
  have e2:l2.take (j+1)=l2.take j++[l2.getD j 0]:=by rw[List.take_succ_eq_append_getElem (by omega)];simp[List.getD,show j<l2.length by omega]
  simp only[decide_eq_true_eq]
  rw[e1,e2,hb.2,List.append_cancel_left_eq]
  constructor
  ·intro h3
   have h4:(l1.getD j 0).toNat=(l2.getD j 0).toNat:=by exact_mod_cast h3
   exact⟨hb.1,by rw[UInt8.toNat_inj.1 h4]⟩
  ·rintro⟨_,h3⟩
   injection h3 with h3
   rw[h3]
 ·skip
  repeat' (first|refine R_take (T_decF O (by omega)) ?_ O O|refine R_p O ?_ O O|refine R_nil ?_|refine S_seq O ?_|refine S_region O O ?_|refine S_false O O ?_|refine S_exit O O ?_)
  refine hB _ _ _ _ _ O O fun w' hS=>⟨(),?_,trivial,hS.sublist (List.nil_sublist _)⟩
  refine congrArg Value.bool ?_
  rw[eq_comm,decide_eq_true_eq]
  have:=hb.2
  rwa [List.take_of_length_le (by omega),List.take_of_length_le (by omega)] at this
theorem s01_k (w:World) (A A2:Option Addr) (n c n2 c2:Nat) (l l2:List UInt8) (h:Bs w All A n c l) (h2:Bs w All A2 n2 c2 l2) (r:Bool) (hr:decide (l=l2)=r):
  Gives Tryz.prog 155 [.slice A n c,.slice A2 n2 c2] [] w (X:=Unit) (fun _=> .bool r) (fun _=>True) (fun _=>[]):=hr▸same01_k w A A2 n c n2 c2 l l2 h h2
theorem es_no {x y:Ms} {j:Nat} (h:x.es.getD j default≠y.es.getD j default):(eqL x y).all id=false:=all_no 5 (congrArg some (decide_eq_false fun e=>h (by rw[e])))
theorem cf_no {x y:Ms} {j:Nat} (h:x.cf.getD j 0≠y.cf.getD j 0):(eqL x y).all id=false:=all_no 9 (congrArg some (decide_eq_false fun e=>h (by rw[e])))
theorem cf_eq {l m:List Int} (hl:l.length=m.length) (h: ∀ i,i<l.length→l.getD i 0=m.getD i 0):l=m:=by
 refine List.ext_getElem hl fun i h1 h2=>?_
 have:=h i h1
 simpa[List.getD,h1,h2] using this
theorem sameMD_k (w:World) (x:Ms) (p:Mp) (h:MsR w x p) (y:Ms) (q:Mp) (h2:MsR w y q) (r:Bool) (hr:(eqL x y).all id=r):
  Gives Tryz.prog 87 [.agg (mgc x p).toArray,.agg (mgc y q).toArray] [] w (X:=Unit) (fun _=> .bool r) (fun _=>True) (fun _=>[]):=by
 refine gives_S Tryz.func87 O Tryz.ntmps87 Tryz.results87 (by simp) (St.enter w) (fun B hB=>?_)
 have hm:=h.hm
 have hmc':=h.hmc
 unfold maxLen at hm hmc'
 have hne:0<p.n→p.A≠none:=fun h0=>by obtain⟨ad,e,_⟩:=h.rq.2 h0;rw[e];simp
 have hnc:0<p.cn→p.cA≠none:=fun h0=>by obtain⟨ad,e,_⟩:=h.rc.2 h0;rw[e];simp
 have hmb:0<q.n→q.A≠none:=fun h0=>by obtain⟨ad,e,_⟩:=h2.rq.2 h0;rw[e];simp
 have hmc:0<q.cn→q.cA≠none:=fun h0=>by obtain⟨ad,e,_⟩:=h2.rc.2 h0;rw[e];simp
 by_cases he0:x.K=y.K
 rotate_left
 ·obtain rfl:r=false:=by rw[← hr];exact all_no 0 (congrArg some (decide_eq_false he0))
  repeat' (first|refine R_take (T_decT O (by omega)) ?_ O O|refine R_p O ?_ O O|refine R_nil ?_|refine R_skip ?_ O O|refine R_take (T_load O O O O) ?_ O O|refine S_seq O ?_|refine S_region O O ?_|refine S_true O O ?_|(refine R_eff (E_boxa (cs:=mgc x p) O) ?_ O O;rintro _ _ ⟨b2,rfl,rfl⟩)|(refine R_eff (E_boxa (cs:=mgc y q) O) ?_ O O;rintro _ _ ⟨b3,rfl,rfl⟩))
  exact hB _ _ _ _ _ O O (qE O)
 by_cases he1:x.F=y.F
 rotate_left
 ·obtain rfl:r=false:=by rw[← hr];exact all_no 1 (congrArg some (decide_eq_false he1))
  repeat' (first|refine R_take (T_decT O (by omega)) ?_ O O|refine R_take (T_decF O (by omega)) ?_ O O|refine R_p O ?_ O O|refine R_nil ?_|refine R_skip ?_ O O|refine R_take (T_load O O O O) ?_ O O|refine S_seq O ?_|refine S_region O O ?_|refine S_true O O ?_|(refine R_eff (E_boxa (cs:=mgc x p) O) ?_ O O;rintro _ _ ⟨b2,rfl,rfl⟩)|(refine R_eff (E_boxa (cs:=mgc y q) O) ?_ O O;rintro _ _ ⟨b3,rfl,rfl⟩))
  exact hB _ _ _ _ _ O O (qE O)
 by_cases he2:x.T=y.T
 rotate_left
 ·obtain rfl:r=false:=by rw[← hr];exact all_no 2 (congrArg some (decide_eq_false he2))
  repeat' (first|refine R_take (T_decT O (by omega)) ?_ O O|refine R_take (T_decF O (by omega)) ?_ O O|refine R_p O ?_ O O|refine R_nil ?_|refine R_skip ?_ O O|refine R_take (T_load O O O O) ?_ O O|refine S_seq O ?_|refine S_region O O ?_|refine S_true O O ?_|(refine R_eff (E_boxa (cs:=mgc x p) O) ?_ O O;rintro _ _ ⟨b2,rfl,rfl⟩)|(refine R_eff (E_boxa (cs:=mgc y q) O) ?_ O O;rintro _ _ ⟨b3,rfl,rfl⟩))
  exact hB _ _ _ _ _ O O (qE O)
 by_cases he3:x.tm=y.tm
 rotate_left
 ·obtain rfl:r=false:=by rw[← hr];exact all_no 3 (congrArg some (decide_eq_false he3))
  repeat' (first|refine R_take (T_decT O (by omega)) ?_ O O|refine R_take (T_decF O (by omega)) ?_ O O|refine R_p O ?_ O O|refine R_nil ?_|refine R_skip ?_ O O|refine R_take (T_load O O O O) ?_ O O|refine S_seq O ?_|refine S_region O O ?_|refine S_true O O ?_|(refine R_eff (E_boxa (cs:=mgc x p) O) ?_ O O;rintro _ _ ⟨b2,rfl,rfl⟩)|(refine R_eff (E_boxa (cs:=mgc y q) O) ?_ O O;rintro _ _ ⟨b3,rfl,rfl⟩))
  exact hB _ _ _ _ _ O O (qE O)
 cases he4:(decide (x.pl=y.pl))
 ·obtain rfl:r=false:=by rw[← hr];exact all_no 4 (congrArg some he4)
  repeat' (first|refine R_take (T_decF O (by omega)) ?_ O O|refine R_take (T_neAt (a:=x.pl) (b:=y.pl) O O he4) ?_ O O|refine R_p O ?_ O O|refine R_nil ?_|refine R_skip ?_ O O|refine R_take (T_loads (ds:=atc x.pl) O O O O O) ?_ O O|refine R_take (T_loads (ds:=atc y.pl) O O O O O) ?_ O O|refine R_take (T_load O O O O) ?_ O O|refine S_seq O ?_|refine S_region O O ?_|refine S_true O O ?_|(refine R_eff (E_boxa (cs:=mgc x p) O) ?_ O O;rintro _ _ ⟨b2,rfl,rfl⟩)|(refine R_eff (E_boxa (cs:=mgc y q) O) ?_ O O;rintro _ _ ⟨b3,rfl,rfl⟩))
  exact hB _ _ _ _ _ O O (qE O)
 by_cases he6:x.cm=y.cm
 rotate_left
 ·obtain rfl:r=false:=by rw[← hr];exact all_no 6 (congrArg some (decide_eq_false he6))
  repeat' (first|refine R_take (T_decT O (by omega)) ?_ O O|refine R_take (T_decF O (by omega)) ?_ O O|refine R_take (T_neAt (a:=x.pl) (b:=y.pl) O O he4) ?_ O O|refine R_p O ?_ O O|refine R_nil ?_|refine R_skip ?_ O O|refine R_take (T_loads (ds:=atc x.pl) O O O O O) ?_ O O|refine R_take (T_loads (ds:=atc y.pl) O O O O O) ?_ O O|refine R_take (T_load O O O O) ?_ O O|refine S_seq O ?_|refine S_region O O ?_|refine S_true O O ?_|(refine R_eff (E_boxa (cs:=mgc x p) O) ?_ O O;rintro _ _ ⟨b2,rfl,rfl⟩)|(refine R_eff (E_boxa (cs:=mgc y q) O) ?_ O O;rintro _ _ ⟨b3,rfl,rfl⟩))
  exact hB _ _ _ _ _ O O (qE O)
 cases he7:(x.ok==y.ok)
 ·obtain rfl:r=false:=by rw[← hr];exact all_no 7 (congrArg some he7)
  repeat' (first|refine R_take (T_decF O (by omega)) ?_ O O|refine R_take (T_neAt (a:=x.pl) (b:=y.pl) O O he4) ?_ O O|refine R_take (T_bnq (r:=true) O O O O (by show (!(x.ok==y.ok))=_;rw[he7];rfl)) ?_ O O|refine R_p O ?_ O O|refine R_nil ?_|refine R_skip ?_ O O|refine R_take (T_loads (ds:=atc x.pl) O O O O O) ?_ O O|refine R_take (T_loads (ds:=atc y.pl) O O O O O) ?_ O O|refine R_take (T_load O O O O) ?_ O O|refine S_seq O ?_|refine S_region O O ?_|refine S_true O O ?_|(refine R_eff (E_boxa (cs:=mgc x p) O) ?_ O O;rintro _ _ ⟨b2,rfl,rfl⟩)|(refine R_eff (E_boxa (cs:=mgc y q) O) ?_ O O;rintro _ _ ⟨b3,rfl,rfl⟩))
  exact hB _ _ _ _ _ O O (qE O)
 by_cases he8:x.ix=y.ix
 rotate_left
 ·obtain rfl:r=false:=by rw[← hr];exact all_no 8 (congrArg some (decide_eq_false he8))
  repeat' (first|refine R_take (T_decT O (by omega)) ?_ O O|refine R_take (T_decF O (by omega)) ?_ O O|refine R_take (T_neAt (a:=x.pl) (b:=y.pl) O O he4) ?_ O O|refine R_take (T_bnq (r:=false) O O O O (by show (!(x.ok==y.ok))=_;rw[he7];rfl)) ?_ O O|refine R_p O ?_ O O|refine R_nil ?_|refine R_skip ?_ O O|refine R_take (T_loads (ds:=atc x.pl) O O O O O) ?_ O O|refine R_take (T_loads (ds:=atc y.pl) O O O O O) ?_ O O|refine R_take (T_load O O O O) ?_ O O|refine S_seq O ?_|refine S_region O O ?_|refine S_true O O ?_|(refine R_eff (E_boxa (cs:=mgc x p) O) ?_ O O;rintro _ _ ⟨b2,rfl,rfl⟩)|(refine R_eff (E_boxa (cs:=mgc y q) O) ?_ O O;rintro _ _ ⟨b3,rfl,rfl⟩))
  exact hB _ _ _ _ _ O O (qE O)
 by_cases hl5:p.n=q.n
 rotate_left
 ·obtain rfl:r=false:=by rw[← hr];exact all_no 5 (congrArg some (decide_eq_false fun e=>hl5 (by rw[← h.ln, ← h2.ln,e])))
  repeat' (first|refine R_take (T_decT O (by omega)) ?_ O O|refine R_take (T_decF O (by omega)) ?_ O O|refine R_take (T_neAt (a:=x.pl) (b:=y.pl) O O he4) ?_ O O|refine R_take (T_bnq (r:=false) O O O O (by show (!(x.ok==y.ok))=_;rw[he7];rfl)) ?_ O O|refine R_p O ?_ O O|refine R_nil ?_|refine R_skip ?_ O O|refine R_take (T_loads (ds:=atc x.pl) O O O O O) ?_ O O|refine R_take (T_loads (ds:=atc y.pl) O O O O O) ?_ O O|refine R_take (T_load O O O O) ?_ O O|refine S_seq O ?_|refine S_region O O ?_|refine S_true O O ?_|(refine R_eff (E_boxa (cs:=mgc x p) O) ?_ O O;rintro _ _ ⟨b2,rfl,rfl⟩)|(refine R_eff (E_boxa (cs:=mgc y q) O) ?_ O O;rintro _ _ ⟨b3,rfl,rfl⟩))
  exact hB _ _ _ _ _ O O (qE O)
 by_cases hl9:p.cn=q.cn
 rotate_left
 ·obtain rfl:r=false:=by rw[← hr];exact all_no 9 (congrArg some (decide_eq_false fun e=>hl9 (by rw[← h.hc, ← h2.hc,e])))
  repeat' (first|refine R_take (T_decT O (by omega)) ?_ O O|refine R_take (T_decF O (by omega)) ?_ O O|refine R_take (T_neAt (a:=x.pl) (b:=y.pl) O O he4) ?_ O O|refine R_take (T_bnq (r:=false) O O O O (by show (!(x.ok==y.ok))=_;rw[he7];rfl)) ?_ O O|refine R_p O ?_ O O|refine R_nil ?_|refine R_take (T_loads (ds:=atc x.pl) O O O O O) ?_ O O|refine R_take (T_loads (ds:=atc y.pl) O O O O O) ?_ O O|refine R_take (T_load O O O O) ?_ O O|refine S_seq O ?_|refine S_region O O ?_|refine S_true O O ?_|(refine R_eff (E_boxa (cs:=mgc x p) O) ?_ O O;rintro _ _ ⟨b2,rfl,rfl⟩)|(refine R_eff (E_boxa (cs:=mgc y q) O) ?_ O O;rintro _ _ ⟨b3,rfl,rfl⟩))
  exact hB _ _ _ _ _ O O (qE O)
 repeat' (first|refine R_take (T_decF O (by omega)) ?_ O O|refine R_take (T_neAt (a:=x.pl) (b:=y.pl) O O he4) ?_ O O|refine R_take (T_bnq (r:=false) O O O O (by show (!(x.ok==y.ok))=_;rw[he7];rfl)) ?_ O O|refine R_p O ?_ O O|refine R_nil ?_|refine R_take (T_loads (ds:=atc x.pl) O O O O O) ?_ O O|refine R_take (T_loads (ds:=atc y.pl) O O O O O) ?_ O O|refine R_take (T_load O O O O) ?_ O O|refine S_seq O ?_|refine S_region O O ?_|refine S_false O O ?_|refine S_block O ?_|refine S_skip O ?_|(refine R_eff (E_boxa (cs:=mgc x p) O) ?_ O O;rintro _ _ ⟨b2,rfl,rfl⟩)|(refine R_eff (E_boxa (cs:=mgc y q) O) ?_ O O;rintro _ _ ⟨b3,rfl,rfl⟩))
 refine S_loop (X:=Nat) (fun j=>[(2,.pointer (some ⟨b2,0,none⟩)),(3,.pointer (some ⟨b3,0,none⟩)),(5,.int .i64 (j:Int))]) (fun _=>[pt b2 65 (mgc x p),pt b3 65 (mgc y q)]) (fun j=>j≤p.n∧ ∀ i,i<j→x.es.getD i default=y.es.getD i default) (fun j=>p.n-j) O 0 ⟨Nat.zero_le _,fun i hi=>absurd hi (Nat.not_lt_zero _)⟩ (Sub.cons O (Sub.cons O (Sub.cons O Sub.nil))) sub_st ?_
 rintro j ⟨hj,hok⟩ J hJ
 rcases Nat.lt_or_ge j p.n with hjl|hjl
 ·have hne:=hne (by omega)
  have hmb:=hmb (by omega)
  have hjm:j<q.n:=by omega
  have hQ1:=h.hn
  have hQ2:=h2.hn
  have hat:=cellsL_at (f:=emc) emc_len p.Q default j (by omega)
  have hau:=cellsL_at (f:=emc) emc_len q.Q default j (by omega)
  have eq1:x.es.getD j default=emv (p.Q.getD j default):=by rw[← h.hQ];simp[List.getD,show j<p.Q.length by omega]
  have eq2:y.es.getD j default=emv (q.Q.getD j default):=by rw[← h2.hQ];simp[List.getD,show j<q.Q.length by omega]
  have hb1:=h.bq (p.Q.getD j default) (by simp[List.getD,show j<p.Q.length by omega])
  have hb2:=h2.bq (q.Q.getD j default) (by simp[List.getD,show j<q.Q.length by omega])
  have hnx:emv (p.Q.getD j default)=emv (q.Q.getD j default)→ ∀ i,i<j+1→x.es.getD i default=y.es.getD i default:=fun e i hi=>by
   rcases Nat.lt_or_ge i j with h3|h3
   ·exact hok i h3
   ·rw[show i=j by omega,eq1,eq2];exact e
  have hno:emv (p.Q.getD j default)≠emv (q.Q.getD j default)→(eqL x y).all id=false:=fun e=>es_no (j:=j) (by rw[eq1,eq2];exact e)
  generalize p.Q.getD j default=m at hat hb1 hnx hno
  generalize q.Q.getD j default=m2 at hau hb2 hnx hno
  obtain⟨f,t,F,cf,l⟩:=m
  obtain⟨f2,t2,F2,cf2,l2⟩:=m2
  have hb1:Bs w All F l.length cf l:=hb1
  have hb2:Bs w All F2 l2.length cf2 l2:=hb2
  have hat0:(cellsL emc p.Q)[j*3+0]? =some (.int .u64 (f:Int)):=hat 0 _ O
  have hat1:(cellsL emc p.Q)[j*3+1]? =some (.int .i64 t):=hat 1 _ O
  have hat2:(cellsL emc p.Q)[j*3+2]? =some (.slice F l.length cf):=hat 2 _ O
  have hau0:(cellsL emc q.Q)[j*3+0]? =some (.int .u64 (f2:Int)):=hau 0 _ O
  have hau1:(cellsL emc q.Q)[j*3+1]? =some (.int .i64 t2):=hau 1 _ O
  have hau2:(cellsL emc q.Q)[j*3+2]? =some (.slice F2 l2.length cf2):=hau 2 _ O
  obtain⟨lq,hlq⟩: ∃ q,decide (l=l2)=q:=⟨_,O⟩
  focus (refine qq ?_;refine qs ?_;refine qp ?_;refine qp ?_;refine qt (T_load O O O O) ?_;refine qp ?_;refine qd ?_;refine qz ?_;refine qT ?_;refine qx ?_;refine qq ?_;refine qb ?_;refine qq ?_)
  by_cases e1:f=f2
  ·by_cases e2:t=t2
   ·skip
    refine S_draw ([pt b2 65 (mgc x p),pt b3 65 (mgc y q)]) sub_st (by kernel_rfl) O (by kernel_rfl) (by kernel_rfl:_=44) ?_
    refine dp 0 ?_
    refine dl 1 ?_
    refine dp 2 ?_
    refine dt 3 O (T_ixM (sz:=3) (q:=j) O O O O O O hne hjl) ?_
    refine dt 4 O (T_fap O O O O O hne) ?_
    refine dt 5 O (T_ldr O O O (Srd.old h.rq (fun k _=>noOwns k)) (by omega) hat0) ?_
    refine dp 6 ?_
    refine dl 7 ?_
    refine dp 8 ?_
    refine dt 9 O (T_ixM (sz:=3) (q:=j) O O O O O O hmb hjm) ?_
    refine dt 10 O (T_fap O O O O O hmb) ?_
    refine dt 11 O (T_ldr O O O (Srd.old h2.rq (fun k _=>noOwns k)) (by omega) hau0) ?_
    refine dqF 12 ?_
    refine dp 13 ?_
    refine dp 14 ?_
    refine dl 15 ?_
    refine dp 16 ?_
    refine dt 17 O (T_ixM (sz:=3) (q:=j) O O O O O O hne hjl) ?_
    refine dt 18 O (T_fap O O O O O hne) ?_
    refine dt 19 O (T_ldr O O O (Srd.old h.rq (fun k _=>noOwns k)) (by omega) hat1) ?_
    refine dp 20 ?_
    refine dl 21 ?_
    refine dp 22 ?_
    refine dt 23 O (T_ixM (sz:=3) (q:=j) O O O O O O hmb hjm) ?_
    refine dt 24 O (T_fap O O O O O hmb) ?_
    refine dt 25 O (T_ldr O O O (Srd.old h2.rq (fun k _=>noOwns k)) (by omega) hau1) ?_
    refine dqF 26 ?_
    refine dp 27 ?_
    refine dp 28 ?_
    refine dp 29 ?_
    refine dl 30 ?_
    refine dp 31 ?_
    refine dt 32 O (T_ixM (sz:=3) (q:=j) O O O O O O hne hjl) ?_
    refine dt 33 O (T_fap O O O O O hne) ?_
    refine dt 34 O (T_ldr O O O (Srd.old h.rq (fun k _=>noOwns k)) (by omega) hat2) ?_
    refine dp 35 ?_
    refine dl 36 ?_
    refine dp 37 ?_
    refine dt 38 O (T_ixM (sz:=3) (q:=j) O O O O O O hmb hjm) ?_
    refine dt 39 O (T_fap O O O O O hmb) ?_
    refine dt 40 O (T_ldr O O O (Srd.old h2.rq (fun k _=>noOwns k)) (by omega) hau2) ?_
    refine D_one 41 O (E_hv0 (f:=155) F155 (fun w hS=>s01_k w F F2 l.length cf l2.length cf2 l l2 ((Src.old hb1 (fun k _=>noOwns k)).bs w hS) ((Src.old hb2 (fun k _=>noOwns k)).bs w hS) _ hlq) O O (fun _=>O)) ?_ O O (by kernel_rfl)
    rintro _ _ ⟨_,rfl,_,rfl⟩
    refine nx ?_
    refine dt 42 O (T_not O) ?_
    refine dp 43 ?_
    refine dn ?_
    skip
    cases lq
    ·rw[hno (fun e=>of_decide_eq_false hlq (congrArg (fun z:En=>z.2.2) e))] at hr
     subst hr
     focus (refine qT ?_;refine qs ?_;refine qp ?_;refine qz ?_)
     exact hB _ _ _ _ _ O O (qE O)
    ·focus (refine qF ?_;refine qx ?_;refine RS_blk ?_;refine qr ?_;refine qp ?_;refine qt (T_addN O O (by unfold fits;omega)) ?_;refine qp ?_;refine qz ?_)
     exact hJ (j+1) _ _ ⟨by omega,hnx (by show (f,t,l)=(f2,t2,l2);rw[e1,e2,of_decide_eq_true hlq])⟩ (Sub.cons O (Sub.cons O (Sub.cons O Sub.nil))) sub_st (by omega)
   ·rw[hno (fun e=>e2 (congrArg (fun z:En=>z.2.1) e))] at hr
    subst hr
    refine S_draw ([pt b2 65 (mgc x p),pt b3 65 (mgc y q)]) sub_st (by kernel_rfl) O (by kernel_rfl) (by kernel_rfl:_=44) ?_
    refine dp 0 ?_
    refine dl 1 ?_
    refine dp 2 ?_
    refine dt 3 O (T_ixM (sz:=3) (q:=j) O O O O O O hne hjl) ?_
    refine dt 4 O (T_fap O O O O O hne) ?_
    refine dt 5 O (T_ldr O O O (Srd.old h.rq (fun k _=>noOwns k)) (by omega) hat0) ?_
    refine dp 6 ?_
    refine dl 7 ?_
    refine dp 8 ?_
    refine dt 9 O (T_ixM (sz:=3) (q:=j) O O O O O O hmb hjm) ?_
    refine dt 10 O (T_fap O O O O O hmb) ?_
    refine dt 11 O (T_ldr O O O (Srd.old h2.rq (fun k _=>noOwns k)) (by omega) hau0) ?_
    refine dqF 12 ?_
    refine dp 13 ?_
    refine dp 14 ?_
    refine dl 15 ?_
    refine dp 16 ?_
    refine dt 17 O (T_ixM (sz:=3) (q:=j) O O O O O O hne hjl) ?_
    refine dt 18 O (T_fap O O O O O hne) ?_
    refine dt 19 O (T_ldr O O O (Srd.old h.rq (fun k _=>noOwns k)) (by omega) hat1) ?_
    refine dp 20 ?_
    refine dl 21 ?_
    refine dp 22 ?_
    refine dt 23 O (T_ixM (sz:=3) (q:=j) O O O O O O hmb hjm) ?_
    refine dt 24 O (T_fap O O O O O hmb) ?_
    refine dt 25 O (T_ldr O O O (Srd.old h2.rq (fun k _=>noOwns k)) (by omega) hau1) ?_
    refine dqT 26 ?_
    refine dp 27 ?_
    refine dp 28 ?_
    refine dk 29 ?_
    refine dk 30 ?_
    refine dk 31 ?_
    refine dk 32 ?_
    refine dk 33 ?_
    refine dk 34 ?_
    refine dk 35 ?_
    refine dk 36 ?_
    refine dk 37 ?_
    refine dk 38 ?_
    refine dk 39 ?_
    refine dk 40 ?_
    refine dk 41 ?_
    refine dk 42 ?_
    refine dp 43 ?_
    refine dn ?_
    skip
    focus (refine qT ?_;refine qs ?_;refine qp ?_;refine qz ?_)
    exact hB _ _ _ _ _ O O (qE O)
  ·rw[hno (fun e=>e1 (congrArg (fun z:En=>z.1) e))] at hr
   subst hr
   refine S_draw ([pt b2 65 (mgc x p),pt b3 65 (mgc y q)]) sub_st (by kernel_rfl) O (by kernel_rfl) (by kernel_rfl:_=44) ?_
   refine dp 0 ?_
   refine dl 1 ?_
   refine dp 2 ?_
   refine dt 3 O (T_ixM (sz:=3) (q:=j) O O O O O O hne hjl) ?_
   refine dt 4 O (T_fap O O O O O hne) ?_
   refine dt 5 O (T_ldr O O O (Srd.old h.rq (fun k _=>noOwns k)) (by omega) hat0) ?_
   refine dp 6 ?_
   refine dl 7 ?_
   refine dp 8 ?_
   refine dt 9 O (T_ixM (sz:=3) (q:=j) O O O O O O hmb hjm) ?_
   refine dt 10 O (T_fap O O O O O hmb) ?_
   refine dt 11 O (T_ldr O O O (Srd.old h2.rq (fun k _=>noOwns k)) (by omega) hau0) ?_
   refine dqT 12 ?_
   refine dp 13 ?_
   refine dk 14 ?_
   refine dk 15 ?_
   refine dk 16 ?_
   refine dk 17 ?_
   refine dk 18 ?_
   refine dk 19 ?_
   refine dk 20 ?_
   refine dk 21 ?_
   refine dk 22 ?_
   refine dk 23 ?_
   refine dk 24 ?_
   refine dk 25 ?_
   refine dk 26 ?_
   refine dp 27 ?_
   refine dp 28 ?_
   refine dk 29 ?_
   refine dk 30 ?_
   refine dk 31 ?_
   refine dk 32 ?_
   refine dk 33 ?_
   refine dk 34 ?_
   refine dk 35 ?_
   refine dk 36 ?_
   refine dk 37 ?_
   refine dk 38 ?_
   refine dk 39 ?_
   refine dk 40 ?_
   refine dk 41 ?_
   refine dk 42 ?_
   refine dp 43 ?_
   refine dn ?_
   skip
   focus (refine qT ?_;refine qs ?_;refine qp ?_;refine qz ?_)
   exact hB _ _ _ _ _ O O (qE O)
 have hlx:=h.ln
 have hly:=h2.ln
 have he5:x.es=y.es:=eq_uptoE (by omega) (fun i hi=>hok i (by omega))
 focus (refine qq ?_;refine qs ?_;refine qp ?_;refine qp ?_;refine qt (T_load O O O O) ?_;refine qp ?_;refine qf ?_;refine qz ?_;refine qF ?_;refine S_exit O O ?_;refine qq ?_;refine qs ?_;refine qp ?_;refine qz ?_;refine qb ?_)
 refine S_loop (X:=Nat) (fun j=>[(2,.pointer (some ⟨b2,0,none⟩)),(3,.pointer (some ⟨b3,0,none⟩)),(6,.int .i64 (j:Int))]) (fun _=>[pt b2 65 (mgc x p),pt b3 65 (mgc y q)]) (fun j=>j≤p.cn∧ ∀ i,i<j→x.cf.getD i 0=y.cf.getD i 0) (fun j=>p.cn-j) O 0 ⟨Nat.zero_le _,fun i hi=>absurd hi (Nat.not_lt_zero _)⟩ (Sub.cons O (Sub.cons O (Sub.cons O Sub.nil))) sub_st ?_
 clear hjl hj hok hJ J j
 rintro j ⟨hj,hok⟩ J hJ
 have hcx:=h.hc
 have hcy:=h2.hc
 rcases Nat.lt_or_ge j p.cn with hjl|hjl
 ·have hnc:=hnc (by omega)
  have hmc:=hmc (by omega)
  have hjm:j<q.cn:=by omega
  have hat:=zv_at (l:=x.cf) (j:=j) (by omega)
  have hau:=zv_at (l:=y.cf) (j:=j) (by omega)
  have hnx:x.cf.getD j 0=y.cf.getD j 0→ ∀ i,i<j+1→x.cf.getD i 0=y.cf.getD i 0:=fun e i hi=>by
   rcases Nat.lt_or_ge i j with h3|h3
   ·exact hok i h3
   ·rw[show i=j by omega];exact e
  have hno:x.cf.getD j 0≠y.cf.getD j 0→(eqL x y).all id=false:=fun e=>cf_no (j:=j) e
  generalize x.cf.getD j 0=m at hat hnx hno
  generalize y.cf.getD j 0=m2 at hau hnx hno
  unfold zv at hat hau
  focus (refine qq ?_;refine qs ?_;(iterate 3 refine qp ?_);refine qt (T_load O O O O) ?_;refine qp ?_;refine qd ?_;refine qz ?_;refine qT ?_;refine qx ?_;refine qq ?_;refine qb ?_;refine qq ?_)
  by_cases e1:m=m2
  ·skip
   refine S_draw ([pt b2 65 (mgc x p),pt b3 65 (mgc y q)]) sub_st (by kernel_rfl) O (by kernel_rfl) (by kernel_rfl:_=13) ?_
   refine dp 0 ?_
   refine dp 1 ?_
   refine dl 2 ?_
   refine dp 3 ?_
   refine dt 4 O (T_ixM (sz:=1) (q:=j) O O O O O O hnc hjl) ?_
   (refine dt 5 O (T_ldr (v:= .int .i64 m) O O O (Srd.old h.rc (fun k _=>noOwns k)) (by omega) (by rw[Nat.mul_one];exact hat)) ?_)
   refine dp 6 ?_
   refine dp 7 ?_
   refine dl 8 ?_
   refine dp 9 ?_
   refine dt 10 O (T_ixM (sz:=1) (q:=j) O O O O O O hmc hjm) ?_
   (refine dt 11 O (T_ldr (v:= .int .i64 m2) O O O (Srd.old h2.rc (fun k _=>noOwns k)) (by omega) (by rw[Nat.mul_one];exact hau)) ?_)
   refine dqF 12 ?_
   refine dn ?_
   skip
   focus (refine qF ?_;refine qx ?_;refine RS_blk ?_;refine qr ?_;refine qp ?_;refine qt (T_addN O O (by unfold fits;omega)) ?_;refine qp ?_;refine qz ?_)
   exact hJ (j+1) _ _ ⟨by omega,hnx e1⟩ (Sub.cons O (Sub.cons O (Sub.cons O Sub.nil))) sub_st (by omega)
  ·rw[hno e1] at hr
   subst hr
   refine S_draw ([pt b2 65 (mgc x p),pt b3 65 (mgc y q)]) sub_st (by kernel_rfl) O (by kernel_rfl) (by kernel_rfl:_=13) ?_
   refine dp 0 ?_
   refine dp 1 ?_
   refine dl 2 ?_
   refine dp 3 ?_
   refine dt 4 O (T_ixM (sz:=1) (q:=j) O O O O O O hnc hjl) ?_
   (refine dt 5 O (T_ldr (v:= .int .i64 m) O O O (Srd.old h.rc (fun k _=>noOwns k)) (by omega) (by rw[Nat.mul_one];exact hat)) ?_)
   refine dp 6 ?_
   refine dp 7 ?_
   refine dl 8 ?_
   refine dp 9 ?_
   refine dt 10 O (T_ixM (sz:=1) (q:=j) O O O O O O hmc hjm) ?_
   (refine dt 11 O (T_ldr (v:= .int .i64 m2) O O O (Srd.old h2.rc (fun k _=>noOwns k)) (by omega) (by rw[Nat.mul_one];exact hau)) ?_)
   refine dqT 12 ?_
   refine dn ?_
   skip
   focus (refine qT ?_;refine qs ?_;refine qp ?_;refine qz ?_)
   exact hB _ _ _ _ _ O O (qE O)
 have he9:x.cf=y.cf:=cf_eq (by omega) (fun i hi=>hok i (by omega))
 have hr2:decide (x.dt=y.dt)=r:=by
  rw[← hr,eqL_eq,decide_eq_true he0,decide_eq_true he1,decide_eq_true he2,decide_eq_true he3,he4,decide_eq_true he5,decide_eq_true he6,he7,decide_eq_true he8,decide_eq_true he9]
  cases decide (x.dt=y.dt)<;>rfl
 focus (refine qq ?_;refine qs ?_;(iterate 3 refine qp ?_);refine qt (T_load O O O O) ?_;refine qp ?_;refine qf ?_;refine qz ?_;refine qF ?_;refine S_exit O O ?_;refine qs ?_;(iterate 2 refine qp ?_;refine qt (T_load O O O O) ?_);refine qh F155 (fun w hS=>s01_k w p.dA q.dA p.dn p.dc q.dn q.dc x.dt y.dt (h.keep hS.kpO).bd (h2.keep hS.kpO).bd _ hr2) ?_;refine qp ?_;refine qz ?_)
 exact hB _ _ _ _ _ O O (qE O)
abbrev Pe:=Int×Nat×Nat
structure Rs where
 me:Int
 term:Nat
 vote:Int
 base:At
 es:List En
 cf:List Int
 commit:Nat
 role:Int
 leader:Int
 clock:Int
 limit:Int
 votes:List Int
 peers:List Pe
structure Rp where
 A:Option Addr
 n:Nat
 c:Nat
 Q:List Em
 cA:Option Addr
 cn:Nat
 cc:Nat
 vA:Option Addr
 vn:Nat
 vc:Nat
 pA:Option Addr
 pn:Nat
 pc:Nat
def pec (p:Pe):List Value:=[.int .i64 p.1,.int .u64 (p.2.1:Int),.int .u64 (p.2.2:Int)]
theorem pec_len (p:Pe):(pec p).length=3:=rfl
theorem pec_one (p:Pe): ∀ u∈pec p,u.oneCell'=true:=by simp[pec,Value.oneCell']
def rfc (x:Rs) (p:Rp):List Value:=[.int .i64 x.me,.int .u64 (x.term:Int),.int .i64 x.vote,.int .u64 (x.base.1:Int),.int .u64 (x.base.2:Int),.slice p.A p.n p.c,.slice p.cA p.cn p.cc,.int .u64 (x.commit:Int),.int .i64 x.role,.int .i64 x.leader,.int .i64 x.clock,.int .i64 x.limit,.slice p.vA p.vn p.vc,.slice p.pA p.pn p.pc]
theorem rfc_one (x:Rs) (p:Rp): ∀ u∈rfc x p,u.oneCell'=true:=by simp[rfc,Value.oneCell']
def rs0:Rs:=⟨0,0,0,(0,0),[],[],0,0,0,0,0,[],[]⟩
def rp0:Rp:=⟨none,0,0,[],none,0,0,none,0,0,none,0,0⟩
theorem rf_zero:ti42.zero= .agg (rfc rs0 rp0).toArray:=by kernel_rfl
theorem rf_built0:Tryz.prog.built 42 []=some (rfc rs0 rp0).toArray:=by kernel_rfl
structure LgR (w:World) (x:Rs) (p:Rp):Prop where
 hn:p.Q.length=p.n
 hm:p.n≤1000
 hc:p.n≤p.c
 hQ:p.Q.map emv=x.es
 rq:Rd w All 3 p.A p.n (cellsL emc p.Q)
 bq: ∀ m∈p.Q,BsM w m
 hd: ∀ m∈p.Q,m.2.2.2.2.length≤100000
 hcn:x.cf.length=p.cn
 hcm:p.cn≤900
 rc:Rd w All 1 p.cA p.cn (x.cf.map zv)
structure RsU (x:Rs):Prop where
 tm:x.term<18446744073709551616
 b1:x.base.1<18446744073709551616
 b2:x.base.2<18446744073709551616
 cm:x.commit<18446744073709551616
 pe: ∀ p∈x.peers,p.2.1<18446744073709551616∧p.2.2<18446744073709551616
structure RfR (w:World) (x:Rs) (p:Rp):Prop where
 lg:LgR w x p
 hvn:x.votes.length=p.vn
 hvm:p.vn≤900
 rv:Rd w All 1 p.vA p.vn (x.votes.map zv)
 hpn:x.peers.length=p.pn
 hpm:p.pn≤900
 rp:Rd w All 3 p.pA p.pn (cellsL pec x.peers)
 hu:RsU x
theorem LgR.keep {w w':World} {x:Rs} {p:Rp} (h:LgR w x p) (hk:Kp All w w'):LgR w' x p:=⟨h.hn,h.hm,h.hc,h.hQ,h.rq.keep hk,fun m hm=>Bs.keep (h.bq m hm) hk,h.hd,h.hcn,h.hcm,h.rc.keep hk⟩
theorem RfR.keep {w w':World} {x:Rs} {p:Rp} (h:RfR w x p) (hk:Kp All w w'):RfR w' x p:=⟨h.lg.keep hk,h.hvn,h.hvm,h.rv.keep hk,h.hpn,h.hpm,h.rp.keep hk,h.hu⟩
theorem LgR.ln {w:World} {x:Rs} {p:Rp} (h:LgR w x p):x.es.length=p.n:=by rw[← h.hQ,List.length_map,h.hn]
theorem LgR.dt {w:World} {x:Rs} {p:Rp} (h:LgR w x p):RDt w All (p.Q.map emd):=fun d hd=>by
 obtain⟨m,hm,rfl⟩:=List.mem_map.1 hd
 exact(h.bq m hm).rd
theorem LgR.like {w:World} {x y:Rs} {p q:Rp} (h:LgR w x p) (h1:y.es=x.es) (h2:y.cf=x.cf) (h3:q.Q=p.Q) (h4:q.n=p.n) (h5:q.c=p.c) (h6:q.A=p.A) (h7:q.cA=p.cA) (h8:q.cn=p.cn):LgR w y q:=
 ⟨by rw[h3,h4];exact h.hn,by rw[h4];exact h.hm,by rw[h4,h5];exact h.hc,by rw[h3,h1];exact h.hQ,by rw[h3,h4,h6];exact h.rq,by rw[h3];exact h.bq,by rw[h3];exact h.hd,by rw[h2,h8];exact h.hcn,by rw[h8];exact h.hcm,by rw[h2,h7,h8];exact h.rc⟩
def lastP (x:Rs):At:=if rightB x.base x.es=true then lastA x.base x.es else (0,0)
def saysB (d:List UInt8):Bool:=decide (C.decE d=0)
def soundB (l:List En):Bool:=l.all fun e=> !(decide (e.2.1=3)&& !saysB e.2.2)
def srvB (n:Int):Bool:=decide (1≤n)&&decide (n≤5)
def risG:Int→List Int→Bool
 |_,[]=>true
 |p,n::l=>srvB n&&decide (p<n)&&risG n l
def risB (l:List Int):Bool:=risG 0 l
def othL (me:Int):List Int:=[1,2,3,4,5].filter fun n=> !decide (n=me)
def prsG (last:Nat):List Pe→List Int→Bool
 |[],[]=>true
 |p::l,n::m=>decide (p.1=n)&&decide (1≤p.2.1)&&decide (p.2.1≤last+1)&&decide (p.2.2<p.2.1)&&prsG last l m
 |_,_=>false
def roleB (x:Rs) (last:Nat):Bool:=
 decide (1≤x.role)&&decide (x.role≤4)&&(decide (x.role=4)==decide (x.leader=x.me))&& !((decide (x.role=3)||decide (x.role=2))&& !decide (x.leader=0))&&
 (!(decide (x.role=3)||decide (x.role=4))||(decide (x.vote=x.me)&& !decide (x.term=0)))&&
 (if x.role=3∨x.role=2 then risB x.votes&&decide (x.me∈x.votes) else decide (x.votes.length=0))&&
 (if x.role=4 then prsG last x.peers (othL x.me) else decide (x.peers.length=0))
def checkB (x:Rs):Bool:=
 srvB x.me&&decide (x.term≤4611686018427387904)&&decide (0≤x.vote)&&decide (x.vote≤5)&&decide (0≤x.leader)&&decide (x.leader≤5)&&decide (chkE x.base x.es x.term=0)&&C.right x.cf&&soundB x.es&&
 decide (x.base.1≤x.commit)&&decide (x.commit≤(lastP x).1)&&decide (4≤x.limit)&&decide (x.limit≤16)&&decide (0≤x.clock)&&decide (x.clock≤x.limit)&&roleB x (lastP x).1
def forceL (x:Rs) (idx:Nat):List Int:=if (confR x.base x.es idx).2.2=true then C.decL (confR x.base x.es idx).2.1 else x.cf
def nowL (x:Rs):List Int:=forceL x (lastP x).1
def folR (x:Rs):Rs:={x with role:=1,votes:=[],peers:=[],leader:=0}
def ms0:Ms:=⟨0,0,0,0,(0,0),[],0,false,0,[],[]⟩
def nextM (x:Rs) (who:Int):List Ms:=match x.peers.find? (fun p=>decide (p.1=who)) with
 |none=>[]
 |some p=>if p.2.1≤x.base.1 then [{ms0 with K:=7,F:=x.me,T:=who,tm:=x.term,pl:=x.base,cf:=x.cf}]
  else [{ms0 with K:=5,F:=x.me,T:=who,tm:=x.term,pl:=(frm x.base x.es p.2.1 8).2.1,es:=(frm x.base x.es p.2.1 8).2.2,cm:=x.commit}]
def felL (x:Rs):List Int:=(nowL x).filter fun n=> !decide (n=x.me)
def agrN (ms:List Int) (L:List (Int×Nat)):Nat:=if C.right ms=true then C.ragN L ms ms.length else 0
def mtcL (x:Rs):List (Int×Nat):=(x.me,(lastP x).1)::x.peers.map fun p=>(p.1,p.2.2)
def comN (x:Rs):Nat:=if x.commit<agrN (nowL x) (mtcL x)∧(termR x.base x.es (agrN (nowL x) (mtcL x))).1=x.term then agrN (nowL x) (mtcL x) else x.commit
def comR (x:Rs):Rs:=if (confR x.base x.es (lastP x).1).2.2=true∧(confR x.base x.es (lastP x).1).1≤comN x∧(C.right (nowL x)&&decide (x.me∈nowL x))=false then folR {x with commit:=comN x} else {x with commit:=comN x}
def stdX (x:Rs):Rs:={x with term:=x.term+1,role:=3,vote:=x.me,votes:=[x.me],leader:=0}
def askX (x:Rs):Rs:={x with role:=2,votes:=[x.me],leader:=0}
def vtsL (l:List Int) (n:Int):List Int:=if n∈l then l else l.take (C.cut l n)++n::l.drop (C.cut l n)
def lackM (x:Rs) (who:Int):List Ms:=match x.peers.find? (fun p=>decide (p.1=who)) with
 |none=>[]
 |some p=>if p.2.1≤(lastP x).1 then nextM x who else []
theorem rserver_any (w:World) (n:Int) (r:Bool) (hr:srvB n=r):
  Gives Tryz.prog 93 [.int .i64 n] [] w (X:=Unit) (fun _=> .bool r) (fun _=>True) (fun _=>[]):=by
 refine gives_S Tryz.func93 O Tryz.ntmps93 Tryz.results93 (by simp) (St.enter w) (fun B hB=>?_)
 subst hr
 unfold srvB at hB
 by_cases h1:1≤n
 ·by_cases h2:n≤5
  ·rw[decide_eq_true h1,decide_eq_true h2] at hB
   repeat' (first|refine R_take (T_decT O (by omega)) ?_ O O|refine R_p O ?_ O O|refine R_nil ?_|refine S_seq O ?_|refine S_region O O ?_)
   exact hB _ _ _ _ _ O O (qE O)
  ·rw[decide_eq_true h1,decide_eq_false h2] at hB
   repeat' (first|refine R_take (T_decT O (by omega)) ?_ O O|refine R_take (T_decF O (by omega)) ?_ O O|refine R_p O ?_ O O|refine R_nil ?_|refine S_seq O ?_|refine S_region O O ?_)
   exact hB _ _ _ _ _ O O (qE O)
 ·rw[decide_eq_false h1,Bool.false_and] at hB
  repeat' (first|refine R_take (T_decF O (by omega)) ?_ O O|refine R_p O ?_ O O|refine R_nil ?_|refine R_skip ?_ O O|refine S_seq O ?_|refine S_region O O ?_)
  exact hB _ _ _ _ _ O O (qE O)
theorem dec_k (w:World) (A:Option Addr) (n c:Nat) (l:List UInt8) (h:Bs w All A n c l) (hn:n≤100000) (e:Int) (he:C.decE l=e) (ms:List Int) (hm:C.decL l=ms) (K:Nat) (hK:ms.length=K):
  Gives Tryz.prog 120 [.slice A n c] [] w (X:=Option Addr×Nat) (fun x=> .tuple #[C.cfv x.1 K x.2,.int .i64 e]) (fun _=>True) (fun x=>[row 3 1 x.1 K x.2 (ms.map zv)]):=by
 subst hK
 subst hm
 subst he
 exact C.dec_any w A n c l h hn
theorem rsays_any (w:World) (m:Em) (h:BsM w m) (hn:m.2.2.2.2.length≤100000) (q:Bool) (hq:saysB m.2.2.2.2=q) (ms:List Int) (hm:C.decL m.2.2.2.2=ms) (K:Nat) (hK:ms.length=K):
  Gives Tryz.prog 48 [.agg (emc m).toArray] [] w (X:=Option Addr×Nat) (fun x=> .tuple #[C.cfv x.1 K x.2,.bool q]) (fun _=>True) (fun x=>[row 3 1 x.1 K x.2 (ms.map zv)]):=by
 refine gives_C Tryz.func48 O Tryz.ntmps48 Tryz.results48 (by simp) (St.enter w) (fun B hB=>?_)
 obtain⟨t,k,A,c,l⟩:=m
 dsimp only at hn hq hm
 have h:Bs w All A l.length c l:=h
 obtain⟨e,he⟩: ∃ e,C.decE l=e:=⟨_,O⟩
 have hq:decide (e=0)=q:=by rw[← hq,saysB,he]
 focus (refine qs ?_;(refine qe (E_boxa (cs:=emc (t,k,A,c,l)) O) ?_;rintro _ _ ⟨b1,rfl,rfl⟩);(refine qe (E_alloca O C.cf_alloc) ?_;rintro _ _ ⟨b2,rfl,rfl⟩);refine qp ?_;refine qn ?_;refine qp ?_;refine qt (T_load O O O O) ?_;(refine qe (E_hv1 (f:=120) F120 (fun w' hS=>dec_k w' A l.length c l (Bs.keep h hS.kpO) hn e he ms hm K hK) O O (fun _=>O)) ?_;rintro _ _ ⟨⟨A3,c3⟩,rfl,_,rfl⟩);(iterate 3 refine qp ?_);(refine qe (E_alloca O C.cf_alloc) ?_;rintro _ _ ⟨b2,rfl,rfl⟩);(refine qw (E_storew (cs:=[.slice none 0 0]) (ds:=[.slice A3 K c3]) O O O O (C.sl_one _ _ _) O) ?_;rintro _ _ rfl);refine qp ?_;refine qn ?_;refine qt (T_loads (ds:=[.slice A3 K c3]) O O O O O) ?_;refine qp ?_;refine qp ?_;(refine qw (E_storew (cs:=[.slice none 0 0]) (ds:=[.slice A3 K c3]) O O O O (C.sl_one _ _ _) O) ?_;rintro _ _ rfl);refine qp ?_;refine qz ?_)
 refine hB _ _ _ _ _ O (.cell O O O inferInstance O (.tmp O .nil)) fun w' hS=>⟨(A3,c3),?_,trivial,sub_st (H':=[row 3 1 A3 K c3 (ms.map zv)]) w' hS⟩
 rw[← hq]
 rfl
theorem sound_take (Q:List Em) (j:Nat) (hj:j<Q.length) {m:Em} (hm:Q.getD j default=m):soundB ((Q.take (j+1)).map emv)=(soundB ((Q.take j).map emv)&& !(decide (m.2.1=3)&& !saysB m.2.2.2.2)):=by
 rw[emv_take Q j hj hm,soundB,List.all_append]
 simp[soundB,emv]
theorem sound_bad (Q:List Em) (j:Nat) (hj:j<Q.length) {m:Em} (hm:Q.getD j default=m) (h:(decide (m.2.1=3)&& !saysB m.2.2.2.2)=true):soundB (Q.map emv)=false:=by
 rw[emv_drop Q j hj hm,soundB,List.all_append,List.all_cons]
 have:(!(decide ((emv m).2.1=3)&& !saysB (emv m).2.2))=false:=by
  show (!(decide (m.2.1=3)&& !saysB m.2.2.2.2))=false
  rw[h]
  rfl
 rw[this,Bool.false_and,Bool.and_false]
theorem rsound_any (w:World) (A:Option Addr) (c k:Nat) (Q:List Em) (hk:Q.length=k) (h:Rd w All 3 A k (cellsL emc Q)) (hq: ∀ m∈Q,BsM w m) (hd: ∀ m∈Q,m.2.2.2.2.length≤100000) (hn:k≤100000) (r:Bool) (hr:soundB (Q.map emv)=r):
  Gives Tryz.prog 96 [.slice A k c] [] w (X:=Unit) (fun _=> .bool r) (fun _=>True) (fun _=>[]):=by
 refine gives_S Tryz.func96 O Tryz.ntmps96 Tryz.results96 (by simp) (St.enter w) (fun B hB=>?_)
 subst hk
 have hne:0<Q.length→A≠none:=fun h0=>by obtain⟨ad,rfl,_⟩:=h.2 (by omega);simp
 focus (refine qs ?_;refine qp ?_;refine qz ?_;refine qq ?_;refine qs ?_;(iterate 3 refine qp ?_);refine qz ?_;refine qb ?_)
 refine S_loop (X:=Nat) (fun j=>[(7,.slice A Q.length c),(8,.int .i64 (Q.length:Int)),(9,.int .i64 (j:Int))]) (fun _=>[]) (fun j=>j≤Q.length∧soundB ((Q.take j).map emv)=true) (fun j=>Q.length-j) O 0 ⟨Nat.zero_le _,O⟩ (Sub.cons O (Sub.cons O (Sub.cons O Sub.nil))) (fun _ h=>h.sublist (List.nil_sublist _)) ?_
 rintro j ⟨hj,hok⟩ J hJ
 rcases Nat.lt_or_ge j Q.length with hjl|hjl
 ·have hne:=hne (by omega)
  have hat:=cellsL_at (f:=emc) emc_len Q default j hjl
  obtain⟨m,hm⟩: ∃ m,Q.getD j default=m:=⟨_,O⟩
  have hmem:m∈Q:=by rw[← hm];simp[List.getD,hjl]
  have hb:=hq m hmem
  have hl:=hd m hmem
  have hnx:=sound_take Q j hjl hm
  have hbad:=sound_bad Q j hjl hm
  rw[hok,Bool.true_and] at hnx
  rw[hm] at hat
  obtain⟨q,hqq⟩: ∃ q,saysB m.2.2.2.2=q:=⟨_,O⟩
  obtain⟨ms,hms⟩: ∃ ms,C.decL m.2.2.2.2=ms:=⟨_,O⟩
  obtain⟨K,hK⟩: ∃ K,ms.length=K:=⟨_,O⟩
  rw[hqq] at hnx hbad
  by_cases h3:m.2.1=3
  ·cases q
   ·have hf:=hbad (by rw[decide_eq_true h3];rfl)
    rw[hr] at hf
    subst hf
    focus (refine qs ?_;refine qd ?_;refine qz ?_;refine qq ?_;refine qT ?_;refine qx ?_;refine qq ?_;refine qb ?_;refine qs ?_;refine qt (T_ixM (sz:=3) O O O O O O hne hjl) ?_;refine qt (T_lda (ds:=emc m) O O O (Srd.old h (fun k _=>noOwns k)) O (by omega) hat) ?_;(refine qe (E_alloca O em_zero) ?_;rintro _ _ ⟨b4,rfl,rfl⟩);(refine qw (E_storew (cs:=emc (0,0,none,0,[])) (ds:=emc m) O O O O (emc_one _) O) ?_;rintro _ _ rfl);refine qn ?_;refine qt (T_loads (ds:=emc m) O O O O O) ?_;(refine qe (E_hv1 (f:=48) F48 (fun w' hS=>rsays_any w' m (Bs.keep hb hS.kpO) hl _ hqq ms hms K hK) O O (fun _=>O)) ?_;rintro _ _ ⟨⟨A3,c3⟩,rfl,_,rfl⟩);(iterate 3 refine qp ?_);(refine qe (E_alloca O C.cf_alloc) ?_;rintro _ _ ⟨b5,rfl,rfl⟩);(refine qw (E_storew (cs:=[.slice none 0 0]) (ds:=[.slice A3 K c3]) O O O O (C.sl_one _ _ _) O) ?_;rintro _ _ rfl);refine qp ?_;refine qn ?_;refine qp ?_;refine qt (T_load O O O O) ?_;refine qd ?_;refine qd ?_;refine qp ?_;refine qt (T_not O) ?_;refine qd ?_;refine qz ?_;refine qT ?_;refine qs ?_;refine qp ?_;refine qz ?_)
    exact hB _ _ _ _ _ O O (qE O)
   ·focus (refine qs ?_;refine qd ?_;refine qz ?_;refine qq ?_;refine qT ?_;refine qx ?_;refine qq ?_;refine qb ?_;refine qs ?_;refine qt (T_ixM (sz:=3) O O O O O O hne hjl) ?_;refine qt (T_lda (ds:=emc m) O O O (Srd.old h (fun k _=>noOwns k)) O (by omega) hat) ?_;(refine qe (E_alloca O em_zero) ?_;rintro _ _ ⟨b4,rfl,rfl⟩);(refine qw (E_storew (cs:=emc (0,0,none,0,[])) (ds:=emc m) O O O O (emc_one _) O) ?_;rintro _ _ rfl);refine qn ?_;refine qt (T_loads (ds:=emc m) O O O O O) ?_;(refine qe (E_hv1 (f:=48) F48 (fun w' hS=>rsays_any w' m (Bs.keep hb hS.kpO) hl _ hqq ms hms K hK) O O (fun _=>O)) ?_;rintro _ _ ⟨⟨A3,c3⟩,rfl,_,rfl⟩);refine qp ?_;refine qp ?_;refine qd ?_;(refine qe (E_alloca O C.cf_alloc) ?_;rintro _ _ ⟨b5,rfl,rfl⟩);(refine qw (E_storew (cs:=[.slice none 0 0]) (ds:=[.slice A3 K c3]) O O O O (C.sl_one _ _ _) O) ?_;rintro _ _ rfl);refine qd ?_;refine qn ?_;refine qp ?_;refine qt (T_load O O O O) ?_;(iterate 3 refine qd ?_);refine qt (T_not O) ?_;refine qp ?_;refine qz ?_;refine qF ?_;refine qx ?_;refine RS_blk ?_;refine qr ?_;refine qt (T_addN O O (by unfold fits;omega)) ?_;refine qp ?_;refine qz ?_)
    exact hJ (j+1) _ _ ⟨by omega,by rw[hnx];simp⟩ (Sub.cons O (Sub.cons O (Sub.cons O Sub.nil))) (fun _ h=>h.sublist (List.nil_sublist _)) (by omega)
  ·focus (refine qs ?_;refine qd ?_;refine qz ?_;refine qq ?_;refine qT ?_;refine qx ?_;refine qq ?_;refine qb ?_;refine qs ?_;refine qt (T_ixM (sz:=3) O O O O O O hne hjl) ?_;refine qt (T_lda (ds:=emc m) O O O (Srd.old h (fun k _=>noOwns k)) O (by omega) hat) ?_;(refine qe (E_alloca O em_zero) ?_;rintro _ _ ⟨b4,rfl,rfl⟩);(refine qw (E_storew (cs:=emc (0,0,none,0,[])) (ds:=emc m) O O O O (emc_one _) O) ?_;rintro _ _ rfl);refine qn ?_;refine qt (T_loads (ds:=emc m) O O O O O) ?_;(refine qe (E_hv1 (f:=48) F48 (fun w' hS=>rsays_any w' m (Bs.keep hb hS.kpO) hl _ hqq ms hms K hK) O O (fun _=>O)) ?_;rintro _ _ ⟨⟨A3,c3⟩,rfl,_,rfl⟩);(iterate 3 refine qp ?_);(refine qe (E_alloca O C.cf_alloc) ?_;rintro _ _ ⟨b5,rfl,rfl⟩);(refine qw (E_storew (cs:=[.slice none 0 0]) (ds:=[.slice A3 K c3]) O O O O (C.sl_one _ _ _) O) ?_;rintro _ _ rfl);refine qp ?_;refine qn ?_;refine qp ?_;refine qt (T_load O O O O) ?_;refine qf ?_;refine qp ?_;refine qk ?_;refine qk ?_;refine qp ?_;refine qz ?_;refine qF ?_;refine qx ?_;refine RS_blk ?_;refine qr ?_;refine qt (T_addN O O (by unfold fits;omega)) ?_;refine qp ?_;refine qz ?_)
   exact hJ (j+1) _ _ ⟨by omega,by rw[hnx,decide_eq_false h3];rfl⟩ (Sub.cons O (Sub.cons O (Sub.cons O Sub.nil))) (fun _ h=>h.sublist (List.nil_sublist _)) (by omega)
 have hjn:j=Q.length:=by omega
 subst hjn
 rw[List.take_length,hr] at hok
 subst hok
 focus (refine qs ?_;refine qf ?_;refine qz ?_;refine qq ?_;refine qF ?_;refine S_exit O O ?_;refine qs ?_;refine qp ?_;refine qz ?_)
 exact hB _ _ _ _ _ O O (qE O)
theorem risG_app: ∀ (l:List Int) (p n:Int),risG p (l++[n])=(risG p l&&srvB n&&decide ((l.getLast?.getD p)<n))
 |[],p,n=>by
  show (srvB n&&decide (p<n)&&true)=(true&&srvB n&&decide (p<n))
  rw[Bool.and_true,Bool.true_and]
 |x::l,p,n=>by
  have ih:=risG_app l x n
  simp only[List.cons_append,risG,ih,List.getLast?_cons,Option.getD_some]
  simp only[Bool.and_assoc]
theorem risG_pre: ∀ (l m:List Int) (p:Int),risG p (l++m)=true→risG p l=true
 |[],_,_,_=>rfl
 |x::l,m,p,h=>by
  simp only[List.cons_append,risG,Bool.and_eq_true] at h ⊢
  exact⟨h.1,risG_pre l m x h.2⟩
theorem ris_next (l:List Int) (j:Nat) (hj:j<l.length):risB (l.take (j+1))=(risB (l.take j)&&srvB (l.getD j 0)&&(decide (j=0)||decide (l.getD (j-1) 0<l.getD j 0))):=by
 have e:l.take (j+1)=l.take j++[l.getD j 0]:=by rw[List.take_succ_eq_append_getElem hj];simp[List.getD,hj]
 rw[risB,e,risG_app,risB]
 rcases Nat.eq_zero_or_pos j with h0|h0
 ·subst h0
  cases hs:srvB (l.getD 0 0)
  ·simp
  ·have:0<l.getD 0 0:=by simp only[srvB,Bool.and_eq_true,decide_eq_true_eq] at hs;omega
   simp only[List.take_zero,List.getLast?_nil,Option.getD_none,this,decide_true,Bool.and_true,Bool.true_or]
 ·have:(l.take j).getLast?.getD 0=l.getD (j-1) 0:=by
   rw[List.getLast?_eq_getElem?,List.length_take,Nat.min_eq_left (by omega),List.getElem?_take,if_pos (by omega),List.getD]
  rw[this,decide_eq_false (show ¬ j=0 by omega),Bool.false_or]
theorem ris_bad (l:List Int) (j:Nat) (hj:j<l.length) (h:risB (l.take (j+1))=false):risB l=false:=by
 rw[Bool.eq_false_iff] at h ⊢
 intro h2
 refine h (risG_pre _ (l.drop (j+1)) 0 ?_)
 rw[List.take_append_drop]
 exact h2
theorem rrising_any (w:World) (A:Option Addr) (n c:Nat) (l:List Int) (h:Rd w All 1 A n (l.map zv)) (hn:n≤100000) (r:Bool) (hr:risB l=r):
  Gives Tryz.prog 157 [.slice A n c] [] w (X:=Unit) (fun _=> .bool r) (fun _=>True) (fun _=>[]):=by
 refine gives_S Tryz.func157 O Tryz.ntmps157 Tryz.results157 (by simp) (St.enter w) (fun B hB=>?_)
 have hl:l.length=n:=by have:=h.1;simpa using this
 have hne:0<n→A≠none:=fun h0=>by obtain⟨ad,rfl,_⟩:=h.2 (by omega);simp
 subst hl
 focus (refine qs ?_;refine qp ?_;refine qz ?_;refine qq ?_;refine qs ?_;(iterate 3 refine qp ?_);refine qz ?_;refine qb ?_)
 refine S_loop (X:=Nat) (fun j=>[(0,.slice A l.length c),(5,.slice A l.length c),(6,.int .i64 (l.length:Int)),(7,.int .i64 (j:Int))]) (fun _=>[]) (fun j=>j≤l.length∧risB (l.take j)=true) (fun j=>l.length-j) O 0 ⟨Nat.zero_le _,O⟩ (Sub.cons O (Sub.cons O (Sub.cons O (Sub.cons O Sub.nil)))) (fun _ h=>h.sublist (List.nil_sublist _)) ?_
 rintro j ⟨hj,hok⟩ J hJ
 rcases Nat.lt_or_ge j l.length with hjl|hjl
 ·have hne:=hne (by omega)
  have hat:=zv_at (l:=l) (j:=j) hjl
  have hat2:=zv_at (l:=l) (j:=j-1) (by omega)
  have hnx:=ris_next l j hjl
  have hbad:=ris_bad l j hjl
  rw[hr] at hbad
  rw[hok,Bool.true_and] at hnx
  obtain⟨x,hx⟩: ∃ x,l.getD j 0=x:=⟨_,O⟩
  obtain⟨y,hy⟩: ∃ y,l.getD (j-1) 0=y:=⟨_,O⟩
  rw[hx] at hat hnx
  rw[hy] at hat2 hnx
  obtain⟨q,hq⟩: ∃ q,srvB x=q:=⟨_,O⟩
  rw[hq] at hnx
  cases q
  ·obtain rfl:r=false:=hbad (by rw[hnx];rfl)
   repeat' (first|refine R_take (T_decT O (by omega)) ?_ O O|refine R_p O ?_ O O|refine R_nil ?_|refine R_skip ?_ O O|refine R_take (T_ix1 O O O O O O hne hjl) ?_ O O|refine R_take (T_ldr (v:=zv x) O O O (Srd.old h (fun k _=>noOwns k)) (by omega) hat) ?_ O O|refine R_take (T_not O) ?_ O O|refine S_seq O ?_|refine S_region O O ?_|refine S_true O O ?_|refine S_block O ?_|refine S_skip O ?_|(refine R_eff (E_hv0 (f:=93) F93 (fun w hS=>rserver_any w x _ hq) O O (fun _=>O)) ?_ O O;rintro _ _ ⟨_,rfl,_,rfl⟩))
   exact hB _ _ _ _ _ O O (qE O)
  ·by_cases h0:j=0
   ·repeat' (first|refine R_take (T_decT O (by omega)) ?_ O O|refine R_take (T_decF O (by omega)) ?_ O O|refine R_p O ?_ O O|refine R_nil ?_|refine R_skip ?_ O O|refine R_take (T_ix1 O O O O O O hne hjl) ?_ O O|refine R_take (T_ldr (v:=zv x) O O O (Srd.old h (fun k _=>noOwns k)) (by omega) hat) ?_ O O|refine R_take (T_addN O O (by unfold fits;omega)) ?_ O O|refine R_take (T_not O) ?_ O O|refine S_seq O ?_|refine S_region O O ?_|refine S_true O O ?_|refine S_false O O ?_|refine S_block O ?_|refine RS_blk ?_|refine S_skip O ?_|(refine R_eff (E_hv0 (f:=93) F93 (fun w hS=>rserver_any w x _ hq) O O (fun _=>O)) ?_ O O;rintro _ _ ⟨_,rfl,_,rfl⟩))
    exact hJ (j+1) _ _ ⟨by omega,by rw[hnx,decide_eq_true h0];rfl⟩ (Sub.cons O (Sub.cons O (Sub.cons O (Sub.cons O Sub.nil)))) (fun _ h=>h.sublist (List.nil_sublist _)) (by omega)
   ·by_cases h1:y<x
    ·focus (refine qs ?_;refine qd ?_;refine qz ?_;refine qq ?_;refine qT ?_;refine qx ?_;refine qq ?_;refine qb ?_;refine qs ?_;refine qp ?_;refine qt (T_ix1 O O O O O O hne hjl) ?_;refine qt (T_ldr (v:=zv x) O O O (Srd.old h (fun k _=>noOwns k)) (by omega) hat) ?_;refine qp ?_;refine qp ?_;refine qn ?_;refine qp ?_;refine qh F93 (fun w hS=>rserver_any w x _ hq) ?_;refine qt (T_not O) ?_;refine qp ?_;refine qp ?_;refine qd ?_;refine qd ?_;refine qp ?_;refine qp ?_;refine qt (T_subN (p:=j) (q:=1) O O (by omega) (by unfold fits;omega)) ?_;refine qt (T_ix1 (q:=j-1) O O O O O O hne (by omega)) ?_;refine qt (T_ldr (v:=zv y) O O O (Srd.old h (fun k _=>noOwns k)) (by omega) hat2) ?_;refine qp ?_;refine qf ?_;refine qp ?_;refine qp ?_;refine qz ?_;refine qF ?_;refine qx ?_;refine RS_blk ?_;refine qr ?_;refine qt (T_addN O O (by unfold fits;omega)) ?_;refine qp ?_;refine qz ?_)
     exact hJ (j+1) _ _ ⟨by omega,by rw[hnx,decide_eq_true h1];simp⟩ (Sub.cons O (Sub.cons O (Sub.cons O (Sub.cons O Sub.nil)))) (fun _ h=>h.sublist (List.nil_sublist _)) (by omega)
    ·obtain rfl:r=false:=hbad (by rw[hnx,decide_eq_false h0,decide_eq_false h1];rfl)
     repeat' (first|refine R_take (T_decT O (by omega)) ?_ O O|refine R_p O ?_ O O|refine R_nil ?_|refine R_take (T_ix1 O O O O O O hne hjl) ?_ O O|refine R_take (T_ldr (v:=zv x) O O O (Srd.old h (fun k _=>noOwns k)) (by omega) hat) ?_ O O|refine R_take (T_subN (p:=j) (q:=1) O O (by omega) (by unfold fits;omega)) ?_ O O|refine R_take (T_ix1 (q:=j-1) O O O O O O hne (by omega)) ?_ O O|refine R_take (T_ldr (v:=zv y) O O O (Srd.old h (fun k _=>noOwns k)) (by omega) hat2) ?_ O O|refine R_take (T_not O) ?_ O O|refine S_seq O ?_|refine S_region O O ?_|refine S_true O O ?_|refine S_block O ?_|refine S_skip O ?_|(refine R_eff (E_hv0 (f:=93) F93 (fun w hS=>rserver_any w x _ hq) O O (fun _=>O)) ?_ O O;rintro _ _ ⟨_,rfl,_,rfl⟩))
     exact hB _ _ _ _ _ O O (qE O)
 have hjn:j=l.length:=by omega
 subst hjn
 rw[List.take_length,hr] at hok
 subst hok
 focus (refine qs ?_;refine qf ?_;refine qz ?_;refine qq ?_;refine qF ?_;refine S_exit O O ?_;refine qs ?_;refine qp ?_;refine qz ?_)
 exact hB _ _ _ _ _ O O (qE O)
def othK (me:Int) (j:Nat):List Int:=([1,2,3,4,5].take j).filter fun n=> !decide (n=me)
theorem oth_next (me:Int) (j:Nat) (hj:j<5):othK me (j+1)=othK me j++(if ((j:Int)+1)=me then [] else [(j:Int)+1]):=by
 by_cases hm:me=1∨me=2∨me=3∨me=4∨me=5
 ·rcases hm with rfl|rfl|rfl|rfl|rfl<;>(rcases(by omega:j=0∨j=1∨j=2∨j=3∨j=4) with rfl|rfl|rfl|rfl|rfl<;>rfl)
 ·have e: ∀ k,othK me k=[1,2,3,4,5].take k:=fun k=>by
   unfold othK
   rw[List.filter_eq_self]
   intro n hn
   have:=List.mem_of_mem_take hn
   simp only[List.mem_cons,List.not_mem_nil,or_false] at this
   simp only[Bool.not_eq_true',decide_eq_false_iff_not]
   omega
  rw[e,e,if_neg (by omega)]
  rcases(by omega:j=0∨j=1∨j=2∨j=3∨j=4) with rfl|rfl|rfl|rfl|rfl<;>rfl
theorem othK_len (me:Int) (j:Nat):(othK me j).length≤5:=by
 unfold othK
 refine Nat.le_trans (List.length_filter_le _ _) ?_
 rw[List.length_take]
 exact Nat.min_le_right _ _
theorem oth_len (me:Int):(othL me).length≤5:=othK_len me 5
theorem others_any (w:World) (me:Int) (l:List Int) (hl:othL me=l) (K:Nat) (hK:l.length=K):
  Gives Tryz.prog 159 [.int .i64 me] [] w (X:=Option Addr×Nat) (fun x=> .slice x.1 K x.2) (fun _=>True) (fun x=>[row 3 1 x.1 K x.2 (l.map zv)]):=by
 refine gives_S Tryz.func159 O Tryz.ntmps159 Tryz.results159 (by simp) (St.enter w) (fun B hB=>?_)
 subst hK
 subst hl
 repeat' (first|refine R_p O ?_ O O|refine R_nil ?_|refine S_seq O ?_|refine S_region O O ?_|refine S_block O ?_)
 refine S_loop (X:=Nat×Option Addr×Nat) (fun z=>[(0,.int .i64 me),(3,.slice z.2.1 (othK me z.1).length z.2.2),(5,.int .i64 (z.1:Int))]) (fun z=>[row 3 1 z.2.1 (othK me z.1).length z.2.2 ((othK me z.1).map zv)]) (fun z=>z.1≤5) (fun z=>5-z.1) O (0,none,0) (Nat.zero_le _) (Sub.cons O (Sub.cons O (Sub.cons O Sub.nil))) (fun _ h=>(h.sublist (List.nil_sublist _)).nilrow _ _) ?_
 rintro⟨j,A,c⟩ hj J hJ
 dsimp only at hj ⊢
 have hlen:=othK_len me j
 rcases Nat.lt_or_ge j 5 with hjl|hjl
 ·have hnx:=oth_next me j hjl
  obtain⟨k,hk⟩: ∃ k,(othK me j).length=k:=⟨_,O⟩
  rw[hk] at hlen ⊢
  by_cases hm:(j:Int)+1=me
  ·rw[if_pos hm,List.append_nil] at hnx
   repeat' (first|refine R_take (T_decT O (by omega)) ?_ O O|refine R_take (T_decF O (by omega)) ?_ O O|refine R_p O ?_ O O|refine R_nil ?_|refine R_take (T_addN O O (by unfold fits;omega)) ?_ O O|refine S_seq O ?_|refine S_region O O ?_|refine S_true O O ?_|refine S_false O O ?_|refine S_block O ?_|refine RS_blk ?_|refine S_skip O ?_)
   exact hJ (j+1,A,c) _ _ (by show j+1≤5;omega) (by rw[hnx,hk];exact(Sub.cons O (Sub.cons O (Sub.cons O Sub.nil)))) (by rw[hnx,hk];exact sub_st) (by show 5-(j+1)<5-j;omega)
  ·rw[if_neg hm] at hnx
   repeat' (first|refine R_take (T_decT O (by omega)) ?_ O O|refine R_p O ?_ O O|refine R_nil ?_|refine R_take (T_addN O O (by unfold fits;omega)) ?_ O O|refine S_seq O ?_|refine S_region O O ?_|refine S_true O O ?_|refine S_block O ?_|refine RS_blk ?_|refine S_skip O ?_|(refine R_eff (E_lit1 (m:=1) (vs:=[zv ((j:Int)+1)]) O O O O O O O (by simp[zv,Value.oneCell']) (by decide)) ?_ O O;rintro _ _ ⟨bm,rfl,rfl⟩)|(refine R_eff (E_app1 O O O O O O O (Srd.pt (ds:=[zv ((j:Int)+1)]) O (fun j u hj=>by rw[Nat.zero_add];exact hj)) (by simp[zv,Value.oneCell']) (by show _*8≤_;omega) (by unfold maxLen;omega)) ?_ O O;rintro _ _ ⟨A6,c6,rfl,rfl⟩))
   refine hJ (j+1,A6,c6) _ _ (by show j+1≤5;omega) ?_ (fun w' hS=>?_) (by show 5-(j+1)<5-j;omega)
   ·rw[hnx,List.length_append,hk]
    exact(Sub.cons O (Sub.cons O (Sub.cons O Sub.nil)))
   ·rw[hnx,List.length_append,hk,List.map_append]
    exact sub_st (H':=[row 3 1 A6 (k+1) c6 ((othK me j).map zv++[zv ((j:Int)+1)])]) w' hS
 obtain rfl:j=5:=by omega
 focus (refine qs ?_;refine qf ?_;refine qz ?_;refine qq ?_;refine qF ?_;refine S_exit O O ?_;refine qs ?_;refine qp ?_;refine qp ?_;refine qz ?_)
 exact hB _ _ _ _ _ O O fun w' hS=>⟨(A,c),O,trivial,sub_st (H':=[row 3 1 A (othK me 5).length c ((othK me 5).map zv)]) w' hS⟩
theorem roleB_1 (x:Rs) (n:Nat) (h:x.role=1):roleB x n=(!decide (x.leader=x.me)&&decide (x.votes.length=0)&&decide (x.peers.length=0)):=by simp[roleB,h]
theorem roleB_2 (x:Rs) (n:Nat) (h:x.role=2):roleB x n=(!decide (x.leader=x.me)&&decide (x.leader=0)&&(risB x.votes&&decide (x.me∈x.votes))&&decide (x.peers.length=0)):=by simp[roleB,h]
theorem roleB_3 (x:Rs) (n:Nat) (h:x.role=3):roleB x n=(!decide (x.leader=x.me)&&decide (x.leader=0)&&(decide (x.vote=x.me)&& !decide (x.term=0))&&(risB x.votes&&decide (x.me∈x.votes))&&decide (x.peers.length=0)):=by simp[roleB,h]
theorem roleB_4 (x:Rs) (n:Nat) (h:x.role=4):roleB x n=(decide (x.leader=x.me)&&(decide (x.vote=x.me)&& !decide (x.term=0))&&decide (x.votes.length=0)&&prsG n x.peers (othL x.me)):=by simp[roleB,h]
theorem roleB_0 (x:Rs) (n:Nat) (h:x.role<1∨4<x.role):roleB x n=false:=by
 rcases h with h|h
 ·simp[roleB,show ¬ (1≤x.role) by omega]
 ·simp[roleB,show ¬ (x.role≤4) by omega]
section
variable {P:Program} {n:Nat} {w0:World} {M:Nat→Prop} {T:Slots} {H:List Asn} {dd:Option Tmp} {tt:TypeId} {pos:String} {af:Array Edge} {g:Option (Nat×Bool)}
theorem T_decQ [HasTab P] {o:Op} {p q:Prop} {b:Bool} {i:Decidable p} {j:Decidable q} (h:pev P T o=some (.bool (@decide p i))) (hb: @decide q j=b) (hi:p↔q):Tk P n w0 M T H ⟨dd,o,tt,pos,af,g⟩ (.bool b):=by
 have h1:=pev_ok (n:=n) (w0:=w0) (M:=M) (H:=H) (dd:=dd) (tt:=tt) (pos:=pos) (af:=af) (g:=g) h
 have e: @decide p i=b:=by rw[← hb];exact decide_eq_decide.2 hi
 rwa [e] at h1
theorem T_bv [HasTab P] {o:Op} {v b:Bool} (h:pev P T o=some (.bool v)) (e:v=b):Tk P n w0 M T H ⟨dd,o,tt,pos,af,g⟩ (.bool b):=by
 have h1:=pev_ok (n:=n) (w0:=w0) (M:=M) (H:=H) (dd:=dd) (tt:=tt) (pos:=pos) (af:=af) (g:=g) h
 rwa [e] at h1
end
theorem if7 (b:Bool):decide ((if b=true then (0:Int) else 240)=0)=b:=by cases b<;>rfl
theorem contains_k (w:World) (A:Option Addr) (n c:Nat) (ms:List Int) (m:Int) (h:Rd w All 1 A n (ms.map zv)) (hn:n≤1000) (r:Bool) (hr:decide (m∈ms)=r):
  Gives Tryz.prog 158 [.slice A n c,zv m] [] w (X:=Unit) (fun _=> .bool r) (fun _=>True) (fun _=>[]):=hr▸C.contains_any w A n c ms m h hn
theorem checkL_kr (w:World) (a:At) (A:Option Addr) (c k:Nat) (Q:List Em) (l:List En) (hk:Q.length=k) (hl:Q.map emv=l) (h:Rd w All 3 A k (cellsL emc Q)) (hn:k≤1000) (top:Nat) (r:Int) (hr:chkE a l top=r):
  Gives Tryz.prog 94 [.agg (lgc a A k c).toArray,.int .u64 (top:Int)] [] w (X:=Unit) (fun _=>zi r) (fun _=>True) (fun _=>[]):=by
 subst hk
 subst hl
 subst hr
 exact checkL_any w a A c Q h hn top
theorem rchk_k (w:World) (A:Option Addr) (n c:Nat) (ms:List Int) (h:Rd w All 1 A n (ms.map zv)) (hn:n≤100000) (r:Bool) (hr:C.right ms=r):
  Gives Tryz.prog 95 [C.cfv A n c] [] w (X:=Unit) (fun _=> .int .i64 (if r=true then 0 else 240)) (fun _=>True) (fun _=>[]):=by
 have:=C.check_any w A n c ms h hn
 rwa [C.chkE,hr] at this
theorem rsound_k (w:World) (A:Option Addr) (c k:Nat) (Q:List Em) (l:List En) (hk:Q.length=k) (hl:Q.map emv=l) (h:Rd w All 3 A k (cellsL emc Q)) (hq: ∀ m∈Q,BsM w m) (hd: ∀ m∈Q,m.2.2.2.2.length≤100000) (hn:k≤100000) (r:Bool) (hr:soundB l=r):
  Gives Tryz.prog 96 [.slice A k c] [] w (X:=Unit) (fun _=> .bool r) (fun _=>True) (fun _=>[]):=rsound_any w A c k Q hk h hq hd hn r (hl▸hr)
theorem lastP_k (w:World) (a:At) (A:Option Addr) (c k:Nat) (Q:List Em) (l:List En) (hk:Q.length=k) (hl:Q.map emv=l) (h:Rd w All 3 A k (cellsL emc Q)) (hn:k≤100000) (p:At) (hp:(if rightB a l=true then lastA a l else (0,0))=p):
  Gives Tryz.prog 50 [.agg (lgc a A k c).toArray] [] w (X:=Unit) (fun _=> .agg (atc p).toArray) (fun _=>True) (fun _=>[]):=by
 subst hk
 subst hl
 subst hp
 exact lastF_any w a A c Q h hn
theorem prs_app (n:Nat): ∀ (l:List Pe) (m:List Int) (j:Nat),j<l.length→j<m.length→prsG n (l.take (j+1)) (m.take (j+1))=(prsG n (l.take j) (m.take j)&&(decide ((l.getD j default).1=m.getD j 0)&&decide (1≤(l.getD j default).2.1)&&decide ((l.getD j default).2.1≤n+1)&&decide ((l.getD j default).2.2<(l.getD j default).2.1)))
 |p::l,q::m,0,_,_=>by simp[prsG]
 |p::l,q::m,j+1,h1,h2=>by
  have ih:=prs_app n l m j (by simpa using h1) (by simpa using h2)
  simp only[List.take_succ_cons,prsG,ih,List.getD_cons_succ,Bool.and_assoc]
theorem prs_pre (n:Nat): ∀ (l:List Pe) (m:List Int) (j:Nat),prsG n l m=true→prsG n (l.take j) (m.take j)=true
 |l,m,0,_=>by simp[prsG]
 |[],[],j+1,_=>by simp[prsG]
 |[],q::m,j+1,h=>by simp[prsG] at h
 |p::l,[],j+1,h=>by simp[prsG] at h
 |p::l,q::m,j+1,h=>by
  simp only[prsG,Bool.and_eq_true,List.take_succ_cons] at h ⊢
  exact⟨h.1,prs_pre n l m j h.2⟩
theorem prs_len (n:Nat): ∀ (l:List Pe) (m:List Int),prsG n l m=true→l.length=m.length
 |[],[],_=>rfl
 |[],q::m,h=>by simp[prsG] at h
 |p::l,[],h=>by simp[prsG] at h
 |p::l,q::m,h=>by
  simp only[prsG,Bool.and_eq_true] at h
  simp[prs_len n l m h.2]
theorem pe_zero:ti112.zero= .agg (pec (0,0,0)).toArray:=by kernel_rfl
theorem role_k (w:World) (x:Rs) (p:Rp) (h:RfR w x p) (n:Nat) (hn:n≤18446744073709551614) (r:Bool) (hr:roleB x n=r):
  Gives Tryz.prog 97 [.agg (rfc x p).toArray,.int .u64 (n:Int)] [] w (X:=Unit) (fun _=> .bool r) (fun _=>True) (fun _=>[]):=by
 refine gives_S Tryz.func97 O Tryz.ntmps97 Tryz.results97 (by simp) (St.enter w) (fun B hB=>?_)
 have hvn:=h.hvn
 have hvm:=h.hvm
 have hpn:=h.hpn
 have hpm:=h.hpm
 obtain⟨mem,hmem⟩: ∃ q,decide (x.me∈x.votes)=q:=⟨_,O⟩
 obtain⟨ris,hris⟩: ∃ q,risB x.votes=q:=⟨_,O⟩
 refine S_seq O ?_
 refine S_cut (X:=Nat) (fun b2=>[(1,.int .u64 (n:Int)),(2,.pointer (some ⟨b2,0,none⟩))]) (fun b2=>[pt b2 42 (rfc x p)]) (fun _=>True) (fun J hJ=>?_) (fun b2 _=>?_)
 ·skip
  focus (refine qr ?_;(refine qe (E_boxa (cs:=rfc x p) O) ?_;rintro _ _ ⟨b2,rfl,rfl⟩);refine qp ?_;refine qz ?_)
  exact hJ b2 _ _ trivial (Sub.cons O (Sub.cons O Sub.nil)) sub_st
 refine S_seq O ?_
 refine S_cut (X:=Unit) (fun _=>[(1,.int .u64 (n:Int)),(2,.pointer (some ⟨b2,0,none⟩)),(5,.bool (decide (x.role=3))),(6,.bool (decide (x.role=2))),(7,.bool (decide (x.role=4)))]) (fun _=>[pt b2 42 (rfc x p)]) (fun _=>True) (fun J hJ=>?_) (fun _ _=>?_)
 ·skip
  focus ((refine S_draw _ (fun _ h=>h) (by kernel_rfl) O (by kernel_rfl) (rfl:_=12) ?_;(refine dp 0 ?_);(refine dl 1 ?_);(refine dp 2 ?_);(refine dp 3 ?_);(refine dl 4 ?_);(refine dp 5 ?_);(refine dp 6 ?_);(refine dl 7 ?_);(refine dp 8 ?_);(refine dp 9 ?_);(refine dp 10 ?_);(refine dp 11 ?_);refine dn ?_))
  exact hJ () _ _ trivial (Sub.cons O (Sub.cons O (Sub.cons O (Sub.cons O (Sub.cons O Sub.nil))))) sub_st
 by_cases h1:x.role=1
 ·rw[roleB_1 x n h1] at hr
  by_cases hl:x.leader=x.me
  ·obtain rfl:r=false:=by rw[← hr,decide_eq_true hl];rfl
   repeat' (first|refine R_take (T_decT O (by omega)) ?_ O O|refine R_take (T_decF O (by omega)) ?_ O O|refine R_p O ?_ O O|refine R_nil ?_|refine R_skip ?_ O O|refine R_take (T_bnq O O O O O) ?_ O O|refine R_take (T_load O O O O) ?_ O O|refine S_seq O ?_|refine S_region O O ?_|refine S_true O O ?_)
   exact hB _ _ _ _ _ O O (qE O)
  rw[decide_eq_false hl] at hr
  by_cases hv:x.votes.length=0
  ·rw[decide_eq_true hv] at hr
   by_cases hp:x.peers.length=0
   ·obtain rfl:r=true:=by rw[← hr,decide_eq_true hp];rfl
    repeat' (first|refine R_take (T_decT O (by omega)) ?_ O O|refine R_take (T_decF O (by omega)) ?_ O O|refine R_p O ?_ O O|refine R_nil ?_|refine R_skip ?_ O O|refine R_take (T_bnq O O O O O) ?_ O O|refine R_take (T_load O O O O) ?_ O O|refine R_take (T_not O) ?_ O O|refine S_seq O ?_|refine S_region O O ?_|refine S_true O O ?_|refine S_false O O ?_|refine S_skip O ?_)
    exact hB _ _ _ _ _ O O (qE O)
   ·obtain rfl:r=false:=by rw[← hr,decide_eq_false hp];rfl
    repeat' (first|refine R_take (T_decF O (by omega)) ?_ O O|refine R_p O ?_ O O|refine R_nil ?_|refine R_skip ?_ O O|refine R_take (T_bnq O O O O O) ?_ O O|refine R_take (T_load O O O O) ?_ O O|refine R_take (T_not O) ?_ O O|refine S_seq O ?_|refine S_region O O ?_|refine S_true O O ?_|refine S_false O O ?_|refine S_skip O ?_)
    exact hB _ _ _ _ _ O O (qE O)
  ·obtain rfl:r=false:=by rw[← hr,decide_eq_false hv];rfl
   repeat' (first|refine R_take (T_decT O (by omega)) ?_ O O|refine R_take (T_decF O (by omega)) ?_ O O|refine R_p O ?_ O O|refine R_nil ?_|refine R_skip ?_ O O|refine R_take (T_bnq O O O O O) ?_ O O|refine R_take (T_load O O O O) ?_ O O|refine S_seq O ?_|refine S_region O O ?_|refine S_true O O ?_|refine S_false O O ?_|refine S_skip O ?_)
   exact hB _ _ _ _ _ O O (qE O)
 by_cases h2:x.role=2
 ·rw[roleB_2 x n h2,hmem,hris] at hr
  by_cases hl:x.leader=x.me
  ·obtain rfl:r=false:=by rw[← hr,decide_eq_true hl];rfl
   repeat' (first|refine R_take (T_decT O (by omega)) ?_ O O|refine R_take (T_decF O (by omega)) ?_ O O|refine R_p O ?_ O O|refine R_nil ?_|refine R_skip ?_ O O|refine R_take (T_bnq O O O O O) ?_ O O|refine R_take (T_load O O O O) ?_ O O|refine S_seq O ?_|refine S_region O O ?_|refine S_true O O ?_)
   exact hB _ _ _ _ _ O O (qE O)
  rw[decide_eq_false hl] at hr
  by_cases hz:x.leader=0
  rotate_left
  ·obtain rfl:r=false:=by rw[← hr,decide_eq_false hz];rfl
   repeat' (first|refine R_take (T_decT O (by omega)) ?_ O O|refine R_take (T_decF O (by omega)) ?_ O O|refine R_p O ?_ O O|refine R_nil ?_|refine R_take (T_bnq O O O O O) ?_ O O|refine R_take (T_load O O O O) ?_ O O|refine S_seq O ?_|refine S_region O O ?_|refine S_true O O ?_)
   exact hB _ _ _ _ _ O O (qE O)
  rw[decide_eq_true hz] at hr
  cases ris
  ·obtain rfl:r=false:=by rw[← hr];rfl
   repeat' (first|refine R_take (T_decT O (by omega)) ?_ O O|refine R_take (T_decF O (by omega)) ?_ O O|refine R_p O ?_ O O|refine R_nil ?_|refine R_skip ?_ O O|refine R_take (T_bnq O O O O O) ?_ O O|refine R_take (T_load O O O O) ?_ O O|refine R_take (T_not O) ?_ O O|refine S_seq O ?_|refine S_region O O ?_|refine S_true O O ?_|refine S_false O O ?_|refine S_skip O ?_|(refine R_eff (E_hv0 (f:=157) F157 (fun w hS=>rrising_any w p.vA p.vn p.vc x.votes (h.keep hS.kpO).rv (by omega) _ hris) O O (fun _=>O)) ?_ O O;rintro _ _ ⟨_,rfl,_,rfl⟩))
   exact hB _ _ _ _ _ O O (qE O)
  cases mem
  ·obtain rfl:r=false:=by rw[← hr];rfl
   repeat' (first|refine R_take (T_decT O (by omega)) ?_ O O|refine R_take (T_decF O (by omega)) ?_ O O|refine R_p O ?_ O O|refine R_nil ?_|refine R_skip ?_ O O|refine R_take (T_bnq O O O O O) ?_ O O|refine R_take (T_load O O O O) ?_ O O|refine R_take (T_not O) ?_ O O|refine S_seq O ?_|refine S_region O O ?_|refine S_true O O ?_|refine S_false O O ?_|refine S_skip O ?_|(refine R_eff (E_hv0 (f:=157) F157 (fun w hS=>rrising_any w p.vA p.vn p.vc x.votes (h.keep hS.kpO).rv (by omega) _ hris) O O (fun _=>O)) ?_ O O;rintro _ _ ⟨_,rfl,_,rfl⟩)|(refine R_eff (E_hv0 (f:=158) F158 (fun w hS=>contains_k w p.vA p.vn p.vc x.votes x.me (h.keep hS.kpO).rv (by omega) _ hmem) O O (fun _=>O)) ?_ O O;rintro _ _ ⟨_,rfl,_,rfl⟩))
   exact hB _ _ _ _ _ O O (qE O)
  by_cases hp:x.peers.length=0
  ·obtain rfl:r=true:=by rw[← hr,decide_eq_true hp];rfl
   repeat' (first|refine R_take (T_decT O (by omega)) ?_ O O|refine R_take (T_decF O (by omega)) ?_ O O|refine R_p O ?_ O O|refine R_nil ?_|refine R_skip ?_ O O|refine R_take (T_bnq O O O O O) ?_ O O|refine R_take (T_load O O O O) ?_ O O|refine R_take (T_not O) ?_ O O|refine S_seq O ?_|refine S_region O O ?_|refine S_true O O ?_|refine S_false O O ?_|refine S_skip O ?_|(refine R_eff (E_hv0 (f:=157) F157 (fun w hS=>rrising_any w p.vA p.vn p.vc x.votes (h.keep hS.kpO).rv (by omega) _ hris) O O (fun _=>O)) ?_ O O;rintro _ _ ⟨_,rfl,_,rfl⟩)|(refine R_eff (E_hv0 (f:=158) F158 (fun w hS=>contains_k w p.vA p.vn p.vc x.votes x.me (h.keep hS.kpO).rv (by omega) _ hmem) O O (fun _=>O)) ?_ O O;rintro _ _ ⟨_,rfl,_,rfl⟩))
   exact hB _ _ _ _ _ O O (qE O)
  ·obtain rfl:r=false:=by rw[← hr,decide_eq_false hp];rfl
   repeat' (first|refine R_take (T_decT O (by omega)) ?_ O O|refine R_take (T_decF O (by omega)) ?_ O O|refine R_p O ?_ O O|refine R_nil ?_|refine R_skip ?_ O O|refine R_take (T_bnq O O O O O) ?_ O O|refine R_take (T_load O O O O) ?_ O O|refine R_take (T_not O) ?_ O O|refine S_seq O ?_|refine S_region O O ?_|refine S_true O O ?_|refine S_false O O ?_|refine S_skip O ?_|(refine R_eff (E_hv0 (f:=157) F157 (fun w hS=>rrising_any w p.vA p.vn p.vc x.votes (h.keep hS.kpO).rv (by omega) _ hris) O O (fun _=>O)) ?_ O O;rintro _ _ ⟨_,rfl,_,rfl⟩)|(refine R_eff (E_hv0 (f:=158) F158 (fun w hS=>contains_k w p.vA p.vn p.vc x.votes x.me (h.keep hS.kpO).rv (by omega) _ hmem) O O (fun _=>O)) ?_ O O;rintro _ _ ⟨_,rfl,_,rfl⟩))
   exact hB _ _ _ _ _ O O (qE O)
 by_cases h3:x.role=3
 ·rw[roleB_3 x n h3,hmem,hris] at hr
  by_cases hl:x.leader=x.me
  ·obtain rfl:r=false:=by rw[← hr,decide_eq_true hl];rfl
   repeat' (first|refine R_take (T_decT O (by omega)) ?_ O O|refine R_take (T_decF O (by omega)) ?_ O O|refine R_p O ?_ O O|refine R_nil ?_|refine R_skip ?_ O O|refine R_take (T_bnq O O O O O) ?_ O O|refine R_take (T_load O O O O) ?_ O O|refine S_seq O ?_|refine S_region O O ?_|refine S_true O O ?_)
   exact hB _ _ _ _ _ O O (qE O)
  rw[decide_eq_false hl] at hr
  by_cases hz:x.leader=0
  rotate_left
  ·obtain rfl:r=false:=by rw[← hr,decide_eq_false hz];rfl
   repeat' (first|refine R_take (T_decT O (by omega)) ?_ O O|refine R_take (T_decF O (by omega)) ?_ O O|refine R_p O ?_ O O|refine R_nil ?_|refine R_skip ?_ O O|refine R_take (T_bnq O O O O O) ?_ O O|refine R_take (T_load O O O O) ?_ O O|refine S_seq O ?_|refine S_region O O ?_|refine S_true O O ?_)
   exact hB _ _ _ _ _ O O (qE O)
  rw[decide_eq_true hz] at hr
  by_cases hvt:x.vote=x.me
  rotate_left
  ·obtain rfl:r=false:=by rw[← hr,decide_eq_false hvt];rfl
   repeat' (first|refine R_take (T_decT O (by omega)) ?_ O O|refine R_take (T_decF O (by omega)) ?_ O O|refine R_p O ?_ O O|refine R_nil ?_|refine R_skip ?_ O O|refine R_take (T_bnq O O O O O) ?_ O O|refine R_take (T_load O O O O) ?_ O O|refine S_seq O ?_|refine S_region O O ?_|refine S_true O O ?_|refine S_false O O ?_|refine S_skip O ?_)
   exact hB _ _ _ _ _ O O (qE O)
  rw[decide_eq_true hvt] at hr
  by_cases ht:x.term=0
  ·obtain rfl:r=false:=by rw[← hr,decide_eq_true ht];rfl
   repeat' (first|refine R_take (T_decT O (by omega)) ?_ O O|refine R_take (T_decF O (by omega)) ?_ O O|refine R_p O ?_ O O|refine R_nil ?_|refine R_skip ?_ O O|refine R_take (T_bnq O O O O O) ?_ O O|refine R_take (T_load O O O O) ?_ O O|refine S_seq O ?_|refine S_region O O ?_|refine S_true O O ?_|refine S_false O O ?_|refine S_skip O ?_)
   exact hB _ _ _ _ _ O O (qE O)
  rw[decide_eq_false ht] at hr
  cases ris
  ·obtain rfl:r=false:=by rw[← hr];rfl
   repeat' (first|refine R_take (T_decT O (by omega)) ?_ O O|refine R_take (T_decF O (by omega)) ?_ O O|refine R_p O ?_ O O|refine R_nil ?_|refine R_skip ?_ O O|refine R_take (T_bnq O O O O O) ?_ O O|refine R_take (T_load O O O O) ?_ O O|refine R_take (T_not O) ?_ O O|refine S_seq O ?_|refine S_region O O ?_|refine S_true O O ?_|refine S_false O O ?_|refine S_skip O ?_|(refine R_eff (E_hv0 (f:=157) F157 (fun w hS=>rrising_any w p.vA p.vn p.vc x.votes (h.keep hS.kpO).rv (by omega) _ hris) O O (fun _=>O)) ?_ O O;rintro _ _ ⟨_,rfl,_,rfl⟩))
   exact hB _ _ _ _ _ O O (qE O)
  cases mem
  ·obtain rfl:r=false:=by rw[← hr];rfl
   repeat' (first|refine R_take (T_decT O (by omega)) ?_ O O|refine R_take (T_decF O (by omega)) ?_ O O|refine R_p O ?_ O O|refine R_nil ?_|refine R_skip ?_ O O|refine R_take (T_bnq O O O O O) ?_ O O|refine R_take (T_load O O O O) ?_ O O|refine R_take (T_not O) ?_ O O|refine S_seq O ?_|refine S_region O O ?_|refine S_true O O ?_|refine S_false O O ?_|refine S_skip O ?_|(refine R_eff (E_hv0 (f:=157) F157 (fun w hS=>rrising_any w p.vA p.vn p.vc x.votes (h.keep hS.kpO).rv (by omega) _ hris) O O (fun _=>O)) ?_ O O;rintro _ _ ⟨_,rfl,_,rfl⟩)|(refine R_eff (E_hv0 (f:=158) F158 (fun w hS=>contains_k w p.vA p.vn p.vc x.votes x.me (h.keep hS.kpO).rv (by omega) _ hmem) O O (fun _=>O)) ?_ O O;rintro _ _ ⟨_,rfl,_,rfl⟩))
   exact hB _ _ _ _ _ O O (qE O)
  by_cases hp:x.peers.length=0
  ·obtain rfl:r=true:=by rw[← hr,decide_eq_true hp];rfl
   repeat' (first|refine R_take (T_decT O (by omega)) ?_ O O|refine R_take (T_decF O (by omega)) ?_ O O|refine R_p O ?_ O O|refine R_nil ?_|refine R_skip ?_ O O|refine R_take (T_bnq O O O O O) ?_ O O|refine R_take (T_load O O O O) ?_ O O|refine R_take (T_not O) ?_ O O|refine S_seq O ?_|refine S_region O O ?_|refine S_true O O ?_|refine S_false O O ?_|refine S_skip O ?_|(refine R_eff (E_hv0 (f:=157) F157 (fun w hS=>rrising_any w p.vA p.vn p.vc x.votes (h.keep hS.kpO).rv (by omega) _ hris) O O (fun _=>O)) ?_ O O;rintro _ _ ⟨_,rfl,_,rfl⟩)|(refine R_eff (E_hv0 (f:=158) F158 (fun w hS=>contains_k w p.vA p.vn p.vc x.votes x.me (h.keep hS.kpO).rv (by omega) _ hmem) O O (fun _=>O)) ?_ O O;rintro _ _ ⟨_,rfl,_,rfl⟩))
   exact hB _ _ _ _ _ O O (qE O)
  ·obtain rfl:r=false:=by rw[← hr,decide_eq_false hp];rfl
   repeat' (first|refine R_take (T_decT O (by omega)) ?_ O O|refine R_take (T_decF O (by omega)) ?_ O O|refine R_p O ?_ O O|refine R_nil ?_|refine R_skip ?_ O O|refine R_take (T_bnq O O O O O) ?_ O O|refine R_take (T_load O O O O) ?_ O O|refine R_take (T_not O) ?_ O O|refine S_seq O ?_|refine S_region O O ?_|refine S_true O O ?_|refine S_false O O ?_|refine S_skip O ?_|(refine R_eff (E_hv0 (f:=157) F157 (fun w hS=>rrising_any w p.vA p.vn p.vc x.votes (h.keep hS.kpO).rv (by omega) _ hris) O O (fun _=>O)) ?_ O O;rintro _ _ ⟨_,rfl,_,rfl⟩)|(refine R_eff (E_hv0 (f:=158) F158 (fun w hS=>contains_k w p.vA p.vn p.vc x.votes x.me (h.keep hS.kpO).rv (by omega) _ hmem) O O (fun _=>O)) ?_ O O;rintro _ _ ⟨_,rfl,_,rfl⟩))
   exact hB _ _ _ _ _ O O (qE O)
 by_cases h4:x.role=4
 rotate_left
 ·obtain rfl:r=false:=by rw[← hr];exact roleB_0 x n (by omega)
  rcases(by omega:x.role<1∨4<x.role) with h5|h5
  ·repeat' (first|refine R_take (T_decT O (by omega)) ?_ O O|refine R_p O ?_ O O|refine R_nil ?_|refine R_skip ?_ O O|refine R_take (T_load O O O O) ?_ O O|refine S_seq O ?_|refine S_region O O ?_|refine S_true O O ?_)
   exact hB _ _ _ _ _ O O (qE O)
  ·repeat' (first|refine R_take (T_decT O (by omega)) ?_ O O|refine R_take (T_decF O (by omega)) ?_ O O|refine R_p O ?_ O O|refine R_nil ?_|refine R_skip ?_ O O|refine R_take (T_load O O O O) ?_ O O|refine S_seq O ?_|refine S_region O O ?_|refine S_true O O ?_)
   exact hB _ _ _ _ _ O O (qE O)
 rw[roleB_4 x n h4] at hr
 by_cases hl:x.leader=x.me
 rotate_left
 ·obtain rfl:r=false:=by rw[← hr,decide_eq_false hl];rfl
  repeat' (first|refine R_take (T_decT O (by omega)) ?_ O O|refine R_take (T_decF O (by omega)) ?_ O O|refine R_p O ?_ O O|refine R_nil ?_|refine R_skip ?_ O O|refine R_take (T_bnq O O O O O) ?_ O O|refine R_take (T_load O O O O) ?_ O O|refine S_seq O ?_|refine S_region O O ?_|refine S_true O O ?_)
  exact hB _ _ _ _ _ O O (qE O)
 rw[decide_eq_true hl] at hr
 by_cases hvt:x.vote=x.me
 rotate_left
 ·obtain rfl:r=false:=by rw[← hr,decide_eq_false hvt];rfl
  repeat' (first|refine R_take (T_decT O (by omega)) ?_ O O|refine R_take (T_decF O (by omega)) ?_ O O|refine R_p O ?_ O O|refine R_nil ?_|refine R_skip ?_ O O|refine R_take (T_bnq O O O O O) ?_ O O|refine R_take (T_load O O O O) ?_ O O|refine S_seq O ?_|refine S_region O O ?_|refine S_true O O ?_|refine S_false O O ?_|refine S_skip O ?_)
  exact hB _ _ _ _ _ O O (qE O)
 rw[decide_eq_true hvt] at hr
 by_cases ht:x.term=0
 ·obtain rfl:r=false:=by rw[← hr,decide_eq_true ht];rfl
  repeat' (first|refine R_take (T_decT O (by omega)) ?_ O O|refine R_take (T_decF O (by omega)) ?_ O O|refine R_p O ?_ O O|refine R_nil ?_|refine R_skip ?_ O O|refine R_take (T_bnq O O O O O) ?_ O O|refine R_take (T_load O O O O) ?_ O O|refine S_seq O ?_|refine S_region O O ?_|refine S_true O O ?_|refine S_false O O ?_|refine S_skip O ?_)
  exact hB _ _ _ _ _ O O (qE O)
 rw[decide_eq_false ht] at hr
 by_cases hv:x.votes.length=0
 rotate_left
 ·obtain rfl:r=false:=by rw[← hr,decide_eq_false hv];rfl
  repeat' (first|refine R_take (T_decT O (by omega)) ?_ O O|refine R_take (T_decF O (by omega)) ?_ O O|refine R_p O ?_ O O|refine R_nil ?_|refine R_skip ?_ O O|refine R_take (T_bnq O O O O O) ?_ O O|refine R_take (T_load O O O O) ?_ O O|refine S_seq O ?_|refine S_region O O ?_|refine S_true O O ?_|refine S_false O O ?_|refine S_skip O ?_)
  exact hB _ _ _ _ _ O O (qE O)
 rw[decide_eq_true hv] at hr
 obtain⟨oth,hoth⟩: ∃ l,othL x.me=l:=⟨_,O⟩
 obtain⟨K,hK⟩: ∃ K,oth.length=K:=⟨_,O⟩
 have hK5:K≤5:=by rw[← hK, ← hoth];exact oth_len _
 rw[hoth] at hr
 have hr:prsG n x.peers oth=r:=by rw[← hr];rfl
 by_cases hlen:p.pn=K
 rotate_left
 ·obtain rfl:r=false:=by
   rw[← hr,Bool.eq_false_iff]
   intro h2
   have:=prs_len n _ _ h2
   omega
  repeat' (first|refine R_take (T_decT O (by omega)) ?_ O O|refine R_take (T_decF O (by omega)) ?_ O O|refine R_p O ?_ O O|refine R_nil ?_|refine R_skip ?_ O O|refine R_take (T_bnq O O O O O) ?_ O O|refine R_take (T_load O O O O) ?_ O O|refine R_take (T_not O) ?_ O O|refine S_seq O ?_|refine S_region O O ?_|refine S_true O O ?_|refine S_false O O ?_|refine S_skip O ?_|(refine R_eff (E_hv1 (f:=159) F159 (fun w' hS=>others_any w' x.me oth hoth K hK) O O (fun _=>O)) ?_ O O;rintro _ _ ⟨⟨Ao,co⟩,rfl,_,rfl⟩))
  exact hB _ _ _ _ _ O O (qE O)
 repeat' (first|refine R_take (T_decT O (by omega)) ?_ O O|refine R_take (T_decF O (by omega)) ?_ O O|refine R_p O ?_ O O|refine R_nil ?_|refine R_skip ?_ O O|refine R_take (T_bnq O O O O O) ?_ O O|refine R_take (T_load O O O O) ?_ O O|refine R_take (T_not O) ?_ O O|refine S_seq O ?_|refine S_region O O ?_|refine S_false O O ?_|refine S_block O ?_|refine S_skip O ?_|(refine R_eff (E_hv1 (f:=159) F159 (fun w' hS=>others_any w' x.me oth hoth K hK) O O (fun _=>O)) ?_ O O;rintro _ _ ⟨⟨Ao,co⟩,rfl,_,rfl⟩))
 refine RS_fact (p:=0<K→Ao≠none) (fun w' hS=>(row_facts (hS.at_ (A:=row 3 1 Ao K co (oth.map zv)) (by simp))).2.2.1) fun hAo=>?_
 have hne:0<p.pn→p.pA≠none:=fun h0=>by obtain⟨ad,e,_⟩:=h.rp.2 (by omega);rw[e];simp
 refine S_loop (X:=Nat) (fun j=>[(1,.int .u64 (n:Int)),(8,.slice Ao K co),(100,.slice p.pA p.pn p.pc),(101,.int .i64 (p.pn:Int)),(102,.int .i64 (j:Int))]) (fun _=>[row 3 1 Ao K co (oth.map zv)]) (fun j=>j≤K∧prsG n (x.peers.take j) (oth.take j)=true) (fun j=>K-j) O 0 ⟨Nat.zero_le _,O⟩ (Sub.cons O (Sub.cons O (Sub.cons O (Sub.cons O (Sub.cons O Sub.nil))))) sub_st ?_
 rintro j ⟨hj,hok⟩ J hJ
 rcases Nat.lt_or_ge j K with hjl|hjl
 ·have hne:=hne (by omega)
  have hAo:=hAo (by omega)
  have hat:=cellsL_at (f:=pec) pec_len x.peers default j (by omega)
  have hat2:=zv_at (l:=oth) (j:=j) (by omega)
  have hnx:=prs_app n x.peers oth j (by omega) (by omega)
  have hbad:=fun h2=>Bool.eq_false_iff.2 (fun h3=>Bool.eq_false_iff.1 h2 (prs_pre n x.peers oth (j+1) h3))
  rw[hr] at hbad
  rw[hok,Bool.true_and] at hnx
  obtain⟨⟨pw,pn,pm⟩,hq⟩: ∃ q,x.peers.getD j default=q:=⟨_,O⟩
  obtain⟨y,hy⟩: ∃ y,oth.getD j 0=y:=⟨_,O⟩
  rw[hq] at hat hnx
  rw[hy] at hat2 hnx
  dsimp only at hnx
  by_cases e1:pw=y
  rotate_left
  ·obtain rfl:r=false:=hbad (by rw[hnx,decide_eq_false e1];rfl)
   focus (refine qs ?_;refine qd ?_;refine qz ?_;refine qq ?_;refine qT ?_;refine qx ?_;refine qq ?_;refine qb ?_;refine qs ?_;refine qp ?_;refine qt (T_ixM (sz:=3) O O O O O O hne (by omega)) ?_;refine qt (T_lda (ds:=[.int .i64 pw,.int .u64 (pn:Int),.int .u64 (pm:Int)]) O O O (Srd.old h.rp (fun k _=>noOwns k)) O (by omega) hat) ?_;(refine qe (E_alloca O pe_zero) ?_;rintro _ _ ⟨b10,rfl,rfl⟩);refine qp ?_;(refine qw (E_storew (cs:=pec (0,0,0)) (ds:=[.int .i64 pw,.int .u64 (pn:Int),.int .u64 (pm:Int)]) O O O O (pec_one (pw,pn,pm)) O) ?_;rintro _ _ rfl);refine qz ?_;refine qq ?_;(refine S_draw _ (fun _ h=>h) (by kernel_rfl) O (by kernel_rfl) (rfl:_=26) ?_;(refine dp 0 ?_);(refine dl 1 ?_);(refine dp 2 ?_);(refine dp 3 ?_);(refine dt 4 O (T_ix1 O O O O O O hAo hjl) ?_);(refine dt 5 O (T_ldr (v:=zv y) O O O (Srd.row (n:=K) (c:=co)) (by omega) hat2) ?_);(refine dqT 6 ?_);(refine dp 7 ?_);(refine dk 8 ?_);(refine dk 9 ?_);(refine dk 10 ?_);(refine dp 11 ?_);(refine dp 12 ?_);(refine dk 13 ?_);(refine dk 14 ?_);(refine dk 15 ?_);(refine dk 16 ?_);(refine dk 17 ?_);(refine dp 18 ?_);(refine dp 19 ?_);(refine dk 20 ?_);(refine dk 21 ?_);(refine dk 22 ?_);(refine dk 23 ?_);(refine dk 24 ?_);(refine dp 25 ?_);refine dn ?_);refine qT ?_;refine qs ?_;refine qp ?_;refine qz ?_)
   exact hB _ _ _ _ _ O O (qE O)
  by_cases e2:1≤pn
  rotate_left
  ·obtain rfl:r=false:=hbad (by rw[hnx,decide_eq_false e2];simp)
   focus (refine qs ?_;refine qd ?_;refine qz ?_;refine qq ?_;refine qT ?_;refine qx ?_;refine qq ?_;refine qb ?_;refine qs ?_;refine qp ?_;refine qt (T_ixM (sz:=3) O O O O O O hne (by omega)) ?_;refine qt (T_lda (ds:=[.int .i64 pw,.int .u64 (pn:Int),.int .u64 (pm:Int)]) O O O (Srd.old h.rp (fun k _=>noOwns k)) O (by omega) hat) ?_;(refine qe (E_alloca O pe_zero) ?_;rintro _ _ ⟨b10,rfl,rfl⟩);refine qp ?_;(refine qw (E_storew (cs:=pec (0,0,0)) (ds:=[.int .i64 pw,.int .u64 (pn:Int),.int .u64 (pm:Int)]) O O O O (pec_one (pw,pn,pm)) O) ?_;rintro _ _ rfl);refine qz ?_;refine qq ?_;(refine S_draw _ (fun _ h=>h) (by kernel_rfl) O (by kernel_rfl) (rfl:_=26) ?_;(refine dp 0 ?_);(refine dl 1 ?_);(refine dp 2 ?_);(refine dp 3 ?_);(refine dt 4 O (T_ix1 O O O O O O hAo hjl) ?_);(refine dt 5 O (T_ldr (v:=zv y) O O O (Srd.row (n:=K) (c:=co)) (by omega) hat2) ?_);(refine dqF 6 ?_);(refine dp 7 ?_);(refine dp 8 ?_);(refine dl 9 ?_);(refine dqT 10 ?_);(refine dp 11 ?_);(refine dp 12 ?_);(refine dk 13 ?_);(refine dk 14 ?_);(refine dk 15 ?_);(refine dk 16 ?_);(refine dk 17 ?_);(refine dp 18 ?_);(refine dp 19 ?_);(refine dk 20 ?_);(refine dk 21 ?_);(refine dk 22 ?_);(refine dk 23 ?_);(refine dk 24 ?_);(refine dp 25 ?_);refine dn ?_);refine qT ?_;refine qs ?_;refine qp ?_;refine qz ?_)
   exact hB _ _ _ _ _ O O (qE O)
  by_cases e3:pn≤n+1
  rotate_left
  ·obtain rfl:r=false:=hbad (by rw[hnx,decide_eq_false e3];simp)
   focus (refine qs ?_;refine qd ?_;refine qz ?_;refine qq ?_;refine qT ?_;refine qx ?_;refine qq ?_;refine qb ?_;refine qs ?_;refine qp ?_;refine qt (T_ixM (sz:=3) O O O O O O hne (by omega)) ?_;refine qt (T_lda (ds:=[.int .i64 pw,.int .u64 (pn:Int),.int .u64 (pm:Int)]) O O O (Srd.old h.rp (fun k _=>noOwns k)) O (by omega) hat) ?_;(refine qe (E_alloca O pe_zero) ?_;rintro _ _ ⟨b10,rfl,rfl⟩);refine qp ?_;(refine qw (E_storew (cs:=pec (0,0,0)) (ds:=[.int .i64 pw,.int .u64 (pn:Int),.int .u64 (pm:Int)]) O O O O (pec_one (pw,pn,pm)) O) ?_;rintro _ _ rfl);refine qz ?_;refine qq ?_;(refine S_draw _ (fun _ h=>h) (by kernel_rfl) O (by kernel_rfl) (rfl:_=26) ?_;(refine dp 0 ?_);(refine dl 1 ?_);(refine dp 2 ?_);(refine dp 3 ?_);(refine dt 4 O (T_ix1 O O O O O O hAo hjl) ?_);(refine dt 5 O (T_ldr (v:=zv y) O O O (Srd.row (n:=K) (c:=co)) (by omega) hat2) ?_);(refine dqF 6 ?_);(refine dp 7 ?_);(refine dp 8 ?_);(refine dl 9 ?_);(refine dqF 10 ?_);(refine dp 11 ?_);(refine dp 12 ?_);(refine dp 13 ?_);(refine dl 14 ?_);(refine dp 15 ?_);((refine dt 16 O (T_addN O O (by unfold fits;omega)) ?_));(refine dqT 17 ?_);(refine dp 18 ?_);(refine dp 19 ?_);(refine dk 20 ?_);(refine dk 21 ?_);(refine dk 22 ?_);(refine dk 23 ?_);(refine dk 24 ?_);(refine dp 25 ?_);refine dn ?_);refine qT ?_;refine qs ?_;refine qp ?_;refine qz ?_)
   exact hB _ _ _ _ _ O O (qE O)
  by_cases e4:pm<pn
  rotate_left
  ·obtain rfl:r=false:=hbad (by rw[hnx,decide_eq_false e4];simp)
   focus (refine qs ?_;refine qd ?_;refine qz ?_;refine qq ?_;refine qT ?_;refine qx ?_;refine qq ?_;refine qb ?_;refine qs ?_;refine qp ?_;refine qt (T_ixM (sz:=3) O O O O O O hne (by omega)) ?_;refine qt (T_lda (ds:=[.int .i64 pw,.int .u64 (pn:Int),.int .u64 (pm:Int)]) O O O (Srd.old h.rp (fun k _=>noOwns k)) O (by omega) hat) ?_;(refine qe (E_alloca O pe_zero) ?_;rintro _ _ ⟨b10,rfl,rfl⟩);refine qp ?_;(refine qw (E_storew (cs:=pec (0,0,0)) (ds:=[.int .i64 pw,.int .u64 (pn:Int),.int .u64 (pm:Int)]) O O O O (pec_one (pw,pn,pm)) O) ?_;rintro _ _ rfl);refine qz ?_;refine qq ?_;(refine S_draw _ (fun _ h=>h) (by kernel_rfl) O (by kernel_rfl) (rfl:_=26) ?_;(refine dp 0 ?_);(refine dl 1 ?_);(refine dp 2 ?_);(refine dp 3 ?_);(refine dt 4 O (T_ix1 O O O O O O hAo hjl) ?_);(refine dt 5 O (T_ldr (v:=zv y) O O O (Srd.row (n:=K) (c:=co)) (by omega) hat2) ?_);(refine dqF 6 ?_);(refine dp 7 ?_);(refine dp 8 ?_);(refine dl 9 ?_);(refine dqF 10 ?_);(refine dp 11 ?_);(refine dp 12 ?_);(refine dp 13 ?_);(refine dl 14 ?_);(refine dp 15 ?_);((refine dt 16 O (T_addN O O (by unfold fits;omega)) ?_));(refine dqF 17 ?_);(refine dp 18 ?_);(refine dp 19 ?_);(refine dp 20 ?_);(refine dl 21 ?_);(refine dp 22 ?_);(refine dl 23 ?_);(refine dqT 24 ?_);(refine dp 25 ?_);refine dn ?_);refine qT ?_;refine qs ?_;refine qp ?_;refine qz ?_)
   exact hB _ _ _ _ _ O O (qE O)
  focus (refine qs ?_;refine qd ?_;refine qz ?_;refine qq ?_;refine qT ?_;refine qx ?_;refine qq ?_;refine qb ?_;refine qs ?_;refine qp ?_;refine qt (T_ixM (sz:=3) O O O O O O hne (by omega)) ?_;refine qt (T_lda (ds:=[.int .i64 pw,.int .u64 (pn:Int),.int .u64 (pm:Int)]) O O O (Srd.old h.rp (fun k _=>noOwns k)) O (by omega) hat) ?_;(refine qe (E_alloca O pe_zero) ?_;rintro _ _ ⟨b10,rfl,rfl⟩);refine qp ?_;(refine qw (E_storew (cs:=pec (0,0,0)) (ds:=[.int .i64 pw,.int .u64 (pn:Int),.int .u64 (pm:Int)]) O O O O (pec_one (pw,pn,pm)) O) ?_;rintro _ _ rfl);refine qz ?_;refine qq ?_;(refine S_draw _ (fun _ h=>h) (by kernel_rfl) O (by kernel_rfl) (rfl:_=26) ?_;(refine dp 0 ?_);(refine dl 1 ?_);(refine dp 2 ?_);(refine dp 3 ?_);(refine dt 4 O (T_ix1 O O O O O O hAo hjl) ?_);(refine dt 5 O (T_ldr (v:=zv y) O O O (Srd.row (n:=K) (c:=co)) (by omega) hat2) ?_);(refine dqF 6 ?_);(refine dp 7 ?_);(refine dp 8 ?_);(refine dl 9 ?_);(refine dqF 10 ?_);(refine dp 11 ?_);(refine dp 12 ?_);(refine dp 13 ?_);(refine dl 14 ?_);(refine dp 15 ?_);((refine dt 16 O (T_addN O O (by unfold fits;omega)) ?_));(refine dqF 17 ?_);(refine dp 18 ?_);(refine dp 19 ?_);(refine dp 20 ?_);(refine dl 21 ?_);(refine dp 22 ?_);(refine dl 23 ?_);(refine dqF 24 ?_);(refine dp 25 ?_);refine dn ?_);refine qF ?_;refine qx ?_;refine RS_blk ?_;refine qr ?_;refine qt (T_addN O O (by unfold fits;omega)) ?_;refine qp ?_;refine qz ?_)
  exact hJ (j+1) _ _ ⟨by omega,by rw[hnx,decide_eq_true e1,decide_eq_true e2,decide_eq_true e3,decide_eq_true e4];rfl⟩ (Sub.cons O (Sub.cons O (Sub.cons O (Sub.cons O (Sub.cons O Sub.nil))))) sub_st (by omega)
 have hjn:j=K:=by omega
 subst hjn
 rw[List.take_of_length_le (by omega),List.take_of_length_le (by omega),hr] at hok
 subst hok
 focus (refine qs ?_;refine qf ?_;refine qz ?_;refine qq ?_;refine qF ?_;refine S_exit O O ?_;refine qs ?_;refine qp ?_;refine qz ?_)
 exact hB _ _ _ _ _ O O (qE O)
def chkRL (x:Rs):List Bool:=[srvB x.me,decide (x.term≤4611686018427387904),decide (0≤x.vote),decide (x.vote≤5),decide (0≤x.leader),decide (x.leader≤5),decide (chkE x.base x.es x.term=0),C.right x.cf,soundB x.es,decide (x.base.1≤x.commit),decide (x.commit≤(lastP x).1),decide (4≤x.limit),decide (x.limit≤16),decide (0≤x.clock),decide (x.clock≤x.limit),roleB x (lastP x).1]
theorem chkRL_eq (x:Rs):chkRL x=[srvB x.me,decide (x.term≤4611686018427387904),decide (0≤x.vote),decide (x.vote≤5),decide (0≤x.leader),decide (x.leader≤5),decide (chkE x.base x.es x.term=0),C.right x.cf,soundB x.es,decide (x.base.1≤x.commit),decide (x.commit≤(lastP x).1),decide (4≤x.limit),decide (x.limit≤16),decide (0≤x.clock),decide (x.clock≤x.limit),roleB x (lastP x).1]:=rfl
theorem checkB_eq (x:Rs):checkB x=(chkRL x).all id:=by simp[checkB,chkRL,Bool.and_assoc]
theorem lastP_le (x:Rs):(lastP x).1≤18446744073709551614:=by
 unfold lastP
 split
 ·rename_i h
  have:=right_fits h
  simp only[lastA]
  omega
 ·exact Nat.zero_le _
theorem rcheck_any (w:World) (x:Rs) (p:Rp) (h:RfR w x p) (r:Bool) (hr:checkB x=r):
  Gives Tryz.prog 30 [.agg (rfc x p).toArray] [] w (X:=Unit) (fun _=> .int .i64 (if r=true then 0 else 250)) (fun _=>True) (fun _=>[]):=by
 refine gives_S Tryz.func30 O Tryz.ntmps30 Tryz.results30 (by simp) (St.enter w) (fun B hB=>?_)
 rw[checkB_eq] at hr
 have hvm:=h.hvm
 have hcm:=h.lg.hcm
 have hnm:=h.lg.hm
 have hlp:=lastP_le x
 obtain⟨ck,hck⟩: ∃ c,chkE x.base x.es x.term=c:=⟨_,O⟩
 obtain⟨q1,h1⟩: ∃ b,decide (x.term≤4611686018427387904)=b:=⟨_,O⟩
 obtain⟨q2,h2⟩: ∃ b,decide (0≤x.vote)=b:=⟨_,O⟩
 obtain⟨q3,h3⟩: ∃ b,decide (x.vote≤5)=b:=⟨_,O⟩
 obtain⟨q4,h4⟩: ∃ b,decide (0≤x.leader)=b:=⟨_,O⟩
 obtain⟨q5,h5⟩: ∃ b,decide (x.leader≤5)=b:=⟨_,O⟩
 obtain⟨q6,h6⟩: ∃ b,decide (ck=0)=b:=⟨_,O⟩
 obtain⟨q9,h9⟩: ∃ b,decide (x.base.1≤x.commit)=b:=⟨_,O⟩
 obtain⟨q10,h10⟩: ∃ b,decide (x.commit≤(lastP x).1)=b:=⟨_,O⟩
 obtain⟨q11,h11⟩: ∃ b,decide (4≤x.limit)=b:=⟨_,O⟩
 obtain⟨q12,h12⟩: ∃ b,decide (x.limit≤16)=b:=⟨_,O⟩
 obtain⟨q13,h13⟩: ∃ b,decide (0≤x.clock)=b:=⟨_,O⟩
 obtain⟨q14,h14⟩: ∃ b,decide (x.clock≤x.limit)=b:=⟨_,O⟩
 obtain⟨q0,h0⟩: ∃ b,srvB x.me=b:=⟨_,O⟩
 obtain⟨q7,h7⟩: ∃ b,C.right x.cf=b:=⟨_,O⟩
 obtain⟨q8,h8⟩: ∃ b,soundB x.es=b:=⟨_,O⟩
 obtain⟨q15,h15⟩: ∃ b,roleB x (lastP x).1=b:=⟨_,O⟩
 have hr:(q0&&q1&&q2&&q3&&q4&&q5&&q6&&q7&&q8&&q9&&q10&&q11&&q12&&q13&&q14&&q15)=r:=by
  rw[← hr,chkRL_eq,hck,h0,h1,h2,h3,h4,h5,h6,h7,h8,h9,h10,h11,h12,h13,h14,h15]
  simp[Bool.and_assoc]
 repeat' (first|refine R_take (T_bv O h2) ?_ O O|refine R_take (T_bv O h3) ?_ O O|refine R_take (T_bv O h4) ?_ O O|refine R_take (T_bv O h5) ?_ O O|refine R_take (T_bv O h6) ?_ O O|refine R_take (T_bv O h11) ?_ O O|refine R_take (T_bv O h12) ?_ O O|refine R_take (T_bv O h13) ?_ O O|refine R_take (T_bv O h14) ?_ O O|refine R_take (T_bv O (if7 q7)) ?_ O O|refine R_take (T_decQ O h1 (by omega)) ?_ O O|refine R_take (T_decQ O h9 (by omega)) ?_ O O|refine R_take (T_decQ O h10 (by omega)) ?_ O O|refine R_p O ?_ O O|refine R_nil ?_|refine R_skip ?_ O O|refine R_take (T_loads (ds:=lgc x.base p.A p.n p.c) O O O O O) ?_ O O|refine R_take (T_loads (ds:=[.slice p.cA p.cn p.cc]) O O O O O) ?_ O O|refine R_take (T_loads (ds:=rfc x p) O O O O O) ?_ O O|refine R_take (T_fldv (xs:=atc (lastP x)) O O O O O O) ?_ O O|refine R_take (T_load O O O O) ?_ O O|refine R_take (T_not O) ?_ O O|refine S_seq O ?_|refine S_region O O ?_|refine S_true O O ?_|refine S_skip O ?_|(refine R_eff (E_boxa (cs:=rfc x p) O) ?_ O O;rintro _ _ ⟨b1,rfl,rfl⟩)|(refine R_eff (E_hv0 (f:=50) F50 (fun w hS=>lastP_k w x.base p.A p.c p.n p.Q x.es h.lg.hn h.lg.hQ (h.keep hS.kpO).lg.rq (by omega) (lastP x) O) O O (fun _=>O)) ?_ O O;rintro _ _ ⟨_,rfl,_,rfl⟩)|(refine R_eff (E_hv0 (f:=93) F93 (fun w hS=>rserver_any w x.me _ h0) O O (fun _=>O)) ?_ O O;rintro _ _ ⟨_,rfl,_,rfl⟩)|(refine R_eff (E_hv0 (f:=94) F94 (fun w hS=>checkL_kr w x.base p.A p.c p.n p.Q x.es h.lg.hn h.lg.hQ (h.keep hS.kpO).lg.rq (by omega) x.term _ hck) O O (fun _=>O)) ?_ O O;rintro _ _ ⟨_,rfl,_,rfl⟩)|(refine R_eff (E_hv0 (f:=95) F95 (fun w hS=>rchk_k w p.cA p.cn p.cc x.cf (h.keep hS.kpO).lg.rc (by omega) _ h7) O O (fun _=>O)) ?_ O O;rintro _ _ ⟨_,rfl,_,rfl⟩)|(refine R_eff (E_hv0 (f:=96) F96 (fun w hS=>rsound_k w p.A p.c p.n p.Q x.es h.lg.hn h.lg.hQ (h.keep hS.kpO).lg.rq (h.keep hS.kpO).lg.bq h.lg.hd (by omega) _ h8) O O (fun _=>O)) ?_ O O;rintro _ _ ⟨_,rfl,_,rfl⟩)|(refine R_eff (E_hv0 (f:=97) F97 (fun w hS=>role_k w x p (h.keep hS.kpO) _ hlp _ h15) O O (fun _=>O)) ?_ O O;rintro _ _ ⟨_,rfl,_,rfl⟩)|(refine R_split O O (fun hs=>?_) (fun hs=>?_))|(refine S_cond O O (fun hs=>?_) (fun hs=>?_)))
 all_goals first
  |(obtain rfl:r=false:=by rw[← hr];(try simp only[Bool.not_eq_true'] at hs);simp only[hs,Bool.false_and,Bool.and_false]
    exact hB _ _ _ _ _ O O (qE O))
  |(obtain rfl:r=true:=(by have hz:q14=true:=(by simpa using ‹(!q14)=false›);have hy:q15=true:=(by simpa using ‹(!q15)=false›);rw[← hr];simp only[*,Bool.and_self])
    exact hB _ _ _ _ _ O O (qE O))
end Go.Proofs.YtdeffdldifepkaaGreat
