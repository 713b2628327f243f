/- Lemmas of the proof, part 3. -/
import Derived.Laws.Pointers
import Derived.Test.YtdeffdldifepkaaGreatZs2
set_option maxRecDepth 100000
set_option maxHeartbeats 4000000
namespace Go.Proofs.YtdeffdldifepkaaGreat
open Go.RowKit
open Asn (pt row rb)
set_option linter.unusedVariables false
set_option linter.unusedSimpArgs false
def s5 (a:At) (l:List En) (idx n:Nat):Bool:=decide (0<n)&&decide (a.1+n≤idx)&&decide ((l.getD (n-1) default).2.1=3)
def kG (a:At) (l:List En) (idx:Nat):Nat→Nat
 |0=>0
 |m+1=>if s5 a l idx (m+1)=true then m+1 else kG a l idx m
def fv (a:At) (l:List En) (idx:Nat):Nat×List UInt8×Bool:=
 if br a l=true then (if kG a l idx l.length=0 then (0,[],false) else (a.1+kG a l idx l.length,(l.getD (kG a l idx l.length-1) default).2.2,true)) else (0,[],false)
theorem vg (a:At) (l:List En) (idx:Nat): ∀ m,kG a l idx m≤m
 |0=>Nat.le_refl _
 |m+1=>by
  unfold kG
  have:=vg a l idx m
  split<;>omega
theorem s6 (w:World) (a:At) (A:Option Addr) (c k:Nat) (Q:List Em) (l:List En) (hk:Q.length=k) (hl:Q.map bA=l) (h:Rd w bC 3 A k (ab aN Q)) (hd:lZ w bC (Q.map cR)) (hn:k≤1000) (hkk: ∀ m∈Q,m.2.2.2.2.length≤100000) (idx:Nat) (ri:Nat) (rbs:List UInt8) (rq:Bool) (N:Nat) (hN:rbs.length=N) (hs:fv a l idx=(ri,rbs,rq)):
  Gives Tryz.prog 49 [.agg (aE a A k c).toArray,.int .u64 (idx:Int)] [] w (X:=Option Addr×Nat) (fun x=> .tuple #[.int .u64 (ri:Int),.slice x.1 N x.2,.bool rq]) (fun _=>True) (fun x=>[row 5 1 x.1 N x.2 (rbs.map bv)]):=by
 refine rn Tryz.func49 O Tryz.ntmps49 Tryz.results49 (by simp) (St.enter w) (fun B hB0 hB=>?_)
 obtain⟨i,t⟩:=a
 have hll:l.length=k:=by rw[← hl,List.length_map,hk]
 obtain⟨r0,hr0⟩: ∃ q,br (i,t) l=q:=⟨_,O⟩
 cases r0
 ·rw[fv,hr0,if_neg Bool.false_ne_true] at hs
  injection hs with e1 e2
  injection e2 with e2 e3
  subst e1 e2 e3 hN
  focus (refine qs ?_;(refine qe (ap (cs:=aE (i,t) A k c) O) ?_;rintro _ _ ⟨b2,rfl,rfl⟩);(refine qe (fo (v:= .int .u64 (idx:Int)) O O) ?_;rintro _ _ ⟨b3,rfl,rfl⟩);(iterate 3 refine qp ?_);refine qz ?_;refine qq ?_;refine qs ?_;refine qt (ai (ds:=aE (i,t) A k c) O O O O O) ?_;(refine qh fh (fun w hS=>kE w (i,t) A c k Q l hk hl ((Srd.old h (fun k _=>ao k)).rd w hS) (by omega) _ hr0) ?_);refine qt (aR O) ?_;refine qz ?_;refine qT ?_;refine qs ?_;(iterate 3 refine qp ?_);refine qz ?_)
  exact hB0 _ _ _ _ _ O (.tmp O (.tmp O (.tmp O .nil))) fun w' hS=>⟨(none,0),O,trivial,(hS.sublist (List.nil_sublist _)).nilrow _ _⟩
 have hff:=dF hr0
 rw[hll] at hff
 have hff:k≤16∧i+k≤18446744073709551614:=hff
 have hfit:(i,t).1+k≤18446744073709551615:=by show i+k≤_;omega
 rw[fv,hr0,if_pos O,hll] at hs
 focus (refine qs ?_;(refine qe (ap (cs:=aE (i,t) A k c) O) ?_;rintro _ _ ⟨b2,rfl,rfl⟩);(refine qe (fo (v:= .int .u64 (idx:Int)) O O) ?_;rintro _ _ ⟨b3,rfl,rfl⟩);(iterate 3 refine qp ?_);refine qz ?_;refine qq ?_;refine qs ?_;refine qt (ai (ds:=aE (i,t) A k c) O O O O O) ?_;(refine qh fh (fun w hS=>kE w (i,t) A c k Q l hk hl ((Srd.old h (fun k _=>ao k)).rd w hS) (by omega) _ hr0) ?_);refine qt (aR O) ?_;refine qz ?_;refine qF ?_;refine qx ?_;refine qs ?_;(refine qe (lU (v:= .int .i64 0) O O O) ?_;rintro _ _ ⟨b7,rfl,rfl⟩);(refine qe (lU (v:= .int .u64 0) O O O) ?_;rintro _ _ ⟨b8,rfl,rfl⟩);(iterate 2 (refine qw (ey O O O O O O (by first|(simp;done)|(simp;omega)|decide)) ?_;rintro _ _ rfl));refine qz ?_;refine qq ?_;refine qs ?_;refine qt (ai (ds:=aE (i,t) A k c) O O O O O) ?_;(refine qe (bB (f:=122) DA (fun w hS=>l7 w (i,t) A k c) O O (fun _=>O)) ?_;rintro _ _ ⟨bI,rfl,_,rfl⟩);refine qz ?_;refine qb ?_)
 refine rm (F:=fun k=>k<w.heap.size∨k=bI) (es:=oA (i,t) l) (ps:=[16,17]) (X:=Int×Nat) (fun x=>[pt b7 3 [.int .i64 x.1],pt b8 34 [.int .u64 (x.2:Int)]]) (fun j x=>x.1=(kG (i,t) l idx (j-1):Int)-1∧(0<kG (i,t) l idx (j-1)→x.2=i+kG (i,t) l idx (j-1))) (fun j x=>False) (-1,0) [pt bI 39 (aE (i,t) A k c),pt b3 34 [.int .u64 (idx:Int)],pt b2 39 (aE (i,t) A k c)] O O DK (by kernel_rfl) (fun e he=>?_) ⟨O,fun h0=>absurd h0 (Nat.lt_irrefl 0)⟩ (fun w' hS=>?_) (fun w' hS=>?_) (fun w' hS=>oh (b:=bI) (Hk:=[pt bI 39 (aE (i,t) A k c),pt b3 34 [.int .u64 (idx:Int)],pt b2 39 (aE (i,t) A k c)]) hS) (fun j x w' hx hj hS=>?_) (fun y D hy=>?_) (fun y D j hj hy=>absurd hy id)
 ·obtain⟨j,_,rfl⟩:=List.mem_map.1 he
  rfl
 ·simp only[Nat.add_zero,List.set_cons_zero] at hS
  exact ae (H':=[pt b7 3 [.int .i64 (-1)],pt b8 34 [.int .u64 0],pt bI 39 (aE (i,t) A k c),pt b3 34 [.int .u64 (idx:Int)],pt b2 39 (aE (i,t) A k c)]) w' hS
 ·have h1:Rd w bC 3 A Q.length (ab aN Q):=by rw[hk];exact h
  have hb:Rd w' (fun k=>k<w.heap.size∨k=bI) 1 (some ⟨bI,0,none⟩) 3 (aE (i,t) A k c):=nv (b:=bI) hS O (.inr O)
  rw[← hk] at hb
  rw[← hl]
  exact lB w' _ bI (i,t) A c Q hb (ut h1 (by decide) (fun k=>ao k) hS (fun k hk=> .inl hk)) (by omega) (by rw[hk];exact hfit)
 ·rw[ip,hll] at hj
  obtain⟨x1,x2⟩:=x
  obtain⟨hx1,hx2⟩:=hx
  dsimp only at hx1 hx2
  rw[nB _ _ _ (by omega)]
  have hpf:=iL (i,t) l j
  obtain⟨⟨pi,pu⟩,hp⟩: ∃ p,db (i,t) l j=p:=⟨_,O⟩
  rw[hp] at hpf ⊢
  have hpf:pi=i+j:=hpf
  subst hpf
  intro l2 rA rB B0 B1 J hfull hbeg hend hret
  have hC3:=dh (b:=b3) hfull O
  have hC2:=dh (b:=b2) hfull O
  have hC4:=xe h (by decide) (fun k=>ao k) hfull
  focus (refine qs ?_;refine qp ?_;refine qz ?_;refine qr ?_;(refine qe (am O ba) ?_;rintro _ _ ⟨b10,rfl,rfl⟩);(refine qw (aj (cs:=aO (0,0)) (ds:=aO (i+j,pu)) O O O O (aQ _) O) ?_;rintro _ _ rfl);refine qz ?_)
  refine hbeg _ [pt b10 36 (aO (i+j,pu)),pt b7 3 [.int .i64 x1],pt b8 34 [.int .u64 (x2:Int)]] _ ?_ ae
  by_cases hj0:j=0
  ·subst hj0
   repeat' (first|refine aa (aB O (by omega)) ?_ O O|refine bM O ?_ O O|refine ax ?_|refine aU ?_ O O|refine au O ?_|refine al O O ?_|refine aA O O ?_|refine aG O ?_|refine aK ?_|refine aM O ?_)
   exact hend (x1,x2) _ _ ⟨hx1,hx2⟩ ae
  have hjj:j+1-1=(j-1)+1:=by omega
  by_cases hji:i+j≤idx
  ·have hne:A≠none:=by obtain⟨ad,rfl,_⟩:=h.2 (by omega);simp
   have hat:=bi (f:=aN) bW Q default (j-1) (by omega)
   have hlk:j-1<k:=by omega
   obtain⟨m,hm⟩: ∃ m,Q.getD (j-1) default=m:=⟨_,O⟩
   rw[hm] at hat
   have hat1:(ab aN Q)[(j-1)*3+1]? =some (.int .i64 m.2.1):=hat 1 _ O
   have hlm:l.getD (j-1) default=bA m:=by rw[← hl, ← hm];simp[List.getD,show j-1<Q.length by omega]
   have hT:s5 (i,t) l idx j=decide (m.2.1=3):=by
    unfold s5
    rw[hlm,decide_eq_true (show 0<j by omega),decide_eq_true (show (i,t).1+j≤idx from hji)]
    rfl
   obtain⟨kd,hkd⟩: ∃ z,m.2.1=z:=⟨_,O⟩
   rw[hkd] at hat1 hT
   by_cases hk3:kd=3
   ·rw[decide_eq_true hk3] at hT
    focus (refine qb ?_;refine qs ?_;refine qp ?_;refine qd ?_;refine qp ?_;refine qp ?_;refine qt (ah O O O O) ?_;refine qt (cB O O O hC3 (fun k hk=>hk) O) ?_;refine qd ?_;(iterate 3 refine qp ?_);refine qt (cB (v:= .slice A k c) O O O hC2 (fun k hk=>hk) O) ?_;refine qp ?_;refine qt (bU O O (by omega) (by unfold aH;omega)) ?_;refine qt (bH (sz:=3) (q:=j-1) O O O O O O hne hlk) ?_;refine qt (dx O O O O O hne) ?_;refine qt (bN O O O (Srd.old hC4 (fun k hk=>hk)) (by omega) hat1) ?_;refine qd ?_;refine qp ?_;refine qz ?_;refine qT ?_)
    refine iG ([pt b10 36 (aO (i+j,pu))]) ae (by kernel_rfl) O (by kernel_rfl) (by kernel_rfl) (by kernel_rfl:_=6) ?_
    refine dp 0 ?_
    (refine dt 1 O (bU O O (by omega) (by unfold aH;omega)) ?_)
    refine dp 2 ?_
    refine dl 3 ?_
    refine dE 4 O (ey O O O O O O (by first|(simp;done)|(simp;omega)|decide)) ?_
    rintro _ _ rfl
    refine nx ?_
    refine dE 5 O (ey O O O O O O (by first|(simp;done)|(simp;omega)|decide)) ?_
    rintro _ _ rfl
    refine nx ?_
    refine dn ?_
    skip
    focus (refine aK ?_)
    have e1:kG (i,t) l idx (j+1-1)=j:=by rw[hjj,kG,show j-1+1=j by omega,hT,if_pos O]
    refine hend (((j-1:Nat):Int),i+j) _ _ ⟨by rw[e1];dsimp only;omega,fun _=>by rw[e1]⟩ fun w' hS=>?_
    simp only[Nat.add_zero,List.set_cons_zero] at hS
    exact ae w' hS
   ·rw[decide_eq_false hk3] at hT
    focus (refine qb ?_;refine qs ?_;refine qp ?_;refine qd ?_;refine qp ?_;refine qp ?_;refine qt (ah O O O O) ?_;refine qt (cB O O O hC3 (fun k hk=>hk) O) ?_;refine qd ?_;(iterate 3 refine qp ?_);refine qt (cB (v:= .slice A k c) O O O hC2 (fun k hk=>hk) O) ?_;refine qp ?_;refine qt (bU O O (by omega) (by unfold aH;omega)) ?_;refine qt (bH (sz:=3) (q:=j-1) O O O O O O hne hlk) ?_;refine qt (dx O O O O O hne) ?_;refine qt (bN O O O (Srd.old hC4 (fun k hk=>hk)) (by omega) hat1) ?_;refine qf ?_;refine qp ?_;refine qz ?_;refine qF ?_;refine qx ?_;refine aK ?_)
    have e1:kG (i,t) l idx (j+1-1)=kG (i,t) l idx (j-1):=by rw[hjj,kG,show j-1+1=j by omega,hT,if_neg Bool.false_ne_true]
    exact hend (x1,x2) _ _ ⟨by rw[e1];exact hx1,fun h0=>by rw[e1] at h0 ⊢;exact hx2 h0⟩ ae
  ·have hT:s5 (i,t) l idx j=false:=by
    unfold s5
    rw[decide_eq_false (show ¬ (i,t).1+j≤idx from hji),Bool.and_false,Bool.false_and]
   focus (refine qb ?_;refine qs ?_;refine qp ?_;refine qd ?_;refine qp ?_;refine qp ?_;refine qt (ah O O O O) ?_;refine qt (cB O O O hC3 (fun k hk=>hk) O) ?_;refine qf ?_;refine qp ?_;refine qp ?_;(iterate 8 refine qk ?_);refine qp ?_;refine qz ?_;refine qF ?_;refine qx ?_;refine aK ?_)
   have e1:kG (i,t) l idx (j+1-1)=kG (i,t) l idx (j-1):=by rw[hjj,kG,show j-1+1=j by omega,hT,if_neg Bool.false_ne_true]
   exact hend (x1,x2) _ _ ⟨by rw[e1];exact hx1,fun h0=>by rw[e1] at h0 ⊢;exact hx2 h0⟩ ae
 ·rw[ip,hll,Nat.add_sub_cancel] at hy
  obtain⟨x1,x2⟩:=y
  obtain⟨hx1,hx2⟩:=hy
  dsimp only at hx1 hx2
  simp only[List.cons_append,List.nil_append]
  have hle:=vg (i,t) l idx k
  obtain⟨n,hn2⟩: ∃ n,kG (i,t) l idx k=n:=⟨_,O⟩
  rw[hn2] at hs hx1 hx2 hle
  by_cases hn0:n=0
  ·rw[if_pos hn0] at hs
   injection hs with e1 e2
   injection e2 with e2 e3
   subst e1 e2 e3 hN
   focus (refine aK ?_;refine qq ?_;refine qs ?_;refine qt (ah O O O O) ?_;refine qd ?_;refine qz ?_;refine qT ?_;refine qs ?_;(iterate 3 refine qp ?_);refine qz ?_)
   refine hB _ _ _ _ _ _ _ O inferInstance (.tmp O (.tmp O (.tmp O .nil))) fun w' hS=>⟨(none,0),O,trivial,(hS.sublist (List.nil_sublist _)).nilrow _ _⟩
  rw[if_neg hn0] at hs
  injection hs with e1 e2
  injection e2 with e2 e3
  subst e1 e2 e3
  obtain⟨q,hq⟩: ∃ q,n-1=q:=⟨_,O⟩
  have hx2:=hx2 (by omega)
  obtain rfl:x1=(q:Int):=by omega
  subst hx2
  rw[hq] at hN
  have hqk:q<k:=by omega
  have hne:A≠none:=by obtain⟨ad,rfl,_⟩:=h.2 (by omega);simp
  have hat:=bi (f:=aN) bW Q default q (by omega)
  obtain⟨m,hm⟩: ∃ m,Q.getD q default=m:=⟨_,O⟩
  have hmem:m∈Q:=by rw[← hm];simp[List.getD,show q<Q.length by omega]
  rw[hm] at hat
  have hat2:(ab aN Q)[q*3+2]? =some (.slice m.2.2.1 m.2.2.2.2.length m.2.2.2.1):=hat 2 _ O
  have hlm:l.getD q default=bA m:=by rw[← hl, ← hm];simp[List.getD,show q<Q.length by omega]
  have hbk:=hkk m hmem
  have hd1:Rd w bC 1 m.2.2.1 m.2.2.2.2.length (m.2.2.2.2.map bv):=hd (cR m) (List.mem_map.2 ⟨m,hmem,O⟩)
  rw[hlm] at hN
  obtain rfl:N=m.2.2.2.2.length:=hN.symm
  focus (refine aK ?_;refine qq ?_;refine qs ?_;refine qt (ah O O O O) ?_;refine qf ?_;refine qz ?_;refine qF ?_;refine qx ?_;refine qq ?_)
  refine dS [pt b8 34 [.int .u64 ((i+n:Nat):Int)],pt b2 39 (aE (i,t) A k c),pt b7 3 [.int .i64 (q:Int)]] 11 ?_
  refine dl 0 ?_
  refine dp 1 ?_
  refine dl 2 ?_
  refine dl 3 ?_
  refine dt 4 O (bH (sz:=3) (q:=q) O O O O O O hne hqk) ?_
  refine dt 5 O (dx O O O O O hne) ?_
  refine dt 6 O (bN O O O (Srd.old h (fun k _=>ao k)) (by omega) hat2) ?_
  refine dE 7 O (eD (f:=123) DB (fun w hS=>l8 w m.2.2.1 m.2.2.2.2.length m.2.2.2.1 (m.2.2.2.2.map bv) ((Srd.old hd1 (fun k _=>ao k)).rd w hS) (kC _) hbk) O O) ?_
  rintro _ _ ⟨⟨A9,c9⟩,rfl,_,rfl⟩;dsimp only[List.cons_append,List.nil_append]
  refine nx ?_
  refine dp 8 ?_
  refine dp 9 ?_
  refine cZ 10 ?_
  refine dn ?_
  skip
  skip
  refine hB _ _ _ _ _ _ _ O inferInstance (.tmp O (.tmp O (.tmp O .nil))) fun w' hS=>⟨(A9,c9),O,trivial,?_⟩
  rw[hq,hlm]
  exact ae (H':=[row 5 1 A9 m.2.2.2.2.length c9 (m.2.2.2.2.map bv)]) w' hS
theorem vh (w:World) (a:At) (A:Option Addr) (c k:Nat) (Q:List Em) (l:List En) (hk:Q.length=k) (hl:Q.map bA=l) (h:Rd w bC 3 A k (ab aN Q)) (hd:lZ w bC (Q.map cR)) (hc:k≤c) (hn:k≤1000) (hkk: ∀ m∈Q,m.2.2.2.2.length≤100000) (idx:Nat) (hidx:idx≤18446744073709551615) (n:Int) (e:Int) (p:At) (r:List En) (K:Nat) (hK:r.length=K) (hs:frm a l idx n=(e,p,r)):
  Gives Tryz.prog 135 [.agg (aE a A k c).toArray,.int .u64 (idx:Int),zi n] [] w (X:=(Option Addr×Nat)×Sh r) (fun x=> .tuple #[.agg (aO p).toArray,.slice x.1.1 K x.1.2,zi e]) (fun _=>True) (fun x=>[row 59 3 x.1.1 K x.1.2 (ab aN x.2.1),dq 5 (x.2.1.map cR)]):=by
 subst hk
 subst hl
 subst hK
 have h1:=uY w a A c Q h hd hc hn hkk idx hidx n
 rw[hs] at h1
 exact h1.mono fun u w' ⟨⟨⟨A5,c5⟩,P⟩,he,h1,hS⟩=>⟨((A5,c5),⟨P,h1,fun m hm=>mb (e:=5) (D:=P.map cR) hS (by simp) (cR m) (List.mem_map.2 ⟨m,hm,O⟩)⟩),he,trivial,hS⟩
theorem vi {w0 w:World} {M:Nat→Prop} {H:List Asn} {e:TypeId} {A:Option Addr} {n c:Nat} {l:List UInt8} (hS:St w0 M H w) (hm:row e 1 A n c (l.map bv)∈H) (hl:l.length=n):Bs w bC A n c l:=by
 have h1:=hS.at_ hm
 have hf:=ep h1
 exact⟨hl.symm,hf.1,hf.2.1,(Rd.of_own h1).more fun _ _=>trivial⟩
section
variable {P:Program} {n:Nat} {w0:World} {M:Nat→Prop} {T:aF} {H:List Asn} {dd:Option Tmp} {tt:TypeId} {pos:String} {af:Array Edge} {g:Option (Nat×Bool)}
theorem lf {x y:Operand} {t u:TypeId} {kk:IntKind} {i j:Int} {p q r:Nat} (h:p%q=r) (hx:az T x=some (.int kk i)) (hy:az T y=some (.int kk j)) [hi:NatOf i p] [hj:NatOf j q] (hq:0<q):
  Tk P n w0 M T H ⟨dd,.binOp .rem t x y u,tt,pos,af,g⟩ (.int kk (r:Int)):=by
 subst h
 exact zj hx hy hq
theorem gJ [HasTab P] {x y:Operand} {s:TypeId} {gb off t:Nat} {cs cs' ds:List Value} {i:Ti} {K:List Value→List Asn} (hx:az T x=some (.pointer (some ⟨gb,off,none⟩))) (hy:az T y=some (.agg ds.toArray)) (hs:ty P s=some i) (hl:ds.length=i.size) (h1: ∀ u∈ds,u.oneCell'=true) [hu:HUp H gb t cs K] (hc:cs.take off++ds++cs.drop (off+ds.length)=cs') (hfit:off+ds.length≤cs.length):
  Ef P n w0 M T H ⟨none,.store s x y,tt,pos,af,g⟩ (fun _ H''=>H''=K cs'):=by
 subst hc
 exact nl hx hy hs (by simp[aV]) hl h1 O hfit
theorem aw [HasTab P] {x y:Operand} {s:TypeId} {gb off t:Nat} {cs cs':List Value} {v:Value} {i:Ti} {K:List Value→List Asn} (hx:az T x=some (.pointer (some ⟨gb,off,none⟩))) (hy:az T y=some v) (hs:ty P s=some i) (h1:v.oneCell'=true) (hl:i.size=1) [hu:HUp H gb t cs K] (hc:cs.set off v=cs') (hfit:off<cs.length):
  Ef P n w0 M T H ⟨none,.store s x y,tt,pos,af,g⟩ (fun _ H''=>H''=K cs'):=by
 subst hc
 exact ey hx hy hs h1 hl O hfit
end
theorem fK (T:aF) (x:Operand) (v:Value) (hx:az T x=some v): ∀ cap:List Value,cg T (#[x]++(cap.map Operand.const).toArray).toList=some (v::cap):=fun cap=>by
 have h:cg T (cap.map Operand.const)=some cap:=by
  induction cap with
  |nil=>rfl
  |cons u l ih=>simp[cg,ih,az]
 simp[cg,hx,h]
theorem pW (w:World) (a b:At) (A A2:Option Addr) (c c2':Nat) (Q M:List Em) (h:Rd w bC 3 A Q.length (ab aN Q)) (h2:Rd w bC 3 A2 M.length (ab aN M)) (hq: ∀ m∈Q,mz w m) (hm: ∀ m∈M,mz w m) (hn:Q.length≤100000) (hn2:M.length≤100000):
  Gives Tryz.prog 61 [.agg (aE a A Q.length c).toArray,.agg (aE b A2 M.length c2').toArray] [] w (X:=Unit) (fun _=> .bool (decide (a=b)&&decide (Q.map bA=M.map bA))) (fun _=>True) (fun _=>[]):=by
 refine aP Tryz.func61 O Tryz.ntmps61 Tryz.results61 (by simp) (St.enter w) (fun B hB=>?_)
 obtain⟨i,t⟩:=a
 obtain⟨i2,t2⟩:=b
 obtain⟨r,hr⟩: ∃ r,decide ((i,t)=(i2,t2))=r:=⟨_,O⟩
 obtain⟨q,hq2⟩: ∃ r,decide (Q.map bA=M.map bA)=r:=⟨_,O⟩
 rw[hr,hq2] at hB
 cases r
 ·rw[Bool.false_and] at hB
  repeat' (first|refine aa (gI (a:=(i,t)) (b:=(i2,t2)) O O hr) ?_ O O|refine bM O ?_ O O|refine ax ?_|refine aU ?_ O O|refine aa (ai (ds:=aO (i,t)) O O O O O) ?_ O O|refine aa (ai (ds:=aO (i2,t2)) O O O O O) ?_ O O|refine au O ?_|refine al O O ?_|(refine an (ap (cs:=aE (i,t) A Q.length c) O) ?_ O O;rintro _ _ ⟨b2,rfl,rfl⟩)|(refine an (ap (cs:=aE (i2,t2) A2 M.length c2') O) ?_ O O;rintro _ _ ⟨b3,rfl,rfl⟩))
  exact hB _ _ _ _ _ O O (qE O)
 ·rw[Bool.true_and] at hB
  focus (refine qs ?_;(refine qe (ap (cs:=aE (i,t) A Q.length c) O) ?_;rintro _ _ ⟨b2,rfl,rfl⟩);(refine qe (ap (cs:=aE (i2,t2) A2 M.length c2') O) ?_;rintro _ _ ⟨b3,rfl,rfl⟩);(iterate 2 refine qp ?_;refine qn ?_);refine qp ?_;refine qt (ai (ds:=aO (i,t)) O O O O O) ?_;refine qp ?_;refine qt (ai (ds:=aO (i2,t2)) O O O O O) ?_;refine qt (gI (a:=(i,t)) (b:=(i2,t2)) O O hr) ?_;refine qp ?_;(iterate 2 refine qp ?_;refine qt (ah O O O O) ?_);refine qp ?_;(refine qh FN (fun w hS=>u0 w A A2 c c2' Q M ((Srd.old h (fun k _=>ao k)).rd w hS) ((Srd.old h2 (fun k _=>ao k)).rd w hS) (fun m hm2=>(Src.old (hq m hm2) (fun k _=>ao k)).bs w hS) (fun m hm2=>(Src.old (hm m hm2) (fun k _=>ao k)).bs w hS) hn hn2) ?_;rw[hq2]);refine qp ?_;refine qp ?_;refine qz ?_)
  exact hB _ _ _ _ _ O O (qE O)
structure Ms where
 K:Int
 F:Int
 T:Int
 tm:Nat
 pl:At
 es:List En
 cm:Nat
 ok:Bool
 ix:Nat
 cf:List Int
 dt:List UInt8
structure Mp where
 A:Option Addr
 n:Nat
 c:Nat
 cA:Option Addr
 cn:Nat
 cc:Nat
 dA:Option Addr
 dn:Nat
 dc:Nat
 Q:List Em
def aW (x:Ms) (p:Mp):List Value:=[.int .i64 x.K,.int .i64 x.F,.int .i64 x.T,.int .u64 (x.tm:Int),.int .u64 (x.pl.1:Int),.int .u64 (x.pl.2:Int),.slice p.A p.n p.c,.int .u64 (x.cm:Int),.bool x.ok,.int .u64 (x.ix:Int),.slice p.cA p.cn p.cc,.slice p.dA p.dn p.dc]
theorem dZ (x:Ms) (p:Mp):(aW x p).length=12:=rfl
theorem gP (x:Ms) (p:Mp): ∀ u∈aW x p,u.oneCell'=true:=by simp[aW,Value.oneCell']
theorem xE:za.zero= .agg (aW ⟨0,0,0,0,(0,0),[],0,false,0,[],[]⟩ ⟨none,0,0,none,0,0,none,0,0,[]⟩).toArray:=by kernel_rfl
structure MsR (w:World) (x:Ms) (p:Mp):Prop where
 hn:p.Q.length=p.n
 hm:p.n≤maxLen
 hQ:p.Q.map bA=x.es
 rq:Rd w bC 3 p.A p.n (ab aN p.Q)
 bq: ∀ m∈p.Q,mz w m
 hc:x.cf.length=p.cn
 hmc:p.cn≤maxLen
 rc:Rd w bC 1 p.cA p.cn (x.cf.map zv)
 bd:Bs w bC p.dA p.dn p.dc x.dt
 hcp:p.n≤p.c
theorem MsR.keep {w w':World} {x:Ms} {p:Mp} (h:MsR w x p) (hk:Kp bC w w'):MsR w' x p:=⟨h.hn,h.hm,h.hQ,h.rq.keep hk,fun m hm=>Bs.keep (h.bq m hm) hk,h.hc,h.hmc,h.rc.keep hk,Bs.keep h.bd hk,h.hcp⟩
theorem MsR.ln {w:World} {x:Ms} {p:Mp} (h:MsR w x p):x.es.length=p.n:=by rw[← h.hQ,List.length_map,h.hn]
theorem MsR.dn {w:World} {x:Ms} {p:Mp} (h:MsR w x p):p.dn=x.dt.length:=h.bd.len
def cQ (K:Int):Nat:=if K=1∨K=3 then 1 else if K=2∨K=4 then 2 else if K=5 then 13 else if K=6 then 18 else if K=7 then 97 else 0
theorem cy (w:World) (K:Int):
  Gives Tryz.prog 114 [.int .i64 K] [] w (X:=Unit) (fun _=> .int .i64 (cQ K:Int)) (fun _=>True) (fun _=>[]):=by
 refine aP Tryz.func114 O Tryz.ntmps114 Tryz.results114 (by simp) (St.enter w) (fun B hB=>?_)
 rcases(by omega:K=1∨K=2∨K=3∨K=4∨K=5∨K=6∨K=7∨(K≠1∧K≠2∧K≠3∧K≠4∧K≠5∧K≠6∧K≠7)) with rfl|rfl|rfl|rfl|rfl|rfl|rfl|hK
 ·repeat' (first|refine aa (ay O (by omega)) ?_ O O|refine bM O ?_ O O|refine ax ?_|refine au O ?_|refine al O O ?_|refine aC O O ?_|refine aG O ?_|refine aM O ?_)
  exact hB _ _ _ _ _ O O (qE O)
 ·repeat' (first|refine aa (ay O (by omega)) ?_ O O|refine aa (aB O (by omega)) ?_ O O|refine bM O ?_ O O|refine ax ?_|refine au O ?_|refine al O O ?_|refine aC O O ?_|refine aA O O ?_|refine aG O ?_|refine aM O ?_)
  exact hB _ _ _ _ _ O O (qE O)
 ·repeat' (first|refine aa (ay O (by omega)) ?_ O O|refine aa (aB O (by omega)) ?_ O O|refine bM O ?_ O O|refine ax ?_|refine au O ?_|refine al O O ?_|refine aC O O ?_|refine aA O O ?_|refine aG O ?_)
  exact hB _ _ _ _ _ O O (qE O)
 ·repeat' (first|refine aa (ay O (by omega)) ?_ O O|refine aa (aB O (by omega)) ?_ O O|refine bM O ?_ O O|refine ax ?_|refine au O ?_|refine al O O ?_|refine aC O O ?_|refine aA O O ?_|refine aG O ?_)
  exact hB _ _ _ _ _ O O (qE O)
 ·repeat' (first|refine aa (ay O (by omega)) ?_ O O|refine aa (aB O (by omega)) ?_ O O|refine bM O ?_ O O|refine ax ?_|refine au O ?_|refine al O O ?_|refine aC O O ?_|refine aA O O ?_|refine aG O ?_)
  exact hB _ _ _ _ _ O O (qE O)
 ·repeat' (first|refine aa (ay O (by omega)) ?_ O O|refine aa (aB O (by omega)) ?_ O O|refine bM O ?_ O O|refine ax ?_|refine au O ?_|refine al O O ?_|refine aC O O ?_|refine aA O O ?_|refine aG O ?_)
  exact hB _ _ _ _ _ O O (qE O)
 ·repeat' (first|refine aa (ay O (by omega)) ?_ O O|refine aa (aB O (by omega)) ?_ O O|refine bM O ?_ O O|refine ax ?_|refine au O ?_|refine al O O ?_|refine aC O O ?_|refine aA O O ?_|refine aG O ?_)
  exact hB _ _ _ _ _ O O (qE O)
 ·repeat' (first|refine aa (aB O (by omega)) ?_ O O|refine bM O ?_ O O|refine ax ?_|refine au O ?_|refine al O O ?_|refine aA O O ?_|refine aG O ?_|refine aK ?_|refine aM O ?_)
  have e:cQ K=0:=by unfold cQ;rw[if_neg (by omega),if_neg (by omega),if_neg (by omega),if_neg (by omega),if_neg (by omega)]
  rw[e] at hB
  exact hB _ _ _ _ _ O O (qE O)
theorem bz (w:World) (n:Int) (r:Bool) (hr:(decide (1≤n)&&decide (n≤5))=r):
  Gives Tryz.prog 116 [.int .i64 n] [] w (X:=Unit) (fun _=> .bool r) (fun _=>True) (fun _=>[]):=by
 refine aP Tryz.func116 O Tryz.ntmps116 Tryz.results116 (by simp) (St.enter w) (fun B hB=>?_)
 subst hr
 by_cases h1:1≤n
 ·by_cases h2:n≤5
  ·rw[decide_eq_true h1,decide_eq_true h2] at hB
   repeat' (first|refine aa (ay O (by omega)) ?_ O O|refine bM O ?_ O O|refine ax ?_|refine au O ?_|refine al O O ?_)
   exact hB _ _ _ _ _ O O (qE O)
  ·rw[decide_eq_true h1,decide_eq_false h2] at hB
   repeat' (first|refine aa (ay O (by omega)) ?_ O O|refine aa (aB O (by omega)) ?_ O O|refine bM O ?_ O O|refine ax ?_|refine au O ?_|refine al O O ?_)
   exact hB _ _ _ _ _ O O (qE O)
 ·rw[decide_eq_false h1,Bool.false_and] at hB
  repeat' (first|refine aa (aB O (by omega)) ?_ O O|refine bM O ?_ O O|refine ax ?_|refine aU ?_ O O|refine au O ?_|refine al O O ?_)
  exact hB _ _ _ _ _ O O (qE O)
theorem iN (w:World) (n:Int):
  Gives Tryz.prog 119 [zv n] [] w (X:=Unit) (fun _=> .bool (!(decide (1≤n)&&decide (n≤255)))) (fun _=>True) (fun _=>[]):=by
 refine aP Tryz.func119 O Tryz.ntmps119 Tryz.results119 (by simp) (St.enter w) (fun B hB=>?_)
 unfold zv
 by_cases h1:1≤n
 ·by_cases h2:n≤255
  ·rw[decide_eq_true h1,decide_eq_true h2] at hB
   repeat' (first|refine aa (aB O (by omega)) ?_ O O|refine bM O ?_ O O|refine ax ?_|refine au O ?_|refine al O O ?_)
   exact hB _ _ _ _ _ O O (qE O)
  ·rw[decide_eq_true h1,decide_eq_false h2] at hB
   repeat' (first|refine aa (ay O (by omega)) ?_ O O|refine aa (aB O (by omega)) ?_ O O|refine bM O ?_ O O|refine ax ?_|refine au O ?_|refine al O O ?_)
   exact hB _ _ _ _ _ O O (qE O)
 ·rw[decide_eq_false h1,Bool.false_and] at hB
  repeat' (first|refine aa (ay O (by omega)) ?_ O O|refine bM O ?_ O O|refine ax ?_|refine aU ?_ O O|refine au O ?_|refine al O O ?_)
  exact hB _ _ _ _ _ O O (qE O)
def xG (p:Int→Bool) (L:List Int):Int:=if L.all (fun x=> !p x) then-1 else (L.findIdx p:Nat)
theorem s7 (w:World) (A:Option Addr) (n c f:Nat) (cap:List Value) (L:List Int) (p:Int→Bool) (h:Rd w bC 1 A n (L.map zv)) (hn:n≤100000) (hf:Fn_ Tryz.prog f)
  (hp: ∀ w',Kp bC w w'→ ∀ x∈L,Gives Tryz.prog f (zv x::cap) [] w' (X:=Unit) (fun _=> .bool (p x)) (fun _=>True) (fun _=>[])):
  Gives Tryz.prog 166 [.slice A n c,.func (.func f) #[] cap.toArray] [] w (X:=Unit) (fun _=>zi (xG p L)) (fun _=>True) (fun _=>[]):=by
 refine aP Tryz.func166 O Tryz.ntmps166 Tryz.results166 (by simp) (St.enter w) (fun B hB=>?_)
 have hl:L.length=n:=by have:=h.1;simpa using this
 have hne:0<n→A≠none:=fun h0=>by obtain⟨ad,rfl,_⟩:=h.2 (by omega);simp
 subst hl
 focus (refine qs ?_;refine qp ?_;refine qz ?_;refine qq ?_;refine qs ?_;(iterate 3 refine qp ?_);refine qz ?_;refine qb ?_)
 refine bV (X:=Nat) (fun j=>[(0,.slice A L.length c),(1,.func (.func f) #[] cap.toArray),(7,.int .i64 (L.length:Int)),(8,.int .i64 (j:Int))]) (fun _=>[]) (fun j=>j≤L.length∧(L.take j).all (fun x=> !p x)=true) (fun j=>L.length-j) O 0 ⟨Nat.zero_le _,O⟩ (Sub.cons O (Sub.cons O (Sub.cons O (Sub.cons O Sub.nil)))) (fun _ h=>h) ?_
 rintro j ⟨hj,hok⟩ J hJ
 rcases Nat.lt_or_ge j L.length with hjl|hjl
 ·have hne:=hne (by omega)
  have hat:=iW (l:=L) (j:=j) hjl
  have hmem:L.getD j 0∈L:=by simp[List.getD,hjl]
  have htk:L.take (j+1)=L.take j++[L.getD j 0]:=by rw[List.take_succ_eq_append_getElem hjl];simp[List.getD,hjl]
  have hsp:L=L.take j++L.getD j 0::L.drop (j+1):=by
   conv=>lhs;rw[← List.take_append_drop j L,List.drop_eq_getElem_cons hjl]
   simp[List.getD,hjl]
  obtain⟨x,hx⟩: ∃ x,L.getD j 0=x:=⟨_,O⟩
  rw[hx] at hat hmem htk hsp
  obtain⟨r,hr⟩: ∃ r,p x=r:=⟨_,O⟩
  cases r
  ·focus (refine qs ?_;refine qd ?_;refine qz ?_;refine qq ?_;refine qT ?_;refine qx ?_;refine qq ?_;refine qb ?_;refine qs ?_;refine qp ?_;refine qp ?_;refine qn ?_;(iterate 3 refine qp ?_);refine qt (fS O O O O O O hne hjl) ?_;refine qt (bN (v:=zv x) O O O (Srd.old h (fun k _=>ao k)) (by omega) hat) ?_;(refine qe (d4 (cap:=cap) O (gG hf (fK _ _ (zv x) O cap) (fun w' hS=>hp w' hS.kpO x hmem) (fun _=>O))) ?_;rintro _ _ ⟨_,rfl,_,rfl⟩;rw[hr]);refine qz ?_;refine qF ?_;refine qx ?_;refine aK ?_;refine qr ?_;refine qt (aI O O (by unfold aH;omega)) ?_;refine qp ?_;refine qz ?_)
   exact hJ (j+1) _ _ ⟨by omega,by rw[htk,List.all_append,hok];simp[hr]⟩ (Sub.cons O (Sub.cons O (Sub.cons O (Sub.cons O Sub.nil)))) (fun _ h=>h) (by omega)
  ·repeat' (first|refine aa (ay O (by omega)) ?_ O O|refine bM O ?_ O O|refine ax ?_|refine aa (fS O O O O O O hne hjl) ?_ O O|refine aa (bN (v:=zv x) O O O (Srd.old h (fun k _=>ao k)) (by omega) hat) ?_ O O|refine au O ?_|refine al O O ?_|refine aC O O ?_|refine aG O ?_|refine aM O ?_|(refine an (d4 (cap:=cap) O (gG hf (fK _ _ (zv x) O cap) (fun w' hS=>hp w' hS.kpO x hmem) (fun _=>O))) ?_ O O;rintro _ _ ⟨_,rfl,_,rfl⟩;rw[hr]))
   refine hB _ _ _ _ _ O O fun w' hS=>⟨(),?_,trivial,hS.sublist (List.nil_sublist _)⟩
   show Value.int _ _=Value.int _ _
   congr 1
   have h1: ¬ L.all (fun x=> !p x)=true:=by
    rw[List.all_eq_true]
    intro h
    have:=h x hmem
    rw[hr] at this
    cases this
   rw[xG,if_neg h1,hsp,List.findIdx_append]
   have h2:(L.take j).findIdx p=(L.take j).length:=by
    rw[List.findIdx_eq_length]
    intro y hy
    have:=List.all_eq_true.1 hok y hy
    simpa using this
   rw[h2,if_neg (Nat.lt_irrefl _),List.findIdx_cons,hr]
   simp
   omega
 have hjn:j=L.length:=by omega
 subst hjn
 rw[List.take_length] at hok
 focus (refine qs ?_;refine qf ?_;refine qz ?_;refine qq ?_;refine qF ?_;refine bE O O ?_;refine qs ?_;refine qp ?_;refine qz ?_)
 refine hB _ _ _ _ _ O O fun w' hS=>⟨(),?_,trivial,hS.sublist (List.nil_sublist _)⟩
 rw[xG,if_pos hok]
 rfl
theorem jv (w:World) (A:Option Addr) (n c f:Nat) (cap:List Value) (L:List Int) (p:Int→Bool) (h:Rd w bC 1 A n (L.map zv)) (hn:n≤100000) (hf:Fn_ Tryz.prog f)
  (hp: ∀ w',Kp bC w w'→ ∀ x∈L,Gives Tryz.prog f (zv x::cap) [] w' (X:=Unit) (fun _=> .bool (p x)) (fun _=>True) (fun _=>[])):
  Gives Tryz.prog 118 [.slice A n c,.func (.func f) #[] cap.toArray] [] w (X:=Unit) (fun _=> .bool (!L.all (fun x=> !p x))) (fun _=>True) (fun _=>[]):=by
 refine aP Tryz.func118 O Tryz.ntmps118 Tryz.results118 (by simp) (St.enter w) (fun B hB=>?_)
 focus (refine qs ?_;refine qp ?_;refine qn ?_;refine qp ?_;refine qp ?_;refine qh FW (fun w hS=>s7 w A n c f cap L p ((Srd.old h (fun k _=>ao k)).rd w hS) hn hf (fun w' hk x hx=>hp w' (hS.kpO.trans hk) x hx)) ?_;refine qp ?_;refine qp ?_;refine qz ?_)
 refine hB _ _ _ _ _ O O fun w' hS=>⟨(),?_,trivial,hS.sublist (List.nil_sublist _)⟩
 refine congrArg Value.bool ?_
 rw[xG]
 cases L.all (fun x=> !p x)
 ·simp
 ·simp
theorem s8 {α:Type} {f:α→List Value} {k:Nat} (hf: ∀ a,(f a).length=k) (l:List α) (d:α) (j:Nat) (hj:j<l.length):((ab f l).drop (j*k)).take k=f (l.getD j d):=by
 have h:=bi (f:=f) hf l d j hj
 have hl:=eV (f:=f) hf l
 have hle:(j+1)*k≤l.length*k:=Nat.mul_le_mul_right _ hj
 rw[Nat.succ_mul] at hle
 refine List.ext_getElem? fun i=>?_
 rw[List.getElem?_take]
 split
 ·rename_i hi
  rw[List.getElem?_drop]
  have h2:(f (l.getD j d))[i]? =some ((f (l.getD j d))[i]'(by rw[hf];exact hi)):=List.getElem?_eq_getElem _
  rw[h2]
  exact h i _ h2
 ·rename_i hi
  exact(List.getElem?_eq_none (by rw[hf];omega)).symm
def je:List (Bool×Nat)→Nat→Nat
 |[],v=>v
 |z::l,v=>je l (if z.1 then v|||z.2 else v)
def vj (x:Ms):List (Bool×Nat):=[(!decide (x.pl=(0,0)),1),(x.ok,2),(decide (0<x.es.length),4),(decide (0<x.cm),8),(decide (0<x.ix),16),(decide (0<x.cf.length),32),(decide (0<x.dt.length),64)]
def d8 (x:Ms):Nat:=je (vj x) 0
def mB (z:Bool×Nat):List Value:=[.bool z.1,.int .i64 (z.2:Int)]
theorem xH (z:Bool×Nat):(mB z).length=2:=rfl
theorem rI (z:Bool×Nat): ∀ u∈mB z,u.oneCell'=true:=by simp[mB,Value.oneCell']
theorem rJ:yE.zero= .agg (mB (false,0)).toArray:=by kernel_rfl
theorem gK (b:Bool) (f:Nat):Tryz.prog.built 187 [(0,.bool b),(1,.int .i64 (f:Int))]=some (mB (b,f)).toArray:=by kernel_rfl
theorem vo (a b c d e f g:Bool×Nat):Tryz.prog.built 188 [(0,.agg (mB a).toArray),(1,.agg (mB b).toArray),(2,.agg (mB c).toArray),(3,.agg (mB d).toArray),(4,.agg (mB e).toArray),(5,.agg (mB f).toArray),(6,.agg (mB g).toArray)]=some (ab mB [a,b,c,d,e,f,g]).toArray:=by kernel_rfl
theorem s9 (l:List (Bool×Nat)) (z:Bool×Nat) (v:Nat):je (l++[z]) v=if z.1 then je l v|||z.2 else je l v:=by
 induction l generalizing v with
 |nil=>rfl
 |cons y l ih=>exact ih _
theorem rK: ∀ (l:List (Bool×Nat)) (v:Nat),(∀ z∈l,z.2<128)→v<128→je l v<128
 |[],v,_,hv=>hv
 |z::l,v,hl,hv=>by
  unfold je
  refine rK l _ (fun y hy=>hl y (List.mem_cons_of_mem _ hy)) ?_
  split
  ·exact Nat.or_lt_two_pow (n:=7) hv (hl z (List.mem_cons_self ..))
  ·exact hv
theorem rL (x:Ms): ∀ z∈vj x,z.2<128:=by simp[vj]
section
variable {P:Program} {n:Nat} {w0:World} {M:Nat→Prop} {T:aF} {H:List Asn} {dd:Option Tmp} {tt:TypeId} {pos:String} {af:Array Edge} {g:Option (Nat×Bool)} {x y:Operand} {t u:TypeId}
theorem oF {p:Nat} (hp:p<9223372036854775808):IntKind.i64.wrap (p:Int)=(p:Int):=ig (show aH .i64 (p:Int) by unfold aH;omega)
theorem DN {i j:Int} {p q r:Nat} (h:p|||q=r) (hx:az T x=some (.int .i64 i)) (hy:az T y=some (.int .i64 j)) [hi:NatOf i p] [hj:NatOf j q] (hp:p<128) (hq:q<128):
  Tk P n w0 M T H ⟨dd,.binOp .or t x y u,tt,pos,af,g⟩ (.int .i64 (r:Int)):=by
 subst h
 rw[hi.is] at hx
 rw[hj.is] at hy
 refine lI hx hy ?_
 have h1:p|||q<128:=Nat.or_lt_two_pow (n:=7) hp hq
 show some (IntKind.i64.wrap (((BitVec.ofInt 64 (p:Int)|||BitVec.ofInt 64 (q:Int)).toNat:Nat):Int))=_
 rw[BitVec.ofInt_natCast,BitVec.ofInt_natCast,BitVec.toNat_or,BitVec.toNat_ofNat,BitVec.toNat_ofNat,Nat.mod_eq_of_lt (by omega),Nat.mod_eq_of_lt (by omega),oF (by omega)]
theorem eY {i j:Int} {p q r:Nat} (h:p&&& q=r) (hx:az T x=some (.int .i64 i)) (hy:az T y=some (.int .i64 j)) [hi:NatOf i p] [hj:NatOf j q] (hp:p<128) (hq:q<128):
  Tk P n w0 M T H ⟨dd,.binOp .and t x y u,tt,pos,af,g⟩ (.int .i64 (r:Int)):=by
 subst h
 rw[hi.is] at hx
 rw[hj.is] at hy
 refine lI hx hy ?_
 have h1:p&&& q<128:=Nat.lt_of_le_of_lt Nat.and_le_left hp
 show some (IntKind.i64.wrap (((BitVec.ofInt 64 (p:Int)&&& BitVec.ofInt 64 (q:Int)).toNat:Nat):Int))=_
 rw[BitVec.ofInt_natCast,BitVec.ofInt_natCast,BitVec.toNat_and,BitVec.toNat_ofNat,BitVec.toNat_ofNat,Nat.mod_eq_of_lt (by omega),Nat.mod_eq_of_lt (by omega),oF (by omega)]
theorem xI {P:Program} {t:TypeId} {ds:TypeDesc} {xs ys:Array Value} {off n:Nat} (hu:P.underlying t=some ds) (ha:fZ ds=true) (hz: ∀ w,(sizeOf t).run P w= .ok n w) (hx:xs.extract off (off+n)=ys) (w:World):(part t xs off).run P w= .ok (.agg ys) w:=by
 subst hx
 cases ds<;>first|(cases ha;done)|simp[part,isAgg,run_underlying hu,hz]
theorem vp [HasTab P] {s e:TypeId} {m q sz:Nat} {z:Int} {kk:IntKind} {i ei:Ti} {cs ds:List Value} (hx:az T x=some (.agg cs.toArray)) (hy:az T y=some (.int kk z)) [hz:NatOf z q] (hs:ty P s=some i) (hi:i.desc= .array m e) (he:ty P e=some ei) (ha:fZ ei.desc=true) (h1:ei.size=sz) (hq:q<m) (hv:(cs.drop (q*sz)).take sz=ds):
  Tk P n w0 M T H ⟨dd,.index s x y,tt,pos,af,g⟩ (.agg ds.toArray):= .mk fun a w hT hS=>by
 subst h1
 rw[hz.is] at hy
 have hu:=run_underlying (hi▸cH hs) w
 have hp:=xI (P:=P) (t:=e) (cH he) ha (xs:=cs.toArray) (off:=q*ei.size) (n:=ei.size) (ys:=ds.toArray) (fun w=>ev he w) (by subst hv;simp) w
 have hr:(Instr.index s (.agg cs.toArray) (.int kk (q:Int))).run P w= .ok (.agg ds.toArray) w:=by
  simp[Instr.index,hu,asIntOf,ev he w,hq,hp]
 simp only[execOp,hT.eval hx,hT.eval hy,Sem.run_bind,hr,Result.andThen_ok,Sem.run_pure]
theorem vr {s:TypeId} {j1 j2 j3 j4 j5 j6 j7:Nat} {x1 x2 x3 x4 x5 x6 x7:Operand} {u1 u2 u3 u4 u5 u6 u7:Value} {cs:List Value} (h1:az T x1=some u1) (h2:az T x2=some u2) (h3:az T x3=some u3) (h4:az T x4=some u4) (h5:az T x5=some u5) (h6:az T x6=some u6) (h7:az T x7=some u7) (hb:P.built s [(j1,u1),(j2,u2),(j3,u3),(j4,u4),(j5,u5),(j6,u6),(j7,u7)]=some cs.toArray):
  Tk P n w0 M T H ⟨dd,.build s #[(j1,x1),(j2,x2),(j3,x3),(j4,x4),(j5,x5),(j6,x6),(j7,x7)],tt,pos,af,g⟩ (.agg cs.toArray):= .mk fun a w ha hS=>by
 have hr:=run_build (P:=P) w s #[(j1,u1),(j2,u2),(j3,u3),(j4,u4),(j5,u5),(j6,u6),(j7,u7)] cs.toArray (by simpa using hb)
 simp only[execOp,List.map_toArray,List.map_cons,List.map_nil,ha.eval h1,ha.eval h2,ha.eval h3,ha.eval h4,ha.eval h5,ha.eval h6,ha.eval h7,Sem.run_bind,hr,Result.andThen_ok,Sem.run_pure]
end
theorem d9 (w:World) (x:Ms) (p:Mp) (h:MsR w x p):
  Gives Tryz.prog 115 [.agg (aW x p).toArray] [] w (X:=Unit) (fun _=> .int .i64 (d8 x:Int)) (fun _=>True) (fun _=>[]):=by
 refine aP Tryz.func115 O Tryz.ntmps115 Tryz.results115 (by simp) (St.enter w) (fun B hB=>?_)
 obtain⟨s,hs⟩: ∃ s,vj x=s:=⟨_,O⟩
 have hs7: ∀ z∈s,z.2<128:=hs▸rL x
 have hsl:s.length=7:=by rw[← hs];rfl
 have hr:d8 x=je s 0:=by unfold d8;rw[hs]
 rw[hr] at hB
 have hln:=h.ln
 have hdn:=h.dn
 have hcn:=h.hc
 have e3:decide ((0:Int)<(p.n:Int))=decide (0<x.es.length):=decide_eq_decide.2 (by omega)
 have e4:decide ((0:Int)<(x.cm:Int))=decide (0<x.cm):=decide_eq_decide.2 (by omega)
 have e5:decide ((0:Int)<(x.ix:Int))=decide (0<x.ix):=decide_eq_decide.2 (by omega)
 have e6:decide ((0:Int)<(p.cn:Int))=decide (0<x.cf.length):=decide_eq_decide.2 (by omega)
 have e7:decide ((0:Int)<(p.dn:Int))=decide (0<x.dt.length):=decide_eq_decide.2 (by omega)
 focus (refine qs ?_;(refine qe (ap (cs:=aW x p) O) ?_;rintro _ _ ⟨b1,rfl,rfl⟩);refine qp ?_;refine qn ?_;refine qp ?_;refine qz ?_;refine qq ?_;refine qq ?_;(refine dQ 34 ?_;(refine dp 0 ?_);(refine dt 1 O (ai (ds:=aO x.pl) O O O O O) ?_);(refine dt 2 O (bu bY) ?_);(refine dt 3 O (zO (a:=x.pl) (b:=(0,0)) O O O) ?_);(refine dt 4 O (bS O O (gK _ _)) ?_);(refine dp 5 ?_);(refine dl 6 ?_);(refine dt 7 O (bS O O (gK _ _)) ?_);(refine dp 8 ?_);(refine dl 9 ?_);(refine dp 10 ?_);(refine dp 11 ?_);(refine dt 12 O (bS O O (gK _ _)) ?_);(refine dp 13 ?_);(refine dl 14 ?_);(refine dp 15 ?_);(refine dt 16 O (bS O O (gK _ _)) ?_);(refine dp 17 ?_);(refine dl 18 ?_);(refine dp 19 ?_);(refine dt 20 O (bS O O (gK _ _)) ?_);(refine dp 21 ?_);(refine dp 22 ?_);(refine dl 23 ?_);(refine dp 24 ?_);(refine dp 25 ?_);(refine dt 26 O (bS O O (gK _ _)) ?_);(refine dp 27 ?_);(refine dl 28 ?_);(refine dp 29 ?_);(refine dp 30 ?_);(refine dt 31 O (bS O O (gK _ _)) ?_);(refine dt 32 O (vr O O O O O O O (vo _ _ _ _ _ _ _)) ?_);(refine dp 33 ?_);refine dn ?_);refine qb ?_)
 rw[e3,e4,e5,e6,e7]
 have hs':[(!decide (x.pl=(0,0)),1),(x.ok,2),(decide (0<x.es.length),4),(decide (0<x.cm),8),(decide (0<x.ix),16),(decide (0<x.cf.length),32),(decide (0<x.dt.length),64)]=s:=hs
 rw[hs']
 refine bV (X:=Nat×Nat) (fun z=>[(38,.agg (ab mB s).toArray),(39,.int .i64 (z.1:Int)),(3,.int .i64 (z.2:Int))]) (fun _=>[]) (fun z=>z.1≤7∧z.2=je (s.take z.1) 0∧z.2<128) (fun z=>7-z.1) O (0,0) ⟨by decide,O,by decide⟩ (Sub.cons O (Sub.cons O (Sub.cons O Sub.nil))) ae ?_
 rintro⟨j,v⟩ ⟨hj,hv,hv7⟩ J hJ
 dsimp only at hj hv hv7 ⊢
 rcases Nat.lt_or_ge j 7 with hjl|hjl
 ·have htk:s.take (j+1)=s.take j++[s.getD j default]:=by rw[List.take_succ_eq_append_getElem (by omega)];simp[List.getD,show j<s.length by omega]
  have hm:s.getD j default∈s:=by simp[List.getD,show j<s.length by omega]
  have hdr:((ab mB s).drop (j*2)).take 2=mB (s.getD j default):=s8 xH s default j (by omega)
  have hb7:=hs7 _ hm
  generalize s.getD j default=z at htk hdr hb7
  obtain⟨b,f⟩:=z
  have hb7:f<128:=hb7
  have hnx:je (s.take (j+1)) 0=if b then v|||f else v:=by rw[htk,s9, ← hv]
  cases b
  ·skip
   focus (refine qs ?_;refine qd ?_;refine qz ?_;refine qq ?_;refine qT ?_;refine qx ?_;refine qq ?_;refine qb ?_;refine qs ?_;refine qt (vp (q:=j) (sz:=2) (ds:=mB (false,f)) O O O O O O O (by omega) hdr) ?_;(refine qe (am O rJ) ?_;rintro _ _ ⟨b5,rfl,rfl⟩);(refine qw (aj (cs:=mB (false,0)) (ds:=mB (false,f)) O O O O (rI _) O) ?_;rintro _ _ rfl);refine qn ?_;refine qp ?_;refine qt (ah O O O O) ?_;refine qz ?_;refine qF ?_;refine qx ?_;refine aK ?_;refine qr ?_;refine qt (aI O O (by unfold aH;omega)) ?_;refine qp ?_;refine qz ?_)
   exact hJ (j+1,v) _ _ ⟨by show j+1≤7;omega,hnx.symm,hv7⟩ (Sub.cons O (Sub.cons O (Sub.cons O Sub.nil))) ae (by show 7-(j+1)<_;omega)
  ·skip
   focus (refine qs ?_;refine qd ?_;refine qz ?_;refine qq ?_;refine qT ?_;refine qx ?_;refine qq ?_;refine qb ?_;refine qs ?_;refine qt (vp (q:=j) (sz:=2) (ds:=mB (true,f)) O O O O O O O (by omega) hdr) ?_;(refine qe (am O rJ) ?_;rintro _ _ ⟨b5,rfl,rfl⟩);(refine qw (aj (cs:=mB (false,0)) (ds:=mB (true,f)) O O O O (rI _) O) ?_;rintro _ _ rfl);refine qn ?_;refine qp ?_;refine qt (ah O O O O) ?_;refine qz ?_;refine qT ?_;refine qr ?_;refine qp ?_;refine qp ?_;refine qt (ah O O O O) ?_;refine qt (DN (p:=v) (q:=f) (r:=v|||f) O O O hv7 hb7) ?_;refine qp ?_;refine qz ?_;refine aK ?_;refine qr ?_;refine qt (aI O O (by unfold aH;omega)) ?_;refine qp ?_;refine qz ?_)
   exact hJ (j+1,v|||f) _ _ ⟨by show j+1≤7;omega,hnx.symm,Nat.or_lt_two_pow (n:=7) hv7 hb7⟩ (Sub.cons O (Sub.cons O (Sub.cons O Sub.nil))) ae (by show 7-(j+1)<_;omega)
 obtain rfl:j=7:=by omega
 rw[List.take_of_length_le (by omega)] at hv
 subst hv
 focus (refine qs ?_;refine qf ?_;refine qz ?_;refine qq ?_;refine qF ?_;refine bE O O ?_;refine qs ?_;refine qp ?_;refine qp ?_;refine qz ?_)
 exact hB _ _ _ _ _ O O (qE O)
def ir (K:Int) (tm a t n:Nat):Bool:=(decide (a=0)==decide (t=0))&&decide (t≤tm)&&decide (a≤18446744073709551614-n)&&(if K=1 then decide (t<tm) else if K=7 then decide (0<t) else true)
theorem gp (w:World) (x:Ms) (p:Mp) (h:MsR w x p) (r:Bool) (hr:ir x.K x.tm x.pl.1 x.pl.2 p.n=r):
  Gives Tryz.prog 117 [.agg (aW x p).toArray] [] w (X:=Unit) (fun _=> .bool r) (fun _=>True) (fun _=>[]):=by
 refine aP Tryz.func117 O Tryz.ntmps117 Tryz.results117 (by simp) (St.enter w) (fun B hB=>?_)
 have hm:=h.hm
 unfold maxLen at hm
 clear h
 rcases(by omega:(x.pl.1=0∧x.pl.2≠0)∨(x.pl.1≠0∧x.pl.2=0)∨(x.pl.1=0∧x.pl.2=0)∨(x.pl.1≠0∧x.pl.2≠0)) with⟨ha,ht⟩|⟨ha,ht⟩|⟨ha,ht⟩|⟨ha,ht⟩
 ·obtain rfl:r=false:=by rw[← hr];simp[ir];omega
  focus (refine qs ?_;(refine qe (ap (cs:=aW x p) O) ?_;rintro _ _ ⟨b1,rfl,rfl⟩);refine qp ?_;refine qn ?_;refine qp ?_;refine qt (ai (ds:=aO x.pl) O O O O O) ?_;(refine qe (am O ba) ?_;rintro _ _ ⟨b3,rfl,rfl⟩);(refine qw (aj (cs:=aO (0,0)) (ds:=aO x.pl) O O O O (aQ _) O) ?_;rintro _ _ rfl);refine qz ?_;refine qq ?_;refine qb ?_;refine qq ?_;refine qs ?_;refine qp ?_;refine qt (ah O O O O) ?_;refine qd ?_;refine qp ?_;refine qt (ah O O O O) ?_;refine qf ?_;refine qt (cU O O O O O) ?_;refine qp ?_;refine qz ?_;refine qT ?_;refine qx ?_;refine qT ?_;refine qs ?_;refine qp ?_;refine qz ?_)
  exact hB _ _ _ _ _ O O (qE O)
 ·obtain rfl:r=false:=by rw[← hr];simp[ir];omega
  focus (refine qs ?_;(refine qe (ap (cs:=aW x p) O) ?_;rintro _ _ ⟨b1,rfl,rfl⟩);refine qp ?_;refine qn ?_;refine qp ?_;refine qt (ai (ds:=aO x.pl) O O O O O) ?_;(refine qe (am O ba) ?_;rintro _ _ ⟨b3,rfl,rfl⟩);(refine qw (aj (cs:=aO (0,0)) (ds:=aO x.pl) O O O O (aQ _) O) ?_;rintro _ _ rfl);refine qz ?_;refine qq ?_;refine qb ?_;refine qq ?_;refine qs ?_;refine qp ?_;refine qt (ah O O O O) ?_;refine qf ?_;refine qp ?_;refine qt (ah O O O O) ?_;refine qd ?_;refine qt (cU O O O O O) ?_;refine qp ?_;refine qz ?_;refine qT ?_;refine qx ?_;refine qT ?_;refine qs ?_;refine qp ?_;refine qz ?_)
  exact hB _ _ _ _ _ O O (qE O)
 ·by_cases h1:x.pl.2≤x.tm
  ·by_cases h2:x.pl.1≤18446744073709551614-p.n
   ·by_cases hK:x.K=1
    ·by_cases h3:x.pl.2<x.tm
     ·obtain rfl:r=true:=by rw[← hr];simp[ir,hK];omega
      repeat' (first|refine aa (ay O (by omega)) ?_ O O|refine aa (aB O (by omega)) ?_ O O|refine bM O ?_ O O|refine ax ?_|refine aa (ai (ds:=aO x.pl) O O O O O) ?_ O O|refine aa (cU O O O O O) ?_ O O|refine aa (bU (p:=18446744073709551614) (q:=p.n) O O (by omega) (by unfold aH;omega)) ?_ O O|refine aa (ah O O O O) ?_ O O|refine aa (bj O O O O (by unfold aH;omega)) ?_ O O|refine au O ?_|refine al O O ?_|refine aC O O ?_|refine aA O O ?_|refine aG O ?_|(refine an (ap (cs:=aW x p) O) ?_ O O;rintro _ _ ⟨b1,rfl,rfl⟩)|(refine an (am O ba) ?_ O O;rintro _ _ ⟨b3,rfl,rfl⟩)|(refine bh (aj (cs:=aO (0,0)) (ds:=aO x.pl) O O O O (aQ _) O) ?_ O;rintro _ _ rfl))
      exact hB _ _ _ _ _ O O (qE O)
     ·obtain rfl:r=false:=by rw[← hr];simp[ir,hK];omega
      repeat' (first|refine aa (ay O (by omega)) ?_ O O|refine aa (aB O (by omega)) ?_ O O|refine bM O ?_ O O|refine ax ?_|refine aa (ai (ds:=aO x.pl) O O O O O) ?_ O O|refine aa (cU O O O O O) ?_ O O|refine aa (bU (p:=18446744073709551614) (q:=p.n) O O (by omega) (by unfold aH;omega)) ?_ O O|refine aa (ah O O O O) ?_ O O|refine aa (bj O O O O (by unfold aH;omega)) ?_ O O|refine au O ?_|refine al O O ?_|refine aC O O ?_|refine aA O O ?_|refine aG O ?_|(refine an (ap (cs:=aW x p) O) ?_ O O;rintro _ _ ⟨b1,rfl,rfl⟩)|(refine an (am O ba) ?_ O O;rintro _ _ ⟨b3,rfl,rfl⟩)|(refine bh (aj (cs:=aO (0,0)) (ds:=aO x.pl) O O O O (aQ _) O) ?_ O;rintro _ _ rfl))
      exact hB _ _ _ _ _ O O (qE O)
    ·by_cases hK7:x.K=7
     ·obtain rfl:r=false:=by rw[← hr];simp[ir,hK7];omega
      repeat' (first|refine aa (ay O (by omega)) ?_ O O|refine aa (aB O (by omega)) ?_ O O|refine bM O ?_ O O|refine ax ?_|refine aa (ai (ds:=aO x.pl) O O O O O) ?_ O O|refine aa (cU O O O O O) ?_ O O|refine aa (bU (p:=18446744073709551614) (q:=p.n) O O (by omega) (by unfold aH;omega)) ?_ O O|refine aa (ah O O O O) ?_ O O|refine aa (bj O O O O (by unfold aH;omega)) ?_ O O|refine au O ?_|refine al O O ?_|refine aC O O ?_|refine aA O O ?_|refine aG O ?_|(refine an (ap (cs:=aW x p) O) ?_ O O;rintro _ _ ⟨b1,rfl,rfl⟩)|(refine an (am O ba) ?_ O O;rintro _ _ ⟨b3,rfl,rfl⟩)|(refine bh (aj (cs:=aO (0,0)) (ds:=aO x.pl) O O O O (aQ _) O) ?_ O;rintro _ _ rfl))
      exact hB _ _ _ _ _ O O (qE O)
     ·obtain rfl:r=true:=by rw[← hr];simp[ir,hK,hK7];omega
      repeat' (first|refine aa (ay O (by omega)) ?_ O O|refine aa (aB O (by omega)) ?_ O O|refine bM O ?_ O O|refine ax ?_|refine aa (ai (ds:=aO x.pl) O O O O O) ?_ O O|refine aa (cU O O O O O) ?_ O O|refine aa (bU (p:=18446744073709551614) (q:=p.n) O O (by omega) (by unfold aH;omega)) ?_ O O|refine aa (ah O O O O) ?_ O O|refine aa (bj O O O O (by unfold aH;omega)) ?_ O O|refine au O ?_|refine al O O ?_|refine aA O O ?_|refine aG O ?_|refine aK ?_|refine aM O ?_|(refine an (ap (cs:=aW x p) O) ?_ O O;rintro _ _ ⟨b1,rfl,rfl⟩)|(refine an (am O ba) ?_ O O;rintro _ _ ⟨b3,rfl,rfl⟩)|(refine bh (aj (cs:=aO (0,0)) (ds:=aO x.pl) O O O O (aQ _) O) ?_ O;rintro _ _ rfl))
      exact hB _ _ _ _ _ O O (qE O)
   ·obtain rfl:r=false:=by rw[← hr];simp[ir];omega
    repeat' (first|refine aa (ay O (by omega)) ?_ O O|refine bM O ?_ O O|refine ax ?_|refine aa (ai (ds:=aO x.pl) O O O O O) ?_ O O|refine aa (cU O O O O O) ?_ O O|refine aa (ah O O O O) ?_ O O|refine au O ?_|refine al O O ?_|refine aC O O ?_|refine aA O O ?_|refine aG O ?_|refine aM O ?_|(refine an (ap (cs:=aW x p) O) ?_ O O;rintro _ _ ⟨b1,rfl,rfl⟩)|(refine an (am O ba) ?_ O O;rintro _ _ ⟨b3,rfl,rfl⟩)|(refine bh (aj (cs:=aO (0,0)) (ds:=aO x.pl) O O O O (aQ _) O) ?_ O;rintro _ _ rfl))
    exact hB _ _ _ _ _ O O (qE O)
  ·obtain rfl:r=false:=by rw[← hr];simp[ir];omega
   repeat' (first|refine aa (ay O (by omega)) ?_ O O|refine bM O ?_ O O|refine ax ?_|refine aa (ai (ds:=aO x.pl) O O O O O) ?_ O O|refine aa (cU O O O O O) ?_ O O|refine aa (ah O O O O) ?_ O O|refine au O ?_|refine al O O ?_|refine aC O O ?_|refine aA O O ?_|refine aG O ?_|refine aM O ?_|(refine an (ap (cs:=aW x p) O) ?_ O O;rintro _ _ ⟨b1,rfl,rfl⟩)|(refine an (am O ba) ?_ O O;rintro _ _ ⟨b3,rfl,rfl⟩)|(refine bh (aj (cs:=aO (0,0)) (ds:=aO x.pl) O O O O (aQ _) O) ?_ O;rintro _ _ rfl))
   exact hB _ _ _ _ _ O O (qE O)
 ·by_cases h1:x.pl.2≤x.tm
  ·by_cases h2:x.pl.1≤18446744073709551614-p.n
   ·by_cases hK:x.K=1
    ·by_cases h3:x.pl.2<x.tm
     ·obtain rfl:r=true:=by rw[← hr];simp[ir,hK];omega
      repeat' (first|refine aa (ay O (by omega)) ?_ O O|refine aa (aB O (by omega)) ?_ O O|refine bM O ?_ O O|refine ax ?_|refine aa (ai (ds:=aO x.pl) O O O O O) ?_ O O|refine aa (cU O O O O O) ?_ O O|refine aa (bU (p:=18446744073709551614) (q:=p.n) O O (by omega) (by unfold aH;omega)) ?_ O O|refine aa (ah O O O O) ?_ O O|refine aa (bj O O O O (by unfold aH;omega)) ?_ O O|refine au O ?_|refine al O O ?_|refine aC O O ?_|refine aA O O ?_|refine aG O ?_|(refine an (ap (cs:=aW x p) O) ?_ O O;rintro _ _ ⟨b1,rfl,rfl⟩)|(refine an (am O ba) ?_ O O;rintro _ _ ⟨b3,rfl,rfl⟩)|(refine bh (aj (cs:=aO (0,0)) (ds:=aO x.pl) O O O O (aQ _) O) ?_ O;rintro _ _ rfl))
      exact hB _ _ _ _ _ O O (qE O)
     ·obtain rfl:r=false:=by rw[← hr];simp[ir,hK];omega
      repeat' (first|refine aa (ay O (by omega)) ?_ O O|refine aa (aB O (by omega)) ?_ O O|refine bM O ?_ O O|refine ax ?_|refine aa (ai (ds:=aO x.pl) O O O O O) ?_ O O|refine aa (cU O O O O O) ?_ O O|refine aa (bU (p:=18446744073709551614) (q:=p.n) O O (by omega) (by unfold aH;omega)) ?_ O O|refine aa (ah O O O O) ?_ O O|refine aa (bj O O O O (by unfold aH;omega)) ?_ O O|refine au O ?_|refine al O O ?_|refine aC O O ?_|refine aA O O ?_|refine aG O ?_|(refine an (ap (cs:=aW x p) O) ?_ O O;rintro _ _ ⟨b1,rfl,rfl⟩)|(refine an (am O ba) ?_ O O;rintro _ _ ⟨b3,rfl,rfl⟩)|(refine bh (aj (cs:=aO (0,0)) (ds:=aO x.pl) O O O O (aQ _) O) ?_ O;rintro _ _ rfl))
      exact hB _ _ _ _ _ O O (qE O)
    ·by_cases hK7:x.K=7
     ·obtain rfl:r=true:=by rw[← hr];simp[ir,hK7];omega
      repeat' (first|refine aa (ay O (by omega)) ?_ O O|refine aa (aB O (by omega)) ?_ O O|refine bM O ?_ O O|refine ax ?_|refine aa (ai (ds:=aO x.pl) O O O O O) ?_ O O|refine aa (cU O O O O O) ?_ O O|refine aa (bU (p:=18446744073709551614) (q:=p.n) O O (by omega) (by unfold aH;omega)) ?_ O O|refine aa (ah O O O O) ?_ O O|refine aa (bj O O O O (by unfold aH;omega)) ?_ O O|refine au O ?_|refine al O O ?_|refine aC O O ?_|refine aA O O ?_|refine aG O ?_|(refine an (ap (cs:=aW x p) O) ?_ O O;rintro _ _ ⟨b1,rfl,rfl⟩)|(refine an (am O ba) ?_ O O;rintro _ _ ⟨b3,rfl,rfl⟩)|(refine bh (aj (cs:=aO (0,0)) (ds:=aO x.pl) O O O O (aQ _) O) ?_ O;rintro _ _ rfl))
      exact hB _ _ _ _ _ O O (qE O)
     ·obtain rfl:r=true:=by rw[← hr];simp[ir,hK,hK7];omega
      repeat' (first|refine aa (aB O (by omega)) ?_ O O|refine bM O ?_ O O|refine ax ?_|refine aa (ai (ds:=aO x.pl) O O O O O) ?_ O O|refine aa (cU O O O O O) ?_ O O|refine aa (bU (p:=18446744073709551614) (q:=p.n) O O (by omega) (by unfold aH;omega)) ?_ O O|refine aa (ah O O O O) ?_ O O|refine aa (bj O O O O (by unfold aH;omega)) ?_ O O|refine au O ?_|refine al O O ?_|refine aA O O ?_|refine aG O ?_|refine aK ?_|refine aM O ?_|(refine an (ap (cs:=aW x p) O) ?_ O O;rintro _ _ ⟨b1,rfl,rfl⟩)|(refine an (am O ba) ?_ O O;rintro _ _ ⟨b3,rfl,rfl⟩)|(refine bh (aj (cs:=aO (0,0)) (ds:=aO x.pl) O O O O (aQ _) O) ?_ O;rintro _ _ rfl))
      exact hB _ _ _ _ _ O O (qE O)
   ·obtain rfl:r=false:=by rw[← hr];simp[ir];omega
    repeat' (first|refine aa (ay O (by omega)) ?_ O O|refine aa (aB O (by omega)) ?_ O O|refine bM O ?_ O O|refine ax ?_|refine aa (ai (ds:=aO x.pl) O O O O O) ?_ O O|refine aa (cU O O O O O) ?_ O O|refine aa (bU (p:=18446744073709551614) (q:=p.n) O O (by omega) (by unfold aH;omega)) ?_ O O|refine aa (ah O O O O) ?_ O O|refine aa (bj O O O O (by unfold aH;omega)) ?_ O O|refine au O ?_|refine al O O ?_|refine aC O O ?_|refine aA O O ?_|refine aG O ?_|(refine an (ap (cs:=aW x p) O) ?_ O O;rintro _ _ ⟨b1,rfl,rfl⟩)|(refine an (am O ba) ?_ O O;rintro _ _ ⟨b3,rfl,rfl⟩)|(refine bh (aj (cs:=aO (0,0)) (ds:=aO x.pl) O O O O (aQ _) O) ?_ O;rintro _ _ rfl))
    exact hB _ _ _ _ _ O O (qE O)
  ·obtain rfl:r=false:=by rw[← hr];simp[ir];omega
   repeat' (first|refine aa (ay O (by omega)) ?_ O O|refine aa (aB O (by omega)) ?_ O O|refine bM O ?_ O O|refine ax ?_|refine aa (ai (ds:=aO x.pl) O O O O O) ?_ O O|refine aa (cU O O O O O) ?_ O O|refine aa (ah O O O O) ?_ O O|refine au O ?_|refine al O O ?_|refine aC O O ?_|refine aA O O ?_|refine aG O ?_|refine aM O ?_|(refine an (ap (cs:=aW x p) O) ?_ O O;rintro _ _ ⟨b1,rfl,rfl⟩)|(refine an (am O ba) ?_ O O;rintro _ _ ⟨b3,rfl,rfl⟩)|(refine bh (aj (cs:=aO (0,0)) (ds:=aO x.pl) O O O O (aQ _) O) ?_ O;rintro _ _ rfl))
   exact hB _ _ _ _ _ O O (qE O)
theorem fw {l:List Bool} (i:Nat) (h:l[i]? =some false):l.all id=false:=by
 rw[Bool.eq_false_iff]
 intro h2
 have:=List.all_eq_true.1 h2 false (List.mem_of_getElem? h)
 cases this
def xJ (x:Ms) (n dn cn:Nat):List Bool:=[decide (0<cQ x.K),decide (d8 x&&& (127-cQ x.K)=0),decide (1≤x.F)&&decide (x.F≤5),decide (1≤x.T)&&decide (x.T≤5),decide (x.F≠x.T),decide (0<x.tm),decide (x.tm≤4611686018427387904),ir x.K x.tm x.pl.1 x.pl.2 n,decide (n≤8),decide (dn≤65536),decide (cn≤5),decide (n=0)||decide (eL x.pl x.es x.tm=0),x.cf.all fun n=>decide (1≤n)&&decide (n≤255)]
theorem lL (x:Ms) (n dn cn:Nat):xJ x n dn cn=[decide (0<cQ x.K),decide (d8 x&&& (127-cQ x.K)=0),decide (1≤x.F)&&decide (x.F≤5),decide (1≤x.T)&&decide (x.T≤5),decide (x.F≠x.T),decide (0<x.tm),decide (x.tm≤4611686018427387904),ir x.K x.tm x.pl.1 x.pl.2 n,decide (n≤8),decide (dn≤65536),decide (cn≤5),decide (n=0)||decide (eL x.pl x.es x.tm=0),x.cf.all fun n=>decide (1≤n)&&decide (n≤255)]:=rfl
theorem zQ (K:Int):cQ K<128:=by
 unfold cQ
 split
 ·decide
 split
 ·decide
 split
 ·decide
 split
 ·decide
 split<;>decide
theorem eZ {P:Program} {n:Nat} {w0:World} {M:Nat→Prop} {T:aF} {H:List Asn} {dd:Option Tmp} {tt:TypeId} {pos:String} {af:Array Edge} {g:Option (Nat×Bool)} {x y:Operand} {t u:TypeId} {j:Int} {f:Nat} (hx:az T x=some (.int .i64 127)) (hy:az T y=some (.int .i64 j)) [hj:NatOf j f] (hf:f<128):
  Tk P n w0 M T H ⟨dd,.binOp .andNot t x y u,tt,pos,af,g⟩ (.int .i64 ((127-f:Nat):Int)):=by
 rw[hj.is] at hy
 exact lI hx hy ((by decide+kernel: ∀ f∈List.range 128,n6 .andNot .i64 127 ((f:Nat):Int)=some ((127-f:Nat):Int)) f (List.mem_range.2 hf))
theorem vv (w:World) (x:Ms) (p:Mp) (h:MsR w x p) (r:Bool) (hr:(xJ x p.n p.dn p.cn).all id=r):
  Gives Tryz.prog 45 [.agg (aW x p).toArray] [] w (X:=Unit) (fun _=> .int .i64 (if r=true then 0 else 230)) (fun _=>True) (fun _=>[]):=by
 refine aP Tryz.func45 O Tryz.ntmps45 Tryz.results45 (by simp) (St.enter w) (fun B hB=>?_)
 have hsn:d8 x<128:=rK _ 0 (rL x) (by decide)
 have hfn:=zQ x.K
 have hm:=h.hm
 unfold maxLen at hm
 by_cases hf:0<cQ x.K
 rotate_left
 ·obtain rfl:r=false:=by rw[← hr];exact fw 0 (congrArg some (decide_eq_false hf))
  repeat' (first|refine aa (aB O (by omega)) ?_ O O|refine bM O ?_ O O|refine ax ?_|refine aU ?_ O O|refine aa (ah O O O O) ?_ O O|refine aa (aR O) ?_ O O|refine au O ?_|refine al O O ?_|refine aC O O ?_|refine aA O O ?_|refine aM O ?_|(refine an (ap (cs:=aW x p) O) ?_ O O;rintro _ _ ⟨b1,rfl,rfl⟩)|(refine an (aq (f:=114) jI (fun w hS=>cy w x.K) O O (fun _=>O)) ?_ O O;rintro _ _ ⟨_,rfl,_,rfl⟩))
  exact hB _ _ _ _ _ O O (qE O)
 by_cases hs:d8 x&&& (127-cQ x.K)=0
 rotate_left
 ·obtain rfl:r=false:=by rw[← hr];exact fw 1 (congrArg some (decide_eq_false hs))
  repeat' (first|refine aa (ay O (by omega)) ?_ O O|refine aa (aB O (by omega)) ?_ O O|refine bM O ?_ O O|refine ax ?_|refine aU ?_ O O|refine aa (ai (ds:=aW x p) O O O O O) ?_ O O|refine aa (eZ (f:=cQ x.K) O O hfn) ?_ O O|refine aa (eY (p:=d8 x) (q:=127-cQ x.K) (r:=d8 x&&& (127-cQ x.K)) O O O hsn (by omega)) ?_ O O|refine aa (ah O O O O) ?_ O O|refine aa (aR O) ?_ O O|refine au O ?_|refine al O O ?_|refine aC O O ?_|refine aA O O ?_|refine aM O ?_|(refine an (ap (cs:=aW x p) O) ?_ O O;rintro _ _ ⟨b1,rfl,rfl⟩)|(refine an (aq (f:=114) jI (fun w hS=>cy w x.K) O O (fun _=>O)) ?_ O O;rintro _ _ ⟨_,rfl,_,rfl⟩)|((refine an (aq (f:=115) jQ (fun w hS=>d9 w x p (h.keep hS.kpO)) O O (fun _=>O)) ?_ O O;rintro _ _ ⟨_,rfl,_,rfl⟩)))
  exact hB _ _ _ _ _ O O (qE O)
 cases hF:(decide (1≤x.F)&&decide (x.F≤5))
 ·obtain rfl:r=false:=by rw[← hr];exact fw 2 (congrArg some hF)
  repeat' (first|refine aa (ay O (by omega)) ?_ O O|refine bM O ?_ O O|refine ax ?_|refine aU ?_ O O|refine aa (ai (ds:=aW x p) O O O O O) ?_ O O|refine aa (eZ (f:=cQ x.K) O O hfn) ?_ O O|refine aa (eY (p:=d8 x) (q:=127-cQ x.K) (r:=d8 x&&& (127-cQ x.K)) O O O hsn (by omega)) ?_ O O|refine aa (ah O O O O) ?_ O O|refine aa (aR O) ?_ O O|refine au O ?_|refine al O O ?_|refine aC O O ?_|refine aA O O ?_|refine aM O ?_|(refine an (ap (cs:=aW x p) O) ?_ O O;rintro _ _ ⟨b1,rfl,rfl⟩)|(refine an (aq (f:=114) jI (fun w hS=>cy w x.K) O O (fun _=>O)) ?_ O O;rintro _ _ ⟨_,rfl,_,rfl⟩)|((refine an (aq (f:=115) jQ (fun w hS=>d9 w x p (h.keep hS.kpO)) O O (fun _=>O)) ?_ O O;rintro _ _ ⟨_,rfl,_,rfl⟩))|(refine an (aq (f:=116) fJ (fun w hS=>bz w x.F _ hF) O O (fun _=>O)) ?_ O O;rintro _ _ ⟨_,rfl,_,rfl⟩))
  exact hB _ _ _ _ _ O O (qE O)
 cases hT:(decide (1≤x.T)&&decide (x.T≤5))
 ·obtain rfl:r=false:=by rw[← hr];exact fw 3 (congrArg some hT)
  repeat' (first|refine aa (ay O (by omega)) ?_ O O|refine bM O ?_ O O|refine ax ?_|refine aU ?_ O O|refine aa (ai (ds:=aW x p) O O O O O) ?_ O O|refine aa (eZ (f:=cQ x.K) O O hfn) ?_ O O|refine aa (eY (p:=d8 x) (q:=127-cQ x.K) (r:=d8 x&&& (127-cQ x.K)) O O O hsn (by omega)) ?_ O O|refine aa (ah O O O O) ?_ O O|refine aa (aR O) ?_ O O|refine au O ?_|refine al O O ?_|refine aC O O ?_|refine aA O O ?_|refine aM O ?_|(refine an (ap (cs:=aW x p) O) ?_ O O;rintro _ _ ⟨b1,rfl,rfl⟩)|(refine an (aq (f:=114) jI (fun w hS=>cy w x.K) O O (fun _=>O)) ?_ O O;rintro _ _ ⟨_,rfl,_,rfl⟩)|((refine an (aq (f:=115) jQ (fun w hS=>d9 w x p (h.keep hS.kpO)) O O (fun _=>O)) ?_ O O;rintro _ _ ⟨_,rfl,_,rfl⟩))|(refine an (aq (f:=116) fJ (fun w hS=>bz w x.F _ hF) O O (fun _=>O)) ?_ O O;rintro _ _ ⟨_,rfl,_,rfl⟩)|(refine an (aq (f:=116) fJ (fun w hS=>bz w x.T _ hT) O O (fun _=>O)) ?_ O O;rintro _ _ ⟨_,rfl,_,rfl⟩))
  exact hB _ _ _ _ _ O O (qE O)
 by_cases hFT:x.F≠x.T
 rotate_left
 ·obtain rfl:r=false:=by rw[← hr];exact fw 4 (congrArg some (decide_eq_false hFT))
  repeat' (first|refine aa (ay O (by omega)) ?_ O O|refine aa (aB O (by omega)) ?_ O O|refine bM O ?_ O O|refine ax ?_|refine aU ?_ O O|refine aa (ai (ds:=aW x p) O O O O O) ?_ O O|refine aa (eZ (f:=cQ x.K) O O hfn) ?_ O O|refine aa (eY (p:=d8 x) (q:=127-cQ x.K) (r:=d8 x&&& (127-cQ x.K)) O O O hsn (by omega)) ?_ O O|refine aa (ah O O O O) ?_ O O|refine aa (aR O) ?_ O O|refine au O ?_|refine al O O ?_|refine aC O O ?_|refine aA O O ?_|refine aM O ?_|(refine an (ap (cs:=aW x p) O) ?_ O O;rintro _ _ ⟨b1,rfl,rfl⟩)|(refine an (aq (f:=114) jI (fun w hS=>cy w x.K) O O (fun _=>O)) ?_ O O;rintro _ _ ⟨_,rfl,_,rfl⟩)|((refine an (aq (f:=115) jQ (fun w hS=>d9 w x p (h.keep hS.kpO)) O O (fun _=>O)) ?_ O O;rintro _ _ ⟨_,rfl,_,rfl⟩))|(refine an (aq (f:=116) fJ (fun w hS=>bz w x.F _ hF) O O (fun _=>O)) ?_ O O;rintro _ _ ⟨_,rfl,_,rfl⟩)|(refine an (aq (f:=116) fJ (fun w hS=>bz w x.T _ hT) O O (fun _=>O)) ?_ O O;rintro _ _ ⟨_,rfl,_,rfl⟩))
  exact hB _ _ _ _ _ O O (qE O)
 by_cases h0:0<x.tm
 rotate_left
 ·obtain rfl:r=false:=by rw[← hr];exact fw 5 (congrArg some (decide_eq_false h0))
  repeat' (first|refine aa (ay O (by omega)) ?_ O O|refine aa (aB O (by omega)) ?_ O O|refine bM O ?_ O O|refine ax ?_|refine aU ?_ O O|refine aa (ai (ds:=aW x p) O O O O O) ?_ O O|refine aa (eZ (f:=cQ x.K) O O hfn) ?_ O O|refine aa (eY (p:=d8 x) (q:=127-cQ x.K) (r:=d8 x&&& (127-cQ x.K)) O O O hsn (by omega)) ?_ O O|refine aa (ah O O O O) ?_ O O|refine aa (aR O) ?_ O O|refine au O ?_|refine al O O ?_|refine aC O O ?_|refine aA O O ?_|refine aM O ?_|(refine an (ap (cs:=aW x p) O) ?_ O O;rintro _ _ ⟨b1,rfl,rfl⟩)|(refine an (aq (f:=114) jI (fun w hS=>cy w x.K) O O (fun _=>O)) ?_ O O;rintro _ _ ⟨_,rfl,_,rfl⟩)|((refine an (aq (f:=115) jQ (fun w hS=>d9 w x p (h.keep hS.kpO)) O O (fun _=>O)) ?_ O O;rintro _ _ ⟨_,rfl,_,rfl⟩))|(refine an (aq (f:=116) fJ (fun w hS=>bz w x.F _ hF) O O (fun _=>O)) ?_ O O;rintro _ _ ⟨_,rfl,_,rfl⟩)|(refine an (aq (f:=116) fJ (fun w hS=>bz w x.T _ hT) O O (fun _=>O)) ?_ O O;rintro _ _ ⟨_,rfl,_,rfl⟩))
  exact hB _ _ _ _ _ O O (qE O)
 by_cases h62:x.tm≤4611686018427387904
 rotate_left
 ·obtain rfl:r=false:=by rw[← hr];exact fw 6 (congrArg some (decide_eq_false h62))
  repeat' (first|refine aa (ay O (by omega)) ?_ O O|refine aa (aB O (by omega)) ?_ O O|refine bM O ?_ O O|refine ax ?_|refine aU ?_ O O|refine aa (ai (ds:=aW x p) O O O O O) ?_ O O|refine aa (eZ (f:=cQ x.K) O O hfn) ?_ O O|refine aa (eY (p:=d8 x) (q:=127-cQ x.K) (r:=d8 x&&& (127-cQ x.K)) O O O hsn (by omega)) ?_ O O|refine aa (ah O O O O) ?_ O O|refine aa (aR O) ?_ O O|refine au O ?_|refine al O O ?_|refine aC O O ?_|refine aA O O ?_|refine aM O ?_|(refine an (ap (cs:=aW x p) O) ?_ O O;rintro _ _ ⟨b1,rfl,rfl⟩)|(refine an (aq (f:=114) jI (fun w hS=>cy w x.K) O O (fun _=>O)) ?_ O O;rintro _ _ ⟨_,rfl,_,rfl⟩)|((refine an (aq (f:=115) jQ (fun w hS=>d9 w x p (h.keep hS.kpO)) O O (fun _=>O)) ?_ O O;rintro _ _ ⟨_,rfl,_,rfl⟩))|(refine an (aq (f:=116) fJ (fun w hS=>bz w x.F _ hF) O O (fun _=>O)) ?_ O O;rintro _ _ ⟨_,rfl,_,rfl⟩)|(refine an (aq (f:=116) fJ (fun w hS=>bz w x.T _ hT) O O (fun _=>O)) ?_ O O;rintro _ _ ⟨_,rfl,_,rfl⟩))
  exact hB _ _ _ _ _ O O (qE O)
 cases hso:ir x.K x.tm x.pl.1 x.pl.2 p.n
 ·obtain rfl:r=false:=by rw[← hr];exact fw 7 (congrArg some hso)
  repeat' (first|refine aa (ay O (by omega)) ?_ O O|refine bM O ?_ O O|refine ax ?_|refine aU ?_ O O|refine aa (ai (ds:=aW x p) O O O O O) ?_ O O|refine aa (eZ (f:=cQ x.K) O O hfn) ?_ O O|refine aa (eY (p:=d8 x) (q:=127-cQ x.K) (r:=d8 x&&& (127-cQ x.K)) O O O hsn (by omega)) ?_ O O|refine aa (ah O O O O) ?_ O O|refine aa (aR O) ?_ O O|refine au O ?_|refine al O O ?_|refine aC O O ?_|refine aA O O ?_|refine aM O ?_|(refine an (ap (cs:=aW x p) O) ?_ O O;rintro _ _ ⟨b1,rfl,rfl⟩)|(refine an (aq (f:=114) jI (fun w hS=>cy w x.K) O O (fun _=>O)) ?_ O O;rintro _ _ ⟨_,rfl,_,rfl⟩)|((refine an (aq (f:=115) jQ (fun w hS=>d9 w x p (h.keep hS.kpO)) O O (fun _=>O)) ?_ O O;rintro _ _ ⟨_,rfl,_,rfl⟩))|(refine an (aq (f:=116) fJ (fun w hS=>bz w x.F _ hF) O O (fun _=>O)) ?_ O O;rintro _ _ ⟨_,rfl,_,rfl⟩)|(refine an (aq (f:=116) fJ (fun w hS=>bz w x.T _ hT) O O (fun _=>O)) ?_ O O;rintro _ _ ⟨_,rfl,_,rfl⟩)|(refine an (aq (f:=117) ny (fun w hS=>gp w x p (h.keep hS.kpO) _ hso) O O (fun _=>O)) ?_ O O;rintro _ _ ⟨_,rfl,_,rfl⟩))
  exact hB _ _ _ _ _ O O (qE O)
 by_cases hn8:p.n≤8
 rotate_left
 ·obtain rfl:r=false:=by rw[← hr];exact fw 8 (congrArg some (decide_eq_false hn8))
  repeat' (first|refine aa (ay O (by omega)) ?_ O O|refine aa (aB O (by omega)) ?_ O O|refine bM O ?_ O O|refine ax ?_|refine aU ?_ O O|refine aa (ai (ds:=aW x p) O O O O O) ?_ O O|refine aa (eZ (f:=cQ x.K) O O hfn) ?_ O O|refine aa (eY (p:=d8 x) (q:=127-cQ x.K) (r:=d8 x&&& (127-cQ x.K)) O O O hsn (by omega)) ?_ O O|refine aa (ah O O O O) ?_ O O|refine aa (aR O) ?_ O O|refine au O ?_|refine al O O ?_|refine aC O O ?_|refine aA O O ?_|refine aM O ?_|(refine an (ap (cs:=aW x p) O) ?_ O O;rintro _ _ ⟨b1,rfl,rfl⟩)|(refine an (aq (f:=114) jI (fun w hS=>cy w x.K) O O (fun _=>O)) ?_ O O;rintro _ _ ⟨_,rfl,_,rfl⟩)|((refine an (aq (f:=115) jQ (fun w hS=>d9 w x p (h.keep hS.kpO)) O O (fun _=>O)) ?_ O O;rintro _ _ ⟨_,rfl,_,rfl⟩))|(refine an (aq (f:=116) fJ (fun w hS=>bz w x.F _ hF) O O (fun _=>O)) ?_ O O;rintro _ _ ⟨_,rfl,_,rfl⟩)|(refine an (aq (f:=116) fJ (fun w hS=>bz w x.T _ hT) O O (fun _=>O)) ?_ O O;rintro _ _ ⟨_,rfl,_,rfl⟩)|(refine an (aq (f:=117) ny (fun w hS=>gp w x p (h.keep hS.kpO) _ hso) O O (fun _=>O)) ?_ O O;rintro _ _ ⟨_,rfl,_,rfl⟩))
  exact hB _ _ _ _ _ O O (qE O)
 by_cases hd6:p.dn≤65536
 rotate_left
 ·obtain rfl:r=false:=by rw[← hr];exact fw 9 (congrArg some (decide_eq_false hd6))
  repeat' (first|refine aa (ay O (by omega)) ?_ O O|refine aa (aB O (by omega)) ?_ O O|refine bM O ?_ O O|refine ax ?_|refine aU ?_ O O|refine aa (ai (ds:=aW x p) O O O O O) ?_ O O|refine aa (eZ (f:=cQ x.K) O O hfn) ?_ O O|refine aa (eY (p:=d8 x) (q:=127-cQ x.K) (r:=d8 x&&& (127-cQ x.K)) O O O hsn (by omega)) ?_ O O|refine aa (ah O O O O) ?_ O O|refine aa (aR O) ?_ O O|refine au O ?_|refine al O O ?_|refine aC O O ?_|refine aA O O ?_|refine aM O ?_|(refine an (ap (cs:=aW x p) O) ?_ O O;rintro _ _ ⟨b1,rfl,rfl⟩)|(refine an (aq (f:=114) jI (fun w hS=>cy w x.K) O O (fun _=>O)) ?_ O O;rintro _ _ ⟨_,rfl,_,rfl⟩)|((refine an (aq (f:=115) jQ (fun w hS=>d9 w x p (h.keep hS.kpO)) O O (fun _=>O)) ?_ O O;rintro _ _ ⟨_,rfl,_,rfl⟩))|(refine an (aq (f:=116) fJ (fun w hS=>bz w x.F _ hF) O O (fun _=>O)) ?_ O O;rintro _ _ ⟨_,rfl,_,rfl⟩)|(refine an (aq (f:=116) fJ (fun w hS=>bz w x.T _ hT) O O (fun _=>O)) ?_ O O;rintro _ _ ⟨_,rfl,_,rfl⟩)|(refine an (aq (f:=117) ny (fun w hS=>gp w x p (h.keep hS.kpO) _ hso) O O (fun _=>O)) ?_ O O;rintro _ _ ⟨_,rfl,_,rfl⟩))
  exact hB _ _ _ _ _ O O (qE O)
 by_cases hc5:p.cn≤5
 rotate_left
 ·obtain rfl:r=false:=by rw[← hr];exact fw 10 (congrArg some (decide_eq_false hc5))
  repeat' (first|refine aa (ay O (by omega)) ?_ O O|refine aa (aB O (by omega)) ?_ O O|refine bM O ?_ O O|refine ax ?_|refine aU ?_ O O|refine aa (ai (ds:=aW x p) O O O O O) ?_ O O|refine aa (eZ (f:=cQ x.K) O O hfn) ?_ O O|refine aa (eY (p:=d8 x) (q:=127-cQ x.K) (r:=d8 x&&& (127-cQ x.K)) O O O hsn (by omega)) ?_ O O|refine aa (ah O O O O) ?_ O O|refine aa (aR O) ?_ O O|refine au O ?_|refine al O O ?_|refine aC O O ?_|refine aA O O ?_|refine aM O ?_|(refine an (ap (cs:=aW x p) O) ?_ O O;rintro _ _ ⟨b1,rfl,rfl⟩)|(refine an (aq (f:=114) jI (fun w hS=>cy w x.K) O O (fun _=>O)) ?_ O O;rintro _ _ ⟨_,rfl,_,rfl⟩)|((refine an (aq (f:=115) jQ (fun w hS=>d9 w x p (h.keep hS.kpO)) O O (fun _=>O)) ?_ O O;rintro _ _ ⟨_,rfl,_,rfl⟩))|(refine an (aq (f:=116) fJ (fun w hS=>bz w x.F _ hF) O O (fun _=>O)) ?_ O O;rintro _ _ ⟨_,rfl,_,rfl⟩)|(refine an (aq (f:=116) fJ (fun w hS=>bz w x.T _ hT) O O (fun _=>O)) ?_ O O;rintro _ _ ⟨_,rfl,_,rfl⟩)|(refine an (aq (f:=117) ny (fun w hS=>gp w x p (h.keep hS.kpO) _ hso) O O (fun _=>O)) ?_ O O;rintro _ _ ⟨_,rfl,_,rfl⟩))
  exact hB _ _ _ _ _ O O (qE O)
 rcases Nat.eq_zero_or_pos p.n with hn0|hn0
 ·have hck2:(decide (p.n=0)||decide (eL x.pl x.es x.tm=0))=true:=by rw[decide_eq_true hn0];rfl
  cases hcf:(x.cf.all fun n=>decide (1≤n)&&decide (n≤255))
  ·obtain rfl:r=false:=by rw[← hr,lL,hcf];exact fw 12 O
   have hcf':(x.cf.all fun n=> !(!(decide (1≤n)&&decide (n≤255))))=false:=by simpa using hcf
   repeat' (first|refine aa (ay O (by omega)) ?_ O O|refine aa (aB O (by omega)) ?_ O O|refine bM O ?_ O O|refine ax ?_|refine aa (ai (ds:=aW x p) O O O O O) ?_ O O|refine aa (eZ (f:=cQ x.K) O O hfn) ?_ O O|refine aa (eY (p:=d8 x) (q:=127-cQ x.K) (r:=d8 x&&& (127-cQ x.K)) O O O hsn (by omega)) ?_ O O|refine aa (ah O O O O) ?_ O O|refine aa (aR O) ?_ O O|refine au O ?_|refine al O O ?_|refine aC O O ?_|refine aA O O ?_|refine aM O ?_|(refine an (ap (cs:=aW x p) O) ?_ O O;rintro _ _ ⟨b1,rfl,rfl⟩)|(refine an (aq (f:=114) jI (fun w hS=>cy w x.K) O O (fun _=>O)) ?_ O O;rintro _ _ ⟨_,rfl,_,rfl⟩)|((refine an (aq (f:=115) jQ (fun w hS=>d9 w x p (h.keep hS.kpO)) O O (fun _=>O)) ?_ O O;rintro _ _ ⟨_,rfl,_,rfl⟩))|(refine an (aq (f:=116) fJ (fun w hS=>bz w x.F _ hF) O O (fun _=>O)) ?_ O O;rintro _ _ ⟨_,rfl,_,rfl⟩)|(refine an (aq (f:=116) fJ (fun w hS=>bz w x.T _ hT) O O (fun _=>O)) ?_ O O;rintro _ _ ⟨_,rfl,_,rfl⟩)|(refine an (aq (f:=117) ny (fun w hS=>gp w x p (h.keep hS.kpO) _ hso) O O (fun _=>O)) ?_ O O;rintro _ _ ⟨_,rfl,_,rfl⟩)|((refine an (aq (f:=118) xh (fun w hS=>jv w p.cA p.cn p.cc 119 [] x.cf (fun n=> !(decide (1≤n)&&decide (n≤255))) (h.keep hS.kpO).rc (by omega) xi (fun w' _ n _=>iN w' n)) O O (fun _=>O)) ?_ O O;rintro _ _ ⟨_,rfl,_,rfl⟩);rw[hcf']))
   exact hB _ _ _ _ _ O O (qE O)
  ·obtain rfl:r=true:=by rw[← hr,lL,hcf,decide_eq_true hf,decide_eq_true hs,hF,hT,decide_eq_true hFT,decide_eq_true h0,decide_eq_true h62,hso,decide_eq_true hn8,decide_eq_true hd6,decide_eq_true hc5,hck2];rfl
   have hcf':(x.cf.all fun n=> !(!(decide (1≤n)&&decide (n≤255))))=true:=by simpa using hcf
   repeat' (first|refine aa (ay O (by omega)) ?_ O O|refine aa (aB O (by omega)) ?_ O O|refine bM O ?_ O O|refine ax ?_|refine aa (ai (ds:=aW x p) O O O O O) ?_ O O|refine aa (eZ (f:=cQ x.K) O O hfn) ?_ O O|refine aa (eY (p:=d8 x) (q:=127-cQ x.K) (r:=d8 x&&& (127-cQ x.K)) O O O hsn (by omega)) ?_ O O|refine aa (ah O O O O) ?_ O O|refine aa (aR O) ?_ O O|refine au O ?_|refine al O O ?_|refine aA O O ?_|refine aM O ?_|(refine an (ap (cs:=aW x p) O) ?_ O O;rintro _ _ ⟨b1,rfl,rfl⟩)|(refine an (aq (f:=114) jI (fun w hS=>cy w x.K) O O (fun _=>O)) ?_ O O;rintro _ _ ⟨_,rfl,_,rfl⟩)|((refine an (aq (f:=115) jQ (fun w hS=>d9 w x p (h.keep hS.kpO)) O O (fun _=>O)) ?_ O O;rintro _ _ ⟨_,rfl,_,rfl⟩))|(refine an (aq (f:=116) fJ (fun w hS=>bz w x.F _ hF) O O (fun _=>O)) ?_ O O;rintro _ _ ⟨_,rfl,_,rfl⟩)|(refine an (aq (f:=116) fJ (fun w hS=>bz w x.T _ hT) O O (fun _=>O)) ?_ O O;rintro _ _ ⟨_,rfl,_,rfl⟩)|(refine an (aq (f:=117) ny (fun w hS=>gp w x p (h.keep hS.kpO) _ hso) O O (fun _=>O)) ?_ O O;rintro _ _ ⟨_,rfl,_,rfl⟩)|((refine an (aq (f:=118) xh (fun w hS=>jv w p.cA p.cn p.cc 119 [] x.cf (fun n=> !(decide (1≤n)&&decide (n≤255))) (h.keep hS.kpO).rc (by omega) xi (fun w' _ n _=>iN w' n)) O O (fun _=>O)) ?_ O O;rintro _ _ ⟨_,rfl,_,rfl⟩);rw[hcf']))
   exact hB _ _ _ _ _ O O (qE O)
 ·obtain⟨ck,hck⟩: ∃ c,eL x.pl x.es x.tm=c:=⟨_,O⟩
  by_cases hc0:ck=0
  rotate_left
  ·have hck2:(decide (p.n=0)||decide (eL x.pl x.es x.tm=0))=false:=by rw[hck,decide_eq_false (by omega),decide_eq_false hc0];rfl
   obtain rfl:r=false:=by rw[← hr];exact fw 11 (congrArg some hck2)
   repeat' (first|refine aa (ay O (by omega)) ?_ O O|refine aa (aB O (by omega)) ?_ O O|refine bM O ?_ O O|refine ax ?_|refine aU ?_ O O|refine aa (ai (ds:=aW x p) O O O O O) ?_ O O|refine aa (ai (ds:=aO x.pl) O O O O O) ?_ O O|refine aa (ai (ds:=aE x.pl p.A p.n p.c) O O O O O) ?_ O O|refine aa (bS O O (fd x.pl p.A p.n p.c)) ?_ O O|refine aa (eZ (f:=cQ x.K) O O hfn) ?_ O O|refine aa (eY (p:=d8 x) (q:=127-cQ x.K) (r:=d8 x&&& (127-cQ x.K)) O O O hsn (by omega)) ?_ O O|refine aa (ah O O O O) ?_ O O|refine aa (aR O) ?_ O O|refine au O ?_|refine al O O ?_|refine aC O O ?_|(refine an (ap (cs:=aW x p) O) ?_ O O;rintro _ _ ⟨b1,rfl,rfl⟩)|(refine an (aq (f:=114) jI (fun w hS=>cy w x.K) O O (fun _=>O)) ?_ O O;rintro _ _ ⟨_,rfl,_,rfl⟩)|((refine an (aq (f:=115) jQ (fun w hS=>d9 w x p (h.keep hS.kpO)) O O (fun _=>O)) ?_ O O;rintro _ _ ⟨_,rfl,_,rfl⟩))|(refine an (aq (f:=116) fJ (fun w hS=>bz w x.F _ hF) O O (fun _=>O)) ?_ O O;rintro _ _ ⟨_,rfl,_,rfl⟩)|(refine an (aq (f:=116) fJ (fun w hS=>bz w x.T _ hT) O O (fun _=>O)) ?_ O O;rintro _ _ ⟨_,rfl,_,rfl⟩)|(refine an (aq (f:=117) ny (fun w hS=>gp w x p (h.keep hS.kpO) _ hso) O O (fun _=>O)) ?_ O O;rintro _ _ ⟨_,rfl,_,rfl⟩)|(refine an (am O bP) ?_ O O;rintro _ _ ⟨b5,rfl,rfl⟩)|(refine bh (aj (cs:=aE (0,0) none 0 0) (ds:=aE x.pl p.A p.n p.c) O O O O (bD _ _ _ _) O) ?_ O;rintro _ _ rfl)|(refine an (aq (f:=94) Eh (fun w hS=>nD w x.pl p.A p.c p.n p.Q x.es h.hn h.hQ (h.keep hS.kpO).rq (by omega) x.tm _ hck) O O (fun _=>O)) ?_ O O;rintro _ _ ⟨_,rfl,_,rfl⟩))
   exact hB _ _ _ _ _ O O (qE O)
  subst hc0
  have hck2:(decide (p.n=0)||decide (eL x.pl x.es x.tm=0))=true:=by rw[hck];simp
  cases hcf:(x.cf.all fun n=>decide (1≤n)&&decide (n≤255))
  ·obtain rfl:r=false:=by rw[← hr,lL,hcf];exact fw 12 O
   have hcf':(x.cf.all fun n=> !(!(decide (1≤n)&&decide (n≤255))))=false:=by simpa using hcf
   repeat' (first|refine aa (ay O (by omega)) ?_ O O|refine bM O ?_ O O|refine ax ?_|refine aa (ai (ds:=aW x p) O O O O O) ?_ O O|refine aa (ai (ds:=aO x.pl) O O O O O) ?_ O O|refine aa (ai (ds:=aE x.pl p.A p.n p.c) O O O O O) ?_ O O|refine aa (bS O O (fd x.pl p.A p.n p.c)) ?_ O O|refine aa (eZ (f:=cQ x.K) O O hfn) ?_ O O|refine aa (eY (p:=d8 x) (q:=127-cQ x.K) (r:=d8 x&&& (127-cQ x.K)) O O O hsn (by omega)) ?_ O O|refine aa (ah O O O O) ?_ O O|refine aa (aR O) ?_ O O|refine au O ?_|refine al O O ?_|refine aC O O ?_|(refine an (ap (cs:=aW x p) O) ?_ O O;rintro _ _ ⟨b1,rfl,rfl⟩)|(refine an (aq (f:=114) jI (fun w hS=>cy w x.K) O O (fun _=>O)) ?_ O O;rintro _ _ ⟨_,rfl,_,rfl⟩)|((refine an (aq (f:=115) jQ (fun w hS=>d9 w x p (h.keep hS.kpO)) O O (fun _=>O)) ?_ O O;rintro _ _ ⟨_,rfl,_,rfl⟩))|(refine an (aq (f:=116) fJ (fun w hS=>bz w x.F _ hF) O O (fun _=>O)) ?_ O O;rintro _ _ ⟨_,rfl,_,rfl⟩)|(refine an (aq (f:=116) fJ (fun w hS=>bz w x.T _ hT) O O (fun _=>O)) ?_ O O;rintro _ _ ⟨_,rfl,_,rfl⟩)|(refine an (aq (f:=117) ny (fun w hS=>gp w x p (h.keep hS.kpO) _ hso) O O (fun _=>O)) ?_ O O;rintro _ _ ⟨_,rfl,_,rfl⟩)|(refine an (am O bP) ?_ O O;rintro _ _ ⟨b5,rfl,rfl⟩)|(refine bh (aj (cs:=aE (0,0) none 0 0) (ds:=aE x.pl p.A p.n p.c) O O O O (bD _ _ _ _) O) ?_ O;rintro _ _ rfl)|(refine an (aq (f:=94) Eh (fun w hS=>nD w x.pl p.A p.c p.n p.Q x.es h.hn h.hQ (h.keep hS.kpO).rq (by omega) x.tm _ hck) O O (fun _=>O)) ?_ O O;rintro _ _ ⟨_,rfl,_,rfl⟩)|((refine an (aq (f:=118) xh (fun w hS=>jv w p.cA p.cn p.cc 119 [] x.cf (fun n=> !(decide (1≤n)&&decide (n≤255))) (h.keep hS.kpO).rc (by omega) xi (fun w' _ n _=>iN w' n)) O O (fun _=>O)) ?_ O O;rintro _ _ ⟨_,rfl,_,rfl⟩);rw[hcf']))
   exact hB _ _ _ _ _ O O (qE O)
  ·obtain rfl:r=true:=by rw[← hr,lL,hcf,decide_eq_true hf,decide_eq_true hs,hF,hT,decide_eq_true hFT,decide_eq_true h0,decide_eq_true h62,hso,decide_eq_true hn8,decide_eq_true hd6,decide_eq_true hc5,hck2];rfl
   have hcf':(x.cf.all fun n=> !(!(decide (1≤n)&&decide (n≤255))))=true:=by simpa using hcf
   repeat' (first|refine aa (ay O (by omega)) ?_ O O|refine bM O ?_ O O|refine ax ?_|refine aa (ai (ds:=aW x p) O O O O O) ?_ O O|refine aa (ai (ds:=aO x.pl) O O O O O) ?_ O O|refine aa (ai (ds:=aE x.pl p.A p.n p.c) O O O O O) ?_ O O|refine aa (bS O O (fd x.pl p.A p.n p.c)) ?_ O O|refine aa (eZ (f:=cQ x.K) O O hfn) ?_ O O|refine aa (eY (p:=d8 x) (q:=127-cQ x.K) (r:=d8 x&&& (127-cQ x.K)) O O O hsn (by omega)) ?_ O O|refine aa (ah O O O O) ?_ O O|refine aa (aR O) ?_ O O|refine au O ?_|refine al O O ?_|refine aC O O ?_|refine aA O O ?_|refine aM O ?_|(refine an (ap (cs:=aW x p) O) ?_ O O;rintro _ _ ⟨b1,rfl,rfl⟩)|(refine an (aq (f:=114) jI (fun w hS=>cy w x.K) O O (fun _=>O)) ?_ O O;rintro _ _ ⟨_,rfl,_,rfl⟩)|((refine an (aq (f:=115) jQ (fun w hS=>d9 w x p (h.keep hS.kpO)) O O (fun _=>O)) ?_ O O;rintro _ _ ⟨_,rfl,_,rfl⟩))|(refine an (aq (f:=116) fJ (fun w hS=>bz w x.F _ hF) O O (fun _=>O)) ?_ O O;rintro _ _ ⟨_,rfl,_,rfl⟩)|(refine an (aq (f:=116) fJ (fun w hS=>bz w x.T _ hT) O O (fun _=>O)) ?_ O O;rintro _ _ ⟨_,rfl,_,rfl⟩)|(refine an (aq (f:=117) ny (fun w hS=>gp w x p (h.keep hS.kpO) _ hso) O O (fun _=>O)) ?_ O O;rintro _ _ ⟨_,rfl,_,rfl⟩)|(refine an (am O bP) ?_ O O;rintro _ _ ⟨b5,rfl,rfl⟩)|(refine bh (aj (cs:=aE (0,0) none 0 0) (ds:=aE x.pl p.A p.n p.c) O O O O (bD _ _ _ _) O) ?_ O;rintro _ _ rfl)|(refine an (aq (f:=94) Eh (fun w hS=>nD w x.pl p.A p.c p.n p.Q x.es h.hn h.hQ (h.keep hS.kpO).rq (by omega) x.tm _ hck) O O (fun _=>O)) ?_ O O;rintro _ _ ⟨_,rfl,_,rfl⟩)|((refine an (aq (f:=118) xh (fun w hS=>jv w p.cA p.cn p.cc 119 [] x.cf (fun n=> !(decide (1≤n)&&decide (n≤255))) (h.keep hS.kpO).rc (by omega) xi (fun w' _ n _=>iN w' n)) O O (fun _=>O)) ?_ O O;rintro _ _ ⟨_,rfl,_,rfl⟩);rw[hcf']))
   exact hB _ _ _ _ _ O O (qE O)
def oG (x:Ms) (n cn dn:Nat):List Bool:=[decide (x.K=1)||decide (x.K=3)||decide (x.K=5)||decide (x.K=7)||decide (x.pl=(0,0)),decide (x.K=2)||decide (x.K=4)||decide (x.K=6)|| !x.ok,decide (x.K=5)||(decide (n=0)&&decide (x.cm=0)),decide (x.K=6)||decide (x.ix=0),decide (x.K=7)||(decide (cn=0)&&decide (dn=0))]
def mJ (l:List En) (t tm:Nat):Bool:=bw l t&&l.all fun e=>decide (e.1≤tm)
def wN (x:Ms) (n cn dn:Nat):List Bool:=[decide (1≤x.K),decide (x.K≤7),(oG x n cn dn).all id,decide (1≤x.F),decide (x.F≤5),decide (1≤x.T),decide (x.T≤5),decide (x.F≠x.T),decide (0<x.tm),decide (x.tm≤4611686018427387904),
 !(decide ((x.pl.1:Int)=0) !=decide ((x.pl.2:Int)=0)),decide (x.pl.2≤x.tm),decide (¬ (x.K=1∧x.pl.2=x.tm)),decide (¬ (x.K=7∧x.pl.2=0)),decide (n≤8),decide (cn≤5),decide (dn≤65536),mJ x.es x.pl.2 x.tm,decide (x.pl.1≤18446744073709551614-n),x.cf.all fun n=>decide (1≤n)&&decide (n≤255)]
def dm (x:Ms):Bool:=(wN x x.es.length x.cf.length x.dt.length).all id
theorem xK (K:Int):0<cQ K↔1≤K∧K≤7:=by
 unfold cQ
 constructor
 ·intro h
  split at h
  ·omega
  split at h
  ·omega
  split at h
  ·omega
  split at h
  ·omega
  split at h
  ·omega
  ·omega
 ·intro h
  split
  ·decide
  split
  ·decide
  split
  ·decide
  split
  ·decide
  split
  ·decide
  ·omega
theorem vx (K:Int) (h:K=1∨K=2∨K=3∨K=4∨K=5∨K=6∨K=7): ∀ b0 b1 b2 b3 b4 b5 b6:Bool,(je [(!b0,1),(b1,2),(b2,4),(b3,8),(b4,16),(b5,32),(b6,64)] 0&&& (127-cQ K)=0)↔[decide (K=1)||decide (K=3)||decide (K=5)||decide (K=7)||b0,decide (K=2)||decide (K=4)||decide (K=6)|| !b1,decide (K=5)||(!b2&& !b3),decide (K=6)|| !b4,decide (K=7)||(!b5&& !b6)].all id=true:=by
 rcases h with rfl|rfl|rfl|rfl|rfl|rfl|rfl
 ·decide+kernel
 ·decide+kernel
 ·decide+kernel
 ·decide+kernel
 ·decide+kernel
 ·decide+kernel
 ·decide+kernel
theorem dz (n:Nat):decide (n=0)= !decide (0<n):=by
 rw[Bool.eq_iff_iff]
 simp
theorem rM (x:Ms) (h:1≤x.K∧x.K≤7):(d8 x&&& (127-cQ x.K)=0)↔(oG x x.es.length x.cf.length x.dt.length).all id=true:=by
 have h1:=vx x.K (by omega) (decide (x.pl=(0,0))) x.ok (decide (0<x.es.length)) (decide (0<x.cm)) (decide (0<x.ix)) (decide (0<x.cf.length)) (decide (0<x.dt.length))
 unfold d8 vj oG
 rw[dz,dz,dz,dz,dz]
 exact h1
theorem xL (K:Int) (tm a t n:Nat):ir K tm a t n=true↔(!(decide ((a:Int)=0) !=decide ((t:Int)=0)))=true∧t≤tm∧ ¬ (K=1∧t=tm)∧ ¬ (K=7∧t=0)∧a≤18446744073709551614-n:=by
 unfold ir
 by_cases h1:K=1
 ·rw[if_pos h1]
  simp
  omega
 ·rw[if_neg h1]
  by_cases h7:K=7
  ·rw[if_pos h7]
   simp
   omega
  ·rw[if_neg h7]
   simp
   omega
theorem lD: ∀ (l:List En) (t tm:Nat),bw l t=true→l≠[]→(eM l t≤tm↔(l.all fun e=>decide (e.1≤tm))=true)
 |[],_,_,_,h=>absurd O h
 |[e],t,tm,_,_=>by
  show e.1≤tm↔_
  simp
 |e::f::l,t,tm,h,_=>by
  have h2:bw (f::l) e.1=true:=by
   unfold bw at h
   rw[Bool.and_eq_true] at h
   exact h.2
  have ih:=lD (f::l) e.1 tm h2 (by simp)
  have e1:eM (e::f::l) t=eM (f::l) e.1:=by
   have:=gB [e] (f::l) t
   exact this
  have h3:e.1≤f.1:=by
   unfold bw at h2
   simp only[Bool.and_eq_true,decide_eq_true_eq] at h2
   exact h2.1.2
  rw[e1,ih,List.all_cons (a:=e),Bool.and_eq_true]
  constructor
  ·intro h4
   refine⟨?_,h4⟩
   rw[List.all_cons,Bool.and_eq_true,decide_eq_true_eq] at h4
   exact decide_eq_true (by omega)
  ·exact fun h4=>h4.2
theorem rN (a t:Nat) (es:List En) (tm:Nat) (h0:(!(decide ((a:Int)=0) !=decide ((t:Int)=0)))=true) (h8:es.length≤8) (ha:a≤18446744073709551614-es.length) (ht:t≤tm):
  (decide (es.length=0)||decide (eL (a,t) es tm=0))=true↔mJ es t tm=true:=by
 by_cases hn:es=[]
 ·subst hn
  simp[mJ,bw]
 ·have hl:es.length≠0:=fun h=>hn (List.eq_nil_of_length_eq_zero h)
  rw[decide_eq_false hl,Bool.false_or,decide_eq_true_eq]
  have hb:(decide (((a,t):At)=(0,0))||(decide (0<a)&&decide (0<t)))=true:=by
   simp at h0 ⊢
   omega
  have hr:br (a,t) es=bw es t:=by
   unfold br
   dsimp only
   rw[hb,decide_eq_true (show es.length≤16 by omega),decide_eq_true ha]
   rfl
  unfold eL mJ
  rw[hr,Bool.and_eq_true]
  cases hq:bw es t
  ·simp
  ·rw[if_pos O, ← lD es t tm hq hn]
   show ((if tm<eM es t then (2:Int) else 0)=0)↔_
   split
   ·simp;omega
   ·simp;omega
theorem oH (x:Ms):(xJ x x.es.length x.dt.length x.cf.length).all id=dm x:=by
 unfold dm
 rw[Bool.eq_iff_iff]
 unfold xJ wN
 simp only[List.all_cons,List.all_nil,id,Bool.and_eq_true,decide_eq_true_eq,and_true]
 rw[xL,xK]
 constructor
 ·rintro⟨hK,hz,⟨hF1,hF5⟩,⟨hT1,hT5⟩,hFT,h0,h62,⟨hb,htt,hk1,hk7,ha⟩,hn,hd,hc,hck,hall⟩
  exact⟨hK.1,hK.2,by simpa only[List.all_cons,List.all_nil,id,Bool.and_eq_true,and_true] using(rM x hK).1 hz,hF1,hF5,hT1,hT5,hFT,h0,h62,hb,htt,hk1,hk7,hn,hc,hd,(rN _ _ _ _ hb hn ha htt).1 hck,ha,hall⟩
 ·rintro⟨hK1,hK7,hz,hF1,hF5,hT1,hT5,hFT,h0,h62,hb,htt,hk1,hk7,hn,hc,hd,hr,ha,hall⟩
  exact⟨⟨hK1,hK7⟩,(rM x ⟨hK1,hK7⟩).2 hz,⟨hF1,hF5⟩,⟨hT1,hT5⟩,hFT,h0,h62,⟨hb,htt,hk1,hk7,ha⟩,hn,hd,hc,(rN _ _ _ _ hb hn ha htt).2 hr,hall⟩
theorem fa (w:World) (x:Ms) (p:Mp) (h:MsR w x p) (r:Bool) (hr:dm x=r):
  Gives Tryz.prog 45 [.agg (aW x p).toArray] [] w (X:=Unit) (fun _=> .int .i64 (if r=true then 0 else 230)) (fun _=>True) (fun _=>[]):=
 vv w x p h r (by rw[← hr, ← oH,h.ln,h.dn,h.hc])
def Gt (x y:Ms):List Bool:=[decide (x.K=y.K),decide (x.F=y.F),decide (x.T=y.T),decide (x.tm=y.tm),decide (x.pl=y.pl),decide (x.es=y.es),decide (x.cm=y.cm),x.ok==y.ok,decide (x.ix=y.ix),decide (x.cf=y.cf),decide (x.dt=y.dt)]
theorem xM (x y:Ms):(Gt x y).all id=true↔x=y:=by
 obtain⟨a1,a2,a3,a4,a5,a6,a7,a8,a9,a10,a11⟩:=x
 obtain⟨b1,b2,b3,b4,b5,b6,b7,b8,b9,b10,b11⟩:=y
 simp only[Gt,List.all_cons,List.all_nil,id,Bool.and_eq_true,decide_eq_true_eq,beq_iff_eq,and_true,Ms.mk.injEq]
instance:DecidableEq Ms:=fun x y=>decidable_of_iff _ (xM x y)
theorem mZ (A:Option Addr) (n c:Nat):Tryz.prog.built 39 [(1,.slice A n c)]=some (aE (0,0) A n c).toArray:=by kernel_rfl
theorem vy (w:World) (A A2:Option Addr) (c c2' k k2:Nat) (Q M:List Em) (l l2:List En) (hk:Q.length=k) (hk2:M.length=k2) (hl:Q.map bA=l) (hl2:M.map bA=l2) (h:Rd w bC 3 A k (ab aN Q)) (h2:Rd w bC 3 A2 k2 (ab aN M)) (hq: ∀ m∈Q,mz w m) (hm: ∀ m∈M,mz w m) (hn:k≤100000) (hn2:k2≤100000) (r:Bool) (hr:decide (l=l2)=r):
  Gives Tryz.prog 61 [.agg (aE (0,0) A k c).toArray,.agg (aE (0,0) A2 k2 c2').toArray] [] w (X:=Unit) (fun _=> .bool r) (fun _=>True) (fun _=>[]):=by
 subst hk hk2 hl hl2 hr
 have h3:=pW w (0,0) (0,0) A A2 c c2' Q M h h2 hq hm hn hn2
 rw[decide_eq_true (rfl:((0,0):At)=(0,0)),Bool.true_and] at h3
 exact h3

abbrev Pe:=Int×Nat×Nat
structure Rs where
 me:Int
 term:Nat
 vote:Int
 base:At
 es:List En
 cf:List Int
 commit:Nat
 role:Int
 leader:Int
 clock:Int
 limit:Int
 votes:List Int
 peers:List Pe
structure Rp where
 A:Option Addr
 n:Nat
 c:Nat
 Q:List Em
 cA:Option Addr
 cn:Nat
 cc:Nat
 vA:Option Addr
 vn:Nat
 vc:Nat
 pA:Option Addr
 pn:Nat
 pc:Nat
def bp (p:Pe):List Value:=[.int .i64 p.1,.int .u64 (p.2.1:Int),.int .u64 (p.2.2:Int)]
theorem d2 (p:Pe):(bp p).length=3:=rfl
theorem gQ (p:Pe): ∀ u∈bp p,u.oneCell'=true:=by simp[bp,Value.oneCell']
def aZ (x:Rs) (p:Rp):List Value:=[.int .i64 x.me,.int .u64 (x.term:Int),.int .i64 x.vote,.int .u64 (x.base.1:Int),.int .u64 (x.base.2:Int),.slice p.A p.n p.c,.slice p.cA p.cn p.cc,.int .u64 (x.commit:Int),.int .i64 x.role,.int .i64 x.leader,.int .i64 x.clock,.int .i64 x.limit,.slice p.vA p.vn p.vc,.slice p.pA p.pn p.pc]
theorem bn (x:Rs) (p:Rp): ∀ u∈aZ x p,u.oneCell'=true:=by simp[aZ,Value.oneCell']
def dy:Rs:=⟨0,0,0,(0,0),[],[],0,0,0,0,0,[],[]⟩
def df:Rp:=⟨none,0,0,[],none,0,0,none,0,0,none,0,0⟩
theorem ch:AK.zero= .agg (aZ dy df).toArray:=by kernel_rfl
theorem lh:Tryz.prog.built 42 []=some (aZ dy df).toArray:=by kernel_rfl
structure LgR (w:World) (x:Rs) (p:Rp):Prop where
 hn:p.Q.length=p.n
 hm:p.n≤1000
 hc:p.n≤p.c
 hQ:p.Q.map bA=x.es
 rq:Rd w bC 3 p.A p.n (ab aN p.Q)
 bq: ∀ m∈p.Q,mz w m
 hd: ∀ m∈p.Q,m.2.2.2.2.length≤100000
 hcn:x.cf.length=p.cn
 hcm:p.cn≤900
 rc:Rd w bC 1 p.cA p.cn (x.cf.map zv)
structure RsU (x:Rs):Prop where
 tm:x.term<18446744073709551616
 b1:x.base.1<18446744073709551616
 b2:x.base.2<18446744073709551616
 cm:x.commit<18446744073709551616
 pe: ∀ p∈x.peers,p.2.1<18446744073709551616∧p.2.2<18446744073709551616
structure RfR (w:World) (x:Rs) (p:Rp):Prop where
 lg:LgR w x p
 hvn:x.votes.length=p.vn
 hvm:p.vn≤900
 rv:Rd w bC 1 p.vA p.vn (x.votes.map zv)
 hpn:x.peers.length=p.pn
 hpm:p.pn≤900
 rp:Rd w bC 3 p.pA p.pn (ab bp x.peers)
 hu:RsU x
theorem LgR.keep {w w':World} {x:Rs} {p:Rp} (h:LgR w x p) (hk:Kp bC w w'):LgR w' x p:=⟨h.hn,h.hm,h.hc,h.hQ,h.rq.keep hk,fun m hm=>Bs.keep (h.bq m hm) hk,h.hd,h.hcn,h.hcm,h.rc.keep hk⟩
theorem RfR.keep {w w':World} {x:Rs} {p:Rp} (h:RfR w x p) (hk:Kp bC w w'):RfR w' x p:=⟨h.lg.keep hk,h.hvn,h.hvm,h.rv.keep hk,h.hpn,h.hpm,h.rp.keep hk,h.hu⟩
theorem LgR.ln {w:World} {x:Rs} {p:Rp} (h:LgR w x p):x.es.length=p.n:=by rw[← h.hQ,List.length_map,h.hn]
theorem LgR.dt {w:World} {x:Rs} {p:Rp} (h:LgR w x p):lZ w bC (p.Q.map cR):=fun d hd=>by
 obtain⟨m,hm,rfl⟩:=List.mem_map.1 hd
 exact(h.bq m hm).rd
theorem LgR.like {w:World} {x y:Rs} {p q:Rp} (h:LgR w x p) (h1:y.es=x.es) (h2:y.cf=x.cf) (h3:q.Q=p.Q) (h4:q.n=p.n) (h5:q.c=p.c) (h6:q.A=p.A) (h7:q.cA=p.cA) (h8:q.cn=p.cn):LgR w y q:=
 ⟨by rw[h3,h4];exact h.hn,by rw[h4];exact h.hm,by rw[h4,h5];exact h.hc,by rw[h3,h1];exact h.hQ,by rw[h3,h4,h6];exact h.rq,by rw[h3];exact h.bq,by rw[h3];exact h.hd,by rw[h2,h8];exact h.hcn,by rw[h8];exact h.hcm,by rw[h2,h7,h8];exact h.rc⟩
def lastP (x:Rs):At:=if br x.base x.es=true then cM x.base x.es else (0,0)
def gm (d:List UInt8):Bool:=decide (C.jJ d=0)
def ea (l:List En):Bool:=l.all fun e=> !(decide (e.2.1=3)&& !gm e.2.2)
def iO (n:Int):Bool:=decide (1≤n)&&decide (n≤5)
def iP:Int→List Int→Bool
 |_,[]=>true
 |p,n::l=>iO n&&decide (p<n)&&iP n l
def g7 (l:List Int):Bool:=iP 0 l
def fj (me:Int):List Int:=[1,2,3,4,5].filter fun n=> !decide (n=me)
def dY (last:Nat):List Pe→List Int→Bool
 |[],[]=>true
 |p::l,n::m=>decide (p.1=n)&&decide (1≤p.2.1)&&decide (p.2.1≤last+1)&&decide (p.2.2<p.2.1)&&dY last l m
 |_,_=>false
def di (x:Rs) (last:Nat):Bool:=
 decide (1≤x.role)&&decide (x.role≤4)&&(decide (x.role=4)==decide (x.leader=x.me))&& !((decide (x.role=3)||decide (x.role=2))&& !decide (x.leader=0))&&
 (!(decide (x.role=3)||decide (x.role=4))||(decide (x.vote=x.me)&& !decide (x.term=0)))&&
 (if x.role=3∨x.role=2 then g7 x.votes&&decide (x.me∈x.votes) else decide (x.votes.length=0))&&
 (if x.role=4 then dY last x.peers (fj x.me) else decide (x.peers.length=0))
def cz (x:Rs):Bool:=
 iO x.me&&decide (x.term≤4611686018427387904)&&decide (0≤x.vote)&&decide (x.vote≤5)&&decide (0≤x.leader)&&decide (x.leader≤5)&&decide (eL x.base x.es x.term=0)&&C.right x.cf&&ea x.es&&
 decide (x.base.1≤x.commit)&&decide (x.commit≤(lastP x).1)&&decide (4≤x.limit)&&decide (x.limit≤16)&&decide (0≤x.clock)&&decide (x.clock≤x.limit)&&di x (lastP x).1
def iQ (x:Rs) (idx:Nat):List Int:=if (fv x.base x.es idx).2.2=true then C.cI (fv x.base x.es idx).2.1 else x.cf
def aJ (x:Rs):List Int:=iQ x (lastP x).1
def fl (x:Rs):Rs:={x with role:=1,votes:=[],peers:=[],leader:=0}
def gL:Ms:=⟨0,0,0,0,(0,0),[],0,false,0,[],[]⟩
def ff (x:Rs) (who:Int):List Ms:=match x.peers.find? (fun p=>decide (p.1=who)) with
 |none=>[]
 |some p=>if p.2.1≤x.base.1 then [{gL with K:=7,F:=x.me,T:=who,tm:=x.term,pl:=x.base,cf:=x.cf}]
  else [{gL with K:=5,F:=x.me,T:=who,tm:=x.term,pl:=(frm x.base x.es p.2.1 8).2.1,es:=(frm x.base x.es p.2.1 8).2.2,cm:=x.commit}]
def dr (x:Rs):List Int:=(aJ x).filter fun n=> !decide (n=x.me)
def kH (x:Rs):List Ms:=(dr x).flatMap (ff x)
def kI (ms:List Int) (L:List (Int×Nat)):Nat:=if C.right ms=true then C.sP L ms ms.length else 0
def iZ (x:Rs):List (Int×Nat):=(x.me,(lastP x).1)::x.peers.map fun p=>(p.1,p.2.2)
def i0 (x:Rs):Nat:=if x.commit<kI (aJ x) (iZ x)∧(eC x.base x.es (kI (aJ x) (iZ x))).1=x.term then kI (aJ x) (iZ x) else x.commit
def dI (x:Rs):Rs:=if (fv x.base x.es (lastP x).1).2.2=true∧(fv x.base x.es (lastP x).1).1≤i0 x∧(C.right (aJ x)&&decide (x.me∈aJ x))=false then fl {x with commit:=i0 x} else {x with commit:=i0 x}
def tc (x:Rs):Rs:={x with role:=4,leader:=x.me,clock:=0,votes:=[],peers:=(fj x.me).map fun n=>(n,(lastP x).1+1,0)}
def nX (x:Rs):Int×At×At×List En:=app x.base x.es (x.term,1,[])
def fx (x:Rs):Rs:=dI {tc x with base:=(nX x).2.2.1,es:=(nX x).2.2.2}
def da (x:Rs):Rs:=if (nX x).1=0 then fx x else fl (tc x)
def eH (x:Rs):List Ms:=if (nX x).1=0 then kH (fx x) else []
def bf (x:Rs):Rs:={x with term:=x.term+1,role:=3,vote:=x.me,votes:=[x.me],leader:=0}
def jS (x:Rs):Rs:=if C.dD (aJ x) [x.me]=true then da (bf x) else bf x
def jT (x:Rs):List Ms:=if C.dD (aJ x) [x.me]=true then eH (bf x) else (dr x).map fun n=>{gL with K:=3,F:=x.me,T:=n,tm:=x.term+1,pl:=lastP x}
def bF (x:Rs):Rs:={x with role:=2,votes:=[x.me],leader:=0}
def vz (x:Rs):Rs:=if C.dD (aJ x) [x.me]=true then jS (bF x) else bF x
def vB (x:Rs):List Ms:=if C.dD (aJ x) [x.me]=true then jT (bF x) else (dr x).map fun n=>{gL with K:=1,F:=x.me,T:=n,tm:=x.term+1,pl:=lastP x}
def dW (x:Rs) (limit:Int):Rs×List Ms:=
 if x.role=4 then (if 2≤x.clock+1 then ({x with clock:=0},kH {x with clock:=0}) else ({x with clock:=x.clock+1},[]))
 else if x.limit≤x.clock+1 then
  (if (C.right (aJ x)&&decide (x.me∈aJ x))=true∧x.term<4611686018427387904 then (vz {x with clock:=0,limit:=limit},vB {x with clock:=0,limit:=limit}) else ({x with clock:=0,limit:=limit},[]))
 else ({x with clock:=x.clock+1},[])
def oI (x:Rs) (p:At):Bool:=ja (lastP x) p
def bg (l:List Int) (n:Int):List Int:=if n∈l then l else l.take (C.cut l n)++n::l.drop (C.cut l n)
def cD (x:Rs) (m:Ms) (k:Int) (t:Nat) (ok:Bool) (i:Nat):Ms:={gL with K:=k,F:=x.me,T:=m.F,tm:=t,ok:=ok,ix:=i}
def jU (x:Rs) (m:Ms):List Ms:=if x.term<m.tm∧oI x m.pl=false∧x.leader=0 then (if 0<m.tm then [cD x m 2 m.tm true 0] else []) else if 0<x.term then [cD x m 2 x.term false 0] else []
def dP (x:Rs) (m:Ms):Rs×List Ms:=
 if x.role=2∧m.ok=true∧m.tm=x.term+1 then
  (if C.dD (aJ x) (bg x.votes m.F)=true then (jS {x with votes:=bg x.votes m.F},jT {x with votes:=bg x.votes m.F}) else ({x with votes:=bg x.votes m.F},[]))
 else (x,[])
def dX (x:Rs) (m:Ms):Bool:=decide (m.tm=x.term)&&(decide (x.vote=0)||decide (x.vote=m.F))&& !decide (x.role=4)&& !oI x m.pl
def iu (x:Rs) (m:Ms):Rs×List Ms:=(if dX x m=true then {x with vote:=m.F,clock:=0} else x,[cD x m 4 x.term (dX x m) 0])
def ee (x:Rs) (m:Ms):Rs×List Ms:=
 if x.role=3∧m.ok=true∧m.tm=x.term then
  (if C.dD (aJ x) (bg x.votes m.F)=true then (da {x with votes:=bg x.votes m.F},eH {x with votes:=bg x.votes m.F}) else ({x with votes:=bg x.votes m.F},[]))
 else (x,[])
def fU (x:Rs) (m:Ms):Rs:={fl x with leader:=m.F,clock:=0}
def jf (a:At) (l:List En) (a2:At) (l2:List En) (idx:Nat):Bool:=(List.range l.length).all fun i=>decide (idx<a.1+i+1)||((eC a2 l2 (a.1+i+1)).2&&decide ((eC a l (a.1+i+1)).1=(eC a2 l2 (a.1+i+1)).1))
def gh (x:Rs) (m:Ms):Int×Nat×At×List En:=jR x.base x.es m.pl m.es
def fy (x:Rs) (m:Ms):Rs×List Ms:=
 if m.tm<x.term then (x,[cD x m 6 x.term false 0]) else if x.role=4 then (x,[]) else
  if (gh x m).1=0∧jf x.base x.es (gh x m).2.2.1 (gh x m).2.2.2 x.commit=true then
   ({fU x m with base:=(gh x m).2.2.1,es:=(gh x m).2.2.2,commit:=max x.commit (min m.cm (gh x m).2.1)},[cD x m 6 x.term true (gh x m).2.1])
  else (fU x m,[cD x m 6 x.term false (min (lastP x).1 (m.pl.1-1))])
def eO (l:List Pe) (who:Int) (f:Pe→Pe):List Pe:=l.modify (l.findIdx fun p=>decide (p.1=who)) f
def Gu (l:List Pe) (who:Int):Bool:=l.any fun p=>decide (p.1=who)
def tU (m:Ms) (p:Pe):Pe:=(p.1,max (min p.2.1 (m.ix+1)) (p.2.2+1),p.2.2)
def tV (m:Ms) (p:Pe):Pe:=(p.1,max p.2.1 (max p.2.2 m.ix+1),max p.2.2 m.ix)
def fV (x:Rs) (who:Int):List Ms:=match x.peers.find? (fun p=>decide (p.1=who)) with
 |none=>[]
 |some p=>if p.2.1≤(lastP x).1 then ff x who else []
def bZ (x:Rs) (m:Ms):Rs×List Ms:=
 if x.role=4∧m.tm=x.term∧Gu x.peers m.F=true then
  (if m.ok=false then ({x with peers:=eO x.peers m.F (tU m)},ff {x with peers:=eO x.peers m.F (tU m)} m.F)
  else if (lastP x).1<m.ix then (x,[]) else
   (dI {x with peers:=eO x.peers m.F (tV m)},fV (dI {x with peers:=eO x.peers m.F (tV m)}) m.F))
 else (x,[])
def gq (x:Rs) (m:Ms):At×List En:=if (br x.base x.es&&fu x.base x.es m.pl)=true then (lC x.base x.es m.pl.1).2 else (m.pl,[])
def jN (x:Rs) (m:Ms):Rs×List Ms×Bool:=
 if m.tm<x.term then (x,[cD x m 6 x.term false 0],false) else if x.role=4 then (x,[],false) else
  if x.commit<m.pl.1 then ({fU x m with base:=(gq x m).1,es:=(gq x m).2,cf:=m.cf,commit:=m.pl.1},[cD x m 6 x.term true m.pl.1],true)
  else (fU x m,[cD x m 6 x.term true x.commit],false)
def kJ (x:Rs) (m:Ms):Rs:=if x.term<m.tm∧ ¬ m.K=1∧ ¬ (m.K=2∧m.ok=true) then fl {x with term:=m.tm,vote:=0} else x
def fz (x:Rs) (m:Ms):Rs×List Ms×Bool:=
 if m.K=1 then (x,jU x m,false) else if m.K=2 then ((dP x m).1,(dP x m).2,false) else if m.K=3 then ((iu x m).1,(iu x m).2,false) else if m.K=4 then ((ee x m).1,(ee x m).2,false) else
 if m.K=5 then ((fy x m).1,(fy x m).2,false) else if m.K=6 then ((bZ x m).1,(bZ x m).2,false) else jN x m
def cO (x:Rs) (m:Ms):Rs×List Ms×Bool:=fz (kJ x m) m
theorem fW (w:World) (n:Int) (r:Bool) (hr:iO n=r):
  Gives Tryz.prog 93 [.int .i64 n] [] w (X:=Unit) (fun _=> .bool r) (fun _=>True) (fun _=>[]):=by
 refine aP Tryz.func93 O Tryz.ntmps93 Tryz.results93 (by simp) (St.enter w) (fun B hB=>?_)
 subst hr
 unfold iO at hB
 by_cases h1:1≤n
 ·by_cases h2:n≤5
  ·rw[decide_eq_true h1,decide_eq_true h2] at hB
   repeat' (first|refine aa (ay O (by omega)) ?_ O O|refine bM O ?_ O O|refine ax ?_|refine au O ?_|refine al O O ?_)
   exact hB _ _ _ _ _ O O (qE O)
  ·rw[decide_eq_true h1,decide_eq_false h2] at hB
   repeat' (first|refine aa (ay O (by omega)) ?_ O O|refine aa (aB O (by omega)) ?_ O O|refine bM O ?_ O O|refine ax ?_|refine au O ?_|refine al O O ?_)
   exact hB _ _ _ _ _ O O (qE O)
 ·rw[decide_eq_false h1,Bool.false_and] at hB
  repeat' (first|refine aa (aB O (by omega)) ?_ O O|refine bM O ?_ O O|refine ax ?_|refine aU ?_ O O|refine au O ?_|refine al O O ?_)
  exact hB _ _ _ _ _ O O (qE O)
theorem yO (w:World) (A:Option Addr) (n c:Nat) (l:List UInt8) (h:Bs w bC A n c l) (hn:n≤100000) (e:Int) (he:C.jJ l=e) (ms:List Int) (hm:C.cI l=ms) (K:Nat) (hK:ms.length=K):
  Gives Tryz.prog 120 [.slice A n c] [] w (X:=Option Addr×Nat) (fun x=> .tuple #[C.jM x.1 K x.2,.int .i64 e]) (fun _=>True) (fun x=>[row 3 1 x.1 K x.2 (ms.map zv)]):=by
 subst hK
 subst hm
 subst he
 exact C.xp w A n c l h hn
theorem jw (w:World) (m:Em) (h:mz w m) (hn:m.2.2.2.2.length≤100000) (q:Bool) (hq:gm m.2.2.2.2=q) (ms:List Int) (hm:C.cI m.2.2.2.2=ms) (K:Nat) (hK:ms.length=K):
  Gives Tryz.prog 48 [.agg (aN m).toArray] [] w (X:=Option Addr×Nat) (fun x=> .tuple #[C.jM x.1 K x.2,.bool q]) (fun _=>True) (fun x=>[row 3 1 x.1 K x.2 (ms.map zv)]):=by
 refine cX Tryz.func48 O Tryz.ntmps48 Tryz.results48 (by simp) (St.enter w) (fun B hB=>?_)
 obtain⟨t,k,A,c,l⟩:=m
 dsimp only at hn hq hm
 have h:Bs w bC A l.length c l:=h
 obtain⟨e,he⟩: ∃ e,C.jJ l=e:=⟨_,O⟩
 have hq:decide (e=0)=q:=by rw[← hq,gm,he]
 focus (refine qs ?_;(refine qe (ap (cs:=aN (t,k,A,c,l)) O) ?_;rintro _ _ ⟨b1,rfl,rfl⟩);(refine qe (am O C.dO) ?_;rintro _ _ ⟨b2,rfl,rfl⟩);refine qp ?_;refine qn ?_;refine qp ?_;refine qt (ah O O O O) ?_;(refine qe (bB (f:=120) Dz (fun w' hS=>yO w' A l.length c l (Bs.keep h hS.kpO) hn e he ms hm K hK) O O (fun _=>O)) ?_;rintro _ _ ⟨⟨A3,c3⟩,rfl,_,rfl⟩);(iterate 3 refine qp ?_);(refine qe (am O C.dO) ?_;rintro _ _ ⟨b2,rfl,rfl⟩);(refine qw (aj (cs:=[.slice none 0 0]) (ds:=[.slice A3 K c3]) O O O O (C.eB _ _ _) O) ?_;rintro _ _ rfl);refine qp ?_;refine qn ?_;refine qt (ai (ds:=[.slice A3 K c3]) O O O O O) ?_;refine qp ?_;refine qp ?_;(refine qw (aj (cs:=[.slice none 0 0]) (ds:=[.slice A3 K c3]) O O O O (C.eB _ _ _) O) ?_;rintro _ _ rfl);refine qp ?_;refine qz ?_)
 refine hB _ _ _ _ _ O (.cell O O O inferInstance O (.tmp O .nil)) fun w' hS=>⟨(A3,c3),?_,trivial,ae (H':=[row 3 1 A3 K c3 (ms.map zv)]) w' hS⟩
 rw[← hq]
 rfl
theorem pX (Q:List Em) (j:Nat) (hj:j<Q.length) {m:Em} (hm:Q.getD j default=m):ea ((Q.take (j+1)).map bA)=(ea ((Q.take j).map bA)&& !(decide (m.2.1=3)&& !gm m.2.2.2.2)):=by
 rw[kA Q j hj hm,ea,List.all_append]
 simp[ea,bA]
theorem td (Q:List Em) (j:Nat) (hj:j<Q.length) {m:Em} (hm:Q.getD j default=m) (h:(decide (m.2.1=3)&& !gm m.2.2.2.2)=true):ea (Q.map bA)=false:=by
 rw[oz Q j hj hm,ea,List.all_append,List.all_cons]
 have:(!(decide ((bA m).2.1=3)&& !gm (bA m).2.2))=false:=by
  show (!(decide (m.2.1=3)&& !gm m.2.2.2.2))=false
  rw[h]
  rfl
 rw[this,Bool.false_and,Bool.and_false]
theorem pY (w:World) (A:Option Addr) (c k:Nat) (Q:List Em) (hk:Q.length=k) (h:Rd w bC 3 A k (ab aN Q)) (hq: ∀ m∈Q,mz w m) (hd: ∀ m∈Q,m.2.2.2.2.length≤100000) (hn:k≤100000) (r:Bool) (hr:ea (Q.map bA)=r):
  Gives Tryz.prog 96 [.slice A k c] [] w (X:=Unit) (fun _=> .bool r) (fun _=>True) (fun _=>[]):=by
 refine aP Tryz.func96 O Tryz.ntmps96 Tryz.results96 (by simp) (St.enter w) (fun B hB=>?_)
 subst hk
 have hne:0<Q.length→A≠none:=fun h0=>by obtain⟨ad,rfl,_⟩:=h.2 (by omega);simp
 focus (refine qs ?_;refine qp ?_;refine qz ?_;refine qq ?_;refine qs ?_;(iterate 3 refine qp ?_);refine qz ?_;refine qb ?_)
 refine bV (X:=Nat) (fun j=>[(7,.slice A Q.length c),(8,.int .i64 (Q.length:Int)),(9,.int .i64 (j:Int))]) (fun _=>[]) (fun j=>j≤Q.length∧ea ((Q.take j).map bA)=true) (fun j=>Q.length-j) O 0 ⟨Nat.zero_le _,O⟩ (Sub.cons O (Sub.cons O (Sub.cons O Sub.nil))) (fun _ h=>h.sublist (List.nil_sublist _)) ?_
 rintro j ⟨hj,hok⟩ J hJ
 rcases Nat.lt_or_ge j Q.length with hjl|hjl
 ·have hne:=hne (by omega)
  have hat:=bi (f:=aN) bW Q default j hjl
  obtain⟨m,hm⟩: ∃ m,Q.getD j default=m:=⟨_,O⟩
  have hmem:m∈Q:=by rw[← hm];simp[List.getD,hjl]
  have hb:=hq m hmem
  have hl:=hd m hmem
  have hnx:=pX Q j hjl hm
  have hbad:=td Q j hjl hm
  rw[hok,Bool.true_and] at hnx
  rw[hm] at hat
  obtain⟨q,hqq⟩: ∃ q,gm m.2.2.2.2=q:=⟨_,O⟩
  obtain⟨ms,hms⟩: ∃ ms,C.cI m.2.2.2.2=ms:=⟨_,O⟩
  obtain⟨K,hK⟩: ∃ K,ms.length=K:=⟨_,O⟩
  rw[hqq] at hnx hbad
  by_cases h3:m.2.1=3
  ·cases q
   ·have hf:=hbad (by rw[decide_eq_true h3];rfl)
    rw[hr] at hf
    subst hf
    focus (refine qs ?_;refine qd ?_;refine qz ?_;refine qq ?_;refine qT ?_;refine qx ?_;refine qq ?_;refine qb ?_;refine qs ?_;refine qt (bH (sz:=3) O O O O O O hne hjl) ?_;refine qt (cw (ds:=aN m) O O O (Srd.old h (fun k _=>ao k)) O (by omega) hat) ?_;(refine qe (am O cu) ?_;rintro _ _ ⟨b4,rfl,rfl⟩);(refine qw (aj (cs:=aN (0,0,none,0,[])) (ds:=aN m) O O O O (cC _) O) ?_;rintro _ _ rfl);refine qn ?_;refine qt (ai (ds:=aN m) O O O O O) ?_;(refine qe (bB (f:=48) Ea (fun w' hS=>jw w' m (Bs.keep hb hS.kpO) hl _ hqq ms hms K hK) O O (fun _=>O)) ?_;rintro _ _ ⟨⟨A3,c3⟩,rfl,_,rfl⟩);(iterate 3 refine qp ?_);(refine qe (am O C.dO) ?_;rintro _ _ ⟨b5,rfl,rfl⟩);(refine qw (aj (cs:=[.slice none 0 0]) (ds:=[.slice A3 K c3]) O O O O (C.eB _ _ _) O) ?_;rintro _ _ rfl);refine qp ?_;refine qn ?_;refine qp ?_;refine qt (ah O O O O) ?_;refine qd ?_;refine qd ?_;refine qp ?_;refine qt (aR O) ?_;refine qd ?_;refine qz ?_;refine qT ?_;refine qs ?_;refine qp ?_;refine qz ?_)
    exact hB _ _ _ _ _ O O (qE O)
   ·focus (refine qs ?_;refine qd ?_;refine qz ?_;refine qq ?_;refine qT ?_;refine qx ?_;refine qq ?_;refine qb ?_;refine qs ?_;refine qt (bH (sz:=3) O O O O O O hne hjl) ?_;refine qt (cw (ds:=aN m) O O O (Srd.old h (fun k _=>ao k)) O (by omega) hat) ?_;(refine qe (am O cu) ?_;rintro _ _ ⟨b4,rfl,rfl⟩);(refine qw (aj (cs:=aN (0,0,none,0,[])) (ds:=aN m) O O O O (cC _) O) ?_;rintro _ _ rfl);refine qn ?_;refine qt (ai (ds:=aN m) O O O O O) ?_;(refine qe (bB (f:=48) Ea (fun w' hS=>jw w' m (Bs.keep hb hS.kpO) hl _ hqq ms hms K hK) O O (fun _=>O)) ?_;rintro _ _ ⟨⟨A3,c3⟩,rfl,_,rfl⟩);refine qp ?_;refine qp ?_;refine qd ?_;(refine qe (am O C.dO) ?_;rintro _ _ ⟨b5,rfl,rfl⟩);(refine qw (aj (cs:=[.slice none 0 0]) (ds:=[.slice A3 K c3]) O O O O (C.eB _ _ _) O) ?_;rintro _ _ rfl);refine qd ?_;refine qn ?_;refine qp ?_;refine qt (ah O O O O) ?_;(iterate 3 refine qd ?_);refine qt (aR O) ?_;refine qp ?_;refine qz ?_;refine qF ?_;refine qx ?_;refine aK ?_;refine qr ?_;refine qt (aI O O (by unfold aH;omega)) ?_;refine qp ?_;refine qz ?_)
    exact hJ (j+1) _ _ ⟨by omega,by rw[hnx];simp⟩ (Sub.cons O (Sub.cons O (Sub.cons O Sub.nil))) (fun _ h=>h.sublist (List.nil_sublist _)) (by omega)
  ·focus (refine qs ?_;refine qd ?_;refine qz ?_;refine qq ?_;refine qT ?_;refine qx ?_;refine qq ?_;refine qb ?_;refine qs ?_;refine qt (bH (sz:=3) O O O O O O hne hjl) ?_;refine qt (cw (ds:=aN m) O O O (Srd.old h (fun k _=>ao k)) O (by omega) hat) ?_;(refine qe (am O cu) ?_;rintro _ _ ⟨b4,rfl,rfl⟩);(refine qw (aj (cs:=aN (0,0,none,0,[])) (ds:=aN m) O O O O (cC _) O) ?_;rintro _ _ rfl);refine qn ?_;refine qt (ai (ds:=aN m) O O O O O) ?_;(refine qe (bB (f:=48) Ea (fun w' hS=>jw w' m (Bs.keep hb hS.kpO) hl _ hqq ms hms K hK) O O (fun _=>O)) ?_;rintro _ _ ⟨⟨A3,c3⟩,rfl,_,rfl⟩);(iterate 3 refine qp ?_);(refine qe (am O C.dO) ?_;rintro _ _ ⟨b5,rfl,rfl⟩);(refine qw (aj (cs:=[.slice none 0 0]) (ds:=[.slice A3 K c3]) O O O O (C.eB _ _ _) O) ?_;rintro _ _ rfl);refine qp ?_;refine qn ?_;refine qp ?_;refine qt (ah O O O O) ?_;refine qf ?_;refine qp ?_;refine qk ?_;refine qk ?_;refine qp ?_;refine qz ?_;refine qF ?_;refine qx ?_;refine aK ?_;refine qr ?_;refine qt (aI O O (by unfold aH;omega)) ?_;refine qp ?_;refine qz ?_)
   exact hJ (j+1) _ _ ⟨by omega,by rw[hnx,decide_eq_false h3];rfl⟩ (Sub.cons O (Sub.cons O (Sub.cons O Sub.nil))) (fun _ h=>h.sublist (List.nil_sublist _)) (by omega)
 have hjn:j=Q.length:=by omega
 subst hjn
 rw[List.take_length,hr] at hok
 subst hok
 focus (refine qs ?_;refine qf ?_;refine qz ?_;refine qq ?_;refine qF ?_;refine bE O O ?_;refine qs ?_;refine qp ?_;refine qz ?_)
 exact hB _ _ _ _ _ O O (qE O)
theorem oJ: ∀ (l:List Int) (p n:Int),iP p (l++[n])=(iP p l&&iO n&&decide ((l.getLast?.getD p)<n))
 |[],p,n=>by
  show (iO n&&decide (p<n)&&true)=(true&&iO n&&decide (p<n))
  rw[Bool.and_true,Bool.true_and]
 |x::l,p,n=>by
  have ih:=oJ l x n
  simp only[List.cons_append,iP,ih,List.getLast?_cons,Option.getD_some]
  simp only[Bool.and_assoc]
theorem oK: ∀ (l m:List Int) (p:Int),iP p (l++m)=true→iP p l=true
 |[],_,_,_=>rfl
 |x::l,m,p,h=>by
  simp only[List.cons_append,iP,Bool.and_eq_true] at h ⊢
  exact⟨h.1,oK l m x h.2⟩
theorem vC (l:List Int) (j:Nat) (hj:j<l.length):g7 (l.take (j+1))=(g7 (l.take j)&&iO (l.getD j 0)&&(decide (j=0)||decide (l.getD (j-1) 0<l.getD j 0))):=by
 have e:l.take (j+1)=l.take j++[l.getD j 0]:=by rw[List.take_succ_eq_append_getElem hj];simp[List.getD,hj]
 rw[g7,e,oJ,g7]
 rcases Nat.eq_zero_or_pos j with h0|h0
 ·subst h0
  cases hs:iO (l.getD 0 0)
  ·simp
  ·have:0<l.getD 0 0:=by simp only[iO,Bool.and_eq_true,decide_eq_true_eq] at hs;omega
   simp only[List.take_zero,List.getLast?_nil,Option.getD_none,this,decide_true,Bool.and_true,Bool.true_or]
 ·have:(l.take j).getLast?.getD 0=l.getD (j-1) 0:=by
   rw[List.getLast?_eq_getElem?,List.length_take,Nat.min_eq_left (by omega),List.getElem?_take,if_pos (by omega),List.getD]
  rw[this,decide_eq_false (show ¬ j=0 by omega),Bool.false_or]
theorem xN (l:List Int) (j:Nat) (hj:j<l.length) (h:g7 (l.take (j+1))=false):g7 l=false:=by
 rw[Bool.eq_false_iff] at h ⊢
 intro h2
 refine h (oK _ (l.drop (j+1)) 0 ?_)
 rw[List.take_append_drop]
 exact h2
theorem d6 (w:World) (A:Option Addr) (n c:Nat) (l:List Int) (h:Rd w bC 1 A n (l.map zv)) (hn:n≤100000) (r:Bool) (hr:g7 l=r):
  Gives Tryz.prog 157 [.slice A n c] [] w (X:=Unit) (fun _=> .bool r) (fun _=>True) (fun _=>[]):=by
 refine aP Tryz.func157 O Tryz.ntmps157 Tryz.results157 (by simp) (St.enter w) (fun B hB=>?_)
 have hl:l.length=n:=by have:=h.1;simpa using this
 have hne:0<n→A≠none:=fun h0=>by obtain⟨ad,rfl,_⟩:=h.2 (by omega);simp
 subst hl
 focus (refine qs ?_;refine qp ?_;refine qz ?_;refine qq ?_;refine qs ?_;(iterate 3 refine qp ?_);refine qz ?_;refine qb ?_)
 refine bV (X:=Nat) (fun j=>[(0,.slice A l.length c),(5,.slice A l.length c),(6,.int .i64 (l.length:Int)),(7,.int .i64 (j:Int))]) (fun _=>[]) (fun j=>j≤l.length∧g7 (l.take j)=true) (fun j=>l.length-j) O 0 ⟨Nat.zero_le _,O⟩ (Sub.cons O (Sub.cons O (Sub.cons O (Sub.cons O Sub.nil)))) (fun _ h=>h.sublist (List.nil_sublist _)) ?_
 rintro j ⟨hj,hok⟩ J hJ
 rcases Nat.lt_or_ge j l.length with hjl|hjl
 ·have hne:=hne (by omega)
  have hat:=iW (l:=l) (j:=j) hjl
  have hat2:=iW (l:=l) (j:=j-1) (by omega)
  have hnx:=vC l j hjl
  have hbad:=xN l j hjl
  rw[hr] at hbad
  rw[hok,Bool.true_and] at hnx
  obtain⟨x,hx⟩: ∃ x,l.getD j 0=x:=⟨_,O⟩
  obtain⟨y,hy⟩: ∃ y,l.getD (j-1) 0=y:=⟨_,O⟩
  rw[hx] at hat hnx
  rw[hy] at hat2 hnx
  obtain⟨q,hq⟩: ∃ q,iO x=q:=⟨_,O⟩
  rw[hq] at hnx
  cases q
  ·obtain rfl:r=false:=hbad (by rw[hnx];rfl)
   repeat' (first|refine aa (ay O (by omega)) ?_ O O|refine bM O ?_ O O|refine ax ?_|refine aU ?_ O O|refine aa (fS O O O O O O hne hjl) ?_ O O|refine aa (bN (v:=zv x) O O O (Srd.old h (fun k _=>ao k)) (by omega) hat) ?_ O O|refine aa (aR O) ?_ O O|refine au O ?_|refine al O O ?_|refine aC O O ?_|refine aG O ?_|refine aM O ?_|(refine an (aq (f:=93) Du (fun w hS=>fW w x _ hq) O O (fun _=>O)) ?_ O O;rintro _ _ ⟨_,rfl,_,rfl⟩))
   exact hB _ _ _ _ _ O O (qE O)
  ·by_cases h0:j=0
   ·repeat' (first|refine aa (ay O (by omega)) ?_ O O|refine aa (aB O (by omega)) ?_ O O|refine bM O ?_ O O|refine ax ?_|refine aU ?_ O O|refine aa (fS O O O O O O hne hjl) ?_ O O|refine aa (bN (v:=zv x) O O O (Srd.old h (fun k _=>ao k)) (by omega) hat) ?_ O O|refine aa (aI O O (by unfold aH;omega)) ?_ O O|refine aa (aR O) ?_ O O|refine au O ?_|refine al O O ?_|refine aC O O ?_|refine aA O O ?_|refine aG O ?_|refine aK ?_|refine aM O ?_|(refine an (aq (f:=93) Du (fun w hS=>fW w x _ hq) O O (fun _=>O)) ?_ O O;rintro _ _ ⟨_,rfl,_,rfl⟩))
    exact hJ (j+1) _ _ ⟨by omega,by rw[hnx,decide_eq_true h0];rfl⟩ (Sub.cons O (Sub.cons O (Sub.cons O (Sub.cons O Sub.nil)))) (fun _ h=>h.sublist (List.nil_sublist _)) (by omega)
   ·by_cases h1:y<x
    ·focus (refine qs ?_;refine qd ?_;refine qz ?_;refine qq ?_;refine qT ?_;refine qx ?_;refine qq ?_;refine qb ?_;refine qs ?_;refine qp ?_;refine qt (fS O O O O O O hne hjl) ?_;refine qt (bN (v:=zv x) O O O (Srd.old h (fun k _=>ao k)) (by omega) hat) ?_;refine qp ?_;refine qp ?_;refine qn ?_;refine qp ?_;refine qh Du (fun w hS=>fW w x _ hq) ?_;refine qt (aR O) ?_;refine qp ?_;refine qp ?_;refine qd ?_;refine qd ?_;refine qp ?_;refine qp ?_;refine qt (bU (p:=j) (q:=1) O O (by omega) (by unfold aH;omega)) ?_;refine qt (fS (q:=j-1) O O O O O O hne (by omega)) ?_;refine qt (bN (v:=zv y) O O O (Srd.old h (fun k _=>ao k)) (by omega) hat2) ?_;refine qp ?_;refine qf ?_;refine qp ?_;refine qp ?_;refine qz ?_;refine qF ?_;refine qx ?_;refine aK ?_;refine qr ?_;refine qt (aI O O (by unfold aH;omega)) ?_;refine qp ?_;refine qz ?_)
     exact hJ (j+1) _ _ ⟨by omega,by rw[hnx,decide_eq_true h1];simp⟩ (Sub.cons O (Sub.cons O (Sub.cons O (Sub.cons O Sub.nil)))) (fun _ h=>h.sublist (List.nil_sublist _)) (by omega)
    ·obtain rfl:r=false:=hbad (by rw[hnx,decide_eq_false h0,decide_eq_false h1];rfl)
     repeat' (first|refine aa (ay O (by omega)) ?_ O O|refine bM O ?_ O O|refine ax ?_|refine aa (fS O O O O O O hne hjl) ?_ O O|refine aa (bN (v:=zv x) O O O (Srd.old h (fun k _=>ao k)) (by omega) hat) ?_ O O|refine aa (bU (p:=j) (q:=1) O O (by omega) (by unfold aH;omega)) ?_ O O|refine aa (fS (q:=j-1) O O O O O O hne (by omega)) ?_ O O|refine aa (bN (v:=zv y) O O O (Srd.old h (fun k _=>ao k)) (by omega) hat2) ?_ O O|refine aa (aR O) ?_ O O|refine au O ?_|refine al O O ?_|refine aC O O ?_|refine aG O ?_|refine aM O ?_|(refine an (aq (f:=93) Du (fun w hS=>fW w x _ hq) O O (fun _=>O)) ?_ O O;rintro _ _ ⟨_,rfl,_,rfl⟩))
     exact hB _ _ _ _ _ O O (qE O)
 have hjn:j=l.length:=by omega
 subst hjn
 rw[List.take_length,hr] at hok
 subst hok
 focus (refine qs ?_;refine qf ?_;refine qz ?_;refine qq ?_;refine qF ?_;refine bE O O ?_;refine qs ?_;refine qp ?_;refine qz ?_)
 exact hB _ _ _ _ _ O O (qE O)
def lj (me:Int) (j:Nat):List Int:=([1,2,3,4,5].take j).filter fun n=> !decide (n=me)
theorem vD (me:Int) (j:Nat) (hj:j<5):lj me (j+1)=lj me j++(if ((j:Int)+1)=me then [] else [(j:Int)+1]):=by
 by_cases hm:me=1∨me=2∨me=3∨me=4∨me=5
 ·rcases hm with rfl|rfl|rfl|rfl|rfl<;>(rcases(by omega:j=0∨j=1∨j=2∨j=3∨j=4) with rfl|rfl|rfl|rfl|rfl<;>rfl)
 ·have e: ∀ k,lj me k=[1,2,3,4,5].take k:=fun k=>by
   unfold lj
   rw[List.filter_eq_self]
   intro n hn
   have:=List.mem_of_mem_take hn
   simp only[List.mem_cons,List.not_mem_nil,or_false] at this
   simp only[Bool.not_eq_true',decide_eq_false_iff_not]
   omega
  rw[e,e,if_neg (by omega)]
  rcases(by omega:j=0∨j=1∨j=2∨j=3∨j=4) with rfl|rfl|rfl|rfl|rfl<;>rfl
theorem oL (me:Int) (j:Nat):(lj me j).length≤5:=by
 unfold lj
 refine Nat.le_trans (List.length_filter_le _ _) ?_
 rw[List.length_take]
 exact Nat.min_le_right _ _
theorem rO (me:Int):(fj me).length≤5:=oL me 5
theorem jV (w:World) (me:Int) (l:List Int) (hl:fj me=l) (K:Nat) (hK:l.length=K):
  Gives Tryz.prog 159 [.int .i64 me] [] w (X:=Option Addr×Nat) (fun x=> .slice x.1 K x.2) (fun _=>True) (fun x=>[row 3 1 x.1 K x.2 (l.map zv)]):=by
 refine aP Tryz.func159 O Tryz.ntmps159 Tryz.results159 (by simp) (St.enter w) (fun B hB=>?_)
 subst hK
 subst hl
 repeat' (first|refine bM O ?_ O O|refine ax ?_|refine au O ?_|refine al O O ?_|refine aG O ?_)
 refine bV (X:=Nat×Option Addr×Nat) (fun z=>[(0,.int .i64 me),(3,.slice z.2.1 (lj me z.1).length z.2.2),(5,.int .i64 (z.1:Int))]) (fun z=>[row 3 1 z.2.1 (lj me z.1).length z.2.2 ((lj me z.1).map zv)]) (fun z=>z.1≤5) (fun z=>5-z.1) O (0,none,0) (Nat.zero_le _) (Sub.cons O (Sub.cons O (Sub.cons O Sub.nil))) (fun _ h=>(h.sublist (List.nil_sublist _)).nilrow _ _) ?_
 rintro⟨j,A,c⟩ hj J hJ
 dsimp only at hj ⊢
 have hlen:=oL me j
 rcases Nat.lt_or_ge j 5 with hjl|hjl
 ·have hnx:=vD me j hjl
  obtain⟨k,hk⟩: ∃ k,(lj me j).length=k:=⟨_,O⟩
  rw[hk] at hlen ⊢
  by_cases hm:(j:Int)+1=me
  ·rw[if_pos hm,List.append_nil] at hnx
   repeat' (first|refine aa (ay O (by omega)) ?_ O O|refine aa (aB O (by omega)) ?_ O O|refine bM O ?_ O O|refine ax ?_|refine aa (aI O O (by unfold aH;omega)) ?_ O O|refine au O ?_|refine al O O ?_|refine aC O O ?_|refine aA O O ?_|refine aG O ?_|refine aK ?_|refine aM O ?_)
   exact hJ (j+1,A,c) _ _ (by show j+1≤5;omega) (by rw[hnx,hk];exact(Sub.cons O (Sub.cons O (Sub.cons O Sub.nil)))) (by rw[hnx,hk];exact ae) (by show 5-(j+1)<5-j;omega)
  ·rw[if_neg hm] at hnx
   repeat' (first|refine aa (ay O (by omega)) ?_ O O|refine bM O ?_ O O|refine ax ?_|refine aa (aI O O (by unfold aH;omega)) ?_ O O|refine au O ?_|refine al O O ?_|refine aC O O ?_|refine aG O ?_|refine aK ?_|refine aM O ?_|(refine an (d7 (m:=1) (vs:=[zv ((j:Int)+1)]) O O O O O O O (by simp[zv,Value.oneCell']) (by decide)) ?_ O O;rintro _ _ ⟨bm,rfl,rfl⟩)|(refine an (lV O O O O O O O (Srd.pt (ds:=[zv ((j:Int)+1)]) O (fun j u hj=>by rw[Nat.zero_add];exact hj)) (by simp[zv,Value.oneCell']) (by show _*8≤_;omega) (by unfold maxLen;omega)) ?_ O O;rintro _ _ ⟨A6,c6,rfl,rfl⟩))
   refine hJ (j+1,A6,c6) _ _ (by show j+1≤5;omega) ?_ (fun w' hS=>?_) (by show 5-(j+1)<5-j;omega)
   ·rw[hnx,List.length_append,hk]
    exact(Sub.cons O (Sub.cons O (Sub.cons O Sub.nil)))
   ·rw[hnx,List.length_append,hk,List.map_append]
    exact ae (H':=[row 3 1 A6 (k+1) c6 ((lj me j).map zv++[zv ((j:Int)+1)])]) w' hS
 obtain rfl:j=5:=by omega
 focus (refine qs ?_;refine qf ?_;refine qz ?_;refine qq ?_;refine qF ?_;refine bE O O ?_;refine qs ?_;refine qp ?_;refine qp ?_;refine qz ?_)
 exact hB _ _ _ _ _ O O fun w' hS=>⟨(A,c),O,trivial,ae (H':=[row 3 1 A (lj me 5).length c ((lj me 5).map zv)]) w' hS⟩
theorem xO (x:Rs) (n:Nat) (h:x.role=1):di x n=(!decide (x.leader=x.me)&&decide (x.votes.length=0)&&decide (x.peers.length=0)):=by simp[di,h]
theorem xP (x:Rs) (n:Nat) (h:x.role=2):di x n=(!decide (x.leader=x.me)&&decide (x.leader=0)&&(g7 x.votes&&decide (x.me∈x.votes))&&decide (x.peers.length=0)):=by simp[di,h]
theorem xQ (x:Rs) (n:Nat) (h:x.role=3):di x n=(!decide (x.leader=x.me)&&decide (x.leader=0)&&(decide (x.vote=x.me)&& !decide (x.term=0))&&(g7 x.votes&&decide (x.me∈x.votes))&&decide (x.peers.length=0)):=by simp[di,h]
theorem rP (x:Rs) (n:Nat) (h:x.role=4):di x n=(decide (x.leader=x.me)&&(decide (x.vote=x.me)&& !decide (x.term=0))&&decide (x.votes.length=0)&&dY n x.peers (fj x.me)):=by simp[di,h]
theorem xR (x:Rs) (n:Nat) (h:x.role<1∨4<x.role):di x n=false:=by
 rcases h with h|h
 ·simp[di,show ¬ (1≤x.role) by omega]
 ·simp[di,show ¬ (x.role≤4) by omega]
section
variable {P:Program} {n:Nat} {w0:World} {M:Nat→Prop} {T:aF} {H:List Asn} {dd:Option Tmp} {tt:TypeId} {pos:String} {af:Array Edge} {g:Option (Nat×Bool)}
theorem pZ [HasTab P] {o:Op} {p q:Prop} {b:Bool} {i:Decidable p} {j:Decidable q} (h:xa P T o=some (.bool (@decide p i))) (hb: @decide q j=b) (hi:p↔q):Tk P n w0 M T H ⟨dd,o,tt,pos,af,g⟩ (.bool b):=by
 have h1:=gX (n:=n) (w0:=w0) (M:=M) (H:=H) (dd:=dd) (tt:=tt) (pos:=pos) (af:=af) (g:=g) h
 have e: @decide p i=b:=by rw[← hb];exact decide_eq_decide.2 hi
 rwa [e] at h1
theorem jW [HasTab P] {o:Op} {v b:Bool} (h:xa P T o=some (.bool v)) (e:v=b):Tk P n w0 M T H ⟨dd,o,tt,pos,af,g⟩ (.bool b):=by
 have h1:=gX (n:=n) (w0:=w0) (M:=M) (H:=H) (dd:=dd) (tt:=tt) (pos:=pos) (af:=af) (g:=g) h
 rwa [e] at h1
end
theorem GQ (b:Bool):decide ((if b=true then (0:Int) else 240)=0)=b:=by cases b<;>rfl
theorem fO (w:World) (A:Option Addr) (n c:Nat) (ms:List Int) (m:Int) (h:Rd w bC 1 A n (ms.map zv)) (hn:n≤1000) (r:Bool) (hr:decide (m∈ms)=r):
  Gives Tryz.prog 158 [.slice A n c,zv m] [] w (X:=Unit) (fun _=> .bool r) (fun _=>True) (fun _=>[]):=hr▸C.ky w A n c ms m h hn
theorem te (w:World) (a:At) (A:Option Addr) (c k:Nat) (Q:List Em) (l:List En) (hk:Q.length=k) (hl:Q.map bA=l) (h:Rd w bC 3 A k (ab aN Q)) (hn:k≤1000) (top:Nat) (r:Int) (hr:eL a l top=r):
  Gives Tryz.prog 94 [.agg (aE a A k c).toArray,.int .u64 (top:Int)] [] w (X:=Unit) (fun _=>zi r) (fun _=>True) (fun _=>[]):=by
 subst hk
 subst hl
 subst hr
 exact ma w a A c Q h hn top
theorem p6 (w:World) (A:Option Addr) (n c:Nat) (ms:List Int) (h:Rd w bC 1 A n (ms.map zv)) (hn:n≤100000) (r:Bool) (hr:C.right ms=r):
  Gives Tryz.prog 95 [C.jM A n c] [] w (X:=Unit) (fun _=> .int .i64 (if r=true then 0 else 240)) (fun _=>True) (fun _=>[]):=by
 have:=C.kV w A n c ms h hn
 rwa [C.eL,hr] at this
theorem jg (w:World) (A:Option Addr) (c k:Nat) (Q:List Em) (l:List En) (hk:Q.length=k) (hl:Q.map bA=l) (h:Rd w bC 3 A k (ab aN Q)) (hq: ∀ m∈Q,mz w m) (hd: ∀ m∈Q,m.2.2.2.2.length≤100000) (hn:k≤100000) (r:Bool) (hr:ea l=r):
  Gives Tryz.prog 96 [.slice A k c] [] w (X:=Unit) (fun _=> .bool r) (fun _=>True) (fun _=>[]):=pY w A c k Q hk h hq hd hn r (hl▸hr)
theorem nF (w:World) (a:At) (A:Option Addr) (c k:Nat) (Q:List Em) (l:List En) (hk:Q.length=k) (hl:Q.map bA=l) (h:Rd w bC 3 A k (ab aN Q)) (hn:k≤100000) (p:At) (hp:(if br a l=true then cM a l else (0,0))=p):
  Gives Tryz.prog 50 [.agg (aE a A k c).toArray] [] w (X:=Unit) (fun _=> .agg (aO p).toArray) (fun _=>True) (fun _=>[]):=by
 subst hk
 subst hl
 subst hp
 exact sW w a A c Q h hn
theorem rQ (n:Nat): ∀ (l:List Pe) (m:List Int) (j:Nat),j<l.length→j<m.length→dY n (l.take (j+1)) (m.take (j+1))=(dY n (l.take j) (m.take j)&&(decide ((l.getD j default).1=m.getD j 0)&&decide (1≤(l.getD j default).2.1)&&decide ((l.getD j default).2.1≤n+1)&&decide ((l.getD j default).2.2<(l.getD j default).2.1)))
 |p::l,q::m,0,_,_=>by simp[dY]
 |p::l,q::m,j+1,h1,h2=>by
  have ih:=rQ n l m j (by simpa using h1) (by simpa using h2)
  simp only[List.take_succ_cons,dY,ih,List.getD_cons_succ,Bool.and_assoc]
theorem rR (n:Nat): ∀ (l:List Pe) (m:List Int) (j:Nat),dY n l m=true→dY n (l.take j) (m.take j)=true
 |l,m,0,_=>by simp[dY]
 |[],[],j+1,_=>by simp[dY]
 |[],q::m,j+1,h=>by simp[dY] at h
 |p::l,[],j+1,h=>by simp[dY] at h
 |p::l,q::m,j+1,h=>by
  simp only[dY,Bool.and_eq_true,List.take_succ_cons] at h ⊢
  exact⟨h.1,rR n l m j h.2⟩
theorem nG (n:Nat): ∀ (l:List Pe) (m:List Int),dY n l m=true→l.length=m.length
 |[],[],_=>rfl
 |[],q::m,h=>by simp[dY] at h
 |p::l,[],h=>by simp[dY] at h
 |p::l,q::m,h=>by
  simp only[dY,Bool.and_eq_true] at h
  simp[nG n l m h.2]
theorem jx:yC.zero= .agg (bp (0,0,0)).toArray:=by kernel_rfl
theorem zR (w:World) (x:Rs) (p:Rp) (h:RfR w x p) (n:Nat) (hn:n≤18446744073709551614) (r:Bool) (hr:di x n=r):
  Gives Tryz.prog 97 [.agg (aZ x p).toArray,.int .u64 (n:Int)] [] w (X:=Unit) (fun _=> .bool r) (fun _=>True) (fun _=>[]):=by
 refine aP Tryz.func97 O Tryz.ntmps97 Tryz.results97 (by simp) (St.enter w) (fun B hB=>?_)
 have hvn:=h.hvn
 have hvm:=h.hvm
 have hpn:=h.hpn
 have hpm:=h.hpm
 obtain⟨mem,hmem⟩: ∃ q,decide (x.me∈x.votes)=q:=⟨_,O⟩
 obtain⟨ris,hris⟩: ∃ q,g7 x.votes=q:=⟨_,O⟩
 refine au O ?_
 refine eo (X:=Nat) (fun b2=>[(1,.int .u64 (n:Int)),(2,.pointer (some ⟨b2,0,none⟩))]) (fun b2=>[pt b2 42 (aZ x p)]) (fun _=>True) (fun J hJ=>?_) (fun b2 _=>?_)
 ·skip
  focus (refine qr ?_;(refine qe (ap (cs:=aZ x p) O) ?_;rintro _ _ ⟨b2,rfl,rfl⟩);refine qp ?_;refine qz ?_)
  exact hJ b2 _ _ trivial (Sub.cons O (Sub.cons O Sub.nil)) ae
 refine au O ?_
 refine eo (X:=Unit) (fun _=>[(1,.int .u64 (n:Int)),(2,.pointer (some ⟨b2,0,none⟩)),(5,.bool (decide (x.role=3))),(6,.bool (decide (x.role=2))),(7,.bool (decide (x.role=4)))]) (fun _=>[pt b2 42 (aZ x p)]) (fun _=>True) (fun J hJ=>?_) (fun _ _=>?_)
 ·skip
  focus ((refine dQ 12 ?_;(refine dp 0 ?_);(refine dl 1 ?_);(refine dp 2 ?_);(refine dp 3 ?_);(refine dl 4 ?_);(refine dp 5 ?_);(refine dp 6 ?_);(refine dl 7 ?_);(refine dp 8 ?_);(refine dp 9 ?_);(refine dp 10 ?_);(refine dp 11 ?_);refine dn ?_))
  exact hJ () _ _ trivial (Sub.cons O (Sub.cons O (Sub.cons O (Sub.cons O (Sub.cons O Sub.nil))))) ae
 by_cases h1:x.role=1
 ·rw[xO x n h1] at hr
  by_cases hl:x.leader=x.me
  ·obtain rfl:r=false:=by rw[← hr,decide_eq_true hl];rfl
   repeat' (first|refine aa (ay O (by omega)) ?_ O O|refine aa (aB O (by omega)) ?_ O O|refine bM O ?_ O O|refine ax ?_|refine aU ?_ O O|refine aa (cU O O O O O) ?_ O O|refine aa (ah O O O O) ?_ O O|refine au O ?_|refine al O O ?_|refine aC O O ?_)
   exact hB _ _ _ _ _ O O (qE O)
  rw[decide_eq_false hl] at hr
  by_cases hv:x.votes.length=0
  ·rw[decide_eq_true hv] at hr
   by_cases hp:x.peers.length=0
   ·obtain rfl:r=true:=by rw[← hr,decide_eq_true hp];rfl
    repeat' (first|refine aa (ay O (by omega)) ?_ O O|refine aa (aB O (by omega)) ?_ O O|refine bM O ?_ O O|refine ax ?_|refine aU ?_ O O|refine aa (cU O O O O O) ?_ O O|refine aa (ah O O O O) ?_ O O|refine aa (aR O) ?_ O O|refine au O ?_|refine al O O ?_|refine aC O O ?_|refine aA O O ?_|refine aM O ?_)
    exact hB _ _ _ _ _ O O (qE O)
   ·obtain rfl:r=false:=by rw[← hr,decide_eq_false hp];rfl
    repeat' (first|refine aa (aB O (by omega)) ?_ O O|refine bM O ?_ O O|refine ax ?_|refine aU ?_ O O|refine aa (cU O O O O O) ?_ O O|refine aa (ah O O O O) ?_ O O|refine aa (aR O) ?_ O O|refine au O ?_|refine al O O ?_|refine aC O O ?_|refine aA O O ?_|refine aM O ?_)
    exact hB _ _ _ _ _ O O (qE O)
  ·obtain rfl:r=false:=by rw[← hr,decide_eq_false hv];rfl
   repeat' (first|refine aa (ay O (by omega)) ?_ O O|refine aa (aB O (by omega)) ?_ O O|refine bM O ?_ O O|refine ax ?_|refine aU ?_ O O|refine aa (cU O O O O O) ?_ O O|refine aa (ah O O O O) ?_ O O|refine au O ?_|refine al O O ?_|refine aC O O ?_|refine aA O O ?_|refine aM O ?_)
   exact hB _ _ _ _ _ O O (qE O)
 by_cases h2:x.role=2
 ·rw[xP x n h2,hmem,hris] at hr
  by_cases hl:x.leader=x.me
  ·obtain rfl:r=false:=by rw[← hr,decide_eq_true hl];rfl
   repeat' (first|refine aa (ay O (by omega)) ?_ O O|refine aa (aB O (by omega)) ?_ O O|refine bM O ?_ O O|refine ax ?_|refine aU ?_ O O|refine aa (cU O O O O O) ?_ O O|refine aa (ah O O O O) ?_ O O|refine au O ?_|refine al O O ?_|refine aC O O ?_)
   exact hB _ _ _ _ _ O O (qE O)
  rw[decide_eq_false hl] at hr
  by_cases hz:x.leader=0
  rotate_left
  ·obtain rfl:r=false:=by rw[← hr,decide_eq_false hz];rfl
   repeat' (first|refine aa (ay O (by omega)) ?_ O O|refine aa (aB O (by omega)) ?_ O O|refine bM O ?_ O O|refine ax ?_|refine aa (cU O O O O O) ?_ O O|refine aa (ah O O O O) ?_ O O|refine au O ?_|refine al O O ?_|refine aC O O ?_)
   exact hB _ _ _ _ _ O O (qE O)
  rw[decide_eq_true hz] at hr
  cases ris
  ·obtain rfl:r=false:=by rw[← hr];rfl
   repeat' (first|refine aa (ay O (by omega)) ?_ O O|refine aa (aB O (by omega)) ?_ O O|refine bM O ?_ O O|refine ax ?_|refine aU ?_ O O|refine aa (cU O O O O O) ?_ O O|refine aa (ah O O O O) ?_ O O|refine aa (aR O) ?_ O O|refine au O ?_|refine al O O ?_|refine aC O O ?_|refine aA O O ?_|refine aM O ?_|(refine an (aq (f:=157) oo (fun w hS=>d6 w p.vA p.vn p.vc x.votes (h.keep hS.kpO).rv (by omega) _ hris) O O (fun _=>O)) ?_ O O;rintro _ _ ⟨_,rfl,_,rfl⟩))
   exact hB _ _ _ _ _ O O (qE O)
  cases mem
  ·obtain rfl:r=false:=by rw[← hr];rfl
   repeat' (first|refine aa (ay O (by omega)) ?_ O O|refine aa (aB O (by omega)) ?_ O O|refine bM O ?_ O O|refine ax ?_|refine aU ?_ O O|refine aa (cU O O O O O) ?_ O O|refine aa (ah O O O O) ?_ O O|refine aa (aR O) ?_ O O|refine au O ?_|refine al O O ?_|refine aC O O ?_|refine aA O O ?_|refine aM O ?_|(refine an (aq (f:=157) oo (fun w hS=>d6 w p.vA p.vn p.vc x.votes (h.keep hS.kpO).rv (by omega) _ hris) O O (fun _=>O)) ?_ O O;rintro _ _ ⟨_,rfl,_,rfl⟩)|(refine an (aq (f:=158) pG (fun w hS=>fO w p.vA p.vn p.vc x.votes x.me (h.keep hS.kpO).rv (by omega) _ hmem) O O (fun _=>O)) ?_ O O;rintro _ _ ⟨_,rfl,_,rfl⟩))
   exact hB _ _ _ _ _ O O (qE O)
  by_cases hp:x.peers.length=0
  ·obtain rfl:r=true:=by rw[← hr,decide_eq_true hp];rfl
   repeat' (first|refine aa (ay O (by omega)) ?_ O O|refine aa (aB O (by omega)) ?_ O O|refine bM O ?_ O O|refine ax ?_|refine aU ?_ O O|refine aa (cU O O O O O) ?_ O O|refine aa (ah O O O O) ?_ O O|refine aa (aR O) ?_ O O|refine au O ?_|refine al O O ?_|refine aC O O ?_|refine aA O O ?_|refine aM O ?_|(refine an (aq (f:=157) oo (fun w hS=>d6 w p.vA p.vn p.vc x.votes (h.keep hS.kpO).rv (by omega) _ hris) O O (fun _=>O)) ?_ O O;rintro _ _ ⟨_,rfl,_,rfl⟩)|(refine an (aq (f:=158) pG (fun w hS=>fO w p.vA p.vn p.vc x.votes x.me (h.keep hS.kpO).rv (by omega) _ hmem) O O (fun _=>O)) ?_ O O;rintro _ _ ⟨_,rfl,_,rfl⟩))
   exact hB _ _ _ _ _ O O (qE O)
  ·obtain rfl:r=false:=by rw[← hr,decide_eq_false hp];rfl
   repeat' (first|refine aa (ay O (by omega)) ?_ O O|refine aa (aB O (by omega)) ?_ O O|refine bM O ?_ O O|refine ax ?_|refine aU ?_ O O|refine aa (cU O O O O O) ?_ O O|refine aa (ah O O O O) ?_ O O|refine aa (aR O) ?_ O O|refine au O ?_|refine al O O ?_|refine aC O O ?_|refine aA O O ?_|refine aM O ?_|(refine an (aq (f:=157) oo (fun w hS=>d6 w p.vA p.vn p.vc x.votes (h.keep hS.kpO).rv (by omega) _ hris) O O (fun _=>O)) ?_ O O;rintro _ _ ⟨_,rfl,_,rfl⟩)|(refine an (aq (f:=158) pG (fun w hS=>fO w p.vA p.vn p.vc x.votes x.me (h.keep hS.kpO).rv (by omega) _ hmem) O O (fun _=>O)) ?_ O O;rintro _ _ ⟨_,rfl,_,rfl⟩))
   exact hB _ _ _ _ _ O O (qE O)
 by_cases h3:x.role=3
 ·rw[xQ x n h3,hmem,hris] at hr
  by_cases hl:x.leader=x.me
  ·obtain rfl:r=false:=by rw[← hr,decide_eq_true hl];rfl
   repeat' (first|refine aa (ay O (by omega)) ?_ O O|refine aa (aB O (by omega)) ?_ O O|refine bM O ?_ O O|refine ax ?_|refine aU ?_ O O|refine aa (cU O O O O O) ?_ O O|refine aa (ah O O O O) ?_ O O|refine au O ?_|refine al O O ?_|refine aC O O ?_)
   exact hB _ _ _ _ _ O O (qE O)
  rw[decide_eq_false hl] at hr
  by_cases hz:x.leader=0
  rotate_left
  ·obtain rfl:r=false:=by rw[← hr,decide_eq_false hz];rfl
   repeat' (first|refine aa (ay O (by omega)) ?_ O O|refine aa (aB O (by omega)) ?_ O O|refine bM O ?_ O O|refine ax ?_|refine aU ?_ O O|refine aa (cU O O O O O) ?_ O O|refine aa (ah O O O O) ?_ O O|refine au O ?_|refine al O O ?_|refine aC O O ?_)
   exact hB _ _ _ _ _ O O (qE O)
  rw[decide_eq_true hz] at hr
  by_cases hvt:x.vote=x.me
  rotate_left
  ·obtain rfl:r=false:=by rw[← hr,decide_eq_false hvt];rfl
   repeat' (first|refine aa (ay O (by omega)) ?_ O O|refine aa (aB O (by omega)) ?_ O O|refine bM O ?_ O O|refine ax ?_|refine aU ?_ O O|refine aa (cU O O O O O) ?_ O O|refine aa (ah O O O O) ?_ O O|refine au O ?_|refine al O O ?_|refine aC O O ?_|refine aA O O ?_|refine aM O ?_)
   exact hB _ _ _ _ _ O O (qE O)
  rw[decide_eq_true hvt] at hr
  by_cases ht:x.term=0
  ·obtain rfl:r=false:=by rw[← hr,decide_eq_true ht];rfl
   repeat' (first|refine aa (ay O (by omega)) ?_ O O|refine aa (aB O (by omega)) ?_ O O|refine bM O ?_ O O|refine ax ?_|refine aU ?_ O O|refine aa (cU O O O O O) ?_ O O|refine aa (ah O O O O) ?_ O O|refine au O ?_|refine al O O ?_|refine aC O O ?_|refine aA O O ?_|refine aM O ?_)
   exact hB _ _ _ _ _ O O (qE O)
  rw[decide_eq_false ht] at hr
  cases ris
  ·obtain rfl:r=false:=by rw[← hr];rfl
   repeat' (first|refine aa (ay O (by omega)) ?_ O O|refine aa (aB O (by omega)) ?_ O O|refine bM O ?_ O O|refine ax ?_|refine aU ?_ O O|refine aa (cU O O O O O) ?_ O O|refine aa (ah O O O O) ?_ O O|refine aa (aR O) ?_ O O|refine au O ?_|refine al O O ?_|refine aC O O ?_|refine aA O O ?_|refine aM O ?_|(refine an (aq (f:=157) oo (fun w hS=>d6 w p.vA p.vn p.vc x.votes (h.keep hS.kpO).rv (by omega) _ hris) O O (fun _=>O)) ?_ O O;rintro _ _ ⟨_,rfl,_,rfl⟩))
   exact hB _ _ _ _ _ O O (qE O)
  cases mem
  ·obtain rfl:r=false:=by rw[← hr];rfl
   repeat' (first|refine aa (ay O (by omega)) ?_ O O|refine aa (aB O (by omega)) ?_ O O|refine bM O ?_ O O|refine ax ?_|refine aU ?_ O O|refine aa (cU O O O O O) ?_ O O|refine aa (ah O O O O) ?_ O O|refine aa (aR O) ?_ O O|refine au O ?_|refine al O O ?_|refine aC O O ?_|refine aA O O ?_|refine aM O ?_|(refine an (aq (f:=157) oo (fun w hS=>d6 w p.vA p.vn p.vc x.votes (h.keep hS.kpO).rv (by omega) _ hris) O O (fun _=>O)) ?_ O O;rintro _ _ ⟨_,rfl,_,rfl⟩)|(refine an (aq (f:=158) pG (fun w hS=>fO w p.vA p.vn p.vc x.votes x.me (h.keep hS.kpO).rv (by omega) _ hmem) O O (fun _=>O)) ?_ O O;rintro _ _ ⟨_,rfl,_,rfl⟩))
   exact hB _ _ _ _ _ O O (qE O)
  by_cases hp:x.peers.length=0
  ·obtain rfl:r=true:=by rw[← hr,decide_eq_true hp];rfl
   repeat' (first|refine aa (ay O (by omega)) ?_ O O|refine aa (aB O (by omega)) ?_ O O|refine bM O ?_ O O|refine ax ?_|refine aU ?_ O O|refine aa (cU O O O O O) ?_ O O|refine aa (ah O O O O) ?_ O O|refine aa (aR O) ?_ O O|refine au O ?_|refine al O O ?_|refine aC O O ?_|refine aA O O ?_|refine aM O ?_|(refine an (aq (f:=157) oo (fun w hS=>d6 w p.vA p.vn p.vc x.votes (h.keep hS.kpO).rv (by omega) _ hris) O O (fun _=>O)) ?_ O O;rintro _ _ ⟨_,rfl,_,rfl⟩)|(refine an (aq (f:=158) pG (fun w hS=>fO w p.vA p.vn p.vc x.votes x.me (h.keep hS.kpO).rv (by omega) _ hmem) O O (fun _=>O)) ?_ O O;rintro _ _ ⟨_,rfl,_,rfl⟩))
   exact hB _ _ _ _ _ O O (qE O)
  ·obtain rfl:r=false:=by rw[← hr,decide_eq_false hp];rfl
   repeat' (first|refine aa (ay O (by omega)) ?_ O O|refine aa (aB O (by omega)) ?_ O O|refine bM O ?_ O O|refine ax ?_|refine aU ?_ O O|refine aa (cU O O O O O) ?_ O O|refine aa (ah O O O O) ?_ O O|refine aa (aR O) ?_ O O|refine au O ?_|refine al O O ?_|refine aC O O ?_|refine aA O O ?_|refine aM O ?_|(refine an (aq (f:=157) oo (fun w hS=>d6 w p.vA p.vn p.vc x.votes (h.keep hS.kpO).rv (by omega) _ hris) O O (fun _=>O)) ?_ O O;rintro _ _ ⟨_,rfl,_,rfl⟩)|(refine an (aq (f:=158) pG (fun w hS=>fO w p.vA p.vn p.vc x.votes x.me (h.keep hS.kpO).rv (by omega) _ hmem) O O (fun _=>O)) ?_ O O;rintro _ _ ⟨_,rfl,_,rfl⟩))
   exact hB _ _ _ _ _ O O (qE O)
 by_cases h4:x.role=4
 rotate_left
 ·obtain rfl:r=false:=by rw[← hr];exact xR x n (by omega)
  rcases(by omega:x.role<1∨4<x.role) with h5|h5
  ·repeat' (first|refine aa (ay O (by omega)) ?_ O O|refine bM O ?_ O O|refine ax ?_|refine aU ?_ O O|refine aa (ah O O O O) ?_ O O|refine au O ?_|refine al O O ?_|refine aC O O ?_)
   exact hB _ _ _ _ _ O O (qE O)
  ·repeat' (first|refine aa (ay O (by omega)) ?_ O O|refine aa (aB O (by omega)) ?_ O O|refine bM O ?_ O O|refine ax ?_|refine aU ?_ O O|refine aa (ah O O O O) ?_ O O|refine au O ?_|refine al O O ?_|refine aC O O ?_)
   exact hB _ _ _ _ _ O O (qE O)
 rw[rP x n h4] at hr
 by_cases hl:x.leader=x.me
 rotate_left
 ·obtain rfl:r=false:=by rw[← hr,decide_eq_false hl];rfl
  repeat' (first|refine aa (ay O (by omega)) ?_ O O|refine aa (aB O (by omega)) ?_ O O|refine bM O ?_ O O|refine ax ?_|refine aU ?_ O O|refine aa (cU O O O O O) ?_ O O|refine aa (ah O O O O) ?_ O O|refine au O ?_|refine al O O ?_|refine aC O O ?_)
  exact hB _ _ _ _ _ O O (qE O)
 rw[decide_eq_true hl] at hr
 by_cases hvt:x.vote=x.me
 rotate_left
 ·obtain rfl:r=false:=by rw[← hr,decide_eq_false hvt];rfl
  repeat' (first|refine aa (ay O (by omega)) ?_ O O|refine aa (aB O (by omega)) ?_ O O|refine bM O ?_ O O|refine ax ?_|refine aU ?_ O O|refine aa (cU O O O O O) ?_ O O|refine aa (ah O O O O) ?_ O O|refine au O ?_|refine al O O ?_|refine aC O O ?_|refine aA O O ?_|refine aM O ?_)
  exact hB _ _ _ _ _ O O (qE O)
 rw[decide_eq_true hvt] at hr
 by_cases ht:x.term=0
 ·obtain rfl:r=false:=by rw[← hr,decide_eq_true ht];rfl
  repeat' (first|refine aa (ay O (by omega)) ?_ O O|refine aa (aB O (by omega)) ?_ O O|refine bM O ?_ O O|refine ax ?_|refine aU ?_ O O|refine aa (cU O O O O O) ?_ O O|refine aa (ah O O O O) ?_ O O|refine au O ?_|refine al O O ?_|refine aC O O ?_|refine aA O O ?_|refine aM O ?_)
  exact hB _ _ _ _ _ O O (qE O)
 rw[decide_eq_false ht] at hr
 by_cases hv:x.votes.length=0
 rotate_left
 ·obtain rfl:r=false:=by rw[← hr,decide_eq_false hv];rfl
  repeat' (first|refine aa (ay O (by omega)) ?_ O O|refine aa (aB O (by omega)) ?_ O O|refine bM O ?_ O O|refine ax ?_|refine aU ?_ O O|refine aa (cU O O O O O) ?_ O O|refine aa (ah O O O O) ?_ O O|refine au O ?_|refine al O O ?_|refine aC O O ?_|refine aA O O ?_|refine aM O ?_)
  exact hB _ _ _ _ _ O O (qE O)
 rw[decide_eq_true hv] at hr
 obtain⟨oth,hoth⟩: ∃ l,fj x.me=l:=⟨_,O⟩
 obtain⟨K,hK⟩: ∃ K,oth.length=K:=⟨_,O⟩
 have hK5:K≤5:=by rw[← hK, ← hoth];exact rO _
 rw[hoth] at hr
 have hr:dY n x.peers oth=r:=by rw[← hr];rfl
 by_cases hlen:p.pn=K
 rotate_left
 ·obtain rfl:r=false:=by
   rw[← hr,Bool.eq_false_iff]
   intro h2
   have:=nG n _ _ h2
   omega
  repeat' (first|refine aa (ay O (by omega)) ?_ O O|refine aa (aB O (by omega)) ?_ O O|refine bM O ?_ O O|refine ax ?_|refine aU ?_ O O|refine aa (cU O O O O O) ?_ O O|refine aa (ah O O O O) ?_ O O|refine aa (aR O) ?_ O O|refine au O ?_|refine al O O ?_|refine aC O O ?_|refine aA O O ?_|refine aM O ?_|(refine an (bB (f:=159) zz (fun w' hS=>jV w' x.me oth hoth K hK) O O (fun _=>O)) ?_ O O;rintro _ _ ⟨⟨Ao,co⟩,rfl,_,rfl⟩))
  exact hB _ _ _ _ _ O O (qE O)
 repeat' (first|refine aa (ay O (by omega)) ?_ O O|refine aa (aB O (by omega)) ?_ O O|refine bM O ?_ O O|refine ax ?_|refine aU ?_ O O|refine aa (cU O O O O O) ?_ O O|refine aa (ah O O O O) ?_ O O|refine aa (aR O) ?_ O O|refine au O ?_|refine al O O ?_|refine aA O O ?_|refine aG O ?_|refine aM O ?_|(refine an (bB (f:=159) zz (fun w' hS=>jV w' x.me oth hoth K hK) O O (fun _=>O)) ?_ O O;rintro _ _ ⟨⟨Ao,co⟩,rfl,_,rfl⟩))
 refine iI (p:=0<K→Ao≠none) (fun w' hS=>(ep (hS.at_ (A:=row 3 1 Ao K co (oth.map zv)) (by simp))).2.2.1) fun hAo=>?_
 have hne:0<p.pn→p.pA≠none:=fun h0=>by obtain⟨ad,e,_⟩:=h.rp.2 (by omega);rw[e];simp
 refine bV (X:=Nat) (fun j=>[(1,.int .u64 (n:Int)),(8,.slice Ao K co),(100,.slice p.pA p.pn p.pc),(101,.int .i64 (p.pn:Int)),(102,.int .i64 (j:Int))]) (fun _=>[row 3 1 Ao K co (oth.map zv)]) (fun j=>j≤K∧dY n (x.peers.take j) (oth.take j)=true) (fun j=>K-j) O 0 ⟨Nat.zero_le _,O⟩ (Sub.cons O (Sub.cons O (Sub.cons O (Sub.cons O (Sub.cons O Sub.nil))))) ae ?_
 rintro j ⟨hj,hok⟩ J hJ
 rcases Nat.lt_or_ge j K with hjl|hjl
 ·have hne:=hne (by omega)
  have hAo:=hAo (by omega)
  have hat:=bi (f:=bp) d2 x.peers default j (by omega)
  have hat2:=iW (l:=oth) (j:=j) (by omega)
  have hnx:=rQ n x.peers oth j (by omega) (by omega)
  have hbad:=fun h2=>Bool.eq_false_iff.2 (fun h3=>Bool.eq_false_iff.1 h2 (rR n x.peers oth (j+1) h3))
  rw[hr] at hbad
  rw[hok,Bool.true_and] at hnx
  obtain⟨⟨pw,pn,pm⟩,hq⟩: ∃ q,x.peers.getD j default=q:=⟨_,O⟩
  obtain⟨y,hy⟩: ∃ y,oth.getD j 0=y:=⟨_,O⟩
  rw[hq] at hat hnx
  rw[hy] at hat2 hnx
  dsimp only at hnx
  by_cases e1:pw=y
  rotate_left
  ·obtain rfl:r=false:=hbad (by rw[hnx,decide_eq_false e1];rfl)
   focus (refine qs ?_;refine qd ?_;refine qz ?_;refine qq ?_;refine qT ?_;refine qx ?_;refine qq ?_;refine qb ?_;refine qs ?_;refine qp ?_;refine qt (bH (sz:=3) O O O O O O hne (by omega)) ?_;refine qt (cw (ds:=[.int .i64 pw,.int .u64 (pn:Int),.int .u64 (pm:Int)]) O O O (Srd.old h.rp (fun k _=>ao k)) O (by omega) hat) ?_;(refine qe (am O jx) ?_;rintro _ _ ⟨b10,rfl,rfl⟩);refine qp ?_;(refine qw (aj (cs:=bp (0,0,0)) (ds:=[.int .i64 pw,.int .u64 (pn:Int),.int .u64 (pm:Int)]) O O O O (gQ (pw,pn,pm)) O) ?_;rintro _ _ rfl);refine qz ?_;refine qq ?_;(refine dQ 26 ?_;(refine dp 0 ?_);(refine dl 1 ?_);(refine dp 2 ?_);(refine dp 3 ?_);(refine dt 4 O (fS O O O O O O hAo hjl) ?_);(refine dt 5 O (bN (v:=zv y) O O O (Srd.row (n:=K) (c:=co)) (by omega) hat2) ?_);(refine cZ 6 ?_);(refine dp 7 ?_);(refine dk 8 ?_);(refine dk 9 ?_);(refine dk 10 ?_);(refine dp 11 ?_);(refine dp 12 ?_);(refine dk 13 ?_);(refine dk 14 ?_);(refine dk 15 ?_);(refine dk 16 ?_);(refine dk 17 ?_);(refine dp 18 ?_);(refine dp 19 ?_);(refine dk 20 ?_);(refine dk 21 ?_);(refine dk 22 ?_);(refine dk 23 ?_);(refine dk 24 ?_);(refine dp 25 ?_);refine dn ?_);refine qT ?_;refine qs ?_;refine qp ?_;refine qz ?_)
   exact hB _ _ _ _ _ O O (qE O)
  by_cases e2:1≤pn
  rotate_left
  ·obtain rfl:r=false:=hbad (by rw[hnx,decide_eq_false e2];simp)
   focus (refine qs ?_;refine qd ?_;refine qz ?_;refine qq ?_;refine qT ?_;refine qx ?_;refine qq ?_;refine qb ?_;refine qs ?_;refine qp ?_;refine qt (bH (sz:=3) O O O O O O hne (by omega)) ?_;refine qt (cw (ds:=[.int .i64 pw,.int .u64 (pn:Int),.int .u64 (pm:Int)]) O O O (Srd.old h.rp (fun k _=>ao k)) O (by omega) hat) ?_;(refine qe (am O jx) ?_;rintro _ _ ⟨b10,rfl,rfl⟩);refine qp ?_;(refine qw (aj (cs:=bp (0,0,0)) (ds:=[.int .i64 pw,.int .u64 (pn:Int),.int .u64 (pm:Int)]) O O O O (gQ (pw,pn,pm)) O) ?_;rintro _ _ rfl);refine qz ?_;refine qq ?_;(refine dQ 26 ?_;(refine dp 0 ?_);(refine dl 1 ?_);(refine dp 2 ?_);(refine dp 3 ?_);(refine dt 4 O (fS O O O O O O hAo hjl) ?_);(refine dt 5 O (bN (v:=zv y) O O O (Srd.row (n:=K) (c:=co)) (by omega) hat2) ?_);(refine eI 6 ?_);(refine dp 7 ?_);(refine dp 8 ?_);(refine dl 9 ?_);(refine cZ 10 ?_);(refine dp 11 ?_);(refine dp 12 ?_);(refine dk 13 ?_);(refine dk 14 ?_);(refine dk 15 ?_);(refine dk 16 ?_);(refine dk 17 ?_);(refine dp 18 ?_);(refine dp 19 ?_);(refine dk 20 ?_);(refine dk 21 ?_);(refine dk 22 ?_);(refine dk 23 ?_);(refine dk 24 ?_);(refine dp 25 ?_);refine dn ?_);refine qT ?_;refine qs ?_;refine qp ?_;refine qz ?_)
   exact hB _ _ _ _ _ O O (qE O)
  by_cases e3:pn≤n+1
  rotate_left
  ·obtain rfl:r=false:=hbad (by rw[hnx,decide_eq_false e3];simp)
   focus (refine qs ?_;refine qd ?_;refine qz ?_;refine qq ?_;refine qT ?_;refine qx ?_;refine qq ?_;refine qb ?_;refine qs ?_;refine qp ?_;refine qt (bH (sz:=3) O O O O O O hne (by omega)) ?_;refine qt (cw (ds:=[.int .i64 pw,.int .u64 (pn:Int),.int .u64 (pm:Int)]) O O O (Srd.old h.rp (fun k _=>ao k)) O (by omega) hat) ?_;(refine qe (am O jx) ?_;rintro _ _ ⟨b10,rfl,rfl⟩);refine qp ?_;(refine qw (aj (cs:=bp (0,0,0)) (ds:=[.int .i64 pw,.int .u64 (pn:Int),.int .u64 (pm:Int)]) O O O O (gQ (pw,pn,pm)) O) ?_;rintro _ _ rfl);refine qz ?_;refine qq ?_;(refine dQ 26 ?_;(refine dp 0 ?_);(refine dl 1 ?_);(refine dp 2 ?_);(refine dp 3 ?_);(refine dt 4 O (fS O O O O O O hAo hjl) ?_);(refine dt 5 O (bN (v:=zv y) O O O (Srd.row (n:=K) (c:=co)) (by omega) hat2) ?_);(refine eI 6 ?_);(refine dp 7 ?_);(refine dp 8 ?_);(refine dl 9 ?_);(refine eI 10 ?_);(refine dp 11 ?_);(refine dp 12 ?_);(refine dp 13 ?_);(refine dl 14 ?_);(refine dp 15 ?_);((refine dt 16 O (aI O O (by unfold aH;omega)) ?_));(refine cZ 17 ?_);(refine dp 18 ?_);(refine dp 19 ?_);(refine dk 20 ?_);(refine dk 21 ?_);(refine dk 22 ?_);(refine dk 23 ?_);(refine dk 24 ?_);(refine dp 25 ?_);refine dn ?_);refine qT ?_;refine qs ?_;refine qp ?_;refine qz ?_)
   exact hB _ _ _ _ _ O O (qE O)
  by_cases e4:pm<pn
  rotate_left
  ·obtain rfl:r=false:=hbad (by rw[hnx,decide_eq_false e4];simp)
   focus (refine qs ?_;refine qd ?_;refine qz ?_;refine qq ?_;refine qT ?_;refine qx ?_;refine qq ?_;refine qb ?_;refine qs ?_;refine qp ?_;refine qt (bH (sz:=3) O O O O O O hne (by omega)) ?_;refine qt (cw (ds:=[.int .i64 pw,.int .u64 (pn:Int),.int .u64 (pm:Int)]) O O O (Srd.old h.rp (fun k _=>ao k)) O (by omega) hat) ?_;(refine qe (am O jx) ?_;rintro _ _ ⟨b10,rfl,rfl⟩);refine qp ?_;(refine qw (aj (cs:=bp (0,0,0)) (ds:=[.int .i64 pw,.int .u64 (pn:Int),.int .u64 (pm:Int)]) O O O O (gQ (pw,pn,pm)) O) ?_;rintro _ _ rfl);refine qz ?_;refine qq ?_;(refine dQ 26 ?_;(refine dp 0 ?_);(refine dl 1 ?_);(refine dp 2 ?_);(refine dp 3 ?_);(refine dt 4 O (fS O O O O O O hAo hjl) ?_);(refine dt 5 O (bN (v:=zv y) O O O (Srd.row (n:=K) (c:=co)) (by omega) hat2) ?_);(refine eI 6 ?_);(refine dp 7 ?_);(refine dp 8 ?_);(refine dl 9 ?_);(refine eI 10 ?_);(refine dp 11 ?_);(refine dp 12 ?_);(refine dp 13 ?_);(refine dl 14 ?_);(refine dp 15 ?_);((refine dt 16 O (aI O O (by unfold aH;omega)) ?_));(refine eI 17 ?_);(refine dp 18 ?_);(refine dp 19 ?_);(refine dp 20 ?_);(refine dl 21 ?_);(refine dp 22 ?_);(refine dl 23 ?_);(refine cZ 24 ?_);(refine dp 25 ?_);refine dn ?_);refine qT ?_;refine qs ?_;refine qp ?_;refine qz ?_)
   exact hB _ _ _ _ _ O O (qE O)
  focus (refine qs ?_;refine qd ?_;refine qz ?_;refine qq ?_;refine qT ?_;refine qx ?_;refine qq ?_;refine qb ?_;refine qs ?_;refine qp ?_;refine qt (bH (sz:=3) O O O O O O hne (by omega)) ?_;refine qt (cw (ds:=[.int .i64 pw,.int .u64 (pn:Int),.int .u64 (pm:Int)]) O O O (Srd.old h.rp (fun k _=>ao k)) O (by omega) hat) ?_;(refine qe (am O jx) ?_;rintro _ _ ⟨b10,rfl,rfl⟩);refine qp ?_;(refine qw (aj (cs:=bp (0,0,0)) (ds:=[.int .i64 pw,.int .u64 (pn:Int),.int .u64 (pm:Int)]) O O O O (gQ (pw,pn,pm)) O) ?_;rintro _ _ rfl);refine qz ?_;refine qq ?_;(refine dQ 26 ?_;(refine dp 0 ?_);(refine dl 1 ?_);(refine dp 2 ?_);(refine dp 3 ?_);(refine dt 4 O (fS O O O O O O hAo hjl) ?_);(refine dt 5 O (bN (v:=zv y) O O O (Srd.row (n:=K) (c:=co)) (by omega) hat2) ?_);(refine eI 6 ?_);(refine dp 7 ?_);(refine dp 8 ?_);(refine dl 9 ?_);(refine eI 10 ?_);(refine dp 11 ?_);(refine dp 12 ?_);(refine dp 13 ?_);(refine dl 14 ?_);(refine dp 15 ?_);((refine dt 16 O (aI O O (by unfold aH;omega)) ?_));(refine eI 17 ?_);(refine dp 18 ?_);(refine dp 19 ?_);(refine dp 20 ?_);(refine dl 21 ?_);(refine dp 22 ?_);(refine dl 23 ?_);(refine eI 24 ?_);(refine dp 25 ?_);refine dn ?_);refine qF ?_;refine qx ?_;refine aK ?_;refine qr ?_;refine qt (aI O O (by unfold aH;omega)) ?_;refine qp ?_;refine qz ?_)
  exact hJ (j+1) _ _ ⟨by omega,by rw[hnx,decide_eq_true e1,decide_eq_true e2,decide_eq_true e3,decide_eq_true e4];rfl⟩ (Sub.cons O (Sub.cons O (Sub.cons O (Sub.cons O (Sub.cons O Sub.nil))))) ae (by omega)
 have hjn:j=K:=by omega
 subst hjn
 rw[List.take_of_length_le (by omega),List.take_of_length_le (by omega),hr] at hok
 subst hok
 focus (refine qs ?_;refine qf ?_;refine qz ?_;refine qq ?_;refine qF ?_;refine bE O O ?_;refine qs ?_;refine qp ?_;refine qz ?_)
 exact hB _ _ _ _ _ O O (qE O)
def vE (x:Rs):List Bool:=[iO x.me,decide (x.term≤4611686018427387904),decide (0≤x.vote),decide (x.vote≤5),decide (0≤x.leader),decide (x.leader≤5),decide (eL x.base x.es x.term=0),C.right x.cf,ea x.es,decide (x.base.1≤x.commit),decide (x.commit≤(lastP x).1),decide (4≤x.limit),decide (x.limit≤16),decide (0≤x.clock),decide (x.clock≤x.limit),di x (lastP x).1]
theorem vF (x:Rs):vE x=[iO x.me,decide (x.term≤4611686018427387904),decide (0≤x.vote),decide (x.vote≤5),decide (0≤x.leader),decide (x.leader≤5),decide (eL x.base x.es x.term=0),C.right x.cf,ea x.es,decide (x.base.1≤x.commit),decide (x.commit≤(lastP x).1),decide (4≤x.limit),decide (x.limit≤16),decide (0≤x.clock),decide (x.clock≤x.limit),di x (lastP x).1]:=rfl
theorem tf (x:Rs):cz x=(vE x).all id:=by simp[cz,vE,Bool.and_assoc]
theorem oM (x:Rs):(lastP x).1≤18446744073709551614:=by
 unfold lastP
 split
 ·rename_i h
  have:=dF h
  simp only[cM]
  omega
 ·exact Nat.zero_le _
theorem dR (w:World) (x:Rs) (p:Rp) (h:RfR w x p) (r:Bool) (hr:cz x=r):
  Gives Tryz.prog 30 [.agg (aZ x p).toArray] [] w (X:=Unit) (fun _=> .int .i64 (if r=true then 0 else 250)) (fun _=>True) (fun _=>[]):=by
 refine aP Tryz.func30 O Tryz.ntmps30 Tryz.results30 (by simp) (St.enter w) (fun B hB=>?_)
 rw[tf] at hr
 have hvm:=h.hvm
 have hcm:=h.lg.hcm
 have hnm:=h.lg.hm
 have hlp:=oM x
 obtain⟨ck,hck⟩: ∃ c,eL x.base x.es x.term=c:=⟨_,O⟩
 obtain⟨q1,h1⟩: ∃ b,decide (x.term≤4611686018427387904)=b:=⟨_,O⟩
 obtain⟨q2,h2⟩: ∃ b,decide (0≤x.vote)=b:=⟨_,O⟩
 obtain⟨q3,h3⟩: ∃ b,decide (x.vote≤5)=b:=⟨_,O⟩
 obtain⟨q4,h4⟩: ∃ b,decide (0≤x.leader)=b:=⟨_,O⟩
 obtain⟨q5,h5⟩: ∃ b,decide (x.leader≤5)=b:=⟨_,O⟩
 obtain⟨q6,h6⟩: ∃ b,decide (ck=0)=b:=⟨_,O⟩
 obtain⟨q9,h9⟩: ∃ b,decide (x.base.1≤x.commit)=b:=⟨_,O⟩
 obtain⟨q10,h10⟩: ∃ b,decide (x.commit≤(lastP x).1)=b:=⟨_,O⟩
 obtain⟨q11,h11⟩: ∃ b,decide (4≤x.limit)=b:=⟨_,O⟩
 obtain⟨q12,h12⟩: ∃ b,decide (x.limit≤16)=b:=⟨_,O⟩
 obtain⟨q13,h13⟩: ∃ b,decide (0≤x.clock)=b:=⟨_,O⟩
 obtain⟨q14,h14⟩: ∃ b,decide (x.clock≤x.limit)=b:=⟨_,O⟩
 obtain⟨q0,h0⟩: ∃ b,iO x.me=b:=⟨_,O⟩
 obtain⟨q7,h7⟩: ∃ b,C.right x.cf=b:=⟨_,O⟩
 obtain⟨q8,h8⟩: ∃ b,ea x.es=b:=⟨_,O⟩
 obtain⟨q15,h15⟩: ∃ b,di x (lastP x).1=b:=⟨_,O⟩
 have hr:(q0&&q1&&q2&&q3&&q4&&q5&&q6&&q7&&q8&&q9&&q10&&q11&&q12&&q13&&q14&&q15)=r:=by
  rw[← hr,vF,hck,h0,h1,h2,h3,h4,h5,h6,h7,h8,h9,h10,h11,h12,h13,h14,h15]
  simp[Bool.and_assoc]
 repeat' (first|refine aa (jW O h2) ?_ O O|refine aa (jW O h3) ?_ O O|refine aa (jW O h4) ?_ O O|refine aa (jW O h5) ?_ O O|refine aa (jW O h6) ?_ O O|refine aa (jW O h11) ?_ O O|refine aa (jW O h12) ?_ O O|refine aa (jW O h13) ?_ O O|refine aa (jW O h14) ?_ O O|refine aa (jW O (GQ q7)) ?_ O O|refine aa (pZ O h1 (by omega)) ?_ O O|refine aa (pZ O h9 (by omega)) ?_ O O|refine aa (pZ O h10 (by omega)) ?_ O O|refine bM O ?_ O O|refine ax ?_|refine aU ?_ O O|refine aa (ai (ds:=aE x.base p.A p.n p.c) O O O O O) ?_ O O|refine aa (ai (ds:=[.slice p.cA p.cn p.cc]) O O O O O) ?_ O O|refine aa (ai (ds:=aZ x p) O O O O O) ?_ O O|refine aa (cW (xs:=aO (lastP x)) O O O O O O) ?_ O O|refine aa (ah O O O O) ?_ O O|refine aa (aR O) ?_ O O|refine au O ?_|refine al O O ?_|refine aC O O ?_|refine aM O ?_|(refine an (ap (cs:=aZ x p) O) ?_ O O;rintro _ _ ⟨b1,rfl,rfl⟩)|(refine an (aq (f:=50) zu (fun w hS=>nF w x.base p.A p.c p.n p.Q x.es h.lg.hn h.lg.hQ (h.keep hS.kpO).lg.rq (by omega) (lastP x) O) O O (fun _=>O)) ?_ O O;rintro _ _ ⟨_,rfl,_,rfl⟩)|(refine an (aq (f:=93) Du (fun w hS=>fW w x.me _ h0) O O (fun _=>O)) ?_ O O;rintro _ _ ⟨_,rfl,_,rfl⟩)|(refine an (aq (f:=94) Eh (fun w hS=>te w x.base p.A p.c p.n p.Q x.es h.lg.hn h.lg.hQ (h.keep hS.kpO).lg.rq (by omega) x.term _ hck) O O (fun _=>O)) ?_ O O;rintro _ _ ⟨_,rfl,_,rfl⟩)|(refine an (aq (f:=95) Dv (fun w hS=>p6 w p.cA p.cn p.cc x.cf (h.keep hS.kpO).lg.rc (by omega) _ h7) O O (fun _=>O)) ?_ O O;rintro _ _ ⟨_,rfl,_,rfl⟩)|(refine an (aq (f:=96) Dw (fun w hS=>jg w p.A p.c p.n p.Q x.es h.lg.hn h.lg.hQ (h.keep hS.kpO).lg.rq (h.keep hS.kpO).lg.bq h.lg.hd (by omega) _ h8) O O (fun _=>O)) ?_ O O;rintro _ _ ⟨_,rfl,_,rfl⟩)|(refine an (aq (f:=97) GP (fun w hS=>zR w x p (h.keep hS.kpO) _ hlp _ h15) O O (fun _=>O)) ?_ O O;rintro _ _ ⟨_,rfl,_,rfl⟩)|(refine nj O O (fun hs=>?_) (fun hs=>?_))|(refine py O O (fun hs=>?_) (fun hs=>?_)))
 all_goals first
  |(obtain rfl:r=false:=by rw[← hr];(try simp only[Bool.not_eq_true'] at hs);simp only[hs,Bool.false_and,Bool.and_false]
    exact hB _ _ _ _ _ O O (qE O))
  |(obtain rfl:r=true:=(by have hz:q14=true:=(by simpa using ‹(!q14)=false›);have hy:q15=true:=(by simpa using ‹(!q15)=false›);rw[← hr];simp only[*,Bool.and_self])
    exact hB _ _ _ _ _ O O (qE O))

section
variable {n:Nat} {w0:World} {M:Nat→Prop} {T:aF} {H:List Asn} {dd:Option Tmp} {tt:TypeId} {pos:String} {af:Array Edge} {g:Option (Nat×Bool)} {x y:Operand}
theorem vG {s:TypeId} {j1 j2 j3 j4 j5 j6 j7 j8:Nat} {x1 x2 x3 x4 x5 x6 x7 x8:Operand} {u1 u2 u3 u4 u5 u6 u7 u8:Value} {cs:Array Value} {P:Program} (h1:az T x1=some u1) (h2:az T x2=some u2) (h3:az T x3=some u3) (h4:az T x4=some u4) (h5:az T x5=some u5) (h6:az T x6=some u6) (h7:az T x7=some u7) (h8:az T x8=some u8) (hb:P.built s [(j1,u1),(j2,u2),(j3,u3),(j4,u4),(j5,u5),(j6,u6),(j7,u7),(j8,u8)]=some cs):
  Tk P n w0 M T H ⟨dd,.build s #[(j1,x1),(j2,x2),(j3,x3),(j4,x4),(j5,x5),(j6,x6),(j7,x7),(j8,x8)],tt,pos,af,g⟩ (.agg cs):= .mk fun a w ha hS=>by
 have hr:=run_build (P:=P) w s #[(j1,u1),(j2,u2),(j3,u3),(j4,u4),(j5,u5),(j6,u6),(j7,u7),(j8,u8)] cs (by simpa using hb)
 simp only[execOp,List.map_toArray,List.map_cons,List.map_nil,ha.eval h1,ha.eval h2,ha.eval h3,ha.eval h4,ha.eval h5,ha.eval h6,ha.eval h7,ha.eval h8,Sem.run_bind,hr,Result.andThen_ok,Sem.run_pure]
end
theorem jh (w:World) (A:Option Addr) (n c:Nat) (xs:List Value) (h:Rd w bC 1 A n xs) (h1: ∀ v∈xs,v.oneCell'=true) (hn:n≤100000):
  Gives Tryz.prog 47 [.slice A n c] [] w (X:=Option Addr×Nat) (fun x=> .slice x.1 n x.2) (fun _=>True) (fun x=>[row 5 1 x.1 n x.2 xs]):=by
 refine aP Tryz.func47 O Tryz.ntmps47 Tryz.results47 (by simp) (St.enter w) (fun B hB=>?_)
 cases hA:A with
 |none=>
  subst hA
  have hn0:n=0:=by
   rcases Nat.eq_zero_or_pos n with h0|h0
   ·exact h0
   ·obtain⟨ad,e,_⟩:=h.2 h0
    cases e
  subst hn0
  obtain rfl:xs=[]:=List.eq_nil_of_length_eq_zero (by simpa using h.1)
  repeat' (first|refine bM O ?_ O O|refine ax ?_|refine aa (fQ O O O O) ?_ O O|refine au O ?_|refine al O O ?_|refine aC O O ?_)
  all_goals (try (exfalso;simp_all;done))
  refine hB _ _ _ _ _ O O fun w' hS=>⟨(none,0),O,trivial,(hS.sublist (List.nil_sublist _)).nilrow _ _⟩
 |some ad=>
  subst hA
  focus (refine qs ?_;refine qp ?_;refine qz ?_;refine qq ?_;refine qs ?_;refine qp ?_;refine qt (fQ O O O O) ?_;refine qz ?_;refine qF ?_;refine qx ?_;refine qs ?_;(refine qe (d7 (m:=0) (vs:=[]) O O O O O O O (by simp) (by decide)) ?_;rintro _ _ ⟨bl,rfl,rfl⟩);refine qp ?_;(refine qe (jr (sz:=1) O O O O O O O (by decide) .here (Srd.old h (fun k _=>ao k)) h1 (by show n*1≤_;omega) (by unfold maxLen;omega)) ?_;rintro _ _ ⟨A',c',rfl,rfl⟩);refine qp ?_;refine qz ?_)
  all_goals (try (exfalso;simp_all;done))
  refine hB _ _ _ _ _ O O fun w' hS=>⟨(A',c'),O,trivial,hS⟩
theorem p7 (w:World) (A:Option Addr) (n c:Nat) (xs:List Value) (h:Rd w bC 3 A n xs) (h1: ∀ v∈xs,v.oneCell'=true) (hn:n≤1000):
  Gives Tryz.prog 108 [.slice A n c] [] w (X:=Option Addr×Nat) (fun x=> .slice x.1 n x.2) (fun _=>True) (fun x=>[row 112 3 x.1 n x.2 xs]):=by
 refine aP Tryz.func108 O Tryz.ntmps108 Tryz.results108 (by simp) (St.enter w) (fun B hB=>?_)
 cases hA:A with
 |none=>
  subst hA
  have hn0:n=0:=by
   rcases Nat.eq_zero_or_pos n with h0|h0
   ·exact h0
   ·obtain⟨ad,e,_⟩:=h.2 h0
    cases e
  subst hn0
  obtain rfl:xs=[]:=List.eq_nil_of_length_eq_zero (by simpa using h.1)
  repeat' (first|refine bM O ?_ O O|refine ax ?_|refine aa (fQ O O O O) ?_ O O|refine au O ?_|refine al O O ?_|refine aC O O ?_)
  all_goals (try (exfalso;simp_all;done))
  refine hB _ _ _ _ _ O O fun w' hS=>⟨(none,0),O,trivial,(hS.sublist (List.nil_sublist _)).nilrow _ _⟩
 |some ad=>
  subst hA
  focus (refine qs ?_;refine qp ?_;refine qz ?_;refine qq ?_;refine qs ?_;refine qp ?_;refine qt (fQ O O O O) ?_;refine qz ?_;refine qF ?_;refine qx ?_;refine qs ?_;(refine qe (cK (vs:=[]) (size:=3) (ds:=[]) O O O O O O (by simp) O (by omega)) ?_;rintro _ _ ⟨bl,rfl,rfl⟩);refine qp ?_;(refine qe (jr (sz:=3) O O O O O O O (by decide) .here (Srd.old h (fun k _=>ao k)) h1 (by show n*24≤_;omega) (by unfold maxLen;omega)) ?_;rintro _ _ ⟨A',c',rfl,rfl⟩);refine qp ?_;refine qz ?_)
  all_goals (try (exfalso;simp_all;done))
  refine hB _ _ _ _ _ O O fun w' hS=>⟨(A',c'),O,trivial,hS⟩
theorem xT (l:List Pe): ∀ v∈ab bp l,v.oneCell'=true:=fun v hv=>by
 obtain⟨p,_,h⟩:=List.mem_flatMap.1 hv
 exact gQ p v h
structure RpOk (x:Rs) (p:Rp):Prop where
 hQ:p.Q.map bA=x.es
 hn:p.Q.length=p.n
 hcn:x.cf.length=p.cn
 hvn:x.votes.length=p.vn
 hpn:x.peers.length=p.pn
abbrev yP (x:Rs) (p:Rp):List Asn:=[row 59 3 p.A p.n p.c (ab aN p.Q),dq 5 (p.Q.map cR),row 3 1 p.cA p.cn p.cc (x.cf.map zv),row 3 1 p.vA p.vn p.vc (x.votes.map zv),row 112 3 p.pA p.pn p.pc (ab bp x.peers)]
theorem ji (w:World) (x:Rs) (p:Rp) (h:RfR w x p):
  Gives Tryz.prog 37 [.agg (aZ x p).toArray] [] w (X:=Rp) (fun q=> .agg (aZ x q).toArray) (fun q=>RpOk x q∧q.n=p.n∧q.cn=p.cn∧q.vn=p.vn∧q.pn=p.pn) (fun q=>yP x q):=by
 refine cX Tryz.func37 O Tryz.ntmps37 Tryz.results37 (by simp) (St.enter w) (fun B hB=>?_)
 have hne:0<p.n→p.A≠none:=fun h0=>by obtain⟨ad,e,_⟩:=h.lg.rq.2 (by omega);rw[e];simp
 have hnn:=h.lg.hn
 have hnm:=h.lg.hm
 have hcm:=h.lg.hcm
 have hvm:=h.hvm
 have hpm:=h.hpm
 repeat' (first|refine bM O ?_ O O|refine ax ?_|refine aa (ah O O O O) ?_ O O|refine au O ?_|refine al O O ?_|refine aG O ?_|(refine an (ap (cs:=aZ x p) O) ?_ O O;rintro _ _ ⟨b1,rfl,rfl⟩)|(refine an (am O ch) ?_ O O;rintro _ _ ⟨b2,rfl,rfl⟩))
 refine bV (X:=Nat×(Option Addr×Nat)×List Em) (fun z=>[(1,.pointer (some ⟨b1,0,none⟩)),(2,.pointer (some ⟨b2,0,none⟩)),(3,.slice z.2.1.1 z.1 z.2.1.2),(8,.slice p.A p.n p.c),(9,.int .i64 (p.n:Int)),(10,.int .i64 (z.1:Int))]) (fun z=>[row 59 3 z.2.1.1 z.1 z.2.1.2 (ab aN z.2.2),dq 5 (z.2.2.map cR),pt b2 42 (aZ dy df),pt b1 42 (aZ x p)]) (fun z=>z.1≤p.n∧z.2.2.map bA=(p.Q.take z.1).map bA) (fun z=>p.n-z.1) O (0,(none,0),[]) ⟨Nat.zero_le _,O⟩ (Sub.cons O (Sub.cons O (Sub.cons O (Sub.cons O (Sub.cons O (Sub.cons O Sub.nil)))))) (fun w hS=>ae (H':=[row 59 3 none 0 0 [],dq 5 [],pt b2 42 (aZ dy df),pt b1 42 (aZ x p)]) w ((nt (e:=5) hS).nilrow 59 3)) ?_
 rintro⟨j,⟨A5,c5⟩,P⟩ ⟨hj,hP⟩ J hJ
 dsimp only at hj hP ⊢
 rcases Nat.lt_or_ge j p.n with hjl|hjl
 ·have hne:=hne (by omega)
  have hat:=bi (f:=aN) bW p.Q default j (by omega)
  obtain⟨m,hm⟩: ∃ m,p.Q.getD j default=m:=⟨_,O⟩
  have hmem:m∈p.Q:=by rw[← hm];simp[List.getD,show j<p.Q.length by omega]
  rw[hm] at hat
  have hnx:=kA p.Q j (by omega) hm
  have hkm:=h.lg.hd m hmem
  have hd1:=(h.lg.bq m hmem).rd
  obtain⟨t,kd,D,cd,bs⟩:=m
  obtain⟨q,hql⟩: ∃ q,bs.length=q:=⟨_,O⟩
  have hkm:bs.length≤100000:=hkm
  have hd1:Rd w bC 1 D bs.length (bs.map bv):=hd1
  have hat: ∀ e v,([.int .u64 (t:Int),.int .i64 kd,.slice D bs.length cd]:List Value)[e]? =some v→(ab aN p.Q)[j*3+e]? =some v:=hat
  rw[hql] at hkm hd1 hat
  focus (refine qs ?_;refine qd ?_;refine qz ?_;refine qq ?_;refine qT ?_;refine qx ?_;refine qq ?_;refine qb ?_;refine qs ?_;refine qt (bH (sz:=3) O O O O O O hne hjl) ?_;refine qt (cw (ds:=[.int .u64 (t:Int),.int .i64 kd,.slice D q cd]) O O O (Srd.old h.lg.rq (fun k _=>ao k)) O (by omega) hat) ?_;(refine qe (am O cu) ?_;rintro _ _ ⟨b7,rfl,rfl⟩);(refine qw (aj (cs:=aN (0,0,none,0,[])) (ds:=[.int .u64 (t:Int),.int .i64 kd,.slice D q cd]) O O O O (by simp[Value.oneCell']) O) ?_;rintro _ _ rfl);refine qn ?_;refine qp ?_;refine qt (ah O O O O) ?_;(refine qe (bB (f:=47) FH (fun w hS=>jh w D q cd (bs.map bv) ((Srd.old hd1 (fun k _=>ao k)).rd w hS) (kC _) (by omega)) O O (fun _=>O)) ?_;rintro _ _ ⟨⟨A',c'⟩,rfl,_,rfl⟩);refine qp ?_;(refine qw (ey O O O O O O (by show _<3;omega)) ?_;rintro _ _ rfl);refine qz ?_;refine qr ?_;refine qp ?_;refine qt (ai (ds:=[.int .u64 (t:Int),.int .i64 kd,.slice A' q c']) O O O O O) ?_;(refine qe (cK (vs:=[.agg [.int .u64 (t:Int),.int .i64 kd,.slice A' q c'].toArray]) (size:=3) (ds:=[.int .u64 (t:Int),.int .i64 kd,.slice A' q c']) O O O O O O (by simp[aV]) O (by omega)) ?_;rintro _ _ ⟨vb,rfl,rfl⟩);(refine qe (gd (sz:=3) (m:=j) (c:=c5) (A:=A5) O O O O O O O (by decide) (Srd.pt (n:=1) (g:=vb) (ds:=[.int .u64 (t:Int),.int .i64 kd,.slice A' q c']) O (fun j u hj=>by rw[Nat.zero_add];exact hj)) (by simp[Value.oneCell']) (by show (j+1)*40≤_;omega) (by unfold maxLen;omega)) ?_;rintro _ _ ⟨A7,c7,rfl,rfl⟩);refine qp ?_;refine qz ?_;refine aK ?_;refine qr ?_;refine qt (aI O O (by unfold aH;omega)) ?_;refine qp ?_;refine qz ?_)
  refine hJ (j+1,(A7,c7),P++[(t,kd,A',c',bs)]) _ _ ⟨by show j+1≤_;omega,by dsimp only;rw[hnx,List.map_append,hP];rfl⟩ (Sub.cons O (Sub.cons O (Sub.cons O (Sub.cons O (Sub.cons O (Sub.cons O Sub.nil)))))) (fun w' hS=>?_) (by show p.n-(j+1)<_;omega)
  dsimp only
  have e1:aN (t,kd,A',c',bs)=[.int .u64 (t:Int),.int .i64 kd,.slice A' q c']:=by
   show [Value.int .u64 (t:Int),.int .i64 kd,.slice A' bs.length c']=_
   rw[hql]
  have h1:=ae (H':=[row 5 1 A' q c' (bs.map bv),dq 5 (P.map cR),row 59 3 A7 (j+1) c7 (ab aN P++[.int .u64 (t:Int),.int .i64 kd,.slice A' q c']),pt b2 42 (aZ dy df),pt b1 42 (aZ x p)]) w' hS
  have h2:St w (ar []) [pD 5 (A',c',bs),dq 5 (P.map cR),row 59 3 A7 (j+1) c7 (ab aN P++[.int .u64 (t:Int),.int .i64 kd,.slice A' q c']),pt b2 42 (aZ dy df),pt b1 42 (aZ x p)] w':=by
   unfold pD
   rw[hql]
   exact h1
  have h3:=rz h2
  rw[dC,fI,e1,List.map_append]
  exact ae (H':=[row 59 3 A7 (j+1) c7 (ab aN P++[.int .u64 (t:Int),.int .i64 kd,.slice A' q c']),dq 5 (P.map cR++[(A',c',bs)]),pt b2 42 (aZ dy df),pt b1 42 (aZ x p)]) w' h3
 have hjq:j=p.n:=by omega
 subst hjq
 rw[← hnn,List.take_length,h.lg.hQ] at hP
 have hPl:P.length=p.n:=by rw[← hnn, ← List.length_map (f:=bA),hP, ← h.lg.hQ,List.length_map]
 focus (refine qs ?_;refine qf ?_;refine qz ?_;refine qq ?_;refine qF ?_;refine bE O O ?_;refine qq ?_)
 refine dS [pt b1 42 (aZ x p)] 21 ?_
 refine dp 0 ?_
 refine dp 1 ?_
 refine dp 2 ?_
 refine dl 3 ?_
 refine dp 5 ?_
 refine dl 6 ?_
 refine dp 8 ?_
 refine dl 9 ?_
 refine dp 11 ?_
 refine dp 12 ?_
 refine dE 4 O (bB (f:=92) Eg (fun w hS=>C.jt w p.cA p.cn p.cc (x.cf.map zv) (h.keep hS.kpO).lg.rc (C.kz _) (by omega)) O O (fun _=>O)) ?_
 rintro _ _ ⟨⟨Ac,cc⟩,rfl,_,rfl⟩
 refine gF ae ?_
 refine dE 7 O (bB (f:=92) Eg (fun w hS=>C.jt w p.vA p.vn p.vc (x.votes.map zv) (h.keep hS.kpO).rv (C.kz _) (by omega)) O O (fun _=>O)) ?_
 rintro _ _ ⟨⟨Av,cv⟩,rfl,_,rfl⟩
 refine gF ae ?_
 refine dE 10 O (bB (f:=108) FK (fun w hS=>p7 w p.pA p.pn p.pc (ab bp x.peers) (h.keep hS.kpO).rp (xT _) (by omega)) O O (fun _=>O)) ?_
 rintro _ _ ⟨⟨Ap,cp⟩,rfl,_,rfl⟩
 refine gF ae ?_
 refine dE 13 O (aw (cs:=aZ x p) (cs':=aZ x ⟨A5,p.n,c5,P,p.cA,p.cn,p.cc,p.vA,p.vn,p.vc,p.pA,p.pn,p.pc⟩) O O O O O O (by show _<14;omega)) ?_
 rintro _ _ rfl
 refine dV ?_
 refine dp 14 ?_
 refine dp 15 ?_
 refine dE 16 O (aw (cs:=aZ x ⟨A5,p.n,c5,P,p.cA,p.cn,p.cc,p.vA,p.vn,p.vc,p.pA,p.pn,p.pc⟩) (cs':=aZ x ⟨A5,p.n,c5,P,Ac,p.cn,cc,p.vA,p.vn,p.vc,p.pA,p.pn,p.pc⟩) O O O O O O (by show _<14;omega)) ?_
 rintro _ _ rfl
 refine dV ?_
 refine dp 17 ?_
 refine dE 18 O (aw (cs:=aZ x ⟨A5,p.n,c5,P,Ac,p.cn,cc,p.vA,p.vn,p.vc,p.pA,p.pn,p.pc⟩) (cs':=aZ x ⟨A5,p.n,c5,P,Ac,p.cn,cc,Av,p.vn,cv,p.pA,p.pn,p.pc⟩) O O O O O O (by show _<14;omega)) ?_
 rintro _ _ rfl
 refine dV ?_
 refine dp 19 ?_
 refine dE 20 O (aw (cs:=aZ x ⟨A5,p.n,c5,P,Ac,p.cn,cc,Av,p.vn,cv,p.pA,p.pn,p.pc⟩) (cs':=aZ x ⟨A5,p.n,c5,P,Ac,p.cn,cc,Av,p.vn,cv,Ap,p.pn,cp⟩) O O O O O O (by show _<14;omega)) ?_
 rintro _ _ rfl
 refine dV ?_
 refine dn ?_
 skip
 focus (refine qs ?_;refine qt (ai (ds:=aZ x ⟨A5,p.n,c5,P,Ac,p.cn,cc,Av,p.vn,cv,Ap,p.pn,cp⟩) O O O O O) ?_;(refine qw (aj (cs:=aZ dy df) (ds:=aZ x ⟨A5,p.n,c5,P,Ac,p.cn,cc,Av,p.vn,cv,Ap,p.pn,cp⟩) O O O O (bn _ _) O) ?_;rintro _ _ rfl);refine qz ?_)
 refine hB _ _ _ _ _ O (.cell O O O inferInstance O .nil) fun w' hS=>⟨⟨A5,p.n,c5,P,Ac,p.cn,cc,Av,p.vn,cv,Ap,p.pn,cp⟩,O,⟨⟨hP,hPl,h.lg.hcn,h.hvn,h.hpn⟩,O,O,O,O⟩,ae _ hS⟩
theorem tg (me:Int) (tm:Nat) (vt:Int) (b:At) (A:Option Addr) (n c:Nat) (cA:Option Addr) (cn cc:Nat) (cm:Nat) (lim:Int):Tryz.prog.built 42 [(0,.int .i64 me),(1,.int .u64 (tm:Int)),(2,.int .i64 vt),(3,.agg (aE b A n c).toArray),(4,.agg [Value.slice cA cn cc].toArray),(5,.int .u64 (cm:Int)),(6,.int .i64 1),(9,.int .i64 lim)]=some (aZ ⟨me,tm,vt,b,[],[],cm,1,0,0,lim,[],[]⟩ ⟨A,n,c,[],cA,cn,cc,none,0,0,none,0,0⟩).toArray:=by kernel_rfl
theorem LgR.ed {w:World} {x:Rs} {p:Rp} (h:LgR w x p): ∀ e∈x.es,e.2.2.length≤100000:=fun e he=>by
 rw[← h.hQ] at he
 obtain⟨m,hm,rfl⟩:=List.mem_map.1 he
 exact h.hd m hm
theorem jX {w:World} {x:Rs} {p:Rp} (h1:(row 59 3 p.A p.n p.c (ab aN p.Q)).holds w) (h2:(dq 5 (p.Q.map cR)).holds w) (h3:Rd w bC 1 p.cA p.cn (x.cf.map zv)) (hQ:p.Q.map bA=x.es) (hn:p.Q.length=p.n) (hcn:x.cf.length=p.cn) (n1:p.n≤1000) (n2:p.cn≤900) (hd: ∀ e∈x.es,e.2.2.length≤100000):LgR w x p:=
 ⟨hn,n1,(ep h1).1,hQ,ce h1,fun m hm=>nw h2 (cR m) (List.mem_map.2 ⟨m,hm,O⟩),fun m hm=>hd (bA m) (by rw[← hQ];exact List.mem_map.2 ⟨m,hm,O⟩),hcn,n2,h3⟩
theorem p8 {w:World} {x:Rs} {p:Rp} (h: ∀ A∈yP x p,A.holds w) (ok:RpOk x p) (n1:p.n≤1000) (n2:p.cn≤900) (n3:p.vn≤900) (n4:p.pn≤900) (hd: ∀ e∈x.es,e.2.2.length≤100000) (hu:RsU x):RfR w x p:=
 ⟨jX (h _ (by simp)) (h _ (by simp)) (ce (h (row 3 1 p.cA p.cn p.cc (x.cf.map zv)) (by simp))) ok.hQ ok.hn ok.hcn n1 n2 hd,ok.hvn,n3,ce (h (row 3 1 p.vA p.vn p.vc (x.votes.map zv)) (by simp)),ok.hpn,n4,ce (h (row 112 3 p.pA p.pn p.pc (ab bp x.peers)) (by simp)),hu⟩
theorem oN (w:World) (me:Int) (tm:Nat) (vt:Int) (b:At) (es:List En) (cf:List Int) (lim:Int) (A:Option Addr) (n c:Nat) (Q:List Em) (cA:Option Addr) (cn cc:Nat) (h:RfR w ⟨me,tm,vt,b,es,cf,b.1,1,0,0,lim,[],[]⟩ ⟨A,n,c,Q,cA,cn,cc,none,0,0,none,0,0⟩) (hr:cz ⟨me,tm,vt,b,es,cf,b.1,1,0,0,lim,[],[]⟩=true):
  Gives Tryz.prog 10 [.int .i64 me,.int .u64 (tm:Int),.int .i64 vt,.agg (aE b A n c).toArray,C.jM cA cn cc,.int .i64 lim] [] w (X:=Rp) (fun q=> .tuple #[.agg (aZ ⟨me,tm,vt,b,es,cf,b.1,1,0,0,lim,[],[]⟩ q).toArray,zi 0]) (fun q=>RpOk ⟨me,tm,vt,b,es,cf,b.1,1,0,0,lim,[],[]⟩ q∧q.n=n∧q.cn=cn∧q.vn=0∧q.pn=0) (fun q=>yP ⟨me,tm,vt,b,es,cf,b.1,1,0,0,lim,[],[]⟩ q):=by
 refine cX Tryz.func10 O Tryz.ntmps10 Tryz.results10 (by simp) (St.enter w) (fun B hB=>?_)
 have hn1:=h.lg.hm
 have hn2:=h.lg.hcm
 have hn3:=h.hvm
 have hn4:=h.hpm
 have hdd:=h.lg.ed
 focus (refine qs ?_;(refine qe (ap (cs:=aE b A n c) O) ?_;rintro _ _ ⟨b9,rfl,rfl⟩);(refine qe (ap (cs:=[.slice cA cn cc]) O) ?_;rintro _ _ ⟨b10,rfl,rfl⟩);(refine qe (am O ch) ?_;rintro _ _ ⟨b12,rfl,rfl⟩);refine qp ?_;refine qn ?_;(iterate 3 refine qp ?_);refine qt (ai (ds:=aE b A n c) O O O O O) ?_;refine qt (ai (ds:=[.slice cA cn cc]) O O O O O) ?_;refine qp ?_;refine qp ?_;refine qt (ah O O O O) ?_;refine qp ?_;refine qt (vG O O O O O O O O (tg _ _ _ _ _ _ _ _ _ _ _ _)) ?_;(refine qe (eD (f:=37) FF (fun w hS=>ji w ⟨me,tm,vt,b,es,cf,b.1,1,0,0,lim,[],[]⟩ ⟨A,n,c,Q,cA,cn,cc,none,0,0,none,0,0⟩ (h.keep hS.kpO)) O O) ?_;rintro _ _ ⟨q,rfl,⟨hq,hqn,hqc,hqv,hqp⟩,rfl⟩;dsimp only[List.cons_append,List.nil_append]);(refine qe (am O ch) ?_;rintro _ _ ⟨b12,rfl,rfl⟩);(refine qw (aj (cs:=aZ dy df) (ds:=aZ ⟨me,tm,vt,b,es,cf,b.1,1,0,0,lim,[],[]⟩ q) O O O O (bn _ _) O) ?_;rintro _ _ rfl);refine qz ?_;refine qq ?_;refine qs ?_;refine qt (ai (ds:=aZ ⟨me,tm,vt,b,es,cf,b.1,1,0,0,lim,[],[]⟩ q) O O O O O) ?_;refine qh wK (fun w hS=>dR w ⟨me,tm,vt,b,es,cf,b.1,1,0,0,lim,[],[]⟩ q (p8 (fun A hA=>hS.at_ (RemL.mem hA)) hq (by dsimp only at*;omega) (by dsimp only at*;omega) (by dsimp only at*;omega) (by dsimp only at*;omega) hdd h.hu) _ hr) ?_;refine qp ?_;refine qz ?_;refine qF ?_;refine qx ?_;refine qs ?_;refine qt (ai (ds:=aZ ⟨me,tm,vt,b,es,cf,b.1,1,0,0,lim,[],[]⟩ q) O O O O O) ?_;(refine qw (aj (cs:=aZ dy df) (ds:=aZ ⟨me,tm,vt,b,es,cf,b.1,1,0,0,lim,[],[]⟩ q) O O O O (bn _ _) O) ?_;rintro _ _ rfl);refine qp ?_;refine qz ?_)
 all_goals (try (exfalso;simp at*;done))
 refine hB _ _ _ _ _ O (.cell O O O inferInstance O (.tmp O .nil)) fun w' hS=>⟨q,O,⟨hq,hqn,hqc,hqv,hqp⟩,ae (H':=yP ⟨me,tm,vt,b,es,cf,b.1,1,0,0,lim,[],[]⟩ q) w' hS⟩
structure Mm where
 p:Rp
 S:List (Ms×Mp)
 sA:Option Addr
 sc:Nat
 i:Bool
def bK (s:Ms×Mp):List Value:=aW s.1 s.2
theorem jy (s:Ms×Mp):(bK s).length=12:=rfl
def dU (m:Mm):Mm:=⟨⟨m.p.A,m.p.n,m.p.c,m.p.Q,m.p.cA,m.p.cn,m.p.cc,none,0,0,none,0,0⟩,m.S,m.sA,m.sc,m.i⟩
def aD (x:Rs) (m:Mm):List Value:=aZ x m.p++[.slice m.sA m.S.length m.sc,.bool m.i]
theorem th (x:Rs) (p:Rp):Tryz.prog.built 89 [(0,.agg (aZ x p).toArray)]=some (aD x ⟨p,[],none,0,false⟩).toArray:=by kernel_rfl
abbrev mP (g:Nat) (x:Rs) (m:Mm):List Asn:=[pt g 89 (aD x m),row 3 1 m.p.vA m.p.vn m.p.vc (x.votes.map zv),row 112 3 m.p.pA m.p.pn m.p.pc (ab bp x.peers),row 65 12 m.sA m.S.length m.sc (ab bK m.S)]
structure McR (w:World) (x:Rs) (m:Mm):Prop where
 lg:LgR w x m.p
 ms: ∀ s∈m.S,MsR w s.1 s.2
structure McL (x:Rs) (m:Mm):Prop where
 hvn:x.votes.length=m.p.vn
 hpn:x.peers.length=m.p.pn
theorem McR.keep {w w':World} {x:Rs} {m:Mm} (h:McR w x m) (hk:Kp bC w w'):McR w' x m:=⟨h.lg.keep hk,fun s hs=>(h.ms s hs).keep hk⟩
def tW (w:World) (g:Nat) (x:Rs) (m:Mm):Prop:=Rd w bC 1 (some ⟨g,0,none⟩) 16 (aD x m)
theorem lk {w:World} {g:Nat} {x:Rs} {m:Mm} (h:(pt g 89 (aD x m)).holds w):tW w g x m:=
 (Srd.pt (w0:=w) (M:=fun k=>k=g) (H:=[pt g 89 (aD x m)]) (n:=16) (size:=1) (ds:=aD x m) O (fun j v hj=>by rw[Nat.zero_add];exact hj)).rd w ⟨Kp.refl _ _,fun A hA=>by
  obtain rfl:A=pt g 89 (aD x m):=by simpa using hA
  refine⟨h,fun k hk=>?_⟩
  obtain rfl:k=g:=hk
  exact⟨.inl O,(Array.getElem?_eq_some_iff.1 h).1⟩,List.pairwise_singleton _ _⟩
theorem ef (w:World) (g:Nat) (x:Rs) (m:Mm) (hb:tW w g x m) (h:LgR w x m.p):
  Gives Tryz.prog 59 [.pointer (some ⟨g,0,none⟩)] [] w (X:=Unit) (fun _=> .agg (aO (lastP x)).toArray) (fun _=>True) (fun _=>[]):=by
 refine cX Tryz.func59 O Tryz.ntmps59 Tryz.results59 (by simp) (St.enter w) (fun B hB=>?_)
 have hn1:=h.hm
 focus (refine qs ?_;(refine qe (am O ba) ?_;rintro _ _ ⟨b2,rfl,rfl⟩);refine qn ?_;refine qp ?_;refine qt (ac O) ?_;refine qp ?_;refine qp ?_;refine qt (ko (F:=bC) (m:=16) (sz:=1) (xs:=aD x m) (ds:=aE x.base m.p.A m.p.n m.p.c) O O O hb (fun k _=>ao k) O (by decide) O) ?_;refine qh zu (fun w hS=>nF w x.base m.p.A m.p.c m.p.n m.p.Q x.es h.hn h.hQ (h.keep hS.kpO).rq (by omega) (lastP x) O) ?_;(refine qw (aj (cs:=aO (0,0)) (ds:=aO (lastP x)) O O O O (aQ _) O) ?_;rintro _ _ rfl);refine qz ?_)
 exact hB _ _ _ _ _ O (.cell O O O inferInstance O .nil) fun w' hS=>⟨(),O,trivial,hS.sublist (List.nil_sublist _)⟩
theorem fX (w:World) (g:Nat) (x:Rs) (m:Mm) (hS0:St w (ar (mP g x m)) (mP g x m) w):
  Gives Tryz.prog 72 [.pointer (some ⟨g,0,none⟩)] (mP g x m) w (X:=Unit) (fun _=> .tuple #[]) (fun _=>True) (fun _=>mP g (fl x) (dU m)):=by
 refine bO Tryz.func72 O Tryz.ntmps72 Tryz.results72 (by simp) hS0 (fun B hE hB=>?_)
 repeat' (first|refine bM O ?_ O O|refine ax ?_|refine aa (ac O) ?_ O O|refine al O O ?_|(refine bh (ey O O O O O O (by show _<16;omega)) ?_ O;rintro _ _ rfl))
 first
 |refine hE _ _ fun w' hS=>⟨(),trivial,?_⟩
 |refine hB _ _ _ _ O fun w' hS=>⟨(),trivial,?_⟩
 have h1:St w (ar (mP g x m)) [pt g 89 (aD (fl x) (dU m)),row 65 12 m.sA m.S.length m.sc (ab bK m.S)] w':=hS.sublist (.cons_cons _ (.cons _ (.cons _ (.refl _))))
 exact ae (H':=[pt g 89 (aD (fl x) (dU m)),row 3 1 none 0 0 [],row 112 3 none 0 0 [],row 65 12 m.sA m.S.length m.sc (ab bK m.S)]) w' ((h1.nilrow 3 1).nilrow 112 3)
theorem nH (w:World) (a:At) (A:Option Addr) (c k:Nat) (Q:List Em) (l:List En) (hk:Q.length=k) (hl:Q.map bA=l) (h:Rd w bC 3 A k (ab aN Q)) (hd:lZ w bC (Q.map cR)) (hn:k≤1000) (hkk: ∀ m∈Q,m.2.2.2.2.length≤100000) (idx:Nat) (ri:Nat) (rbs:List UInt8) (rq:Bool) (N:Nat) (hN:rbs.length=N) (hs:fv a l idx=(ri,rbs,rq)):
  Gives Tryz.prog 49 [.agg (aE a A k c).toArray,.int .u64 (idx:Int)] [] w (X:=Option Addr×Nat) (fun x=> .tuple #[.int .u64 (ri:Int),.slice x.1 N x.2,.bool rq]) (fun _=>True) (fun x=>[row 5 1 x.1 N x.2 (rbs.map bv)]):=s6 w a A c k Q l hk hl h hd hn hkk idx ri rbs rq N hN hs
theorem vH {x:Rs} {idx:Nat} (hd: ∀ e∈x.es,e.2.2.length≤100000):(fv x.base x.es idx).2.1.length≤100000:=by
 unfold fv
 split
 ·split
  ·exact Nat.zero_le _
  ·dsimp only
   rcases Nat.lt_or_ge (kG x.base x.es idx x.es.length-1) x.es.length with h1|h1
   ·refine hd _ ?_
    simp[List.getD,h1]
   ·rw[List.getD,List.getElem?_eq_none h1]
    exact Nat.zero_le _
 ·exact Nat.zero_le _
theorem iv (w:World) (x:Rs) (p:Rp) (D:Kw) (hD:Kd D [] w) (h: ∀ w',D w'→LgR w' x p) (idx:Nat) (ms:List Int) (hms:iQ x idx=ms):
  Gives Tryz.prog 53 [.agg (aZ x p).toArray,.int .u64 (idx:Int)] [] w (X:=(Option Addr×Nat×Nat)×Asn) (fun y=>C.jM y.1.1 ms.length y.1.2.2) (fun y=> ∀ w',K2 D y.2 w'→Rd w' bC 1 y.1.1 ms.length (ms.map zv)) (fun y=>[y.2]):=by
 refine cX Tryz.func53 O Tryz.ntmps53 Tryz.results53 (by simp) (St.enter w) (fun B hB=>?_)
 obtain⟨⟨ri,rbs,rq⟩,hs⟩: ∃ z,fv x.base x.es idx=z:=⟨_,O⟩
 obtain⟨N,hN⟩: ∃ N,rbs.length=N:=⟨_,O⟩
 have hw:=h w hD.now
 have hn1:=hw.hm
 have hn2:=hw.hcm
 have hN2:N≤100000:=by
  have:=vH (idx:=idx) hw.ed
  rw[hs] at this
  have this:rbs.length≤100000:=this
  omega
 rw[iQ,hs] at hms
 cases rq
 ·obtain rfl:x.cf=ms:=by rw[← hms];rfl
  focus (refine qs ?_;(refine qe (ap (cs:=aZ x p) O) ?_;rintro _ _ ⟨b2,rfl,rfl⟩);(refine qe (am O C.dO) ?_;rintro _ _ ⟨b4,rfl,rfl⟩);refine qz ?_;refine qq ?_;refine qs ?_;refine qp ?_;refine qt (ai (ds:=aE x.base p.A p.n p.c) O O O O O) ?_;refine qp ?_;(refine qe (bB (f:=49) Eb (fun w' hS=>nH w' x.base p.A p.c p.n p.Q x.es hw.hn hw.hQ (h w' (hD.at_ hS)).rq (h w' (hD.at_ hS)).dt hn1 hw.hd idx ri rbs _ N hN hs) O O (fun _=>O)) ?_;rintro _ _ ⟨⟨Ab,cb⟩,rfl,_,rfl⟩);(iterate 7 refine qp ?_);refine qn ?_;refine qp ?_;refine qz ?_;refine qF ?_;refine qx ?_;refine qs ?_;refine qp ?_;refine qt (ai (ds:=[.slice p.cA p.cn p.cc]) O O O O O) ?_;(refine qw (aj (cs:=[.slice none 0 0]) (ds:=[.slice p.cA p.cn p.cc]) O O O O (C.eB _ _ _) O) ?_;rintro _ _ rfl);refine qz ?_)
  rw[hw.hcn] at hB
  refine hB _ _ _ _ _ O (.cell O O O inferInstance O .nil) fun w' hS=>⟨((p.cA,p.cn,p.cc),zN),O,fun w2 h2=>(h w2 h2.1).rc,dN (hS.sublist (List.nil_sublist _))⟩
 ·obtain rfl:C.cI rbs=ms:=by rw[← hms];rfl
  obtain⟨K,hK⟩: ∃ K,(C.cI rbs).length=K:=⟨_,O⟩
  rw[hK] at hB
  repeat' (first|refine aa (ay O (by omega)) ?_ O O|refine bM O ?_ O O|refine ax ?_|refine aa (ai (ds:=aE x.base p.A p.n p.c) O O O O O) ?_ O O|refine aa (ai (ds:=[.slice A3 K c3]) O O O O O) ?_ O O|refine au O ?_|refine al O O ?_|refine aC O O ?_|(refine an (ap (cs:=aZ x p) O) ?_ O O;rintro _ _ ⟨b2,rfl,rfl⟩)|(refine an (am O C.dO) ?_ O O;rintro _ _ ⟨b4,rfl,rfl⟩)|(refine an (bB (f:=49) Eb (fun w' hS=>nH w' x.base p.A p.c p.n p.Q x.es hw.hn hw.hQ (h w' (hD.at_ hS)).rq (h w' (hD.at_ hS)).dt hn1 hw.hd idx ri rbs _ N hN hs) O O (fun _=>O)) ?_ O O;rintro _ _ ⟨⟨Ab,cb⟩,rfl,_,rfl⟩)|(refine an (bB (f:=120) Dz (fun w' hS=>yO w' Ab N cb rbs (vi (e:=5) hS (by simp) hN) hN2 _ O _ O K hK) O O (fun _=>O)) ?_ O O;rintro _ _ ⟨⟨A3,c3⟩,rfl,_,rfl⟩)|(refine bh (aj (cs:=[.slice none 0 0]) (ds:=[.slice A3 K c3]) O O O O (C.eB _ _ _) O) ?_ O;rintro _ _ rfl))
  refine hB _ _ _ _ _ O (.cell O O O inferInstance O .nil) fun w' hS=>⟨((A3,K,c3),row 3 1 A3 K c3 ((C.cI rbs).map zv)),O,fun w2 h2=>ce h2.2,ae (H':=[row 3 1 A3 K c3 ((C.cI rbs).map zv)]) w' hS⟩
theorem Kd.call0 {D:Kw} {As H:List Asn} {w w1:World} (h:Kd D As w) (hS:St w (ar As) H w1):Kd D [] w1:=fun w2 hk=>by
 refine h w2 ⟨hS.kp.os▸hk.os,hS.kp.tape▸hk.tape,hS.kp.output▸hk.output,Nat.le_trans hS.kp.size hk.size,fun k hn hlt=>?_⟩
 rw[hk.block k (ao k) (Nat.lt_of_lt_of_le hlt hS.kp.size)]
 exact hS.kp.block k hn hlt
theorem LgR.sz {w:World} {x:Rs} {p:Rp} (h:LgR w x p):p.n≤1000∧p.cn≤900:=⟨h.hm,h.hcm⟩
theorem du (w:World) (g:Nat) (x:Rs) (m:Mm) (hb:tW w g x m) (D:Kw) (hD:Kd D [] w) (h: ∀ w',D w'→LgR w' x m.p) (ms:List Int) (hms:aJ x=ms):
  Gives Tryz.prog 43 [.pointer (some ⟨g,0,none⟩)] [] w (X:=(Option Addr×Nat×Nat)×Asn) (fun y=>C.jM y.1.1 ms.length y.1.2.2) (fun y=> ∀ w',K2 D y.2 w'→Rd w' bC 1 y.1.1 ms.length (ms.map zv)) (fun y=>[y.2]):=by
 refine cX Tryz.func43 O Tryz.ntmps43 Tryz.results43 (by simp) (St.enter w) (fun B hB=>?_)
 focus (refine qs ?_;(refine qe (am O C.dO) ?_;rintro _ _ ⟨b2,rfl,rfl⟩);refine qz ?_;refine qq ?_)
 refine dS [] 9 ?_
 refine dp 0 ?_
 refine dt 1 O (ac O) ?_
 refine dp 2 ?_
 refine dt 3 O (ko (F:=bC) (m:=16) (sz:=1) (xs:=aD x m) (ds:=aZ x m.p) O O O hb (fun k _=>ao k) O (by decide) O) ?_
 refine dp 4 ?_
 refine dE 5 O (aq (f:=59) pE (fun w hS=>ef w g x m (hb.keep hS.kpO) (h w (hD.at_ hS))) O O (fun _=>O)) ?_
 rintro _ _ ⟨_,rfl,_,rfl⟩
 refine gF ae ?_
 refine dt 6 O (cW (xs:=aO (lastP x)) O O O O O O) ?_
 refine dE 7 O (bB (f:=53) An (fun w hS=>iv w x m.p D (hD.call0 hS) h (lastP x).1 ms hms) O O (fun _=>O)) ?_
 rintro _ _ ⟨⟨⟨A3,K3,c3⟩,Z3⟩,rfl,hI,rfl⟩
 refine gF ae ?_
 refine dE 8 O (aj (cs:=[.slice none 0 0]) (ds:=[.slice A3 ms.length c3]) O O O O (C.eB _ _ _) O) ?_
 rintro _ _ rfl
 refine dV ?_
 refine dn ?_
 skip
 skip
 exact hB _ _ _ _ _ O (.cell O O O inferInstance O .nil) fun w' hS=>⟨((A3,K3,c3),Z3),O,hI,ae (H':=[Z3]) w' hS⟩
def eE (x:Rs) (s:Ms):Ms:={s with F:=x.me}
def bT (x:Rs) (m:Mm) (s:Ms×Mp) (A:Option Addr) (c:Nat):Mm:=⟨m.p,m.S++[(eE x s.1,s.2)],A,c,m.i⟩
theorem bR {w:World} {M:Nat→Prop} {g:Nat} {x2:Rs} {m2:Mm} {Z:Asn} {D:Kw} {ms:List Ms} {ib:Bool} (h:m2.S.map Prod.fst=ms∧m2.i=ib∧McL x2 m2∧ ∀ w',K2 D Z w'→McR w' x2 m2) {w':World} (hS:St w M (Z::mP g x2 m2) w'): ∃ y:Mm×Asn,(y.1.S.map Prod.fst=ms∧y.1.i=ib∧McL x2 y.1∧ ∀ w',K2 D y.2 w'→McR w' x2 y.1)∧St w M (mP g x2 y.1++[y.2]) w':=⟨(m2,Z),h,hS.perm (List.perm_append_comm (l₁:=[Z]))⟩
theorem eg {w:World} {M:Nat→Prop} {g:Nat} {x2:Rs} {m2:Mm} {D:Kw} {ms:List Ms} {ib:Bool} (h:m2.S.map Prod.fst=ms∧m2.i=ib∧McL x2 m2∧ ∀ w',K2 D zN w'→McR w' x2 m2) {w':World} (hS:St w M (mP g x2 m2) w'): ∃ y:Mm×Asn,(y.1.S.map Prod.fst=ms∧y.1.i=ib∧McL x2 y.1∧ ∀ w',K2 D y.2 w'→McR w' x2 y.1)∧St w M (mP g x2 y.1++[y.2]) w':=bR h (dN hS)
theorem MsR.frm {w:World} {s:Ms} {q:Mp} (h:MsR w s q) (x:Rs):MsR w (eE x s) q:=⟨h.hn,h.hm,h.hQ,h.rq,h.bq,h.hc,h.hmc,h.rc,h.bd,h.hcp⟩
theorem nI:za.zero= .agg (aW gL ⟨none,0,0,none,0,0,none,0,0,[]⟩).toArray:=by kernel_rfl
theorem dB (w:World) (g:Nat) (x:Rs) (m:Mm) (hS0:St w (ar (mP g x m)) (mP g x m) w) (A1:Option Addr) (c1:Nat) (s:Ms) (q:Mp) (hs:Rd w (fun k=> ¬ ar (mP g x m) k) 12 A1 1 (aW s q)) (hl:m.S.length≤1000):
  Gives Tryz.prog 113 [.pointer (some ⟨g,0,none⟩),.slice A1 1 c1] (mP g x m) w (X:=Option Addr×Nat) (fun _=> .tuple #[]) (fun _=>True) (fun y=>mP g x (bT x m (s,q) y.1 y.2)):=by
 refine bO Tryz.func113 O Tryz.ntmps113 Tryz.results113 (by simp) hS0 (fun B hE hB=>?_)
 have hne:A1≠none:=by obtain⟨ad,e,_⟩:=hs.2 (by omega);rw[e];simp
 have hat: ∀ e v,(aW s q)[e]? =some v→(aW s q)[0*12+e]? =some v:=fun e v h=>by rw[Nat.zero_mul,Nat.zero_add];exact h
 focus (refine qs ?_;(iterate 3 refine qp ?_);refine qz ?_;refine qb ?_)
 refine bV (X:=Nat×Mm) (fun z=>[(0,.pointer (some ⟨g,0,none⟩)),(6,.slice A1 1 c1),(7,.int .i64 ((1:Nat):Int)),(8,.int .i64 (z.1:Int))]) (fun z=>mP g x z.2) (fun z=>(z.1=0∧z.2=m)∨(z.1=1∧ ∃ A c,z.2=bT x m (s,q) A c)) (fun z=>1-z.1) O (0,m) (.inl ⟨O,O⟩) (Sub.cons O (Sub.cons O (Sub.cons O (Sub.cons O Sub.nil)))) ae ?_
 rintro⟨j,m'⟩ hj J hJ
 dsimp only at hj ⊢
 rcases hj with⟨rfl,rfl⟩|⟨rfl,A',c',rfl⟩
 ·skip
  focus (refine qs ?_;refine qd ?_;refine qz ?_;refine qq ?_;refine qT ?_;refine qx ?_;refine qq ?_;refine qb ?_;refine qs ?_;refine qt (bH (sz:=12) (q:=0) O O O O O O hne (by omega)) ?_;refine qt (cw (ds:=aW s q) O O O (Srd.old hs (fun k hk=>hk)) O (by omega) hat) ?_;(refine qe (am O nI) ?_;rintro _ _ ⟨b5,rfl,rfl⟩);(refine qw (aj (cs:=aW gL ⟨none,0,0,none,0,0,none,0,0,[]⟩) (ds:=aW s q) O O O O (gP _ _) O) ?_;rintro _ _ rfl);refine qn ?_;refine qp ?_;refine qt (ac O) ?_;refine qp ?_;refine qp ?_;refine qt (ah O O O O) ?_;refine qp ?_;(refine qw (aw (cs:=aW s q) (cs':=aW (eE x s) q) O O O O O O (by show _<12;omega)) ?_;rintro _ _ rfl);refine qz ?_)
  refine dS [pt b5 65 (aW (eE x s) q),pt g 89 (aD x m')] 11 ?_
  refine dp 0 ?_
  refine dp 1 ?_
  refine dt 2 O (ac O) ?_
  refine dp 3 ?_
  refine dl 4 ?_
  refine dt 5 O (ai (ds:=aW (eE x s) q) O O O O O) ?_
  refine dE 6 O (cK (vs:=[.agg (aW (eE x s) q).toArray]) (size:=12) (ds:=aW (eE x s) q) O O O O O O (by simp[aV,dZ]) O (by omega)) ?_
  rintro _ _ ⟨vb,rfl,rfl⟩
  refine nx ?_
  refine dE 7 O (gd (sz:=12) (m:=m'.S.length) (c:=m'.sc) (A:=m'.sA) O O O O O O O (by decide) (Srd.pt (n:=1) (g:=vb) (ds:=aW (eE x s) q) O (fun j u hj=>by rw[Nat.zero_add];exact hj)) (gP _ _) (by show (m'.S.length+1)*144≤_;omega) (by unfold maxLen;omega)) ?_
  rintro _ _ ⟨A7,c7,rfl,rfl⟩
  refine nx ?_
  refine dt 8 O (ac O) ?_
  refine dp 9 ?_
  refine dE 10 O (aw (cs:=aD x m') (cs':=aD x (bT x m' (s,q) A7 c7)) O O O O O (by simp[aD,bT,aZ]) (by show _<16;omega)) ?_
  rintro _ _ rfl
  refine dV ?_
  refine dn ?_
  skip
  focus (refine aK ?_;refine qr ?_;refine qt (aI O O (by unfold aH;omega)) ?_;refine qp ?_;refine qz ?_)
  refine hJ (1,bT x m' (s,q) A7 c7) _ _ (.inr ⟨O,A7,c7,O⟩) (Sub.cons O (Sub.cons O (Sub.cons O (Sub.cons O Sub.nil)))) (fun w' hS=>?_) (by dsimp only;omega)
  have h1:=ae (H':=[pt g 89 (aD x (bT x m' (s,q) A7 c7)),row 3 1 m'.p.vA m'.p.vn m'.p.vc (x.votes.map zv),row 112 3 m'.p.pA m'.p.pn m'.p.pc (ab bp x.peers),row 65 12 A7 (m'.S.length+1) c7 (ab bK m'.S++aW (eE x s) q)]) w' hS
  have e1:ab bK (bT x m' (s,q) A7 c7).S=ab bK m'.S++aW (eE x s) q:=by
   show ab bK (m'.S++[(eE x s,q)])=_
   rw[dC,fI]
   rfl
  have e2:(bT x m' (s,q) A7 c7).S.length=m'.S.length+1:=by
   show (m'.S++[(eE x s,q)]).length=_
   rw[List.length_append]
   rfl
  show St _ _ [pt g 89 (aD x (bT x m' (s,q) A7 c7)),row 3 1 m'.p.vA m'.p.vn m'.p.vc (x.votes.map zv),row 112 3 m'.p.pA m'.p.pn m'.p.pc (ab bp x.peers),row 65 12 A7 (bT x m' (s,q) A7 c7).S.length c7 (ab bK (bT x m' (s,q) A7 c7).S)] w'
  rw[e1,e2]
  exact h1
 ·skip
  focus (refine qs ?_;refine qf ?_;refine qz ?_;refine qq ?_;refine qF ?_;refine bE O O ?_)
  first
  |exact hE _ _ fun w' hS=>⟨(A',c'),trivial,ae w' hS⟩
  |exact hB _ _ _ _ O fun w' hS=>⟨(A',c'),trivial,ae w' hS⟩
theorem gR (w:World) (g:Nat):
  Gives Tryz.prog 57 [.pointer (some ⟨g,0,none⟩)] [] w (X:=Nat) (fun b=> .func (.func 132) #[] [Value.pointer (some ⟨b,0,none⟩)].toArray) (fun _=>True) (fun b=>[pt b 87 [.pointer (some ⟨g,0,none⟩)]]):=by
 refine aP Tryz.func57 O Tryz.ntmps57 Tryz.results57 (by simp) (St.enter w) (fun B hB=>?_)
 focus (refine qs ?_;(refine qe (fo (v:= .pointer (some ⟨g,0,none⟩)) O O) ?_;rintro _ _ ⟨b1,rfl,rfl⟩);refine qp ?_;refine qn ?_;refine qt (gV O O) ?_;refine qp ?_;refine qz ?_)
 exact hB _ _ _ _ _ O O fun w' hS=>⟨b1,O,trivial,ae (H':=[pt b1 87 [.pointer (some ⟨g,0,none⟩)]]) w' hS⟩
def jj (p:Pe→Bool) (L:List Pe):Int:=if L.all (fun x=> !p x) then-1 else (L.findIdx p:Nat)
theorem md (w:World) (A:Option Addr) (n c f:Nat) (cap:List Value) (L:List Pe) (p:Pe→Bool) (h:Rd w bC 3 A n (ab bp L)) (hn:n≤100000) (hf:Fn_ Tryz.prog f)
  (hp: ∀ w',Kp bC w w'→ ∀ x∈L,Gives Tryz.prog f (.agg (bp x).toArray::cap) [] w' (X:=Unit) (fun _=> .bool (p x)) (fun _=>True) (fun _=>[])):
  Gives Tryz.prog 133 [.slice A n c,.func (.func f) #[] cap.toArray] [] w (X:=Unit) (fun _=>zi (jj p L)) (fun _=>True) (fun _=>[]):=by
 refine aP Tryz.func133 O Tryz.ntmps133 Tryz.results133 (by simp) (St.enter w) (fun B hB=>?_)
 have hl:L.length=n:=by have:=h.1;rw[eV d2] at this;omega
 have hne:0<n→A≠none:=fun h0=>by obtain⟨ad,rfl,_⟩:=h.2 (by omega);simp
 subst hl
 focus (refine qs ?_;refine qp ?_;refine qz ?_;refine qq ?_;refine qs ?_;(iterate 3 refine qp ?_);refine qz ?_;refine qb ?_)
 refine bV (X:=Nat) (fun j=>[(0,.slice A L.length c),(1,.func (.func f) #[] cap.toArray),(7,.int .i64 (L.length:Int)),(8,.int .i64 (j:Int))]) (fun _=>[]) (fun j=>j≤L.length∧(L.take j).all (fun x=> !p x)=true) (fun j=>L.length-j) O 0 ⟨Nat.zero_le _,O⟩ (Sub.cons O (Sub.cons O (Sub.cons O (Sub.cons O Sub.nil)))) (fun _ h=>h) ?_
 rintro j ⟨hj,hok⟩ J hJ
 rcases Nat.lt_or_ge j L.length with hjl|hjl
 ·have hne:=hne (by omega)
  have hat:=bi (f:=bp) d2 L default j hjl
  have hmem:L.getD j default∈L:=by simp[List.getD,hjl]
  have htk:L.take (j+1)=L.take j++[L.getD j default]:=by rw[List.take_succ_eq_append_getElem hjl];simp[List.getD,hjl]
  have hsp:L=L.take j++L.getD j default::L.drop (j+1):=by
   conv=>lhs;rw[← List.take_append_drop j L,List.drop_eq_getElem_cons hjl]
   simp[List.getD,hjl]
  obtain⟨x,hx⟩: ∃ x,L.getD j default=x:=⟨_,O⟩
  rw[hx] at hat hmem htk hsp
  obtain⟨r,hr⟩: ∃ r,p x=r:=⟨_,O⟩
  cases r
  ·focus (refine qs ?_;refine qd ?_;refine qz ?_;refine qq ?_;refine qT ?_;refine qx ?_;refine qq ?_;refine qb ?_;refine qs ?_;refine qp ?_;refine qp ?_;refine qn ?_;(iterate 3 refine qp ?_);refine qt (bH (sz:=3) O O O O O O hne hjl) ?_;refine qt (cw (ds:=bp x) O O O (Srd.old h (fun k _=>ao k)) O (by omega) hat) ?_;(refine qe (d4 (cap:=cap) O (gG hf (fK _ _ (.agg (bp x).toArray) O cap) (fun w' hS=>hp w' hS.kpO x hmem) (fun _=>O))) ?_;rintro _ _ ⟨_,rfl,_,rfl⟩;rw[hr]);refine qz ?_;refine qF ?_;refine qx ?_;refine aK ?_;refine qr ?_;refine qt (aI O O (by unfold aH;omega)) ?_;refine qp ?_;refine qz ?_)
   exact hJ (j+1) _ _ ⟨by omega,by rw[htk,List.all_append,hok];simp[hr]⟩ (Sub.cons O (Sub.cons O (Sub.cons O (Sub.cons O Sub.nil)))) (fun _ h=>h) (by omega)
  ·focus (refine qs ?_;refine qd ?_;refine qz ?_;refine qq ?_;refine qT ?_;refine qx ?_;refine qq ?_;refine qb ?_;refine qs ?_;refine qp ?_;refine qp ?_;refine qn ?_;(iterate 3 refine qp ?_);refine qt (bH (sz:=3) O O O O O O hne hjl) ?_;refine qt (cw (ds:=bp x) O O O (Srd.old h (fun k _=>ao k)) O (by omega) hat) ?_;(refine qe (d4 (cap:=cap) O (gG hf (fK _ _ (.agg (bp x).toArray) O cap) (fun w' hS=>hp w' hS.kpO x hmem) (fun _=>O))) ?_;rintro _ _ ⟨_,rfl,_,rfl⟩;rw[hr]);refine qz ?_;refine qT ?_;refine qs ?_;refine qp ?_;refine qp ?_;refine qz ?_)
   refine hB _ _ _ _ _ O O fun w' hS=>⟨(),?_,trivial,hS.sublist (List.nil_sublist _)⟩
   show Value.int _ _=Value.int _ _
   congr 1
   have h1: ¬ L.all (fun x=> !p x)=true:=by
    rw[List.all_eq_true]
    intro h
    have:=h x hmem
    rw[hr] at this
    cases this
   rw[jj,if_neg h1,hsp,List.findIdx_append]
   have h2:(L.take j).findIdx p=(L.take j).length:=by
    rw[List.findIdx_eq_length]
    intro y hy
    have:=List.all_eq_true.1 hok y hy
    simpa using this
   rw[h2,if_neg (Nat.lt_irrefl _),List.findIdx_cons,hr]
   simp
   omega
 have hjn:j=L.length:=by omega
 subst hjn
 rw[List.take_length] at hok
 focus (refine qs ?_;refine qf ?_;refine qz ?_;refine qq ?_;refine qF ?_;refine bE O O ?_;refine qs ?_;refine qp ?_;refine qz ?_)
 refine hB _ _ _ _ _ O O fun w' hS=>⟨(),?_,trivial,hS.sublist (List.nil_sublist _)⟩
 rw[jj,if_pos hok]
 rfl
theorem m5 (w:World) (b:Nat) (p:Pe) (who:Int) (hb:Rd w bC 1 (some ⟨b,0,none⟩) 1 [.int .i64 who]):
  Gives Tryz.prog 134 [.agg (bp p).toArray,.pointer (some ⟨b,0,none⟩)] [] w (X:=Unit) (fun _=> .bool (decide (p.1=who))) (fun _=>True) (fun _=>[]):=by
 refine aP Tryz.func134 O Tryz.ntmps134 Tryz.results134 (by simp) (St.enter w) (fun B hB=>?_)
 obtain⟨a1,a2,a3⟩:=p
 focus (refine qs ?_;(refine qe (ap (cs:=bp (a1,a2,a3)) O) ?_;rintro _ _ ⟨b2,rfl,rfl⟩);refine qp ?_;refine qn ?_;refine qp ?_;refine qt (ah O O O O) ?_;refine qt (cB (v:= .int .i64 who) O O O hb (fun k _=>ao k) O) ?_;refine qp ?_;refine qp ?_;refine qz ?_)
 exact hB _ _ _ _ _ O O (qE O)
theorem jz {l:List Pe} {who:Int} (h:l.find? (fun p=>decide (p.1=who))=none):jj (fun p=>decide (p.1=who)) l= -1:=by
 rw[jj,if_pos]
 rw[List.all_eq_true]
 intro p hp
 have:=List.find?_eq_none.1 h p hp
 simpa using this
theorem jA {l:List Pe} {who:Int} {q:Pe} (h:l.find? (fun p=>decide (p.1=who))=some q): ∃ i,i<l.length∧jj (fun p=>decide (p.1=who)) l=(i:Int)∧l.getD i default=q∧l.findIdx (fun p=>decide (p.1=who))=i:=by
 have hq:=List.find?_some h
 have hm:=List.mem_of_find?_eq_some h
 have hlt:l.findIdx (fun p=>decide (p.1=who))<l.length:=List.findIdx_lt_length_of_exists ⟨q,hm,hq⟩
 refine⟨_,hlt,?_,?_,O⟩
 ·rw[jj,if_neg]
  rw[List.all_eq_true]
  intro h2
  have:=h2 q hm
  rw[hq] at this
  cases this
 ·have h3:l.find? (fun p=>decide (p.1=who))=l[l.findIdx (fun p=>decide (p.1=who))]? :=List.find?_eq_getElem?_findIdx
  rw[h3,List.getElem?_eq_getElem hlt] at h
  simp only[Option.some.injEq] at h
  simp[List.getD,hlt,h]
def rS (x:Rs) (m:Mm) (who:Int):Option Addr:=if 0≤jj (fun p=>decide (p.1=who)) x.peers then pa m.p.pA ((jj (fun p=>decide (p.1=who)) x.peers).toNat*3) else none
theorem gi (w:World) (g:Nat) (x:Rs) (m:Mm) (hb:tW w g x m) (h:Rd w bC 3 m.p.pA m.p.pn (ab bp x.peers)) (hl:x.peers.length=m.p.pn) (hn:m.p.pn≤900) (who:Int) (P:Option Addr) (hP:rS x m who=P):
  Gives Tryz.prog 58 [.pointer (some ⟨g,0,none⟩),.int .i64 who] [] w (X:=Unit) (fun _=> .pointer P) (fun _=>True) (fun _=>[]):=by
 refine aP Tryz.func58 O Tryz.ntmps58 Tryz.results58 (by simp) (St.enter w) (fun B hB=>?_)
 obtain⟨ix,hix⟩: ∃ i,jj (fun p=>decide (p.1=who)) x.peers=i:=⟨_,O⟩
 have hbd:ix<(x.peers.length:Int):=by
  rw[← hix,jj]
  split
  ·omega
  ·rename_i h2
   have:x.peers.findIdx (fun p=>decide (p.1=who))<x.peers.length:=by
    refine Nat.lt_of_le_of_ne List.findIdx_le_length fun e=>h2 ?_
    rw[List.all_eq_true]
    intro p hp
    have:=List.findIdx_eq_length.1 e p hp
    simpa using this
   omega
 rw[rS,hix] at hP
 by_cases h0:ix<0
 ·rw[if_neg (by omega)] at hP
  subst hP
  focus (refine qs ?_;(refine qe (fo (v:= .int .i64 who) O O) ?_;rintro _ _ ⟨b3,rfl,rfl⟩);refine qp ?_;refine qn ?_;refine qp ?_;refine qt (ac O) ?_;refine qp ?_;refine qp ?_;refine qt (cB (F:=bC) (m:=16) O O O hb (fun k _=>ao k) O) ?_;refine qt (gV O O) ?_;(refine qe (aq (f:=133) DE (fun w' hS=>md w' m.p.pA m.p.pn m.p.pc 134 [.pointer (some ⟨b3,0,none⟩)] x.peers (fun p=>decide (p.1=who)) (h.keep hS.kpO) (by omega) DF (fun w2 hk p hp=>m5 w2 b3 p who (Rd.keep (nv (b:=b3) (t:=3) (L:=[]) (M:=ar []) hS O trivial) hk))) O O (fun _=>O)) ?_;rintro _ _ ⟨_,rfl,_,rfl⟩;rw[hix]);refine qp ?_;refine qz ?_;refine qq ?_;refine qs ?_;refine qp ?_;refine qd ?_;refine qz ?_;refine qT ?_;refine qs ?_;refine qp ?_;refine qz ?_)
  exact hB _ _ _ _ _ O O (qE O)
 ·rw[if_pos (by omega)] at hP
  subst hP
  have hne:m.p.pA≠none:=by obtain⟨ad,e,_⟩:=h.2 (by omega);rw[e];simp
  obtain⟨i,rfl⟩: ∃ i:Nat,ix=(i:Int):=⟨ix.toNat,by omega⟩
  rw[Int.toNat_natCast] at hB
  focus (refine qs ?_;(refine qe (fo (v:= .int .i64 who) O O) ?_;rintro _ _ ⟨b3,rfl,rfl⟩);refine qp ?_;refine qn ?_;refine qp ?_;refine qt (ac O) ?_;refine qp ?_;refine qp ?_;refine qt (cB (F:=bC) (m:=16) O O O hb (fun k _=>ao k) O) ?_;refine qt (gV O O) ?_;(refine qe (aq (f:=133) DE (fun w' hS=>md w' m.p.pA m.p.pn m.p.pc 134 [.pointer (some ⟨b3,0,none⟩)] x.peers (fun p=>decide (p.1=who)) (h.keep hS.kpO) (by omega) DF (fun w2 hk p hp=>m5 w2 b3 p who (Rd.keep (nv (b:=b3) (t:=3) (L:=[]) (M:=ar []) hS O trivial) hk))) O O (fun _=>O)) ?_;rintro _ _ ⟨_,rfl,_,rfl⟩;rw[hix]);refine qp ?_;refine qz ?_;refine qq ?_;refine qs ?_;refine qp ?_;refine qf ?_;refine qz ?_;refine qF ?_;refine qx ?_;refine qs ?_;refine qp ?_;refine qt (ac O) ?_;refine qp ?_;refine qp ?_;refine qt (cB (F:=bC) (m:=16) O O O hb (fun k _=>ao k) O) ?_;refine qp ?_;refine qt (bH (sz:=3) (q:=i) O O O O O O hne (by omega)) ?_;refine qp ?_;refine qz ?_)
  exact hB _ _ _ _ _ O O (qE O)
theorem zS (ms:List Int) (p:Int→Bool) (j:Nat) (hj:j<ms.length) (hp:p (ms.getD j 0)=true):((ms.take j).filter p).length<(ms.filter p).length∧((ms.filter p).map fun n=>[zv n]).getD ((ms.take j).filter p).length []=[zv (ms.getD j 0)]:=by
 have e:ms=ms.take j++ms.getD j 0::ms.drop (j+1):=by
  conv=>lhs;rw[← List.take_append_drop j ms,List.drop_eq_getElem_cons hj]
  simp[List.getD,hj]
 obtain⟨u,hu⟩: ∃ u,ms.getD j 0=u:=⟨_,O⟩
 obtain⟨a,ha⟩: ∃ u,ms.take j=u:=⟨_,O⟩
 obtain⟨b,hb⟩: ∃ u,ms.drop (j+1)=u:=⟨_,O⟩
 rw[hu,ha,hb] at e
 rw[hu] at hp
 rw[hu,ha,e,List.filter_append,List.filter_cons,if_pos hp]
 refine⟨by rw[List.length_append,List.length_cons];omega,?_⟩
 rw[List.map_append,List.getD,List.getElem?_append_right (by simp)]
 simp
theorem vI (ms:List Int) (p:Int→Bool) (j:Nat) (hj:j<ms.length):((ms.take (j+1)).filter p).length=((ms.take j).filter p).length+(if p (ms.getD j 0)=true then 1 else 0):=by
 have e:ms.take (j+1)=ms.take j++[ms.getD j 0]:=by rw[List.take_succ_eq_append_getElem hj];simp[List.getD,hj]
 rw[e,List.filter_append,List.length_append,List.filter_cons]
 split
 ·rfl
 ·rfl
theorem gr (w:World) (g bm:Nat) (x:Rs) (m:Mm) (D:Kw) (hm: ∀ w',D w'→LgR w' x m.p) (hbm: ∀ w':World,D w'→w'.cell? ⟨bm,0,none⟩=some (.pointer (some ⟨g,0,none⟩))) (ms:List Int) (hms:aJ x=ms) (hk:ms.length≤100000):
  yM Tryz.prog 132 [.pointer (some ⟨bm,0,none⟩)] D (fun w'=>tW w' g x m) (fun w'=>w'.cell? ⟨g,0,none⟩=some (.int .i64 x.me)) ((ms.filter fun n=> !decide (n=x.me)).map fun n=>[zv n]) w:=by
 intro l X Z I S x0 h0 hS hDZ hR0 hR hy
 refine bO Tryz.func132 O Tryz.ntmps132 Tryz.results132 (by simp) hS (fun B hE hB=>?_)
 obtain⟨p,hp⟩: ∃ p:Int→Bool,p=fun n=> !decide (n=x.me):=⟨_,O⟩
 rw[← hp] at hy hE hB
 rw[List.length_map] at hy hE hB
 focus (refine qs ?_;refine qt (cT O O O (fun w1 hS1=>hbm w1 (hDZ.at_ hS1))) ?_;(refine qe (bB (f:=43) pk (fun w1 hS1=>du w1 g x m (hR0 w1 (hS1.at_ (A:=Z x0) (by simp))) D (hDZ.call0 hS1) hm ms hms) O O (fun _=>O)) ?_;rintro _ _ ⟨⟨⟨A3,K3,c3⟩,Z3⟩,rfl,hI3,rfl⟩);refine qt (cW (xs:=[.slice A3 ms.length c3]) O O O O O O) ?_;refine qp ?_;refine qp ?_;refine qz ?_;refine qb ?_)
 dsimp only at hI3
 refine iI (p:=0<ms.length→A3≠none) (fun w1 hS1=>fun h3=>by obtain⟨ad,e,_⟩:=(hI3 w1 ⟨hDZ.at_ hS1,hS1.at_ (A:=Z3) (by simp)⟩).2 h3;rw[e];simp) fun hne=>?_
 refine bV (X:=Nat×X) (fun z=>[(0,.func (.yield l) #[] #[]),(1,.pointer (some ⟨bm,0,none⟩)),(7,.slice A3 ms.length c3),(8,.int .i64 (ms.length:Int)),(9,.int .i64 (z.1:Int))]) (fun z=>[Z z.2,Z3]) (fun z=>z.1≤ms.length∧I ((ms.take z.1).filter p).length z.2) (fun z=>ms.length-z.1) O (0,x0) ⟨Nat.zero_le _,h0⟩ (Sub.cons O (Sub.cons O (Sub.cons O (Sub.cons O (Sub.cons O Sub.nil))))) ae ?_
 rintro⟨j,y⟩ ⟨hj,hI⟩ J hJ
 dsimp only at hj hI ⊢
 rcases Nat.lt_or_ge j ms.length with hjl|hjl
 ·have hne:=hne (by omega)
  have hat:=iW (l:=ms) (j:=j) hjl
  have hnx:=vI ms p j hjl
  have hfa:=zS ms p j hjl
  obtain⟨u,hu⟩: ∃ u,ms.getD j 0=u:=⟨_,O⟩
  rw[hu] at hat hnx hfa
  have hyj:=hy ((ms.take j).filter p).length y
  by_cases hum:u=x.me
  ·have hpu:p u=false:=by rw[hp];simp[hum]
   rw[hpu,if_neg Bool.false_ne_true,Nat.add_zero] at hnx
   focus (refine qs ?_;refine qd ?_;refine qz ?_;refine qq ?_;refine qT ?_;refine qx ?_;refine qq ?_;refine qb ?_;refine qs ?_;refine qt (fS O O O O O O hne hjl) ?_;refine qt (bN (v:=zv u) O O O (Srd.kn (Z:=Z3) hDZ hI3) (by omega) hat) ?_;refine qp ?_;refine qn ?_;refine qp ?_;refine qt (cT O O O (fun w1 hS1=>hbm w1 (hDZ.at_ hS1))) ?_;refine qt (ac O) ?_;refine qp ?_;refine qp ?_;refine qt (cT O O O (fun w1 hS1=>hR _ y w1 hI (hS1.at_ (A:=Z y) (by simp)))) ?_;refine qf ?_;refine qp ?_;(iterate 4 refine qk ?_);refine qp ?_;refine qz ?_;refine qF ?_;refine qx ?_;refine aK ?_;refine qr ?_;refine qt (aI O O (by unfold aH;omega)) ?_;refine qp ?_;refine qz ?_)
   exact hJ (j+1,y) _ _ ⟨by show j+1≤_;omega,by dsimp only;rw[hnx];exact hI⟩ (Sub.cons O (Sub.cons O (Sub.cons O (Sub.cons O (Sub.cons O Sub.nil))))) ae (by show ms.length-(j+1)<_;omega)
  ·have hpu:p u=true:=by rw[hp];simp[hum]
   rw[hpu,if_pos O] at hnx
   obtain⟨hlt,hge⟩:=hfa hpu
   rw[hge] at hyj
   focus (refine qs ?_;refine qd ?_;refine qz ?_;refine qq ?_;refine qT ?_;refine qx ?_;refine qq ?_;refine qb ?_;refine qs ?_;refine qt (fS O O O O O O hne hjl) ?_;refine qt (bN (v:=zv u) O O O (Srd.kn (Z:=Z3) hDZ hI3) (by omega) hat) ?_;refine qp ?_;refine qn ?_;refine qp ?_;refine qt (cT O O O (fun w1 hS1=>hbm w1 (hDZ.at_ hS1))) ?_;refine qt (ac O) ?_;refine qp ?_;refine qp ?_;refine qt (cT O O O (fun w1 hS1=>hR _ y w1 hI (hS1.at_ (A:=Z y) (by simp)))) ?_;refine qd ?_;(iterate 3 refine qp ?_);(refine qe (ns (A:=Z y) (Z:=Z) (I1:=I (((ms.take j).filter p).length+1)) (S1:=S ((ms.take j).filter p).length) (fun w' hS=>hyj w' hI hlt (hS.sublist (by simp))) O O O) ?_;rintro _ _ ⟨y2,bb,rfl,hy1,hy2,rfl⟩;cases bb);refine qt (aR O) ?_;refine qp ?_;refine qz ?_;refine qT ?_;rotate_left;refine qt (aR O) ?_;refine qp ?_;refine qz ?_;refine qF ?_;refine qx ?_;refine aK ?_;refine qr ?_;refine qt (aI O O (by unfold aH;omega)) ?_;refine qp ?_;refine qz ?_;rotate_left)
   ·skip
    exact hB _ _ _ _ O fun w' hS=>⟨(y2,some ((ms.take j).filter p).length),⟨hlt,hy2 O⟩,ae (H':=[Z y2]) w' hS⟩
   ·skip
    exact hJ (j+1,y2) _ _ ⟨by show j+1≤_;omega,by dsimp only;rw[hnx];exact hy1 O⟩ (Sub.cons O (Sub.cons O (Sub.cons O (Sub.cons O (Sub.cons O Sub.nil))))) ae (by show ms.length-(j+1)<_;omega)
 have hjn:j=ms.length:=by omega
 subst hjn
 rw[List.take_length] at hI
 focus (refine qs ?_;refine qf ?_;refine qz ?_;refine qq ?_;refine qF ?_;refine bE O O ?_)
 first
 |exact hE _ _ fun w' hS=>⟨(y,none),hI,ae w' hS⟩
 |exact hB _ _ _ _ O fun w' hS=>⟨(y,none),hI,ae w' hS⟩
def be (m:Mm) (y:List (Ms×Mp)×Option Addr×Nat):Mm:=⟨m.p,m.S++y.1,y.2.1,y.2.2,m.i⟩
theorem oO {a:At} {l:List En} {idx:Nat} {n:Int} {e:Int} {p:At} {r:List En} (h:frm a l idx n=(e,p,r)):r.length≤l.length∧ ∀ x∈r,x∈l:=by
 unfold frm at h
 split at h
 ·split at h
  ·injection h with _ e2
   injection e2 with _ e3
   subst e3
   exact⟨Nat.zero_le _,fun x hx=>absurd hx (by simp)⟩
  ·split at h
   ·injection h with _ e2
    injection e2 with _ e3
    subst e3
    exact⟨Nat.zero_le _,fun x hx=>absurd hx (by simp)⟩
   ·injection h with _ e2
    injection e2 with _ e3
    subst e3
    exact⟨by rw[List.length_take,List.length_drop];omega,fun x hx=>List.mem_of_mem_drop (List.mem_of_mem_take hx)⟩
 ·injection h with _ e2
  injection e2 with _ e3
  subst e3
  exact⟨Nat.zero_le _,fun x hx=>absurd hx (by simp)⟩
theorem iw {w:World} {F:Nat→Prop} {A:Option Addr} {xs:List Value} (h:Rd w F 1 A 12 xs):Rd w F 12 A 1 xs:=⟨h.1,fun _=>h.2 (by omega)⟩
theorem ti (who:Int) (t:Nat) (b:At) (A:Option Addr) (n c:Nat):Tryz.prog.built 65 [(0,.int .i64 7),(2,.int .i64 who),(3,.int .u64 (t:Int)),(4,.agg (aO b).toArray),(9,.agg [Value.slice A n c].toArray)]=some (aW ⟨7,0,who,t,b,[],0,false,0,[],[]⟩ ⟨none,0,0,A,n,c,none,0,0,[]⟩).toArray:=by kernel_rfl
theorem tj (who:Int) (t cm:Nat) (b:At) (A:Option Addr) (n c:Nat):Tryz.prog.built 65 [(0,.int .i64 5),(2,.int .i64 who),(3,.int .u64 (t:Int)),(4,.agg (aO b).toArray),(5,.slice A n c),(6,.int .u64 (cm:Int))]=some (aW ⟨5,0,who,t,b,[],cm,false,0,[],[]⟩ ⟨A,n,c,none,0,0,none,0,0,[]⟩).toArray:=by kernel_rfl
section
variable {n:Nat} {w0:World} {M:Nat→Prop} {T:aF} {H:List Asn} {dd:Option Tmp} {tt:TypeId} {pos:String} {af:Array Edge} {g:Option (Nat×Bool)} {P:Program}
theorem lm [HasTab P] {x y:Operand} {s e u:TypeId} {p:Option Addr} {i:Ti} {r:Bool} (hx:az T x=some (.pointer p)) (hy:az T y=some (.pointer none)) (hs:ty P s=some i) (hi:i.desc= .pointer e) (hr:p.isNone=r):
  Tk P n w0 M T H ⟨dd,.binOp .eql s x y u,tt,pos,af,g⟩ (.bool r):= .mk fun a w ha hS=>by
 have hu:P.underlying s=some (.pointer e):=hi▸cH hs
 have h3:=run_eql_pointer_nil (P:=P) w s p (by rw[hu,Program.pointee,hu])
 rw[hr] at h3
 simp[execOp,ha.eval hx,ha.eval hy,eqGuard,h3]
theorem lp [HasTab P] {x y:Operand} {s e u:TypeId} {p:Option Addr} {i:Ti} {r:Bool} (hx:az T x=some (.pointer p)) (hy:az T y=some (.pointer none)) (hs:ty P s=some i) (hi:i.desc= .pointer e) (hr:(!p.isNone)=r):
  Tk P n w0 M T H ⟨dd,.binOp .neq s x y u,tt,pos,af,g⟩ (.bool r):= .mk fun a w ha hS=>by
 have hu:P.underlying s=some (.pointer e):=hi▸cH hs
 have h3:=run_neq_pointer_nil (P:=P) w s p (by rw[hu,Program.pointee,hu])
 rw[hr] at h3
 simp[execOp,ha.eval hx,ha.eval hy,eqGuard,h3]
theorem jk {s:TypeId} {j1 j2 j3 j4 j5:Nat} {x1 x2 x3 x4 x5:Operand} {u1 u2 u3 u4 u5:Value} {cs:Array Value} (h1:az T x1=some u1) (h2:az T x2=some u2) (h3:az T x3=some u3) (h4:az T x4=some u4) (h5:az T x5=some u5) (hb:P.built s [(j1,u1),(j2,u2),(j3,u3),(j4,u4),(j5,u5)]=some cs):
  Tk P n w0 M T H ⟨dd,.build s #[(j1,x1),(j2,x2),(j3,x3),(j4,x4),(j5,x5)],tt,pos,af,g⟩ (.agg cs):= .mk fun a w ha hS=>by
 have hr:=run_build (P:=P) w s #[(j1,u1),(j2,u2),(j3,u3),(j4,u4),(j5,u5)] cs (by simpa using hb)
 simp only[execOp,List.map_toArray,List.map_cons,List.map_nil,ha.eval h1,ha.eval h2,ha.eval h3,ha.eval h4,ha.eval h5,Sem.run_bind,hr,Result.andThen_ok,Sem.run_pure]
theorem vJ {s:TypeId} {j1 j2 j3 j4 j5 j6:Nat} {x1 x2 x3 x4 x5 x6:Operand} {u1 u2 u3 u4 u5 u6:Value} {cs:Array Value} (h1:az T x1=some u1) (h2:az T x2=some u2) (h3:az T x3=some u3) (h4:az T x4=some u4) (h5:az T x5=some u5) (h6:az T x6=some u6) (hb:P.built s [(j1,u1),(j2,u2),(j3,u3),(j4,u4),(j5,u5),(j6,u6)]=some cs):
  Tk P n w0 M T H ⟨dd,.build s #[(j1,x1),(j2,x2),(j3,x3),(j4,x4),(j5,x5),(j6,x6)],tt,pos,af,g⟩ (.agg cs):= .mk fun a w ha hS=>by
 have hr:=run_build (P:=P) w s #[(j1,u1),(j2,u2),(j3,u3),(j4,u4),(j5,u5),(j6,u6)] cs (by simpa using hb)
 simp only[execOp,List.map_toArray,List.map_cons,List.map_nil,ha.eval h1,ha.eval h2,ha.eval h3,ha.eval h4,ha.eval h5,ha.eval h6,Sem.run_bind,hr,Result.andThen_ok,Sem.run_pure]
end
theorem bJ {w0 w:World} {M:Nat→Prop} {H:List Asn} {g:Nat} {x:Rs} {m:Mm} (hS:St w0 M H w) (hm:pt g 89 (aD x m)∈H):tW w g x m:=lk (hS.at_ hm)
theorem kK (w:World) (g:Nat) (x:Rs) (m:Mm) (hS0:St w (ar (mP g x m)) (mP g x m) w) (D:Kw) (hD:Kd D (mP g x m) w) (h: ∀ w',D w'→McR w' x m) (hl:McL x m) (hpn:m.p.pn≤900) (hu:RsU x) (hS:m.S.length≤900) (who:Int):
  Gives Tryz.prog 60 [.pointer (some ⟨g,0,none⟩),.int .i64 who] (mP g x m) w (X:=(List (Ms×Mp)×Option Addr×Nat)×Asn) (fun _=> .tuple #[]) (fun y=>y.1.1.map Prod.fst=ff x who∧ ∀ w',K2 D y.2 w'→ ∀ s∈y.1.1,MsR w' s.1 s.2) (fun y=>mP g x (be m y.1)++[y.2]):=by
 refine bO Tryz.func60 O Tryz.ntmps60 Tryz.results60 (by simp) hS0 (fun B hE hB=>?_)
 have hlp:=hl.hpn
 have hw:=h w hD.now
 have z1:=hw.lg.hm
 have z2:=hw.lg.hcm
 obtain⟨P,hP⟩: ∃ P,rS x m who=P:=⟨_,O⟩
 have hnm:ff x who=match x.peers.find? (fun p=>decide (p.1=who)) with
  |none=>[]
  |some p=>if p.2.1≤x.base.1 then [{gL with K:=7,F:=x.me,T:=who,tm:=x.term,pl:=x.base,cf:=x.cf}]
   else [{gL with K:=5,F:=x.me,T:=who,tm:=x.term,pl:=(frm x.base x.es p.2.1 8).2.1,es:=(frm x.base x.es p.2.1 8).2.2,cm:=x.commit}]:=rfl
 cases hf:x.peers.find? (fun p=>decide (p.1=who)) with
 |none=>
  rw[hf] at hnm
  obtain rfl:P=none:=by rw[← hP,rS,jz hf];rfl
  focus (refine qs ?_;refine qp ?_;refine qp ?_;refine qh tT (fun w hS=>gi w g x m (bJ hS (by simp)) ((Srd.row (n:=m.p.pn) (c:=m.p.pc)).rd w hS) hlp (by omega) who _ hP) ?_;refine qp ?_;refine qz ?_;refine qq ?_;refine qs ?_;refine qp ?_;refine qt (lm (r:=true) O O O O O) ?_;refine qz ?_;refine qT ?_)
  have hfin: ∀ w',St w (ar (mP g x m)) (mP g x m) w'→ ∃ y:(List (Ms×Mp)×Option Addr×Nat)×Asn,(y.1.1.map Prod.fst=ff x who∧ ∀ w',K2 D y.2 w'→ ∀ s∈y.1.1,MsR w' s.1 s.2)∧St w (ar (mP g x m)) (mP g x (be m y.1)++[y.2]) w':=fun w' hS=>⟨(([],m.sA,m.sc),zN),⟨hnm.symm,fun _ _ s hs=>absurd hs (by simp)⟩,by
   have h1:=(dN hS).perm (List.perm_append_comm (l₁:=[zN]))
   simpa only[be,List.append_nil] using h1⟩
  first
  |exact hE _ _ fun w' hS=>hfin w' (ae w' hS)
  |exact hB _ _ _ _ O fun w' hS=>hfin w' (ae w' hS)
 |some q=>
  rw[hf] at hnm
  obtain⟨i,hil,hix,hgi,_⟩:=jA hf
  obtain rfl:P=pa m.p.pA (i*3):=by rw[← hP,rS,hix,if_pos (by omega)];rfl
  obtain⟨qw,qn,qm⟩:=q
  dsimp only at hnm
  have hat:=bi (f:=bp) d2 x.peers default i hil
  rw[hgi] at hat
  have hat1:(ab bp x.peers)[i*3+1]? =some (.int .u64 (qn:Int)):=hat 1 _ O
  have hqu:=(hu.pe _ (List.mem_of_find?_eq_some hf)).1
  dsimp only at hqu
  have hrow: ∀ w',St w (ar (mP g x m)) (mP g x m) w'→m.p.pA≠none:=fun w' hS=>(ep (hS.at_ (A:=row 112 3 m.p.pA m.p.pn m.p.pc (ab bp x.peers)) (by simp))).2.2.1 (by omega)
  have hne:=hrow w hS0
  obtain⟨AP,hAP⟩: ∃ A,pa m.p.pA (i*3)=some A:=by
   cases hpA:m.p.pA with
   |none=>exact absurd hpA hne
   |some ad=>exact⟨_,O⟩
  by_cases hle:qn≤x.base.1
  ·rw[if_pos hle] at hnm
   focus (refine qs ?_;refine qp ?_;refine qp ?_;refine qh tT (fun w hS=>gi w g x m (bJ hS (by simp)) ((Srd.row (n:=m.p.pn) (c:=m.p.pc)).rd w hS) hlp (by omega) who _ hP) ?_;refine qp ?_;refine qz ?_;refine qq ?_;refine qs ?_;refine qp ?_;refine qt (lm (r:=false) O O O O (by rw[hAP];rfl)) ?_;refine qz ?_;refine qF ?_;refine qx ?_;refine qq ?_;refine qq ?_;(refine dQ 12 ?_;(refine dp 0 ?_);(refine dt 1 O (eW O hne) ?_);(refine dt 2 O (dx O O O O O hne) ?_);(refine dt 3 O (bN (v:= .int .u64 (qn:Int)) O O O (Srd.row (n:=m.p.pn) (c:=m.p.pc)) (by omega) hat1) ?_);(refine dp 4 ?_);(refine dt 5 O (ac O) ?_);(refine dp 6 ?_);(refine dp 7 ?_);(refine dp 8 ?_);(refine dp 9 ?_);(refine dl 10 ?_);(refine cZ 11 ?_);refine dn ?_);refine qT ?_;refine qq ?_)
   refine dS [pt g 89 (aD x m)] 24 ?_
   refine dp 0 ?_
   refine dp 1 ?_
   refine dp 2 ?_
   refine dt 3 O (ac O) ?_
   refine dp 4 ?_
   refine dp 5 ?_
   refine dl 6 ?_
   refine dp 7 ?_
   refine dt 8 O (ac O) ?_
   refine dp 9 ?_
   refine dp 10 ?_
   refine dp 11 ?_
   refine dt 12 O (ai (ds:=aO x.base) O O O O O) ?_
   refine dp 13 ?_
   refine dt 14 O (ac O) ?_
   refine dp 15 ?_
   refine dp 16 ?_
   refine dp 17 ?_
   refine dl 18 ?_
   refine dE 19 O (bB (f:=92) Eg (fun w1 hS1=>C.jt w1 m.p.cA m.p.cn m.p.cc (x.cf.map zv) (h w1 (hD.at_ hS1)).lg.rc (C.kz _) (by omega)) O O (fun _=>O)) ?_
   rintro _ _ ⟨⟨Ac,cc⟩,rfl,_,rfl⟩
   refine nx ?_
   refine dt 20 O (gH O (C.kY _ _ _)) ?_
   refine dt 21 O (jk O O O O O (ti who x.term x.base Ac m.p.cn cc)) ?_
   refine dE 22 O (cK (vs:=[.agg (aW (⟨7,0,who,x.term,x.base,[],0,false,0,x.cf,[]⟩:Ms) (⟨none,0,0,Ac,m.p.cn,cc,none,0,0,[]⟩:Mp)).toArray]) (size:=12) (ds:=aW (⟨7,0,who,x.term,x.base,[],0,false,0,x.cf,[]⟩:Ms) (⟨none,0,0,Ac,m.p.cn,cc,none,0,0,[]⟩:Mp)) O O O O O O (by simp[aV,dZ]) O (by omega)) ?_
   rintro _ _ ⟨vb,rfl,rfl⟩
   refine nx ?_
   refine dE 23 O (fF (f:=113) (mP g x m) (fun(y:Option Addr×Nat)=>mP g x (bT x m ((⟨7,0,who,x.term,x.base,[],0,false,0,x.cf,[]⟩:Ms),(⟨none,0,0,Ac,m.p.cn,cc,none,0,0,[]⟩:Mp)) y.1 y.2)) kT (fun w1 hS1 hS2=>dB w1 g x m hS2 (some ⟨vb,0,none⟩) 1 (⟨7,0,who,x.term,x.base,[],0,false,0,x.cf,[]⟩:Ms) (⟨none,0,0,Ac,m.p.cn,cc,none,0,0,[]⟩:Mp) (iw (dh (b:=vb) (t:=65) (As:=mP g x m) hS1 O)) (by omega)) O O) ?_
   rintro _ _ ⟨⟨AS,cS⟩,rfl,_,rfl⟩;dsimp only[List.cons_append,List.nil_append]
   refine dV ?_
   refine dn ?_
   skip
   skip
   have hfin: ∀ w',St w (ar (mP g x m)) (row 3 1 Ac m.p.cn cc (x.cf.map zv)::mP g x (bT x m ((⟨7,0,who,x.term,x.base,[],0,false,0,x.cf,[]⟩:Ms),(⟨none,0,0,Ac,m.p.cn,cc,none,0,0,[]⟩:Mp)) AS cS)) w'→ ∃ y:(List (Ms×Mp)×Option Addr×Nat)×Asn,(y.1.1.map Prod.fst=ff x who∧ ∀ w',K2 D y.2 w'→ ∀ s∈y.1.1,MsR w' s.1 s.2)∧St w (ar (mP g x m)) (mP g x (be m y.1)++[y.2]) w':=fun w' hS=>⟨(([(eE x (⟨7,0,who,x.term,x.base,[],0,false,0,x.cf,[]⟩:Ms),(⟨none,0,0,Ac,m.p.cn,cc,none,0,0,[]⟩:Mp))],AS,cS),row 3 1 Ac m.p.cn cc (x.cf.map zv)),⟨hnm.symm,fun w2 h2 s hs=>by
    obtain rfl:s=(eE x (⟨7,0,who,x.term,x.base,[],0,false,0,x.cf,[]⟩:Ms),(⟨none,0,0,Ac,m.p.cn,cc,none,0,0,[]⟩:Mp)):=by simpa using hs
    exact⟨O,Nat.zero_le _,O,Rd.none_,fun m hm=>absurd hm (by simp),hw.lg.hcn,by unfold maxLen;show m.p.cn≤_;omega,ce h2.2,Bs.nil _ _,Nat.zero_le _⟩⟩,hS.perm (List.perm_append_comm (l₁:=[row 3 1 Ac m.p.cn cc (x.cf.map zv)]))⟩
   first
   |exact hE _ _ fun w' hS=>hfin w' (ae w' hS)
   |exact hB _ _ _ _ O fun w' hS=>hfin w' (ae w' hS)
  ·rw[if_neg hle] at hnm
   obtain⟨⟨fe,pp,es⟩,hfr⟩: ∃ z,frm x.base x.es qn 8=z:=⟨_,O⟩
   obtain⟨K,hK⟩: ∃ K,es.length=K:=⟨_,O⟩
   rw[hfr] at hnm
   dsimp only at hnm
   have hes: ∀ e∈es,e∈x.es:=(oO hfr).2
   have hKl:K≤1000:=by
    have:=(oO hfr).1
    have:=hw.lg.ln
    omega
   have hidx:qn≤18446744073709551615:=by omega
   focus (refine qs ?_;refine qp ?_;refine qp ?_;refine qh tT (fun w hS=>gi w g x m (bJ hS (by simp)) ((Srd.row (n:=m.p.pn) (c:=m.p.pc)).rd w hS) hlp (by omega) who _ hP) ?_;refine qp ?_;refine qz ?_;refine qq ?_;refine qs ?_;refine qp ?_;refine qt (lm (r:=false) O O O O (by rw[hAP];rfl)) ?_;refine qz ?_;refine qF ?_;refine qx ?_;refine qq ?_;refine qq ?_;(refine dQ 12 ?_;(refine dp 0 ?_);(refine dt 1 O (eW O hne) ?_);(refine dt 2 O (dx O O O O O hne) ?_);(refine dt 3 O (bN (v:= .int .u64 (qn:Int)) O O O (Srd.row (n:=m.p.pn) (c:=m.p.pc)) (by omega) hat1) ?_);(refine dp 4 ?_);(refine dt 5 O (ac O) ?_);(refine dp 6 ?_);(refine dp 7 ?_);(refine dp 8 ?_);(refine dp 9 ?_);(refine dl 10 ?_);(refine eI 11 ?_);refine dn ?_);refine qF ?_;refine qx ?_;refine qq ?_)
   refine eo (X:=Option Addr×Nat×Sh es×Nat) (fun y=>[(0,.pointer (some ⟨g,0,none⟩)),(1,.int .i64 who),(5,.pointer (some ⟨y.2.2.2,0,none⟩)),(6,.slice y.1 K y.2.1)]) (fun y=>pt y.2.2.2 36 (aO pp)::row 59 3 y.1 K y.2.1 (ab aN y.2.2.1.1)::dq 5 (y.2.2.1.1.map cR)::mP g x m) (fun _=>True) (fun J hJ=>?_) (fun y _=>?_)
   ·skip
    refine dS [pt g 89 (aD x m),row 112 3 m.p.pA m.p.pn m.p.pc (ab bp x.peers)] 18 ?_
    refine dp 0 ?_
    refine dt 1 O (ac O) ?_
    refine dp 2 ?_
    refine dp 3 ?_
    refine dt 4 O (ai (ds:=aE x.base m.p.A m.p.n m.p.c) O O O O O) ?_
    refine dp 5 ?_
    refine dt 6 O (eW O hne) ?_
    refine dt 7 O (dx O O O O O hne) ?_
    refine dt 8 O (bN (v:= .int .u64 (qn:Int)) O O O (Srd.row (n:=m.p.pn) (c:=m.p.pc)) (by omega) hat1) ?_
    refine fb 9 14 (by decide) O O (eD (f:=135) DG (fun w1 hS1=>vh w1 x.base m.p.A m.p.c m.p.n m.p.Q x.es hw.lg.hn hw.lg.hQ (h w1 (hD.at_ hS1)).lg.rq (h w1 (hD.at_ hS1)).lg.dt hw.lg.hc hw.lg.hm hw.lg.hd qn hidx 8 fe pp es K hK hfr) O O) (am O ba) ?_ ?_ O O O O (by kernel_rfl)
    ·rintro _ _ ⟨⟨⟨A5,c5⟩,P5⟩,rfl,hc5,rfl⟩;dsimp only[List.cons_append,List.nil_append]
     refine nx ?_
     refine dp 10 ?_
     refine dp 11 ?_
     refine dp 12 ?_
     refine dp 13 ?_
     refine dE 14 O (am O ba) ?_
     rintro _ _ ⟨b5,rfl,rfl⟩
     refine nx ?_
     refine dE 15 O (aj (cs:=aO (0,0)) (ds:=aO pp) O O O O (aQ _) O) ?_
     rintro _ _ rfl
     refine nx ?_
     refine dp 16 ?_
     refine dp 17 ?_
     refine dn ?_
     exact hJ (A5,c5,P5,b5) _ _ trivial (Sub.cons O (Sub.cons O (Sub.cons O (Sub.cons O Sub.nil)))) ae
    ·rintro _ _ ⟨b5,rfl,rfl⟩
     refine nx ?_
     refine dE 9 O (eD (f:=135) DG (fun w1 hS1=>vh w1 x.base m.p.A m.p.c m.p.n m.p.Q x.es hw.lg.hn hw.lg.hQ (h w1 (hD.at_ hS1)).lg.rq (h w1 (hD.at_ hS1)).lg.dt hw.lg.hc hw.lg.hm hw.lg.hd qn hidx 8 fe pp es K hK hfr) O O) ?_
     rintro _ _ ⟨⟨⟨A5,c5⟩,P5⟩,rfl,hc5,rfl⟩;dsimp only[List.cons_append,List.nil_append]
     refine nx ?_
     refine dp 10 ?_
     refine dp 11 ?_
     refine dp 12 ?_
     refine dp 13 ?_
     refine dE 15 O (aj (cs:=aO (0,0)) (ds:=aO pp) O O O O (aQ _) O) ?_
     rintro _ _ rfl
     refine nx ?_
     refine dp 16 ?_
     refine dp 17 ?_
     refine dn ?_
     exact hJ (A5,c5,P5,b5) _ _ trivial (Sub.cons O (Sub.cons O (Sub.cons O (Sub.cons O Sub.nil)))) ae
   obtain⟨A5,c5,P5,b5⟩:=y
   dsimp only[List.cons_append,List.nil_append,mP]
   refine dS [pt g 89 (aD x m),pt b5 36 (aO pp)] 17 ?_
   refine dp 0 ?_
   refine dp 1 ?_
   refine dp 2 ?_
   refine dt 3 O (ac O) ?_
   refine dp 4 ?_
   refine dp 5 ?_
   refine dl 6 ?_
   refine dt 7 O (ai (ds:=aO pp) O O O O O) ?_
   refine dp 8 ?_
   refine dp 9 ?_
   refine dt 10 O (ac O) ?_
   refine dp 11 ?_
   refine dp 12 ?_
   refine dl 13 ?_
   refine dt 14 O (vJ O O O O O O (tj who x.term x.commit pp A5 K c5)) ?_
   refine dE 15 O (cK (vs:=[.agg (aW (⟨5,0,who,x.term,pp,es,x.commit,false,0,[],[]⟩:Ms) (⟨A5,K,c5,none,0,0,none,0,0,P5.1⟩:Mp)).toArray]) (size:=12) (ds:=aW (⟨5,0,who,x.term,pp,es,x.commit,false,0,[],[]⟩:Ms) (⟨A5,K,c5,none,0,0,none,0,0,P5.1⟩:Mp)) O O O O O O (by simp[aV,dZ]) O (by omega)) ?_
   rintro _ _ ⟨vb,rfl,rfl⟩
   refine nx ?_
   refine dE 16 O (fF (f:=113) (mP g x m) (fun(y:Option Addr×Nat)=>mP g x (bT x m ((⟨5,0,who,x.term,pp,es,x.commit,false,0,[],[]⟩:Ms),(⟨A5,K,c5,none,0,0,none,0,0,P5.1⟩:Mp)) y.1 y.2)) kT (fun w1 hS1 hS2=>dB w1 g x m hS2 (some ⟨vb,0,none⟩) 1 (⟨5,0,who,x.term,pp,es,x.commit,false,0,[],[]⟩:Ms) (⟨A5,K,c5,none,0,0,none,0,0,P5.1⟩:Mp) (iw (dh (b:=vb) (t:=65) (As:=mP g x m) hS1 O)) (by omega)) O O) ?_
   rintro _ _ ⟨⟨AS,cS⟩,rfl,_,rfl⟩;dsimp only[List.cons_append,List.nil_append]
   refine dV ?_
   refine dn ?_
   skip
   skip
   have hfin: ∀ w',St w (ar (mP g x m)) (row 59 3 A5 K c5 (ab aN P5.1)::dq 5 (P5.1.map cR)::mP g x (bT x m ((⟨5,0,who,x.term,pp,es,x.commit,false,0,[],[]⟩:Ms),(⟨A5,K,c5,none,0,0,none,0,0,P5.1⟩:Mp)) AS cS)) w'→ ∃ y:(List (Ms×Mp)×Option Addr×Nat)×Asn,(y.1.1.map Prod.fst=ff x who∧ ∀ w',K2 D y.2 w'→ ∀ s∈y.1.1,MsR w' s.1 s.2)∧St w (ar (mP g x m)) (mP g x (be m y.1)++[y.2]) w':=fun w' hS=>⟨(([(eE x (⟨5,0,who,x.term,pp,es,x.commit,false,0,[],[]⟩:Ms),(⟨A5,K,c5,none,0,0,none,0,0,P5.1⟩:Mp))],AS,cS),zA (row 59 3 A5 K c5 (ab aN P5.1)) (dq 5 (P5.1.map cR))),⟨hnm.symm,fun w2 h2 s hs=>by
    obtain rfl:s=(eE x (⟨5,0,who,x.term,pp,es,x.commit,false,0,[],[]⟩:Ms),(⟨A5,K,c5,none,0,0,none,0,0,P5.1⟩:Mp)):=by simpa using hs
    have hl5:P5.1.length=K:=by have:=congrArg List.length P5.2.1;rw[List.length_map] at this;omega
    exact⟨hl5,(by unfold maxLen;show K≤_;omega),P5.2.1,ce (iY h2.2),fun m hm=>nw (gZ h2.2) (cR m) (List.mem_map.2 ⟨m,hm,O⟩),O,Nat.zero_le _,Rd.none_,Bs.nil _ _,(ep (iY h2.2)).1⟩⟩,(fT hS).perm (List.perm_append_comm (l₁:=[zA _ _]))⟩
   first
   |exact hE _ _ fun w' hS=>hfin w' (ae w' hS)
   |exact hB _ _ _ _ O fun w' hS=>hfin w' (ae w' hS)
theorem Kd.to {D:Kw} {As As' Hr:List Asn} {w w':World} (h:Kd D As w) (hS:St w (ar As) (As'++Hr) w'):Kd D As' w':=fun w2 hk=>(h.subL (L:=[]) hS (fun _ h=>by cases h) w2 hk).1
theorem kL {b t:Nat} {v:Value} {w:World} (h:(pt b t [v]).holds w):w.cell? ⟨b,0,none⟩=some v:=by
 have h2:=(Srd.pt (w0:=w) (M:=fun k=>k=b) (H:=[pt b t [v]]) (g:=b) (t:=t) (n:=1) (size:=1) (off:=0) (cs:=[v]) (ds:=[v]) O (fun j u hj=>by rw[Nat.zero_add];exact hj)).rd w ⟨Kp.refl _ _,fun A hA=>by
  obtain rfl:A=pt b t [v]:=by simpa using hA
  refine⟨h,fun k hk=>?_⟩
  obtain rfl:k=b:=hk
  exact⟨.inl O,(Array.getElem?_eq_some_iff.1 h).1⟩,List.pairwise_singleton _ _⟩
 obtain⟨ad,e,_,hc⟩:=h2.2 (by omega)
 injection e with e
 subst e
 exact hc 0 v O
theorem rT {g:Nat} {x:Rs} {m:Mm} {w:World} (h:(pt g 89 (aD x m)).holds w):w.cell? ⟨g,0,none⟩=some (.int .i64 x.me):=by
 obtain⟨ad,e,_,hc⟩:=(lk h).2 (by omega)
 injection e with e
 subst e
 exact hc 0 _ O
theorem kM (m:Mm):be m ([],m.sA,m.sc)=m:=by simp[be]
theorem jl {f:Int→List Ms} (h: ∀ n,(f n).length≤1): ∀ l:List Int,(l.flatMap f).length≤l.length
 |[]=>Nat.le_refl _
 |a::l=>by
  have:=jl h l
  have:=h a
  rw[List.flatMap_cons,List.length_append,List.length_cons]
  omega
def tX (g:Nat) (v:Value):Asn:= .any (fun k=>k=g) (fun w=>w.cell? ⟨g,0,none⟩=some v) (fun w w' hk h=>hk.cell (F:=fun k=>k=g) O h)
theorem eR {w0 w:World} {M:Nat→Prop} {g t:Nat} {cs:List Value} {A:Asn} {v:Value} (hS:St w0 M [pt g t cs,A] w) (hv:cs[0]? =some v):St w0 M [A,tX g v] w:=by
 have h1:St w0 M [tX g v,A] w:=hS.turn (A:=pt g t cs) Upd.here (fun hb=>by
  have hc:=hS.cell (H:=[pt g t cs,A]) (g:=g) (t:=t) (cs:=cs) (by simp) hv
  exact hc) (fun k hk=>hk)
 exact h1.perm (List.Perm.swap _ _ _)
def aL (m:Mm) (b:Nat):Mm:=⟨⟨m.p.A,m.p.n,m.p.c,m.p.Q,m.p.cA,m.p.cn,m.p.cc,some ⟨b,0,none⟩,1,1,m.p.pA,m.p.pn,m.p.pc⟩,m.S,m.sA,m.sc,m.i⟩
theorem xU {w0 w:World} {M:Nat→Prop} {H:List Asn} {b:Nat} {v:Value} (hS:St w0 M (pt b 3 [v]::H) w):St w0 M (row 3 1 (some ⟨b,0,none⟩) 1 1 [v]::H) w:=
 St.rowOf (size:=1) (n:=1) (m:=1) (cs:=[v]) hS Upd.here (by omega) (by unfold maxLen;omega) O
theorem eP {w0 w:World} {M:Nat→Prop} {g b b1:Nat} {x y:Rs} {m:Mm} (hS:St w0 M [pt b 3 [zv x.me],pt g 89 (aD y (aL m b)),row 112 3 m.p.pA m.p.pn m.p.pc (ab bp x.peers),row 65 12 m.sA m.S.length m.sc (ab bK m.S),pt b1 87 [.pointer (some ⟨g,0,none⟩)]] w) (hv:y.votes=[x.me]:=by rfl) (hp:y.peers=x.peers:=by rfl):St w0 M (pt b1 87 [.pointer (some ⟨g,0,none⟩)]::mP g y (aL m b)) w:=by
 have h1:=ae (H':=[pt b1 87 [.pointer (some ⟨g,0,none⟩)],pt g 89 (aD y (aL m b)),row 3 1 (some ⟨b,0,none⟩) 1 1 [zv x.me],row 112 3 m.p.pA m.p.pn m.p.pc (ab bp x.peers),row 65 12 m.sA m.S.length m.sc (ab bK m.S)]) w (xU hS)
 show St w0 M [pt b1 87 [.pointer (some ⟨g,0,none⟩)],pt g 89 (aD y (aL m b)),row 3 1 (some ⟨b,0,none⟩) 1 1 (y.votes.map zv),row 112 3 m.p.pA m.p.pn m.p.pc (ab bp y.peers),row 65 12 m.sA m.S.length m.sc (ab bK m.S)] w
 rw[hv,hp]
 exact h1
theorem m6 (w:World) (A A2:Option Addr) (n c n2 c2:Nat) (ms set:List Int) (h:Rd w bC 1 A n (ms.map zv)) (h2:Rd w bC 1 A2 n2 (set.map zv)) (hn:n≤1000) (hn2:n2≤1000) (r:Bool) (hr:C.dD ms set=r):
  Gives Tryz.prog 111 [C.jM A n c,.slice A2 n2 c2] [] w (X:=Unit) (fun _=> .bool r) (fun _=>True) (fun _=>[]):=hr▸C.xo w A A2 n c n2 c2 ms set h h2 hn hn2
theorem tl (who:Int) (t:Nat) (b:At):Tryz.prog.built 65 [(0,.int .i64 1),(2,.int .i64 who),(3,.int .u64 (t:Int)),(4,.agg (aO b).toArray)]=some (aW ⟨1,0,who,t,b,[],0,false,0,[],[]⟩ ⟨none,0,0,none,0,0,none,0,0,[]⟩).toArray:=by kernel_rfl
theorem tn (who:Int) (t:Nat) (b:At):Tryz.prog.built 65 [(0,.int .i64 3),(2,.int .i64 who),(3,.int .u64 (t:Int)),(4,.agg (aO b).toArray)]=some (aW ⟨3,0,who,t,b,[],0,false,0,[],[]⟩ ⟨none,0,0,none,0,0,none,0,0,[]⟩).toArray:=by kernel_rfl
theorem zT (w:World) (g:Nat) (x:Rs) (m:Mm) (hS0:St w (ar (mP g x m)) (mP g x m) w) (D:Kw) (hD:Kd D (mP g x m) w) (h: ∀ w',D w'→McR w' x m) (hl:McL x m) (htm:x.term≤4611686018427387904) (h5:(aJ x).length≤5) (hSm:m.S.length≤800) (hmj:C.dD (aJ x) [x.me]=false):
  Gives Tryz.prog 44 [.pointer (some ⟨g,0,none⟩)] (mP g x m) w (X:=Nat×(List (Ms×Mp)×Option Addr×Nat)×Asn) (fun _=> .tuple #[]) (fun y=>y.2.1.1.map Prod.fst=(dr (bF x)).flatMap (fun n=>[{gL with K:=1,F:=x.me,T:=n,tm:=x.term+1,pl:=lastP x}])∧ ∀ w',K2 D y.2.2 w'→ ∀ s∈y.2.1.1,MsR w' s.1 s.2) (fun y=>mP g (bF x) (be (aL m y.1) y.2.1)++[y.2.2]):=by
 refine kw Tryz.func44 O Tryz.ntmps44 Tryz.results44 (by simp) hS0 (fun B hE0 hR0 hEM=>?_)
 focus (refine qs ?_;(refine qe (fo (v:= .pointer (some ⟨g,0,none⟩)) O O) ?_;rintro _ _ ⟨b1,rfl,rfl⟩);refine qz ?_;refine qq ?_)
 refine eo (X:=Nat) (fun bl=>[(1,.pointer (some ⟨b1,0,none⟩))]) (fun bl=>pt b1 87 [.pointer (some ⟨g,0,none⟩)]::mP g (bF x) (aL m bl)) (fun _=>True) (fun J hJ=>?_) (fun bl _=>?_)
 ·skip
  refine fG ([pt b1 87 [.pointer (some ⟨g,0,none⟩)],tX g (.int .i64 x.me)]) ((fun w1 hS1=>eR (ae (H':=[pt g 89 (aD x m),pt b1 87 [.pointer (some ⟨g,0,none⟩)]]) w1 hS1) O)) (by kernel_rfl) O (by kernel_rfl) (by kernel_rfl:_=21) ?_
  refine dl 0 ?_
  refine dl 1 ?_
  refine dl 2 ?_
  refine dl 3 ?_
  refine dt 4 O (ac O) ?_
  refine dp 5 ?_
  refine dp 6 ?_
  refine dt 7 O (cT O O O (fun w1 hS1=>hS1.at_ (A:=tX g (.int .i64 x.me)) (by simp))) ?_
  refine dt 9 O (ac O) ?_
  refine dp 10 ?_
  refine dp 11 ?_
  refine fb 8 12 (by decide) O O (d7 (m:=1) (vs:=[zv x.me]) O O O O O O O (by simp[zv,Value.oneCell']) (by decide)) (aw (cs:=aD x m) (cs':=aD {x with role:=2} m) O O O O O O (by show _<16;omega)) ?_ ?_ O O O O (by kernel_rfl)
  ·rintro _ _ ⟨bl,rfl,rfl⟩
   first|refine aY (fun w1 hS1=>eR (ae (H':=[pt g 89 (aD x m),pt b1 87 [.pointer (some ⟨g,0,none⟩)]]) w1 hS1) O) ?_|refine aY (fun w1 hS1=>eR (ae (H':=[pt g 89 (aD {x with role:=2} m),pt b1 87 [.pointer (some ⟨g,0,none⟩)]]) w1 hS1) O) ?_
   refine dE 12 O (aw (cs:=aD x m) (cs':=aD {x with role:=2} m) O O O O O O (by show _<16;omega)) ?_
   rintro _ _ rfl
   refine aY (fun w1 hS1=>eR (ae (H':=[pt g 89 (aD {x with role:=2} m),pt b1 87 [.pointer (some ⟨g,0,none⟩)]]) w1 hS1) O) ?_
   refine dt 13 O (ac O) ?_
   refine dp 14 ?_
   refine dp 15 ?_
   refine dE 16 O (aw (cs:=aD {x with role:=2} m) (cs':=aD {x with role:=2} (aL m bl)) O O O O O O (by show _<16;omega)) ?_
   rintro _ _ rfl
   refine aY (fun w1 hS1=>eR (ae (H':=[pt g 89 (aD {x with role:=2} (aL m bl)),pt b1 87 [.pointer (some ⟨g,0,none⟩)]]) w1 hS1) O) ?_
   refine dt 17 O (ac O) ?_
   refine dp 18 ?_
   refine dp 19 ?_
   refine dE 20 O (aw (cs:=aD {x with role:=2} (aL m bl)) (cs':=aD (bF x) (aL m bl)) O O O O O O (by show _<16;omega)) ?_
   rintro _ _ rfl
   refine aY (fun w1 hS1=>eR (ae (H':=[pt g 89 (aD (bF x) (aL m bl)),pt b1 87 [.pointer (some ⟨g,0,none⟩)]]) w1 hS1) O) ?_
   refine dn ?_
   exact hJ bl _ _ trivial (Sub.cons O Sub.nil) (fun w1 hS1=>eP (ae (H':=[pt bl 3 [zv x.me],pt g 89 (aD (bF x) (aL m bl)),row 112 3 m.p.pA m.p.pn m.p.pc (ab bp x.peers),row 65 12 m.sA m.S.length m.sc (ab bK m.S),pt b1 87 [.pointer (some ⟨g,0,none⟩)]]) w1 hS1))
  ·rintro _ _ rfl
   refine aY (fun w1 hS1=>eR (ae (H':=[pt g 89 (aD {x with role:=2} m),pt b1 87 [.pointer (some ⟨g,0,none⟩)]]) w1 hS1) O) ?_
   refine dE 8 O (d7 (m:=1) (vs:=[zv x.me]) O O O O O O O (by simp[zv,Value.oneCell']) (by decide)) ?_
   rintro _ _ ⟨bl,rfl,rfl⟩
   first|refine aY (fun w1 hS1=>eR (ae (H':=[pt g 89 (aD x m),pt b1 87 [.pointer (some ⟨g,0,none⟩)]]) w1 hS1) O) ?_|refine aY (fun w1 hS1=>eR (ae (H':=[pt g 89 (aD {x with role:=2} m),pt b1 87 [.pointer (some ⟨g,0,none⟩)]]) w1 hS1) O) ?_
   refine dt 13 O (ac O) ?_
   refine dp 14 ?_
   refine dp 15 ?_
   refine dE 16 O (aw (cs:=aD {x with role:=2} m) (cs':=aD {x with role:=2} (aL m bl)) O O O O O O (by show _<16;omega)) ?_
   rintro _ _ rfl
   refine aY (fun w1 hS1=>eR (ae (H':=[pt g 89 (aD {x with role:=2} (aL m bl)),pt b1 87 [.pointer (some ⟨g,0,none⟩)]]) w1 hS1) O) ?_
   refine dt 17 O (ac O) ?_
   refine dp 18 ?_
   refine dp 19 ?_
   refine dE 20 O (aw (cs:=aD {x with role:=2} (aL m bl)) (cs':=aD (bF x) (aL m bl)) O O O O O O (by show _<16;omega)) ?_
   rintro _ _ rfl
   refine aY (fun w1 hS1=>eR (ae (H':=[pt g 89 (aD (bF x) (aL m bl)),pt b1 87 [.pointer (some ⟨g,0,none⟩)]]) w1 hS1) O) ?_
   refine dn ?_
   exact hJ bl _ _ trivial (Sub.cons O Sub.nil) (fun w1 hS1=>eP (ae (H':=[pt bl 3 [zv x.me],pt g 89 (aD (bF x) (aL m bl)),row 112 3 m.p.pA m.p.pn m.p.pc (ab bp x.peers),row 65 12 m.sA m.S.length m.sc (ab bK m.S),pt b1 87 [.pointer (some ⟨g,0,none⟩)]]) w1 hS1))
 have h1: ∀ w',D w'→McR w' (bF x) (aL m bl):=fun w' h'=>⟨(h w' h').lg.like O O O O O O O O,(h w' h').ms⟩
 have hfl:(dr (bF x)).length≤5:=Nat.le_trans (List.length_filter_le _ _) h5
 have hnl:(aJ (bF x)).length≤5:=h5
 have htm1:(bF x).term≤4611686018427387905:=Nat.le_trans htm (by decide)
 focus (refine qq ?_;refine qq ?_)
 refine dS [pt b1 87 [.pointer (some ⟨g,0,none⟩)],pt g 89 (aD (bF x) (aL m bl))] 8 ?_
 refine dl 0 ?_
 refine dl 2 ?_
 refine dt 3 O (ac O) ?_
 refine dp 4 ?_
 refine dp 5 ?_
 refine dl 6 ?_
 refine dE 1 O (bB (f:=43) pk (fun w1 hS1=>du w1 g (bF x) (aL m bl) (bJ hS1 (by simp)) D (hD.call0 hS1) (fun w2 h2=>(h1 w2 h2).lg) (aJ x) O) O O (fun _=>O)) ?_
 rintro _ _ ⟨⟨⟨A3,K3,c3⟩,Z3⟩,rfl,hI3,rfl⟩
 refine nx ?_
 refine dE 7 O (aq (f:=111) sI (fun w1 hS1=>m6 w1 A3 (some ⟨bl,0,none⟩) (aJ x).length c3 1 1 (aJ x) [x.me] (hI3 w1 ⟨hD.at_ hS1,hS1.at_ (A:=Z3) (by simp)⟩) (ce (hS1.at_ (A:=row 3 1 (aL m bl).p.vA (aL m bl).p.vn (aL m bl).p.vc ((bF x).votes.map zv)) (by simp))) (by omega) (by omega) _ hmj) O O (fun _=>O)) ?_
 rintro _ _ ⟨_,rfl,_,rfl⟩
 refine nx ?_
 refine dn ?_
 skip
 focus (refine qF ?_;refine qx ?_;refine qs ?_;refine qt (ah O O O O) ?_;(refine qe (bB (f:=57) Ed (fun w1 hS1=>gR w1 g) O O (fun _=>O)) ?_;rintro _ _ ⟨b2,rfl,_,rfl⟩);refine qz ?_;refine qb ?_)
 refine ez ?_
 refine kv (D0:=KL D [pt b2 87 [.pointer (some ⟨g,0,none⟩)]]) (R0:=fun w'=>tW w' g (bF x) (be (aL m bl) ([],(aL m bl).sA,(aL m bl).sc))) (R:=fun w'=>w'.cell? ⟨g,0,none⟩=some (.int .i64 x.me)) (es:=(dr (bF x)).map fun n=>[zv n]) (ps:=[33]) (X:=(List (Ms×Mp)×Option Addr×Nat)×Asn) (fun y=>y.2::mP g (bF x) (be (aL m bl) y.1)) (fun i y=>y.1.1.map Prod.fst=((dr (bF x)).take i).flatMap (fun n=>[{gL with K:=1,F:=x.me,T:=n,tm:=x.term+1,pl:=lastP x}])∧ ∀ w',K2 D y.2 w'→ ∀ s∈y.1.1,MsR w' s.1 s.2) (fun i y=>False) (([],(aL m bl).sA,(aL m bl).sc),zN) [pt b2 87 [.pointer (some ⟨g,0,none⟩)],pt b1 87 [.pointer (some ⟨g,0,none⟩)]] O O xj (by kernel_rfl) (fun e he=>?_) ⟨O,fun _ _ s hs=>absurd hs (by simp)⟩ (fun w' hS=>?_) (fun w' hS=>?_) (fun w' hS=>hD.subL hS (by simp)) (fun w' hw=>lk (hw (pt g 89 (aD (bF x) (be (aL m bl) ([],(aL m bl).sA,(aL m bl).sc)))) (by simp))) (fun i y w' _ hw=>rT (x:=(bF x)) (hw (pt g 89 (aD (bF x) (be (aL m bl) y.1))) (by simp))) (fun j y w' hx hj hS=>?_) (fun y Dd hy=>?_) (fun y Dd j hj hy=>absurd hy id)
 ·obtain⟨n,_,rfl⟩:=List.mem_map.1 he
  rfl
 ·rw[kM]
  exact ae (H':=[zN,pt g 89 (aD (bF x) (aL m bl)),row 3 1 (aL m bl).p.vA (aL m bl).p.vn (aL m bl).p.vc ((bF x).votes.map zv),row 112 3 (aL m bl).p.pA (aL m bl).p.pn (aL m bl).p.pc (ab bp (bF x).peers),row 65 12 (aL m bl).sA (aL m bl).S.length (aL m bl).sc (ab bK (aL m bl).S),pt b2 87 [.pointer (some ⟨g,0,none⟩)],pt b1 87 [.pointer (some ⟨g,0,none⟩)]]) w' hS
 ·exact gr w' g b2 (bF x) (be (aL m bl) ([],(aL m bl).sA,(aL m bl).sc)) _ (fun w2 h2=>(h1 w2 h2.1).lg) (fun w2 h2=>kL (t:=87) (h2.2 (pt b2 87 [.pointer (some ⟨g,0,none⟩)]) (by simp))) (aJ (bF x)) O (by omega)
 ·rw[List.length_map] at hj
  obtain⟨n,hn⟩: ∃ n,(dr (bF x)).getD j 0=n:=⟨_,O⟩
  have htk:(dr (bF x)).take (j+1)=(dr (bF x)).take j++[n]:=by rw[List.take_succ_eq_append_getElem hj];simp[List.getD,hj, ← hn]
  have hge:((dr (bF x)).map fun n=>[zv n]).getD j []=[zv n]:=by rw[← hn];simp[List.getD,hj]
  rw[hge]
  obtain⟨⟨N,AN,cN⟩,Zy⟩:=y
  obtain⟨hx1,hx2⟩:=hx
  dsimp only at hx1 hx2
  have hNl:N.length≤5:=by
   have e1:N.length=(((dr (bF x)).take j).flatMap (fun n=>[{gL with K:=1,F:=x.me,T:=n,tm:=x.term+1,pl:=lastP x}])).length:=by rw[← hx1,List.length_map]
   rw[e1]
   refine Nat.le_trans (jl (fun a=>?_) _) ?_
   ·exact Nat.le_refl _
   ·rw[List.length_take]
    omega
  intro l2 rA rB Ba Bb J hfull hbeg hend hret
  have hC1:=dh (b:=b1) (As:=rA::Zy::mP g (bF x) (be (aL m bl) (N,AN,cN))) hfull O
  have hDr:Kd D (rA::Zy::mP g (bF x) (be (aL m bl) (N,AN,cN))) w':=hD.to hfull
  have hms: ∀ w2,K2 D Zy w2→McR w2 (bF x) (be (aL m bl) (N,AN,cN)):=fun w2 h2=>⟨(h1 w2 h2.1).lg,fun s hs=>by
   rcases List.mem_append.1 hs with hs|hs
   ·exact(h1 w2 h2.1).ms s hs
   ·exact hx2 w2 h2 s hs⟩
  have hSl:(be (aL m bl) (N,AN,cN)).S.length≤900:=by
   show ((aL m bl).S++N).length≤900
   rw[List.length_append]
   have:(aL m bl).S.length≤800:=hSm
   omega
  focus (refine qr ?_;refine qp ?_;refine qz ?_)
  refine hbeg _ (Zy::mP g (bF x) (be (aL m bl) (N,AN,cN))) _ ?_ ae
  focus (refine qb ?_)
  refine iG ([pt g 89 (aD (bF x) (be (aL m bl) (N,AN,cN)))]) ae (by kernel_rfl) O (by kernel_rfl) (by kernel_rfl) (by kernel_rfl:_=13) ?_
  refine dt 0 O (cB (v:= .pointer (some ⟨g,0,none⟩)) O O O hC1 (fun k hk=>hk) O) ?_
  refine dp 1 ?_
  refine dt 2 O (cB (v:= .pointer (some ⟨g,0,none⟩)) O O O hC1 (fun k hk=>hk) O) ?_
  refine dt 3 O (ac O) ?_
  refine dp 4 ?_
  refine dp 5 ?_
  refine dl 6 ?_
  (refine dt 7 O (aI O O (by unfold aH;omega)) ?_)
  refine dt 8 O (cB (v:= .pointer (some ⟨g,0,none⟩)) O O O hC1 (fun k hk=>hk) O) ?_
  refine dE 9 O (aq (f:=59) pE (fun w hS=>ef w g (bF x) (be (aL m bl) (N,AN,cN)) (bJ hS (by simp)) (h1 w (hDr.at_ hS)).lg) O O (fun _=>O)) ?_
  rintro _ _ ⟨_,rfl,_,rfl⟩
  refine nx ?_
  refine dt 10 O (ik O O O O (tl n (x.term+1) (lastP x))) ?_
  refine dE 11 O (cK (vs:=[.agg (aW (⟨1,0,n,x.term+1,lastP x,[],0,false,0,[],[]⟩:Ms) (⟨none,0,0,none,0,0,none,0,0,[]⟩:Mp)).toArray]) (size:=12) (ds:=aW (⟨1,0,n,x.term+1,lastP x,[],0,false,0,[],[]⟩:Ms) (⟨none,0,0,none,0,0,none,0,0,[]⟩:Mp)) O O O O O O (by simp[aV,dZ]) O (by omega)) ?_
  rintro _ _ ⟨vb,rfl,rfl⟩
  refine nx ?_
  refine dE 12 O (fF (f:=113) (mP g (bF x) (be (aL m bl) (N,AN,cN))) (fun(y:Option Addr×Nat)=>mP g (bF x) (bT (bF x) (be (aL m bl) (N,AN,cN)) ((⟨1,0,n,x.term+1,lastP x,[],0,false,0,[],[]⟩:Ms),(⟨none,0,0,none,0,0,none,0,0,[]⟩:Mp)) y.1 y.2)) kT (fun w1 hS1 hS2=>dB w1 g (bF x) (be (aL m bl) (N,AN,cN)) hS2 (some ⟨vb,0,none⟩) 1 (⟨1,0,n,x.term+1,lastP x,[],0,false,0,[],[]⟩:Ms) (⟨none,0,0,none,0,0,none,0,0,[]⟩:Mp) (iw (dh (b:=vb) (t:=65) (As:=mP g (bF x) (be (aL m bl) (N,AN,cN))) hS1 O)) (by omega)) O O) ?_
  rintro _ _ ⟨⟨AS,cS⟩,rfl,_,rfl⟩;dsimp only[List.cons_append,List.nil_append]
  refine dV ?_
  refine dn ?_
  skip
  focus (refine aK ?_)
  refine hend ((N++[(eE (bF x) (⟨1,0,n,x.term+1,lastP x,[],0,false,0,[],[]⟩:Ms),(⟨none,0,0,none,0,0,none,0,0,[]⟩:Mp))],AS,cS),Zy) _ _ ⟨?_,fun w2 h2 s hs=>?_⟩ ?_
  ·dsimp only
   rw[htk,List.flatMap_append,List.map_append,hx1]
   rfl
  ·rcases List.mem_append.1 hs with hs|hs
   ·exact hx2 w2 h2 s hs
   ·obtain rfl:s=(eE (bF x) (⟨1,0,n,x.term+1,lastP x,[],0,false,0,[],[]⟩:Ms),(⟨none,0,0,none,0,0,none,0,0,[]⟩:Mp)):=by simpa using hs
    exact⟨O,Nat.zero_le _,O,Rd.none_,fun m hm=>absurd hm (by simp),O,Nat.zero_le _,Rd.none_,Bs.nil _ _,Nat.zero_le _⟩
  ·have e:bT (bF x) (be (aL m bl) (N,AN,cN)) ((⟨1,0,n,x.term+1,lastP x,[],0,false,0,[],[]⟩:Ms),(⟨none,0,0,none,0,0,none,0,0,[]⟩:Mp)) AS cS=be (aL m bl) (N++[(eE (bF x) (⟨1,0,n,x.term+1,lastP x,[],0,false,0,[],[]⟩:Ms),(⟨none,0,0,none,0,0,none,0,0,[]⟩:Mp))],AS,cS):=by simp[bT,be]
   dsimp only
   rw[← e]
   exact ae
 ·simp only[List.cons_append,List.nil_append]
  focus (refine aK ?_)
  refine hEM _ _ _ _ inferInstance fun w' hS=>⟨(bl,y.1,y.2),?_,?_⟩
  ·rw[List.length_map,List.take_length] at hy
   exact hy
  ·exact(ae (H':=y.2::mP g (bF x) (be (aL m bl) y.1)) w' hS).perm (List.perm_append_comm (l₁:=[y.2]))
theorem vK (w:World) (g:Nat) (x:Rs) (m:Mm) (hS0:St w (ar (mP g x m)) (mP g x m) w) (D:Kw) (hD:Kd D (mP g x m) w) (h: ∀ w',D w'→McR w' x m) (hl:McL x m) (htm:x.term≤4611686018427387904) (h5:(aJ x).length≤5) (hSm:m.S.length≤800) (hmj:C.dD (aJ x) [x.me]=false):
  Gives Tryz.prog 112 [.pointer (some ⟨g,0,none⟩)] (mP g x m) w (X:=Nat×(List (Ms×Mp)×Option Addr×Nat)×Asn) (fun _=> .tuple #[]) (fun y=>y.2.1.1.map Prod.fst=(dr (bf x)).flatMap (fun n=>[{gL with K:=3,F:=x.me,T:=n,tm:=x.term+1,pl:=lastP x}])∧ ∀ w',K2 D y.2.2 w'→ ∀ s∈y.2.1.1,MsR w' s.1 s.2) (fun y=>mP g (bf x) (be (aL m y.1) y.2.1)++[y.2.2]):=by
 refine kw Tryz.func112 O Tryz.ntmps112 Tryz.results112 (by simp) hS0 (fun B hE0 hR0 hEM=>?_)
 focus (refine qs ?_;(refine qe (fo (v:= .pointer (some ⟨g,0,none⟩)) O O) ?_;rintro _ _ ⟨b1,rfl,rfl⟩);refine qn ?_;refine qt (ah O O O O) ?_;refine qt (ac O) ?_;refine qp ?_;refine qp ?_;refine qt (ah O O O O) ?_;refine qt (aI O O (by unfold aH;omega)) ?_;refine qt (ac O) ?_;refine qp ?_;refine qp ?_;(refine qw (aw (cs:=aD x m) (cs':=aD {x with term:=x.term+1} m) O O O O O O (by show _<16;omega)) ?_;rintro _ _ rfl);refine qz ?_;refine qq ?_)
 refine eo (X:=Nat) (fun bl=>[(1,.pointer (some ⟨b1,0,none⟩))]) (fun bl=>pt b1 87 [.pointer (some ⟨g,0,none⟩)]::mP g (bf x) (aL m bl)) (fun _=>True) (fun J hJ=>?_) (fun bl _=>?_)
 ·skip
  refine fG ([pt b1 87 [.pointer (some ⟨g,0,none⟩)],tX g (.int .i64 x.me)]) ((fun w1 hS1=>eR (ae (H':=[pt g 89 (aD {x with term:=x.term+1} m),pt b1 87 [.pointer (some ⟨g,0,none⟩)]]) w1 hS1) O)) (by kernel_rfl) O (by kernel_rfl) (by kernel_rfl:_=31) ?_
  refine dl 0 ?_
  refine dl 1 ?_
  refine dl 2 ?_
  refine dl 3 ?_
  refine dl 4 ?_
  refine dt 5 O (ac O) ?_
  refine dp 6 ?_
  refine dp 7 ?_
  refine dt 8 O (cT O O O (fun w1 hS1=>hS1.at_ (A:=tX g (.int .i64 x.me)) (by simp))) ?_
  refine dl 9 ?_
  refine dt 10 O (ac O) ?_
  refine dp 11 ?_
  refine dp 12 ?_
  refine dt 13 O (cT O O O (fun w1 hS1=>hS1.at_ (A:=tX g (.int .i64 x.me)) (by simp))) ?_
  refine dt 15 O (ac O) ?_
  refine dp 16 ?_
  refine dp 17 ?_
  refine fb 14 18 (by decide) O O (d7 (m:=1) (vs:=[zv x.me]) O O O O O O O (by simp[zv,Value.oneCell']) (by decide)) (aw (cs:=aD {x with term:=x.term+1} m) (cs':=aD {x with term:=x.term+1,role:=3} m) O O O O O O (by show _<16;omega)) ?_ ?_ O O O O (by kernel_rfl)
  ·rintro _ _ ⟨bl,rfl,rfl⟩
   first|refine aY (fun w1 hS1=>eR (ae (H':=[pt g 89 (aD {x with term:=x.term+1} m),pt b1 87 [.pointer (some ⟨g,0,none⟩)]]) w1 hS1) O) ?_|refine aY (fun w1 hS1=>eR (ae (H':=[pt g 89 (aD {x with term:=x.term+1,role:=3} m),pt b1 87 [.pointer (some ⟨g,0,none⟩)]]) w1 hS1) O) ?_|refine aY (fun w1 hS1=>eR (ae (H':=[pt g 89 (aD {x with term:=x.term+1,role:=3,vote:=x.me} m),pt b1 87 [.pointer (some ⟨g,0,none⟩)]]) w1 hS1) O) ?_
   refine dE 18 O (aw (cs:=aD {x with term:=x.term+1} m) (cs':=aD {x with term:=x.term+1,role:=3} m) O O O O O O (by show _<16;omega)) ?_
   rintro _ _ rfl
   refine aY (fun w1 hS1=>eR (ae (H':=[pt g 89 (aD {x with term:=x.term+1,role:=3} m),pt b1 87 [.pointer (some ⟨g,0,none⟩)]]) w1 hS1) O) ?_
   refine dt 19 O (ac O) ?_
   refine dp 20 ?_
   refine dp 21 ?_
   refine dE 22 O (aw (cs:=aD {x with term:=x.term+1,role:=3} m) (cs':=aD {x with term:=x.term+1,role:=3,vote:=x.me} m) O O O O O O (by show _<16;omega)) ?_
   rintro _ _ rfl
   refine aY (fun w1 hS1=>eR (ae (H':=[pt g 89 (aD {x with term:=x.term+1,role:=3,vote:=x.me} m),pt b1 87 [.pointer (some ⟨g,0,none⟩)]]) w1 hS1) O) ?_
   refine dt 23 O (ac O) ?_
   refine dp 24 ?_
   refine dp 25 ?_
   refine dE 26 O (aw (cs:=aD {x with term:=x.term+1,role:=3,vote:=x.me} m) (cs':=aD {x with term:=x.term+1,role:=3,vote:=x.me} (aL m bl)) O O O O O O (by show _<16;omega)) ?_
   rintro _ _ rfl
   refine aY (fun w1 hS1=>eR (ae (H':=[pt g 89 (aD {x with term:=x.term+1,role:=3,vote:=x.me} (aL m bl)),pt b1 87 [.pointer (some ⟨g,0,none⟩)]]) w1 hS1) O) ?_
   refine dt 27 O (ac O) ?_
   refine dp 28 ?_
   refine dp 29 ?_
   refine dE 30 O (aw (cs:=aD {x with term:=x.term+1,role:=3,vote:=x.me} (aL m bl)) (cs':=aD (bf x) (aL m bl)) O O O O O O (by show _<16;omega)) ?_
   rintro _ _ rfl
   refine aY (fun w1 hS1=>eR (ae (H':=[pt g 89 (aD (bf x) (aL m bl)),pt b1 87 [.pointer (some ⟨g,0,none⟩)]]) w1 hS1) O) ?_
   refine dn ?_
   exact hJ bl _ _ trivial (Sub.cons O Sub.nil) (fun w1 hS1=>eP (ae (H':=[pt bl 3 [zv x.me],pt g 89 (aD (bf x) (aL m bl)),row 112 3 m.p.pA m.p.pn m.p.pc (ab bp x.peers),row 65 12 m.sA m.S.length m.sc (ab bK m.S),pt b1 87 [.pointer (some ⟨g,0,none⟩)]]) w1 hS1))
  ·rintro _ _ rfl
   refine aY (fun w1 hS1=>eR (ae (H':=[pt g 89 (aD {x with term:=x.term+1,role:=3} m),pt b1 87 [.pointer (some ⟨g,0,none⟩)]]) w1 hS1) O) ?_
   refine dt 19 O (ac O) ?_
   refine dp 20 ?_
   refine dp 21 ?_
   refine fb 14 22 (by decide) O O (d7 (m:=1) (vs:=[zv x.me]) O O O O O O O (by simp[zv,Value.oneCell']) (by decide)) (aw (cs:=aD {x with term:=x.term+1,role:=3} m) (cs':=aD {x with term:=x.term+1,role:=3,vote:=x.me} m) O O O O O O (by show _<16;omega)) ?_ ?_ O O O O (by kernel_rfl)
   ·rintro _ _ ⟨bl,rfl,rfl⟩
    first|refine aY (fun w1 hS1=>eR (ae (H':=[pt g 89 (aD {x with term:=x.term+1} m),pt b1 87 [.pointer (some ⟨g,0,none⟩)]]) w1 hS1) O) ?_|refine aY (fun w1 hS1=>eR (ae (H':=[pt g 89 (aD {x with term:=x.term+1,role:=3} m),pt b1 87 [.pointer (some ⟨g,0,none⟩)]]) w1 hS1) O) ?_|refine aY (fun w1 hS1=>eR (ae (H':=[pt g 89 (aD {x with term:=x.term+1,role:=3,vote:=x.me} m),pt b1 87 [.pointer (some ⟨g,0,none⟩)]]) w1 hS1) O) ?_
    refine dE 22 O (aw (cs:=aD {x with term:=x.term+1,role:=3} m) (cs':=aD {x with term:=x.term+1,role:=3,vote:=x.me} m) O O O O O O (by show _<16;omega)) ?_
    rintro _ _ rfl
    refine aY (fun w1 hS1=>eR (ae (H':=[pt g 89 (aD {x with term:=x.term+1,role:=3,vote:=x.me} m),pt b1 87 [.pointer (some ⟨g,0,none⟩)]]) w1 hS1) O) ?_
    refine dt 23 O (ac O) ?_
    refine dp 24 ?_
    refine dp 25 ?_
    refine dE 26 O (aw (cs:=aD {x with term:=x.term+1,role:=3,vote:=x.me} m) (cs':=aD {x with term:=x.term+1,role:=3,vote:=x.me} (aL m bl)) O O O O O O (by show _<16;omega)) ?_
    rintro _ _ rfl
    refine aY (fun w1 hS1=>eR (ae (H':=[pt g 89 (aD {x with term:=x.term+1,role:=3,vote:=x.me} (aL m bl)),pt b1 87 [.pointer (some ⟨g,0,none⟩)]]) w1 hS1) O) ?_
    refine dt 27 O (ac O) ?_
    refine dp 28 ?_
    refine dp 29 ?_
    refine dE 30 O (aw (cs:=aD {x with term:=x.term+1,role:=3,vote:=x.me} (aL m bl)) (cs':=aD (bf x) (aL m bl)) O O O O O O (by show _<16;omega)) ?_
    rintro _ _ rfl
    refine aY (fun w1 hS1=>eR (ae (H':=[pt g 89 (aD (bf x) (aL m bl)),pt b1 87 [.pointer (some ⟨g,0,none⟩)]]) w1 hS1) O) ?_
    refine dn ?_
    exact hJ bl _ _ trivial (Sub.cons O Sub.nil) (fun w1 hS1=>eP (ae (H':=[pt bl 3 [zv x.me],pt g 89 (aD (bf x) (aL m bl)),row 112 3 m.p.pA m.p.pn m.p.pc (ab bp x.peers),row 65 12 m.sA m.S.length m.sc (ab bK m.S),pt b1 87 [.pointer (some ⟨g,0,none⟩)]]) w1 hS1))
   ·rintro _ _ rfl
    refine aY (fun w1 hS1=>eR (ae (H':=[pt g 89 (aD {x with term:=x.term+1,role:=3,vote:=x.me} m),pt b1 87 [.pointer (some ⟨g,0,none⟩)]]) w1 hS1) O) ?_
    refine dE 14 O (d7 (m:=1) (vs:=[zv x.me]) O O O O O O O (by simp[zv,Value.oneCell']) (by decide)) ?_
    rintro _ _ ⟨bl,rfl,rfl⟩
    first|refine aY (fun w1 hS1=>eR (ae (H':=[pt g 89 (aD {x with term:=x.term+1} m),pt b1 87 [.pointer (some ⟨g,0,none⟩)]]) w1 hS1) O) ?_|refine aY (fun w1 hS1=>eR (ae (H':=[pt g 89 (aD {x with term:=x.term+1,role:=3} m),pt b1 87 [.pointer (some ⟨g,0,none⟩)]]) w1 hS1) O) ?_|refine aY (fun w1 hS1=>eR (ae (H':=[pt g 89 (aD {x with term:=x.term+1,role:=3,vote:=x.me} m),pt b1 87 [.pointer (some ⟨g,0,none⟩)]]) w1 hS1) O) ?_
    refine dt 23 O (ac O) ?_
    refine dp 24 ?_
    refine dp 25 ?_
    refine dE 26 O (aw (cs:=aD {x with term:=x.term+1,role:=3,vote:=x.me} m) (cs':=aD {x with term:=x.term+1,role:=3,vote:=x.me} (aL m bl)) O O O O O O (by show _<16;omega)) ?_
    rintro _ _ rfl
    refine aY (fun w1 hS1=>eR (ae (H':=[pt g 89 (aD {x with term:=x.term+1,role:=3,vote:=x.me} (aL m bl)),pt b1 87 [.pointer (some ⟨g,0,none⟩)]]) w1 hS1) O) ?_
    refine dt 27 O (ac O) ?_
    refine dp 28 ?_
    refine dp 29 ?_
    refine dE 30 O (aw (cs:=aD {x with term:=x.term+1,role:=3,vote:=x.me} (aL m bl)) (cs':=aD (bf x) (aL m bl)) O O O O O O (by show _<16;omega)) ?_
    rintro _ _ rfl
    refine aY (fun w1 hS1=>eR (ae (H':=[pt g 89 (aD (bf x) (aL m bl)),pt b1 87 [.pointer (some ⟨g,0,none⟩)]]) w1 hS1) O) ?_
    refine dn ?_
    exact hJ bl _ _ trivial (Sub.cons O Sub.nil) (fun w1 hS1=>eP (ae (H':=[pt bl 3 [zv x.me],pt g 89 (aD (bf x) (aL m bl)),row 112 3 m.p.pA m.p.pn m.p.pc (ab bp x.peers),row 65 12 m.sA m.S.length m.sc (ab bK m.S),pt b1 87 [.pointer (some ⟨g,0,none⟩)]]) w1 hS1))
 have h1: ∀ w',D w'→McR w' (bf x) (aL m bl):=fun w' h'=>⟨(h w' h').lg.like O O O O O O O O,(h w' h').ms⟩
 have hfl:(dr (bf x)).length≤5:=Nat.le_trans (List.length_filter_le _ _) h5
 have hnl:(aJ (bf x)).length≤5:=h5
 have htm1:(bf x).term≤4611686018427387905:=Nat.succ_le_succ htm
 focus (refine qq ?_;refine qq ?_)
 refine dS [pt b1 87 [.pointer (some ⟨g,0,none⟩)],pt g 89 (aD (bf x) (aL m bl))] 8 ?_
 refine dl 0 ?_
 refine dl 2 ?_
 refine dt 3 O (ac O) ?_
 refine dp 4 ?_
 refine dp 5 ?_
 refine dl 6 ?_
 refine dE 1 O (bB (f:=43) pk (fun w1 hS1=>du w1 g (bf x) (aL m bl) (bJ hS1 (by simp)) D (hD.call0 hS1) (fun w2 h2=>(h1 w2 h2).lg) (aJ x) O) O O (fun _=>O)) ?_
 rintro _ _ ⟨⟨⟨A3,K3,c3⟩,Z3⟩,rfl,hI3,rfl⟩
 refine nx ?_
 refine dE 7 O (aq (f:=111) sI (fun w1 hS1=>m6 w1 A3 (some ⟨bl,0,none⟩) (aJ x).length c3 1 1 (aJ x) [x.me] (hI3 w1 ⟨hD.at_ hS1,hS1.at_ (A:=Z3) (by simp)⟩) (ce (hS1.at_ (A:=row 3 1 (aL m bl).p.vA (aL m bl).p.vn (aL m bl).p.vc ((bf x).votes.map zv)) (by simp))) (by omega) (by omega) _ hmj) O O (fun _=>O)) ?_
 rintro _ _ ⟨_,rfl,_,rfl⟩
 refine nx ?_
 refine dn ?_
 skip
 focus (refine qF ?_;refine qx ?_;refine qs ?_;refine qt (ah O O O O) ?_;(refine qe (bB (f:=57) Ed (fun w1 hS1=>gR w1 g) O O (fun _=>O)) ?_;rintro _ _ ⟨b2,rfl,_,rfl⟩);refine qz ?_;refine qb ?_)
 refine ez ?_
 refine kv (D0:=KL D [pt b2 87 [.pointer (some ⟨g,0,none⟩)]]) (R0:=fun w'=>tW w' g (bf x) (be (aL m bl) ([],(aL m bl).sA,(aL m bl).sc))) (R:=fun w'=>w'.cell? ⟨g,0,none⟩=some (.int .i64 x.me)) (es:=(dr (bf x)).map fun n=>[zv n]) (ps:=[51]) (X:=(List (Ms×Mp)×Option Addr×Nat)×Asn) (fun y=>y.2::mP g (bf x) (be (aL m bl) y.1)) (fun i y=>y.1.1.map Prod.fst=((dr (bf x)).take i).flatMap (fun n=>[{gL with K:=3,F:=x.me,T:=n,tm:=x.term+1,pl:=lastP x}])∧ ∀ w',K2 D y.2 w'→ ∀ s∈y.1.1,MsR w' s.1 s.2) (fun i y=>False) (([],(aL m bl).sA,(aL m bl).sc),zN) [pt b2 87 [.pointer (some ⟨g,0,none⟩)],pt b1 87 [.pointer (some ⟨g,0,none⟩)]] O O xj (by kernel_rfl) (fun e he=>?_) ⟨O,fun _ _ s hs=>absurd hs (by simp)⟩ (fun w' hS=>?_) (fun w' hS=>?_) (fun w' hS=>hD.subL hS (by simp)) (fun w' hw=>lk (hw (pt g 89 (aD (bf x) (be (aL m bl) ([],(aL m bl).sA,(aL m bl).sc)))) (by simp))) (fun i y w' _ hw=>rT (x:=(bf x)) (hw (pt g 89 (aD (bf x) (be (aL m bl) y.1))) (by simp))) (fun j y w' hx hj hS=>?_) (fun y Dd hy=>?_) (fun y Dd j hj hy=>absurd hy id)
 ·obtain⟨n,_,rfl⟩:=List.mem_map.1 he
  rfl
 ·rw[kM]
  exact ae (H':=[zN,pt g 89 (aD (bf x) (aL m bl)),row 3 1 (aL m bl).p.vA (aL m bl).p.vn (aL m bl).p.vc ((bf x).votes.map zv),row 112 3 (aL m bl).p.pA (aL m bl).p.pn (aL m bl).p.pc (ab bp (bf x).peers),row 65 12 (aL m bl).sA (aL m bl).S.length (aL m bl).sc (ab bK (aL m bl).S),pt b2 87 [.pointer (some ⟨g,0,none⟩)],pt b1 87 [.pointer (some ⟨g,0,none⟩)]]) w' hS
 ·exact gr w' g b2 (bf x) (be (aL m bl) ([],(aL m bl).sA,(aL m bl).sc)) _ (fun w2 h2=>(h1 w2 h2.1).lg) (fun w2 h2=>kL (t:=87) (h2.2 (pt b2 87 [.pointer (some ⟨g,0,none⟩)]) (by simp))) (aJ (bf x)) O (by omega)
 ·rw[List.length_map] at hj
  obtain⟨n,hn⟩: ∃ n,(dr (bf x)).getD j 0=n:=⟨_,O⟩
  have htk:(dr (bf x)).take (j+1)=(dr (bf x)).take j++[n]:=by rw[List.take_succ_eq_append_getElem hj];simp[List.getD,hj, ← hn]
  have hge:((dr (bf x)).map fun n=>[zv n]).getD j []=[zv n]:=by rw[← hn];simp[List.getD,hj]
  rw[hge]
  obtain⟨⟨N,AN,cN⟩,Zy⟩:=y
  obtain⟨hx1,hx2⟩:=hx
  dsimp only at hx1 hx2
  have hNl:N.length≤5:=by
   have e1:N.length=(((dr (bf x)).take j).flatMap (fun n=>[{gL with K:=3,F:=x.me,T:=n,tm:=x.term+1,pl:=lastP x}])).length:=by rw[← hx1,List.length_map]
   rw[e1]
   refine Nat.le_trans (jl (fun a=>?_) _) ?_
   ·exact Nat.le_refl _
   ·rw[List.length_take]
    omega
  intro l2 rA rB Ba Bb J hfull hbeg hend hret
  have hC1:=dh (b:=b1) (As:=rA::Zy::mP g (bf x) (be (aL m bl) (N,AN,cN))) hfull O
  have hDr:Kd D (rA::Zy::mP g (bf x) (be (aL m bl) (N,AN,cN))) w':=hD.to hfull
  have hms: ∀ w2,K2 D Zy w2→McR w2 (bf x) (be (aL m bl) (N,AN,cN)):=fun w2 h2=>⟨(h1 w2 h2.1).lg,fun s hs=>by
   rcases List.mem_append.1 hs with hs|hs
   ·exact(h1 w2 h2.1).ms s hs
   ·exact hx2 w2 h2 s hs⟩
  have hSl:(be (aL m bl) (N,AN,cN)).S.length≤900:=by
   show ((aL m bl).S++N).length≤900
   rw[List.length_append]
   have:(aL m bl).S.length≤800:=hSm
   omega
  focus (refine qr ?_;refine qp ?_;refine qz ?_)
  refine hbeg _ (Zy::mP g (bf x) (be (aL m bl) (N,AN,cN))) _ ?_ ae
  focus (refine qb ?_)
  refine iG ([pt g 89 (aD (bf x) (be (aL m bl) (N,AN,cN)))]) ae (by kernel_rfl) O (by kernel_rfl) (by kernel_rfl) (by kernel_rfl:_=12) ?_
  refine dt 0 O (cB (v:= .pointer (some ⟨g,0,none⟩)) O O O hC1 (fun k hk=>hk) O) ?_
  refine dp 1 ?_
  refine dt 2 O (cB (v:= .pointer (some ⟨g,0,none⟩)) O O O hC1 (fun k hk=>hk) O) ?_
  refine dt 3 O (ac O) ?_
  refine dp 4 ?_
  refine dp 5 ?_
  refine dl 6 ?_
  refine dt 7 O (cB (v:= .pointer (some ⟨g,0,none⟩)) O O O hC1 (fun k hk=>hk) O) ?_
  refine dE 8 O (aq (f:=59) pE (fun w hS=>ef w g (bf x) (be (aL m bl) (N,AN,cN)) (bJ hS (by simp)) (h1 w (hDr.at_ hS)).lg) O O (fun _=>O)) ?_
  rintro _ _ ⟨_,rfl,_,rfl⟩
  refine nx ?_
  refine dt 9 O (ik O O O O (tn n (x.term+1) (lastP x))) ?_
  refine dE 10 O (cK (vs:=[.agg (aW (⟨3,0,n,x.term+1,lastP x,[],0,false,0,[],[]⟩:Ms) (⟨none,0,0,none,0,0,none,0,0,[]⟩:Mp)).toArray]) (size:=12) (ds:=aW (⟨3,0,n,x.term+1,lastP x,[],0,false,0,[],[]⟩:Ms) (⟨none,0,0,none,0,0,none,0,0,[]⟩:Mp)) O O O O O O (by simp[aV,dZ]) O (by omega)) ?_
  rintro _ _ ⟨vb,rfl,rfl⟩
  refine nx ?_
  refine dE 11 O (fF (f:=113) (mP g (bf x) (be (aL m bl) (N,AN,cN))) (fun(y:Option Addr×Nat)=>mP g (bf x) (bT (bf x) (be (aL m bl) (N,AN,cN)) ((⟨3,0,n,x.term+1,lastP x,[],0,false,0,[],[]⟩:Ms),(⟨none,0,0,none,0,0,none,0,0,[]⟩:Mp)) y.1 y.2)) kT (fun w1 hS1 hS2=>dB w1 g (bf x) (be (aL m bl) (N,AN,cN)) hS2 (some ⟨vb,0,none⟩) 1 (⟨3,0,n,x.term+1,lastP x,[],0,false,0,[],[]⟩:Ms) (⟨none,0,0,none,0,0,none,0,0,[]⟩:Mp) (iw (dh (b:=vb) (t:=65) (As:=mP g (bf x) (be (aL m bl) (N,AN,cN))) hS1 O)) (by omega)) O O) ?_
  rintro _ _ ⟨⟨AS,cS⟩,rfl,_,rfl⟩;dsimp only[List.cons_append,List.nil_append]
  refine dV ?_
  refine dn ?_
  skip
  focus (refine aK ?_)
  refine hend ((N++[(eE (bf x) (⟨3,0,n,x.term+1,lastP x,[],0,false,0,[],[]⟩:Ms),(⟨none,0,0,none,0,0,none,0,0,[]⟩:Mp))],AS,cS),Zy) _ _ ⟨?_,fun w2 h2 s hs=>?_⟩ ?_
  ·dsimp only
   rw[htk,List.flatMap_append,List.map_append,hx1]
   rfl
  ·rcases List.mem_append.1 hs with hs|hs
   ·exact hx2 w2 h2 s hs
   ·obtain rfl:s=(eE (bf x) (⟨3,0,n,x.term+1,lastP x,[],0,false,0,[],[]⟩:Ms),(⟨none,0,0,none,0,0,none,0,0,[]⟩:Mp)):=by simpa using hs
    exact⟨O,Nat.zero_le _,O,Rd.none_,fun m hm=>absurd hm (by simp),O,Nat.zero_le _,Rd.none_,Bs.nil _ _,Nat.zero_le _⟩
  ·have e:bT (bf x) (be (aL m bl) (N,AN,cN)) ((⟨3,0,n,x.term+1,lastP x,[],0,false,0,[],[]⟩:Ms),(⟨none,0,0,none,0,0,none,0,0,[]⟩:Mp)) AS cS=be (aL m bl) (N++[(eE (bf x) (⟨3,0,n,x.term+1,lastP x,[],0,false,0,[],[]⟩:Ms),(⟨none,0,0,none,0,0,none,0,0,[]⟩:Mp))],AS,cS):=by simp[bT,be]
   dsimp only
   rw[← e]
   exact ae
 ·simp only[List.cons_append,List.nil_append]
  focus (refine aK ?_)
  refine hEM _ _ _ _ inferInstance fun w' hS=>⟨(bl,y.1,y.2),?_,?_⟩
  ·rw[List.length_map,List.take_length] at hy
   exact hy
  ·exact(ae (H':=y.2::mP g (bf x) (be (aL m bl) y.1)) w' hS).perm (List.perm_append_comm (l₁:=[y.2]))
theorem Ef.pre {P:Program} {n:Nat} {w0:World} {M:Nat→Prop} {T:aF} {H H':List Asn} {o:Oper} {E:Value→List Asn→Prop} (hm: ∀ w,St w0 M H w→St w0 M H' w) (h:Ef P n w0 M T H' o E):Ef P n w0 M T H o E:= .mkIn fun a w ha hS=>h.run a w ha (hm w hS)
structure SrvR (w:World) (x:Rs) (m:Mm):Prop where
 rf:RfR w x m.p
 rs:Rd w bC 12 m.sA m.S.length (ab bK m.S)
 ms: ∀ s∈m.S,MsR w s.1 s.2
 rl:m.S.length≤maxLen
theorem zU {w:World} {g:Nat} {x:Rs} {m:Mm} (h: ∀ A∈mP g x m,A.holds w) (hr:McR w x m) (hl:McL x m) (hu:RsU x) (hv:x.votes.length≤900) (hp:x.peers.length≤900):SrvR w x m:=
 ⟨⟨hr.lg,hl.hvn,hl.hvn▸hv,ce (h (row 3 1 m.p.vA m.p.vn m.p.vc (x.votes.map zv)) (by simp)),hl.hpn,hl.hpn▸hp,ce (h (row 112 3 m.p.pA m.p.pn m.p.pc (ab bp x.peers)) (by simp)),hu⟩,ce (h (row 65 12 m.sA m.S.length m.sc (ab bK m.S)) (by simp)),hr.ms,by have:=ep (h (row 65 12 m.sA m.S.length m.sc (ab bK m.S)) (by simp));omega⟩
theorem lM {L:List Asn} {w:World} (h:(pj L).holds w): ∀ A∈L,A.holds w:=h.1
theorem mf (w:World) (x:Rs) (p:Rp) (h:RfR w x p) (D0:Kw) (hD0:Kd D0 [] w) (f:FuncId) (cap:List Value) (hf:Fn_ Tryz.prog f) (x2:Rs) (ms:List Ms) (ib:Bool) (hu2:RsU x2) (hv2:x2.votes.length≤900) (hp2:x2.peers.length≤900)
  (hc: ∀ (w1:World) (g:Nat) (m:Mm) (D:Kw),St w1 (ar (mP g x m)) (mP g x m) w1→Kd D (mP g x m) w1→(∀ w',D w'→D0 w'∧McR w' x m)→McL x m→m.S=[]→m.i=false→Gives Tryz.prog f (.pointer (some ⟨g,0,none⟩)::cap) (mP g x m) w1 (X:=Mm×Asn) (fun _=> .tuple #[]) (fun y=>y.1.S.map Prod.fst=ms∧y.1.i=ib∧McL x2 y.1∧ ∀ w',K2 D y.2 w'→McR w' x2 y.1) (fun y=>mP g x2 y.1++[y.2])):
  Gives Tryz.prog 39 [.agg (aZ x p).toArray,.func (.func f) #[] cap.toArray] [] w (X:=Mm×Asn) (fun y=> .tuple #[.agg (aZ x2 y.1.p).toArray,.slice y.1.sA y.1.S.length y.1.sc,.bool ib]) (fun y=>y.1.S.map Prod.fst=ms∧ ∀ w',K2 D0 y.2 w'→SrvR w' x2 y.1) (fun y=>[y.2]):=by
 refine cX Tryz.func39 O Tryz.ntmps39 Tryz.results39 (by simp) (St.enter w) (fun B hB=>?_)
 have n1:=h.lg.hm
 have n2:=h.lg.hcm
 have n3:=h.hvm
 have n4:=h.hpm
 have hdd:=h.lg.ed
 focus (refine qs ?_;(refine qe (ap (cs:=aZ x p) O) ?_;rintro _ _ ⟨b2,rfl,rfl⟩);(refine qe (am O ch) ?_;rintro _ _ ⟨b4,rfl,rfl⟩);refine qp ?_;refine qp ?_;refine qn ?_;refine qt (ai (ds:=aZ x p) O O O O O) ?_;(refine qe (eD (f:=37) FF (fun w hS=>ji w x p (h.keep hS.kpO)) O O) ?_;rintro _ _ ⟨q,rfl,⟨hq,hqn,hqc,hqv,hqp⟩,rfl⟩;dsimp only[List.cons_append,List.nil_append]);refine qt (gH O (th x q)) ?_;(refine qe (ap (cs:=aD x ⟨q,[],none,0,false⟩) O) ?_;rintro _ _ ⟨g,rfl,rfl⟩);refine qp ?_;refine qn ?_;refine qp ?_;refine qp ?_)
 obtain⟨m0,hm0⟩: ∃ m:Mm,m=⟨q,[],none,0,false⟩:=⟨_,O⟩
 obtain⟨Z0,hZ0⟩: ∃ Z,Z=zA (row 59 3 q.A q.n q.c (ab aN q.Q)) (zA (dq 5 (q.Q.map cR)) (row 3 1 q.cA q.cn q.cc (x.cf.map zv))):=⟨_,O⟩
 have hmem: ∀ w1,St w (ar []) [pt g 89 (aD x ⟨q,[],none,0,false⟩),row 59 3 q.A q.n q.c (ab aN q.Q),dq 5 (q.Q.map cR),row 3 1 q.cA q.cn q.cc (x.cf.map zv),row 3 1 q.vA q.vn q.vc (x.votes.map zv),row 112 3 q.pA q.pn q.pc (ab bp x.peers),pt b4 42 (aZ dy df),pt b2 42 (aZ x p)] w1→St w (ar []) (Z0::pt b4 42 (aZ dy df)::mP g x m0) w1:=fun w1 hS1=>by
  have e1:=ae (H':=[dq 5 (q.Q.map cR),row 3 1 q.cA q.cn q.cc (x.cf.map zv),row 59 3 q.A q.n q.c (ab aN q.Q),pt g 89 (aD x ⟨q,[],none,0,false⟩),row 3 1 q.vA q.vn q.vc (x.votes.map zv),row 112 3 q.pA q.pn q.pc (ab bp x.peers),pt b4 42 (aZ dy df)]) w1 hS1
  have e2:=fT ((fT e1).perm (List.Perm.swap _ _ _))
  have e3:=e2.nilrow 65 12
  rw[hZ0,hm0]
  exact ae (H':=[zA (row 59 3 q.A q.n q.c (ab aN q.Q)) (zA (dq 5 (q.Q.map cR)) (row 3 1 q.cA q.cn q.cc (x.cf.map zv))),pt b4 42 (aZ dy df),pt g 89 (aD x ⟨q,[],none,0,false⟩),row 3 1 q.vA q.vn q.vc (x.votes.map zv),row 112 3 q.pA q.pn q.pc (ab bp x.peers),row 65 12 none 0 0 []]) w1 e3
 have hmr: ∀ w',K2 D0 Z0 w'→D0 w'∧McR w' x m0:=fun w' h'=>⟨h'.1,by
  have h2:=h'.2
  rw[hZ0] at h2
  have e1:=iY h2
  have e2:=gZ h2
  rw[hm0]
  exact⟨jX e1 (iY e2) (ce (gZ e2)) hq.hQ hq.hn hq.hcn (by dsimp only;omega) (by dsimp only;omega) hdd,fun s hs=>absurd hs (by simp)⟩⟩
 have hml:McL x m0:=by rw[hm0];exact⟨hq.hvn,hq.hpn⟩
 have hmS:m0.S=[]:=by rw[hm0]
 have hmi:m0.i=false:=by rw[hm0]
 focus ((refine qe (Ef.pre hmem (zp (D:=D0) (Z:=Z0) (vs':= .pointer (some ⟨g,0,none⟩)::cap) cap (mP g x m0) (fun y:Mm×Asn=>mP g x2 y.1) hD0 hf O (fun w1 _ hk hS1=>hc w1 g m0 (K2 D0 Z0) hS1 hk hmr hml hmS hmi) (fK _ _ _ O cap) O)) ?_;rintro _ _ ⟨⟨m2,Z2⟩,Z',rfl,⟨hI1,hI2,hI3,hI4⟩,hold,hnew,rfl⟩;dsimp only[List.cons_append,List.nil_append] at hI1 hI2 hI3 hI4 ⊢);refine qz ?_;refine qq ?_)
 refine dS [pt g 89 (aD x2 m2)] 15 ?_
 refine dp 0 ?_
 refine dt 1 O (ac O) ?_
 refine dp 2 ?_
 refine dt 3 O (ai (ds:=aZ x2 m2.p) O O O O O) ?_
 refine dp 4 ?_
 refine dt 5 O (ac O) ?_
 refine dp 6 ?_
 refine dl 7 ?_
 refine dp 8 ?_
 refine dt 9 O (ac O) ?_
 refine dp 10 ?_
 refine dl 11 ?_
 refine dE 12 O (aj (cs:=aZ dy df) (ds:=aZ x2 m2.p) O O O O (bn _ _) O) ?_
 rintro _ _ rfl
 refine nx ?_
 refine dp 13 ?_
 refine dp 14 ?_
 refine dn ?_
 skip
 rw[← hI2] at hB
 skip
 refine hB _ _ _ _ _ O (.cell O O O inferInstance O (.tmp O (.tmp O .nil))) fun w' hS=>⟨(m2,pj (Z'::mP g x2 m2)),O,⟨hI1,fun w3 h3=>?_⟩,eU (L:=Z'::mP g x2 m2) (H:=[]) (ae (H':=[Z',pt g 89 (aD x2 m2),row 3 1 m2.p.vA m2.p.vn m2.p.vc (x2.votes.map zv),row 112 3 m2.p.pA m2.p.pn m2.p.pc (ab bp x2.peers),row 65 12 m2.sA m2.S.length m2.sc (ab bK m2.S)]) w' hS)⟩
 have h4:=lM h3.2
 exact zU (fun A hA=>h4 A (List.mem_cons_of_mem _ hA)) (hI4 w3 (hnew w3 ⟨h3.1,h4 Z' (by simp)⟩)) hI3 hu2 hv2 hp2
def Mth (g:Nat) (x x2:Rs) (m:Mm) (ms:List Ms) (ib:Bool) (D:Kw) (f:FuncId) (args:List Value) (w:World):Prop:=
 Gives Tryz.prog f (.pointer (some ⟨g,0,none⟩)::args) (mP g x m) w (X:=Mm×Asn) (fun _=> .tuple #[]) (fun y=>y.1.S.map Prod.fst=m.S.map Prod.fst++ms∧y.1.i=ib∧McL x2 y.1∧ ∀ w',K2 D y.2 w'→McR w' x2 y.1) (fun y=>mP g x2 y.1++[y.2])
theorem jB (w:World) (A:Option Addr) (n c:Nat) (ms:List Int) (m:Int) (h:Rd w bC 1 A n (ms.map zv)) (hn:n≤1000) (r:Bool) (hr:(C.right ms&&decide (m∈ms))=r):
  Gives Tryz.prog 42 [C.jM A n c,zv m] [] w (X:=Unit) (fun _=> .bool r) (fun _=>True) (fun _=>[]):=hr▸C.go w A n c ms m h hn
theorem jC (w:World) (g:Nat) (x:Rs) (m:Mm) (hS0:St w (ar (mP g x m)) (mP g x m) w) (D:Kw) (hD:Kd D (mP g x m) w) (h: ∀ w',D w'→McR w' x m) (hl:McL x m) (bl:Nat) (lim:Int) (hbl: ∀ w':World,D w'→w'.cell? ⟨bl,0,none⟩=some (.int .i64 lim)) (hc0:0≤x.clock) (hc1:x.clock≤16) (hr:x.role≠4) (hlm:x.clock+1<x.limit):Mth g x {x with clock:=x.clock+1} m [] m.i D 40 [.pointer (some ⟨bl,0,none⟩)] w:=by
 obtain⟨y1,hy1⟩: ∃ y,y=({x with clock:=x.clock+1}:Rs):=⟨_,O⟩
 have f1y1:y1.role=x.role:=by rw[hy1]
 have f2y1:y1.limit=x.limit:=by rw[hy1]
 have f3y1:y1.clock=x.clock+1:=by rw[hy1]
 have f4y1:y1.term=x.term:=by rw[hy1]
 have f5y1:y1.me=x.me:=by rw[hy1]
 have f6y1:aJ y1=aJ x:=by rw[hy1];rfl
 have f7y1:y1.votes=x.votes:=by rw[hy1]
 have f8y1:y1.peers=x.peers:=by rw[hy1]
 have hy1M: ∀ w',D w'→McR w' y1 m:=fun w' h'=>by rw[hy1];exact⟨(h w' h').lg.like O O O O O O O O,(h w' h').ms⟩
 have hy1L:McL y1 m:=by rw[hy1];exact⟨hl.hvn,hl.hpn⟩
 have hy1P: ∀ (L:List Asn) w',St w (ar (mP g x m)) (pt g 89 (aD y1 m)::row 3 1 m.p.vA m.p.vn m.p.vc (x.votes.map zv)::row 112 3 m.p.pA m.p.pn m.p.pc (ab bp x.peers)::row 65 12 m.sA m.S.length m.sc (ab bK m.S)::L) w'→St w (ar (mP g x m)) (mP g y1 m++L) w':=fun L w' hS=>by
  show St _ _ (pt g 89 (aD y1 m)::row 3 1 m.p.vA m.p.vn m.p.vc (y1.votes.map zv)::row 112 3 m.p.pA m.p.pn m.p.pc (ab bp y1.peers)::row 65 12 m.sA m.S.length m.sc (ab bK m.S)::L) w'
  rw[f7y1,f8y1]
  exact hS
 obtain⟨y2,hy2⟩: ∃ y,y=({x with clock:=0}:Rs):=⟨_,O⟩
 have f1y2:y2.role=x.role:=by rw[hy2]
 have f2y2:y2.limit=x.limit:=by rw[hy2]
 have f3y2:y2.clock=0:=by rw[hy2]
 have f4y2:y2.term=x.term:=by rw[hy2]
 have f5y2:y2.me=x.me:=by rw[hy2]
 have f6y2:aJ y2=aJ x:=by rw[hy2];rfl
 have f7y2:y2.votes=x.votes:=by rw[hy2]
 have f8y2:y2.peers=x.peers:=by rw[hy2]
 have hy2M: ∀ w',D w'→McR w' y2 m:=fun w' h'=>by rw[hy2];exact⟨(h w' h').lg.like O O O O O O O O,(h w' h').ms⟩
 have hy2L:McL y2 m:=by rw[hy2];exact⟨hl.hvn,hl.hpn⟩
 have hy2P: ∀ (L:List Asn) w',St w (ar (mP g x m)) (pt g 89 (aD y2 m)::row 3 1 m.p.vA m.p.vn m.p.vc (x.votes.map zv)::row 112 3 m.p.pA m.p.pn m.p.pc (ab bp x.peers)::row 65 12 m.sA m.S.length m.sc (ab bK m.S)::L) w'→St w (ar (mP g x m)) (mP g y2 m++L) w':=fun L w' hS=>by
  show St _ _ (pt g 89 (aD y2 m)::row 3 1 m.p.vA m.p.vn m.p.vc (y2.votes.map zv)::row 112 3 m.p.pA m.p.pn m.p.pc (ab bp y2.peers)::row 65 12 m.sA m.S.length m.sc (ab bK m.S)::L) w'
  rw[f7y2,f8y2]
  exact hS
 obtain⟨y3,hy3⟩: ∃ y,y=({x with clock:=0,limit:=lim}:Rs):=⟨_,O⟩
 have f1y3:y3.role=x.role:=by rw[hy3]
 have f2y3:y3.limit=lim:=by rw[hy3]
 have f3y3:y3.clock=0:=by rw[hy3]
 have f4y3:y3.term=x.term:=by rw[hy3]
 have f5y3:y3.me=x.me:=by rw[hy3]
 have f6y3:aJ y3=aJ x:=by rw[hy3];rfl
 have f7y3:y3.votes=x.votes:=by rw[hy3]
 have f8y3:y3.peers=x.peers:=by rw[hy3]
 have hy3M: ∀ w',D w'→McR w' y3 m:=fun w' h'=>by rw[hy3];exact⟨(h w' h').lg.like O O O O O O O O,(h w' h').ms⟩
 have hy3L:McL y3 m:=by rw[hy3];exact⟨hl.hvn,hl.hpn⟩
 have hy3P: ∀ (L:List Asn) w',St w (ar (mP g x m)) (pt g 89 (aD y3 m)::row 3 1 m.p.vA m.p.vn m.p.vc (x.votes.map zv)::row 112 3 m.p.pA m.p.pn m.p.pc (ab bp x.peers)::row 65 12 m.sA m.S.length m.sc (ab bK m.S)::L) w'→St w (ar (mP g x m)) (mP g y3 m++L) w':=fun L w' hS=>by
  show St _ _ (pt g 89 (aD y3 m)::row 3 1 m.p.vA m.p.vn m.p.vc (y3.votes.map zv)::row 112 3 m.p.pA m.p.pn m.p.pc (ab bp y3.peers)::row 65 12 m.sA m.S.length m.sc (ab bK m.S)::L) w'
  rw[f7y3,f8y3]
  exact hS
 rw[show ({x with clock:=x.clock+1}:Rs)=y1 from hy1.symm]
 unfold Mth
 refine bO Tryz.func40 O Tryz.ntmps40 Tryz.results40 (by simp) hS0 (fun B hE hB=>?_)
 focus (refine qs ?_;refine qp ?_;refine qt (ac O) ?_;refine qp ?_;refine qp ?_;refine qt (ah O O O O) ?_;refine qt (ii O O O (by unfold aH;omega)) ?_;refine qt (ac O) ?_;refine qp ?_;refine qp ?_;(refine qw (aw (cs:=aD x m) (cs':=aD y1 m) O O O O O (by rw[hy1];rfl) (by show _<16;omega)) ?_;rintro _ _ rfl);refine qz ?_;refine qb ?_;refine qs ?_;refine qp ?_;refine qt (ac O) ?_;refine qp ?_;refine qp ?_;refine qt (ah O O O O) ?_;refine qf ?_;refine qp ?_;(iterate 6 refine qk ?_);refine qp ?_;refine qp ?_;refine qz ?_;refine qF ?_;refine qq ?_;(refine dQ 20 ?_;(refine dp 0 ?_);(refine dt 1 O (ac O) ?_);(refine dp 2 ?_);(refine dp 3 ?_);(refine dl 4 ?_);(refine cZ 5 ?_);(refine dp 6 ?_);(refine dp 7 ?_);(refine dt 8 O (ac O) ?_);(refine dp 9 ?_);(refine dp 10 ?_);(refine dl 11 ?_);(refine dp 12 ?_);(refine dt 13 O (ac O) ?_);(refine dp 14 ?_);(refine dp 15 ?_);(refine dl 16 ?_);(refine eI 17 ?_);(refine dp 18 ?_);(refine dp 19 ?_);refine dn ?_);refine qF ?_;refine qx ?_;refine aK ?_)
 have hfin:=fun(w':World)=>eg (w:=w) (M:=ar (mP g x m)) (g:=g) (x2:=y1) (m2:=m) (D:=D) (ms:=m.S.map Prod.fst++[]) (ib:=m.i) ⟨by simp,O,hy1L,fun w2 h2=>hy1M w2 h2.1⟩ (w':=w')
 first
 |exact hE _ _ fun w' hS=>hfin w' (hy1P [] w' (ae w' hS))
 |exact hB _ _ _ _ O fun w' hS=>hfin w' (hy1P [] w' (ae w' hS))
theorem vL (w:World) (g:Nat) (x:Rs) (m:Mm) (hS0:St w (ar (mP g x m)) (mP g x m) w) (D:Kw) (hD:Kd D (mP g x m) w) (h: ∀ w',D w'→McR w' x m) (hl:McL x m) (bl:Nat) (lim:Int) (hbl: ∀ w':World,D w'→w'.cell? ⟨bl,0,none⟩=some (.int .i64 lim)) (hc0:0≤x.clock) (hc1:x.clock≤16) (hr:x.role=4) (hlm:x.clock+1<2):Mth g x {x with clock:=x.clock+1} m [] m.i D 40 [.pointer (some ⟨bl,0,none⟩)] w:=by
 obtain⟨y1,hy1⟩: ∃ y,y=({x with clock:=x.clock+1}:Rs):=⟨_,O⟩
 have f1y1:y1.role=x.role:=by rw[hy1]
 have f2y1:y1.limit=x.limit:=by rw[hy1]
 have f3y1:y1.clock=x.clock+1:=by rw[hy1]
 have f4y1:y1.term=x.term:=by rw[hy1]
 have f5y1:y1.me=x.me:=by rw[hy1]
 have f6y1:aJ y1=aJ x:=by rw[hy1];rfl
 have f7y1:y1.votes=x.votes:=by rw[hy1]
 have f8y1:y1.peers=x.peers:=by rw[hy1]
 have hy1M: ∀ w',D w'→McR w' y1 m:=fun w' h'=>by rw[hy1];exact⟨(h w' h').lg.like O O O O O O O O,(h w' h').ms⟩
 have hy1L:McL y1 m:=by rw[hy1];exact⟨hl.hvn,hl.hpn⟩
 have hy1P: ∀ (L:List Asn) w',St w (ar (mP g x m)) (pt g 89 (aD y1 m)::row 3 1 m.p.vA m.p.vn m.p.vc (x.votes.map zv)::row 112 3 m.p.pA m.p.pn m.p.pc (ab bp x.peers)::row 65 12 m.sA m.S.length m.sc (ab bK m.S)::L) w'→St w (ar (mP g x m)) (mP g y1 m++L) w':=fun L w' hS=>by
  show St _ _ (pt g 89 (aD y1 m)::row 3 1 m.p.vA m.p.vn m.p.vc (y1.votes.map zv)::row 112 3 m.p.pA m.p.pn m.p.pc (ab bp y1.peers)::row 65 12 m.sA m.S.length m.sc (ab bK m.S)::L) w'
  rw[f7y1,f8y1]
  exact hS
 obtain⟨y2,hy2⟩: ∃ y,y=({x with clock:=0}:Rs):=⟨_,O⟩
 have f1y2:y2.role=x.role:=by rw[hy2]
 have f2y2:y2.limit=x.limit:=by rw[hy2]
 have f3y2:y2.clock=0:=by rw[hy2]
 have f4y2:y2.term=x.term:=by rw[hy2]
 have f5y2:y2.me=x.me:=by rw[hy2]
 have f6y2:aJ y2=aJ x:=by rw[hy2];rfl
 have f7y2:y2.votes=x.votes:=by rw[hy2]
 have f8y2:y2.peers=x.peers:=by rw[hy2]
 have hy2M: ∀ w',D w'→McR w' y2 m:=fun w' h'=>by rw[hy2];exact⟨(h w' h').lg.like O O O O O O O O,(h w' h').ms⟩
 have hy2L:McL y2 m:=by rw[hy2];exact⟨hl.hvn,hl.hpn⟩
 have hy2P: ∀ (L:List Asn) w',St w (ar (mP g x m)) (pt g 89 (aD y2 m)::row 3 1 m.p.vA m.p.vn m.p.vc (x.votes.map zv)::row 112 3 m.p.pA m.p.pn m.p.pc (ab bp x.peers)::row 65 12 m.sA m.S.length m.sc (ab bK m.S)::L) w'→St w (ar (mP g x m)) (mP g y2 m++L) w':=fun L w' hS=>by
  show St _ _ (pt g 89 (aD y2 m)::row 3 1 m.p.vA m.p.vn m.p.vc (y2.votes.map zv)::row 112 3 m.p.pA m.p.pn m.p.pc (ab bp y2.peers)::row 65 12 m.sA m.S.length m.sc (ab bK m.S)::L) w'
  rw[f7y2,f8y2]
  exact hS
 obtain⟨y3,hy3⟩: ∃ y,y=({x with clock:=0,limit:=lim}:Rs):=⟨_,O⟩
 have f1y3:y3.role=x.role:=by rw[hy3]
 have f2y3:y3.limit=lim:=by rw[hy3]
 have f3y3:y3.clock=0:=by rw[hy3]
 have f4y3:y3.term=x.term:=by rw[hy3]
 have f5y3:y3.me=x.me:=by rw[hy3]
 have f6y3:aJ y3=aJ x:=by rw[hy3];rfl
 have f7y3:y3.votes=x.votes:=by rw[hy3]
 have f8y3:y3.peers=x.peers:=by rw[hy3]
 have hy3M: ∀ w',D w'→McR w' y3 m:=fun w' h'=>by rw[hy3];exact⟨(h w' h').lg.like O O O O O O O O,(h w' h').ms⟩
 have hy3L:McL y3 m:=by rw[hy3];exact⟨hl.hvn,hl.hpn⟩
 have hy3P: ∀ (L:List Asn) w',St w (ar (mP g x m)) (pt g 89 (aD y3 m)::row 3 1 m.p.vA m.p.vn m.p.vc (x.votes.map zv)::row 112 3 m.p.pA m.p.pn m.p.pc (ab bp x.peers)::row 65 12 m.sA m.S.length m.sc (ab bK m.S)::L) w'→St w (ar (mP g x m)) (mP g y3 m++L) w':=fun L w' hS=>by
  show St _ _ (pt g 89 (aD y3 m)::row 3 1 m.p.vA m.p.vn m.p.vc (y3.votes.map zv)::row 112 3 m.p.pA m.p.pn m.p.pc (ab bp y3.peers)::row 65 12 m.sA m.S.length m.sc (ab bK m.S)::L) w'
  rw[f7y3,f8y3]
  exact hS
 rw[show ({x with clock:=x.clock+1}:Rs)=y1 from hy1.symm]
 unfold Mth
 refine bO Tryz.func40 O Tryz.ntmps40 Tryz.results40 (by simp) hS0 (fun B hE hB=>?_)
 focus (refine qs ?_;refine qp ?_;refine qt (ac O) ?_;refine qp ?_;refine qp ?_;refine qt (ah O O O O) ?_;refine qt (ii O O O (by unfold aH;omega)) ?_;refine qt (ac O) ?_;refine qp ?_;refine qp ?_;(refine qw (aw (cs:=aD x m) (cs':=aD y1 m) O O O O O (by rw[hy1];rfl) (by show _<16;omega)) ?_;rintro _ _ rfl);refine qz ?_;refine qb ?_;refine qs ?_;refine qp ?_;refine qt (ac O) ?_;refine qp ?_;refine qp ?_;refine qt (ah O O O O) ?_;refine qd ?_;refine qp ?_;refine qp ?_;refine qt (ac O) ?_;refine qp ?_;refine qp ?_;refine qt (ah O O O O) ?_;refine qf ?_;refine qp ?_;refine qp ?_;refine qz ?_;refine qF ?_;refine qq ?_;(refine dQ 20 ?_;(refine dp 0 ?_);(refine dt 1 O (ac O) ?_);(refine dp 2 ?_);(refine dp 3 ?_);(refine dl 4 ?_);(refine eI 5 ?_);(refine dp 6 ?_);(refine dk 7 ?_);(refine dk 8 ?_);(refine dk 9 ?_);(refine dk 10 ?_);(refine dk 11 ?_);(refine dk 12 ?_);(refine dk 13 ?_);(refine dk 14 ?_);(refine dk 15 ?_);(refine dk 16 ?_);(refine dk 17 ?_);(refine dp 18 ?_);(refine dp 19 ?_);refine dn ?_);refine qF ?_;refine qx ?_;refine aK ?_)
 have hfin:=fun(w':World)=>eg (w:=w) (M:=ar (mP g x m)) (g:=g) (x2:=y1) (m2:=m) (D:=D) (ms:=m.S.map Prod.fst++[]) (ib:=m.i) ⟨by simp,O,hy1L,fun w2 h2=>hy1M w2 h2.1⟩ (w':=w')
 first
 |exact hE _ _ fun w' hS=>hfin w' (hy1P [] w' (ae w' hS))
 |exact hB _ _ _ _ O fun w' hS=>hfin w' (hy1P [] w' (ae w' hS))
theorem xV (w:World) (g:Nat) (x:Rs) (m:Mm) (hS0:St w (ar (mP g x m)) (mP g x m) w) (D:Kw) (hD:Kd D (mP g x m) w) (h: ∀ w',D w'→McR w' x m) (hl:McL x m) (bl:Nat) (lim:Int) (hbl: ∀ w':World,D w'→w'.cell? ⟨bl,0,none⟩=some (.int .i64 lim)) (hc0:0≤x.clock) (hc1:x.clock≤16) (hr:x.role≠4) (hlm:x.limit≤x.clock+1) (h5:(aJ x).length≤5) (hno:(C.right (aJ x)&&decide (x.me∈aJ x))=false∨4611686018427387904≤x.term):Mth g x {x with clock:=0,limit:=lim} m [] m.i D 40 [.pointer (some ⟨bl,0,none⟩)] w:=by
 obtain⟨y1,hy1⟩: ∃ y,y=({x with clock:=x.clock+1}:Rs):=⟨_,O⟩
 have f1y1:y1.role=x.role:=by rw[hy1]
 have f2y1:y1.limit=x.limit:=by rw[hy1]
 have f3y1:y1.clock=x.clock+1:=by rw[hy1]
 have f4y1:y1.term=x.term:=by rw[hy1]
 have f5y1:y1.me=x.me:=by rw[hy1]
 have f6y1:aJ y1=aJ x:=by rw[hy1];rfl
 have f7y1:y1.votes=x.votes:=by rw[hy1]
 have f8y1:y1.peers=x.peers:=by rw[hy1]
 have hy1M: ∀ w',D w'→McR w' y1 m:=fun w' h'=>by rw[hy1];exact⟨(h w' h').lg.like O O O O O O O O,(h w' h').ms⟩
 have hy1L:McL y1 m:=by rw[hy1];exact⟨hl.hvn,hl.hpn⟩
 have hy1P: ∀ (L:List Asn) w',St w (ar (mP g x m)) (pt g 89 (aD y1 m)::row 3 1 m.p.vA m.p.vn m.p.vc (x.votes.map zv)::row 112 3 m.p.pA m.p.pn m.p.pc (ab bp x.peers)::row 65 12 m.sA m.S.length m.sc (ab bK m.S)::L) w'→St w (ar (mP g x m)) (mP g y1 m++L) w':=fun L w' hS=>by
  show St _ _ (pt g 89 (aD y1 m)::row 3 1 m.p.vA m.p.vn m.p.vc (y1.votes.map zv)::row 112 3 m.p.pA m.p.pn m.p.pc (ab bp y1.peers)::row 65 12 m.sA m.S.length m.sc (ab bK m.S)::L) w'
  rw[f7y1,f8y1]
  exact hS
 obtain⟨y2,hy2⟩: ∃ y,y=({x with clock:=0}:Rs):=⟨_,O⟩
 have f1y2:y2.role=x.role:=by rw[hy2]
 have f2y2:y2.limit=x.limit:=by rw[hy2]
 have f3y2:y2.clock=0:=by rw[hy2]
 have f4y2:y2.term=x.term:=by rw[hy2]
 have f5y2:y2.me=x.me:=by rw[hy2]
 have f6y2:aJ y2=aJ x:=by rw[hy2];rfl
 have f7y2:y2.votes=x.votes:=by rw[hy2]
 have f8y2:y2.peers=x.peers:=by rw[hy2]
 have hy2M: ∀ w',D w'→McR w' y2 m:=fun w' h'=>by rw[hy2];exact⟨(h w' h').lg.like O O O O O O O O,(h w' h').ms⟩
 have hy2L:McL y2 m:=by rw[hy2];exact⟨hl.hvn,hl.hpn⟩
 have hy2P: ∀ (L:List Asn) w',St w (ar (mP g x m)) (pt g 89 (aD y2 m)::row 3 1 m.p.vA m.p.vn m.p.vc (x.votes.map zv)::row 112 3 m.p.pA m.p.pn m.p.pc (ab bp x.peers)::row 65 12 m.sA m.S.length m.sc (ab bK m.S)::L) w'→St w (ar (mP g x m)) (mP g y2 m++L) w':=fun L w' hS=>by
  show St _ _ (pt g 89 (aD y2 m)::row 3 1 m.p.vA m.p.vn m.p.vc (y2.votes.map zv)::row 112 3 m.p.pA m.p.pn m.p.pc (ab bp y2.peers)::row 65 12 m.sA m.S.length m.sc (ab bK m.S)::L) w'
  rw[f7y2,f8y2]
  exact hS
 obtain⟨y3,hy3⟩: ∃ y,y=({x with clock:=0,limit:=lim}:Rs):=⟨_,O⟩
 have f1y3:y3.role=x.role:=by rw[hy3]
 have f2y3:y3.limit=lim:=by rw[hy3]
 have f3y3:y3.clock=0:=by rw[hy3]
 have f4y3:y3.term=x.term:=by rw[hy3]
 have f5y3:y3.me=x.me:=by rw[hy3]
 have f6y3:aJ y3=aJ x:=by rw[hy3];rfl
 have f7y3:y3.votes=x.votes:=by rw[hy3]
 have f8y3:y3.peers=x.peers:=by rw[hy3]
 have hy3M: ∀ w',D w'→McR w' y3 m:=fun w' h'=>by rw[hy3];exact⟨(h w' h').lg.like O O O O O O O O,(h w' h').ms⟩
 have hy3L:McL y3 m:=by rw[hy3];exact⟨hl.hvn,hl.hpn⟩
 have hy3P: ∀ (L:List Asn) w',St w (ar (mP g x m)) (pt g 89 (aD y3 m)::row 3 1 m.p.vA m.p.vn m.p.vc (x.votes.map zv)::row 112 3 m.p.pA m.p.pn m.p.pc (ab bp x.peers)::row 65 12 m.sA m.S.length m.sc (ab bK m.S)::L) w'→St w (ar (mP g x m)) (mP g y3 m++L) w':=fun L w' hS=>by
  show St _ _ (pt g 89 (aD y3 m)::row 3 1 m.p.vA m.p.vn m.p.vc (y3.votes.map zv)::row 112 3 m.p.pA m.p.pn m.p.pc (ab bp y3.peers)::row 65 12 m.sA m.S.length m.sc (ab bK m.S)::L) w'
  rw[f7y3,f8y3]
  exact hS
 rw[show ({x with clock:=0,limit:=lim}:Rs)=y3 from hy3.symm]
 unfold Mth
 refine bO Tryz.func40 O Tryz.ntmps40 Tryz.results40 (by simp) hS0 (fun B hE hB=>?_)
 focus (refine qs ?_;refine qp ?_;refine qt (ac O) ?_;refine qp ?_;refine qp ?_;refine qt (ah O O O O) ?_;refine qt (ii O O O (by unfold aH;omega)) ?_;refine qt (ac O) ?_;refine qp ?_;refine qp ?_;(refine qw (aw (cs:=aD x m) (cs':=aD y1 m) O O O O O (by rw[hy1];rfl) (by show _<16;omega)) ?_;rintro _ _ rfl);refine qz ?_;refine qb ?_;refine qs ?_;refine qp ?_;refine qt (ac O) ?_;refine qp ?_;refine qp ?_;refine qt (ah O O O O) ?_;refine qf ?_;refine qp ?_;(iterate 6 refine qk ?_);refine qp ?_;refine qp ?_;refine qz ?_;refine qF ?_;refine qq ?_;(refine dQ 20 ?_;(refine dp 0 ?_);(refine dt 1 O (ac O) ?_);(refine dp 2 ?_);(refine dp 3 ?_);(refine dl 4 ?_);(refine cZ 5 ?_);(refine dp 6 ?_);(refine dp 7 ?_);(refine dt 8 O (ac O) ?_);(refine dp 9 ?_);(refine dp 10 ?_);(refine dl 11 ?_);(refine dp 12 ?_);(refine dt 13 O (ac O) ?_);(refine dp 14 ?_);(refine dp 15 ?_);(refine dl 16 ?_);(refine cZ 17 ?_);(refine dp 18 ?_);(refine dp 19 ?_);refine dn ?_);refine qT ?_;refine qq ?_)
 refine dS [] 11 ?_
 refine dp 0 ?_
 refine dp 1 ?_
 refine dt 2 O (cT O O O (fun w1 hS1=>hbl w1 (hD.at_ hS1))) ?_
 refine dt 3 O (ac O) ?_
 refine dp 4 ?_
 refine dp 5 ?_
 refine dE 6 O (aw (cs:=aD y1 m) (cs':=aD y2 m) O O O O O (by rw[hy1,hy2];rfl) (by show _<16;omega)) ?_
 rintro _ _ rfl
 refine nx ?_
 refine dt 7 O (ac O) ?_
 refine dp 8 ?_
 refine dp 9 ?_
 refine dE 10 O (aw (cs:=aD y2 m) (cs':=aD y3 m) O O O O O (by rw[hy2,hy3];rfl) (by show _<16;omega)) ?_
 rintro _ _ rfl
 refine nx ?_
 refine dn ?_
 skip
 focus (refine qq ?_)
 cases hq:(C.right (aJ x)&&decide (x.me∈aJ x))
 ·skip
  refine dS [pt g 89 (aD y3 m)] 16 ?_
  refine dp 0 ?_
  refine dp 2 ?_
  refine dt 3 O (ac O) ?_
  refine dp 4 ?_
  refine dp 5 ?_
  refine dl 6 ?_
  refine dE 1 O (bB (f:=43) pk (fun w1 hS1=>du w1 g y3 m (bJ hS1 (by simp)) D (hD.call0 hS1) (fun w2 h2=>(hy3M w2 h2).lg) (aJ x) f6y3) O O (fun _=>O)) ?_
  rintro _ _ ⟨⟨⟨A3,K3,c3⟩,Z3⟩,rfl,hI3,rfl⟩
  refine nx ?_
  refine dE 7 O (aq (f:=42) zq (fun w1 hS1=>jB w1 A3 (aJ x).length c3 (aJ x) y3.me (hI3 w1 ⟨hD.at_ hS1,hS1.at_ (A:=Z3) (by simp)⟩) (by omega) false (by rw[f5y3];exact hq)) O O (fun _=>O)) ?_
  rintro _ _ ⟨_,rfl,_,rfl⟩
  refine nx ?_
  refine dp 8 ?_
  refine dk 9 ?_
  refine dk 10 ?_
  refine dk 11 ?_
  refine dk 12 ?_
  refine dk 13 ?_
  refine dk 14 ?_
  refine dp 15 ?_
  refine dn ?_
  skip
  focus (refine qF ?_;refine qx ?_;refine aK ?_)
  have hfin:=fun(w':World)=>eg (w:=w) (M:=ar (mP g x m)) (g:=g) (x2:=y3) (m2:=m) (D:=D) (ms:=m.S.map Prod.fst++[]) (ib:=m.i) ⟨by simp,O,hy3L,fun w2 h2=>hy3M w2 h2.1⟩ (w':=w')
  first
  |exact hE _ _ fun w' hS=>hfin w' (hy3P [] w' (ae w' hS))
  |exact hB _ _ _ _ O fun w' hS=>hfin w' (hy3P [] w' (ae w' hS))
 ·rw[hq] at hno
  have hno:4611686018427387904≤x.term:=by rcases hno with h|h;cases h;exact h
  refine dS [pt g 89 (aD y3 m)] 16 ?_
  refine dp 0 ?_
  refine dp 2 ?_
  refine dt 3 O (ac O) ?_
  refine dp 4 ?_
  refine dp 5 ?_
  refine dl 6 ?_
  refine dE 1 O (bB (f:=43) pk (fun w1 hS1=>du w1 g y3 m (bJ hS1 (by simp)) D (hD.call0 hS1) (fun w2 h2=>(hy3M w2 h2).lg) (aJ x) f6y3) O O (fun _=>O)) ?_
  rintro _ _ ⟨⟨⟨A3,K3,c3⟩,Z3⟩,rfl,hI3,rfl⟩
  refine nx ?_
  refine dE 7 O (aq (f:=42) zq (fun w1 hS1=>jB w1 A3 (aJ x).length c3 (aJ x) y3.me (hI3 w1 ⟨hD.at_ hS1,hS1.at_ (A:=Z3) (by simp)⟩) (by omega) true (by rw[f5y3];exact hq)) O O (fun _=>O)) ?_
  rintro _ _ ⟨_,rfl,_,rfl⟩
  refine nx ?_
  refine cZ 8 ?_
  refine dp 9 ?_
  refine dt 10 O (ac O) ?_
  refine dp 11 ?_
  refine dp 12 ?_
  refine dl 13 ?_
  refine eI 14 ?_
  refine dp 15 ?_
  refine dn ?_
  skip
  focus (refine qF ?_;refine qx ?_;refine aK ?_)
  have hfin:=fun(w':World)=>eg (w:=w) (M:=ar (mP g x m)) (g:=g) (x2:=y3) (m2:=m) (D:=D) (ms:=m.S.map Prod.fst++[]) (ib:=m.i) ⟨by simp,O,hy3L,fun w2 h2=>hy3M w2 h2.1⟩ (w':=w')
  first
  |exact hE _ _ fun w' hS=>hfin w' (hy3P [] w' (ae w' hS))
  |exact hB _ _ _ _ O fun w' hS=>hfin w' (hy3P [] w' (ae w' hS))
theorem oP (w:World) (g:Nat) (x:Rs) (m:Mm) (hS0:St w (ar (mP g x m)) (mP g x m) w) (D:Kw) (hD:Kd D (mP g x m) w) (h: ∀ w',D w'→McR w' x m) (hl:McL x m) (bl:Nat) (lim:Int) (hbl: ∀ w':World,D w'→w'.cell? ⟨bl,0,none⟩=some (.int .i64 lim)) (hc0:0≤x.clock) (hc1:x.clock≤16) (hr:x.role≠4) (hlm:x.limit≤x.clock+1) (h5:(aJ x).length≤5) (hyes:(C.right (aJ x)&&decide (x.me∈aJ x))=true) (htm:x.term<4611686018427387904) (hmj:C.dD (aJ x) [x.me]=false) (hSm:m.S.length≤800):Mth g x (bF {x with clock:=0,limit:=lim}) m ((dr x).flatMap (fun n=>[{gL with K:=1,F:=x.me,T:=n,tm:=x.term+1,pl:=lastP x}])) m.i D 40 [.pointer (some ⟨bl,0,none⟩)] w:=by
 obtain⟨y1,hy1⟩: ∃ y,y=({x with clock:=x.clock+1}:Rs):=⟨_,O⟩
 have f1y1:y1.role=x.role:=by rw[hy1]
 have f2y1:y1.limit=x.limit:=by rw[hy1]
 have f3y1:y1.clock=x.clock+1:=by rw[hy1]
 have f4y1:y1.term=x.term:=by rw[hy1]
 have f5y1:y1.me=x.me:=by rw[hy1]
 have f6y1:aJ y1=aJ x:=by rw[hy1];rfl
 have f7y1:y1.votes=x.votes:=by rw[hy1]
 have f8y1:y1.peers=x.peers:=by rw[hy1]
 have hy1M: ∀ w',D w'→McR w' y1 m:=fun w' h'=>by rw[hy1];exact⟨(h w' h').lg.like O O O O O O O O,(h w' h').ms⟩
 have hy1L:McL y1 m:=by rw[hy1];exact⟨hl.hvn,hl.hpn⟩
 have hy1P: ∀ (L:List Asn) w',St w (ar (mP g x m)) (pt g 89 (aD y1 m)::row 3 1 m.p.vA m.p.vn m.p.vc (x.votes.map zv)::row 112 3 m.p.pA m.p.pn m.p.pc (ab bp x.peers)::row 65 12 m.sA m.S.length m.sc (ab bK m.S)::L) w'→St w (ar (mP g x m)) (mP g y1 m++L) w':=fun L w' hS=>by
  show St _ _ (pt g 89 (aD y1 m)::row 3 1 m.p.vA m.p.vn m.p.vc (y1.votes.map zv)::row 112 3 m.p.pA m.p.pn m.p.pc (ab bp y1.peers)::row 65 12 m.sA m.S.length m.sc (ab bK m.S)::L) w'
  rw[f7y1,f8y1]
  exact hS
 obtain⟨y2,hy2⟩: ∃ y,y=({x with clock:=0}:Rs):=⟨_,O⟩
 have f1y2:y2.role=x.role:=by rw[hy2]
 have f2y2:y2.limit=x.limit:=by rw[hy2]
 have f3y2:y2.clock=0:=by rw[hy2]
 have f4y2:y2.term=x.term:=by rw[hy2]
 have f5y2:y2.me=x.me:=by rw[hy2]
 have f6y2:aJ y2=aJ x:=by rw[hy2];rfl
 have f7y2:y2.votes=x.votes:=by rw[hy2]
 have f8y2:y2.peers=x.peers:=by rw[hy2]
 have hy2M: ∀ w',D w'→McR w' y2 m:=fun w' h'=>by rw[hy2];exact⟨(h w' h').lg.like O O O O O O O O,(h w' h').ms⟩
 have hy2L:McL y2 m:=by rw[hy2];exact⟨hl.hvn,hl.hpn⟩
 have hy2P: ∀ (L:List Asn) w',St w (ar (mP g x m)) (pt g 89 (aD y2 m)::row 3 1 m.p.vA m.p.vn m.p.vc (x.votes.map zv)::row 112 3 m.p.pA m.p.pn m.p.pc (ab bp x.peers)::row 65 12 m.sA m.S.length m.sc (ab bK m.S)::L) w'→St w (ar (mP g x m)) (mP g y2 m++L) w':=fun L w' hS=>by
  show St _ _ (pt g 89 (aD y2 m)::row 3 1 m.p.vA m.p.vn m.p.vc (y2.votes.map zv)::row 112 3 m.p.pA m.p.pn m.p.pc (ab bp y2.peers)::row 65 12 m.sA m.S.length m.sc (ab bK m.S)::L) w'
  rw[f7y2,f8y2]
  exact hS
 obtain⟨y3,hy3⟩: ∃ y,y=({x with clock:=0,limit:=lim}:Rs):=⟨_,O⟩
 have f1y3:y3.role=x.role:=by rw[hy3]
 have f2y3:y3.limit=lim:=by rw[hy3]
 have f3y3:y3.clock=0:=by rw[hy3]
 have f4y3:y3.term=x.term:=by rw[hy3]
 have f5y3:y3.me=x.me:=by rw[hy3]
 have f6y3:aJ y3=aJ x:=by rw[hy3];rfl
 have f7y3:y3.votes=x.votes:=by rw[hy3]
 have f8y3:y3.peers=x.peers:=by rw[hy3]
 have hy3M: ∀ w',D w'→McR w' y3 m:=fun w' h'=>by rw[hy3];exact⟨(h w' h').lg.like O O O O O O O O,(h w' h').ms⟩
 have hy3L:McL y3 m:=by rw[hy3];exact⟨hl.hvn,hl.hpn⟩
 have hy3P: ∀ (L:List Asn) w',St w (ar (mP g x m)) (pt g 89 (aD y3 m)::row 3 1 m.p.vA m.p.vn m.p.vc (x.votes.map zv)::row 112 3 m.p.pA m.p.pn m.p.pc (ab bp x.peers)::row 65 12 m.sA m.S.length m.sc (ab bK m.S)::L) w'→St w (ar (mP g x m)) (mP g y3 m++L) w':=fun L w' hS=>by
  show St _ _ (pt g 89 (aD y3 m)::row 3 1 m.p.vA m.p.vn m.p.vc (y3.votes.map zv)::row 112 3 m.p.pA m.p.pn m.p.pc (ab bp y3.peers)::row 65 12 m.sA m.S.length m.sc (ab bK m.S)::L) w'
  rw[f7y3,f8y3]
  exact hS
 rw[show ({x with clock:=0,limit:=lim}:Rs)=y3 from hy3.symm]
 unfold Mth
 refine bO Tryz.func40 O Tryz.ntmps40 Tryz.results40 (by simp) hS0 (fun B hE hB=>?_)
 focus (refine qs ?_;refine qp ?_;refine qt (ac O) ?_;refine qp ?_;refine qp ?_;refine qt (ah O O O O) ?_;refine qt (ii O O O (by unfold aH;omega)) ?_;refine qt (ac O) ?_;refine qp ?_;refine qp ?_;(refine qw (aw (cs:=aD x m) (cs':=aD y1 m) O O O O O (by rw[hy1];rfl) (by show _<16;omega)) ?_;rintro _ _ rfl);refine qz ?_;refine qb ?_;refine qs ?_;refine qp ?_;refine qt (ac O) ?_;refine qp ?_;refine qp ?_;refine qt (ah O O O O) ?_;refine qf ?_;refine qp ?_;(iterate 6 refine qk ?_);refine qp ?_;refine qp ?_;refine qz ?_;refine qF ?_;refine qq ?_;(refine dQ 20 ?_;(refine dp 0 ?_);(refine dt 1 O (ac O) ?_);(refine dp 2 ?_);(refine dp 3 ?_);(refine dl 4 ?_);(refine cZ 5 ?_);(refine dp 6 ?_);(refine dp 7 ?_);(refine dt 8 O (ac O) ?_);(refine dp 9 ?_);(refine dp 10 ?_);(refine dl 11 ?_);(refine dp 12 ?_);(refine dt 13 O (ac O) ?_);(refine dp 14 ?_);(refine dp 15 ?_);(refine dl 16 ?_);(refine cZ 17 ?_);(refine dp 18 ?_);(refine dp 19 ?_);refine dn ?_);refine qT ?_;refine qq ?_)
 refine dS [] 11 ?_
 refine dp 0 ?_
 refine dp 1 ?_
 refine dt 2 O (cT O O O (fun w1 hS1=>hbl w1 (hD.at_ hS1))) ?_
 refine dt 3 O (ac O) ?_
 refine dp 4 ?_
 refine dp 5 ?_
 refine dE 6 O (aw (cs:=aD y1 m) (cs':=aD y2 m) O O O O O (by rw[hy1,hy2];rfl) (by show _<16;omega)) ?_
 rintro _ _ rfl
 refine nx ?_
 refine dt 7 O (ac O) ?_
 refine dp 8 ?_
 refine dp 9 ?_
 refine dE 10 O (aw (cs:=aD y2 m) (cs':=aD y3 m) O O O O O (by rw[hy2,hy3];rfl) (by show _<16;omega)) ?_
 rintro _ _ rfl
 refine nx ?_
 refine dn ?_
 skip
 focus (refine qq ?_)
 refine dS [pt g 89 (aD y3 m)] 16 ?_
 refine dp 0 ?_
 refine dp 2 ?_
 refine dt 3 O (ac O) ?_
 refine dp 4 ?_
 refine dp 5 ?_
 refine dl 6 ?_
 refine dE 1 O (bB (f:=43) pk (fun w1 hS1=>du w1 g y3 m (bJ hS1 (by simp)) D (hD.call0 hS1) (fun w2 h2=>(hy3M w2 h2).lg) (aJ x) f6y3) O O (fun _=>O)) ?_
 rintro _ _ ⟨⟨⟨A3,K3,c3⟩,Z3⟩,rfl,hI3,rfl⟩
 refine nx ?_
 refine dE 7 O (aq (f:=42) zq (fun w1 hS1=>jB w1 A3 (aJ x).length c3 (aJ x) y3.me (hI3 w1 ⟨hD.at_ hS1,hS1.at_ (A:=Z3) (by simp)⟩) (by omega) true (by rw[f5y3];exact hyes)) O O (fun _=>O)) ?_
 rintro _ _ ⟨_,rfl,_,rfl⟩
 refine nx ?_
 refine cZ 8 ?_
 refine dp 9 ?_
 refine dt 10 O (ac O) ?_
 refine dp 11 ?_
 refine dp 12 ?_
 refine dl 13 ?_
 refine cZ 14 ?_
 refine cZ 15 ?_
 refine dn ?_
 skip
 focus (refine qT ?_;refine qr ?_;refine qp ?_)
 have hmem: ∀ w1,St w (ar (mP g x m)) [Z3,pt g 89 (aD y3 m),row 3 1 m.p.vA m.p.vn m.p.vc (x.votes.map zv),row 112 3 m.p.pA m.p.pn m.p.pc (ab bp x.peers),row 65 12 m.sA m.S.length m.sc (ab bK m.S)] w1→St w (ar (mP g x m)) (zN::Z3::mP g y3 m) w1:=fun w1 hS1=>by
  have e1:=hy3P [zN,Z3] w1 (ae (H':=[pt g 89 (aD y3 m),row 3 1 m.p.vA m.p.vn m.p.vc (x.votes.map zv),row 112 3 m.p.pA m.p.pn m.p.pc (ab bp x.peers),row 65 12 m.sA m.S.length m.sc (ab bK m.S),zN,Z3]) w1 (dN hS1))
  exact ae (H':=[zN,Z3,pt g 89 (aD y3 m),row 3 1 m.p.vA m.p.vn m.p.vc (y3.votes.map zv),row 112 3 m.p.pA m.p.pn m.p.pc (ab bp y3.peers),row 65 12 m.sA m.S.length m.sc (ab bK m.S)]) w1 (show St _ _ [pt g 89 (aD y3 m),row 3 1 m.p.vA m.p.vn m.p.vc (y3.votes.map zv),row 112 3 m.p.pA m.p.pn m.p.pc (ab bp y3.peers),row 65 12 m.sA m.S.length m.sc (ab bK m.S),zN,Z3] w1 from e1)
 focus ((refine qe (Ef.pre hmem (cq (f:=44) (D:=D) (Z:=zN) (mP g y3 m) (fun y:Nat×(List (Ms×Mp)×Option Addr×Nat)×Asn=>mP g (bF y3) (be (aL m y.1) y.2.1)) hD Gs (fun w1 _ hk hS1=>zT w1 g y3 m hS1 (K2 D zN) hk (fun w2 h2=>hy3M w2 h2.1) hy3L (by omega) (by rw[f6y3];exact h5) hSm (by rw[f6y3,f5y3];exact hmj)) O O)) ?_;rintro _ _ ⟨⟨bv,⟨N,AN,cN⟩,ZN⟩,Z',rfl,⟨hI1,hI2⟩,hold,hnew,rfl⟩;dsimp only[List.cons_append,List.nil_append] at hI1 hI2 ⊢);refine qz ?_;refine aK ?_)
 have hfin:=fun(w':World)=>bR (w:=w) (M:=ar (mP g x m)) (g:=g) (x2:=(bF y3)) (m2:=be (aL m bv) (N,AN,cN)) (Z:=Z') (D:=D) (ms:=m.S.map Prod.fst++((dr x).flatMap (fun n=>[{gL with K:=1,F:=x.me,T:=n,tm:=x.term+1,pl:=lastP x}]))) (ib:=m.i) ⟨by rw[hy3] at hI1;rw[← (show N.map Prod.fst=(dr x).flatMap (fun n=>[{gL with K:=1,F:=x.me,T:=n,tm:=x.term+1,pl:=lastP x}]) from hI1)];exact List.map_append,O,⟨O,hy3L.hpn⟩,fun w2 h2=>⟨(hy3M w2 h2.1).lg.like O O O O O O O O,fun s hs=>by
   rcases List.mem_append.1 hs with hs|hs
   ·exact(h w2 h2.1).ms s hs
   ·exact hI2 w2 (hnew w2 h2) s hs⟩⟩ (w':=w')
 first
 |exact hE _ _ fun w' hS=>hfin w' (ae w' hS)
 |exact hB _ _ _ _ O fun w' hS=>hfin w' (ae w' hS)
theorem vM {g:Nat} {x x2:Rs} {m:Mm} {ms:List Ms} {D:Kw} {f:FuncId} {args:List Value} {w:World} (hms:m.S=[]) (hmi:m.i=false) (h:Mth g x x2 m ms m.i D f args w):
  Gives Tryz.prog f (.pointer (some ⟨g,0,none⟩)::args) (mP g x m) w (X:=Mm×Asn) (fun _=> .tuple #[]) (fun y=>y.1.S.map Prod.fst=ms∧y.1.i=false∧McL x2 y.1∧ ∀ w',K2 D y.2 w'→McR w' x2 y.1) (fun y=>mP g x2 y.1++[y.2]):=by
 unfold Mth at h
 rw[hms,hmi] at h
 exact h
theorem kN (w:World) (x:Rs) (p:Rp) (h:RfR w x p) (lim:Int) (hck:cz x=true) (hl4:4≤lim) (hl16:lim≤16) (x2:Rs) (ms:List Ms) (hu2:RsU x2) (hv2:x2.votes.length≤900) (hp2:x2.peers.length≤900)
  (hT: ∀ (w1:World) (g:Nat) (m:Mm) (D:Kw) (bl:Nat),St w1 (ar (mP g x m)) (mP g x m) w1→Kd D (mP g x m) w1→(∀ w',D w'→McR w' x m)→McL x m→m.S=[]→(∀ w':World,D w'→w'.cell? ⟨bl,0,none⟩=some (.int .i64 lim))→Mth g x x2 m ms m.i D 40 [.pointer (some ⟨bl,0,none⟩)] w1):
  Gives Tryz.prog 14 [.agg (aZ x p).toArray,.int .i64 lim] [] w (X:=Mm×Asn) (fun y=> .tuple #[.agg (aZ x2 y.1.p).toArray,.slice y.1.sA y.1.S.length y.1.sc,zi 0]) (fun y=>y.1.S.map Prod.fst=ms∧ ∀ w',y.2.holds w'→SrvR w' x2 y.1) (fun y=>[y.2]):=by
 refine cX Tryz.func14 O Tryz.ntmps14 Tryz.results14 (by simp) (St.enter w) (fun B hB=>?_)
 focus (refine qs ?_;(refine qe (ap (cs:=aZ x p) O) ?_;rintro _ _ ⟨b2,rfl,rfl⟩);(refine qe (fo (v:= .int .i64 lim) O O) ?_;rintro _ _ ⟨b3,rfl,rfl⟩);(refine qe (am O ch) ?_;rintro _ _ ⟨b4,rfl,rfl⟩);refine qp ?_;refine qp ?_;refine qz ?_;refine qq ?_;refine qb ?_;refine qs ?_;refine qt (ai (ds:=aZ x p) O O O O O) ?_;refine qh wK (fun w1 hS1=>dR w1 x p (h.keep hS1.kpO) true hck) ?_;refine qp ?_;refine qp ?_;refine qz ?_;refine qF ?_;refine qs ?_;(iterate 2 refine qt (ah O O O O) ?_;refine qf ?_;refine qp ?_);refine qp ?_;refine qz ?_;refine qF ?_;refine qx ?_;refine aK ?_;refine qs ?_;refine qt (ai (ds:=aZ x p) O O O O O) ?_;refine qt (gV O O) ?_;(refine qe (bB (f:=39) FG (fun w1 hS1=>mf w1 x p (h.keep hS1.kpO) (KL (fun _=>True) [pt b3 3 [.int .i64 lim]]) (Kd.subL (As':=[]) (fun _ _=>trivial) hS1 (by simp)) 40 [.pointer (some ⟨b3,0,none⟩)] GK x2 ms false hu2 hv2 hp2 (fun w2 g m D hS2 hk hd hml hms hmi=>vM hms hmi (hT w2 g m D b3 hS2 hk (fun w3 h3=>(hd w3 h3).2) hml hms (fun w3 h3=>kL (t:=3) ((hd w3 h3).1.2 (pt b3 3 [.int .i64 lim]) (by simp)))))) O O (fun _=>O)) ?_;rintro _ _ ⟨⟨m2,Z2⟩,rfl,⟨hI1,hI2⟩,rfl⟩;dsimp only at hI1 hI2);(iterate 4 refine qp ?_);(refine qw (aj (cs:=aZ x p) (ds:=aZ x2 m2.p) O O O O (bn _ _) O) ?_;rintro _ _ rfl);refine qp ?_;refine qp ?_;refine qn ?_;refine qt (ai (ds:=aZ x2 m2.p) O O O O O) ?_;refine qp ?_;(refine qw (aj (cs:=aZ dy df) (ds:=aZ x2 m2.p) O O O O (bn _ _) O) ?_;rintro _ _ rfl);refine qp ?_;refine qp ?_;refine qz ?_)
 refine hB _ _ _ _ _ O (.cell O O O inferInstance O (.tmp O (.tmp O .nil))) fun w' hS=>⟨(m2,zA (pt b3 3 [.int .i64 lim]) Z2),O,⟨hI1,fun w3 h3=>hI2 w3 ⟨⟨trivial,fun A hA=>by
  obtain rfl:A=pt b3 3 [.int .i64 lim]:=by simpa using hA
  exact iY h3⟩,gZ h3⟩⟩,fT (ae (H':=[pt b3 3 [.int .i64 lim],Z2]) w' hS)⟩
end Go.Proofs.YtdeffdldifepkaaGreat
