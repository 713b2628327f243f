/- Lemmas of the proof, part 6. -/
import Derived.Test.YtdeffdldifepkaaGreatZs5
set_option maxRecDepth 100000
set_option maxHeartbeats 4000000
namespace Go.Proofs.YtdeffdldifepkaaGreat.Rq
set_option linter.unusedVariables false
set_option linter.unusedSimpArgs false
variable {c0:List Int} {g:Gh} {S:Int→Rs×List En} {B:Nat} {v:Int} {x:Rs} {l:List En} {m:Ms}
theorem pd (a:At) (l:List En) (idx:Nat): ∀ m j,kG a l idx m<j→j≤m→s5 a l idx j=false
 |0,j,h,hj=>by omega
 |m+1,j,h,hj=>by
  unfold kG at h
  split at h
  ·omega
  ·rename_i hc
   rcases Nat.lt_or_ge j (m+1) with h1|h1
   ·exact pd a l idx m j h (by omega)
   ·obtain rfl:j=m+1:=by omega
    simpa using hc
theorem pf (n:Nat): ∀ (l:List Pe) (k:List Int),dY n l k=true→dY (n+1) l k=true
 |[],[],h=>h
 |[],_::_,h=>by simp[dY] at h
 |p::l,[],h=>by simp[dY] at h
 |p::l,i::k,h=>by
  simp only[dY,Bool.and_eq_true,decide_eq_true_eq] at h ⊢
  obtain⟨⟨⟨⟨a1,a2⟩,a3⟩,a4⟩,a5⟩:=h
  exact⟨⟨⟨⟨a1,a2⟩,by omega⟩,a4⟩,pf n l k a5⟩
theorem mw (R:RI c0 g S B) (h1:1≤v) (h5:v≤5) (hx:(S v).1=x) {k:Int} {d:List UInt8} (h0:eJ x k d=0) (hB:B+1≤100000):Tr c0 g S B v (gj x k d) (tA x k d) (B+1):=by
 subst hx
 have s:=R.sp v h1 h5
 have c:=s.cr
 have ro:=iX c.ro
 have hR:=R.rt h1 h5
 have hok:=R.ok (v:=v) (by omega)
 have hnow:=s.rl.now hR
 have hlen:=s.rl.len
 have hlp:(lastP (S v).1).1=(S v).2.length:=by rw[s.rl.lastP hR]
 have h00:=h0
 unfold eJ at h0
 split at h0
 ·cases h0
 ·rename_i hc1
  split at h0
  ·cases h0
  ·rename_i hr
   have hr:(S v).1.role=4:=Classical.not_not.1 hr
   split at h0
   ·cases h0
   ·rename_i hch
    obtain⟨a1,a2,a3,a4⟩:=sg R h1 h5 _ h0
    have hvt:=ro.vt (Or.inr hr)
    obtain⟨y,hy⟩: ∃ y:Rs,y={(S v).1 with es:=(S v).1.es++[((S v).1.term,k,d)]}:=⟨_,O⟩
    have hpr:gj (S v).1 k d=dI y:=by
     unfold gj
     rw[if_pos h00,show (wP (S v).1 k d).2.2.1=(S v).1.base from a3,show (wP (S v).1 k d).2.2.2=_ from a4,hy]
     rfl
    have hoke:okE ((S v).1.term,k,d):=⟨a1,fun h3=>by
     cases hs:gm d with
     |true=>rfl
     |false=>exact absurd (Or.inr (Or.inr ⟨h3,hs⟩)) hc1⟩
    obtain⟨h,H,I,e1⟩:=yh R.inv v (by omega) (nf y ((S v).2++[((S v).1.term,k,d)])) hr ((S v).1.term,k,d) O (fun hic=>by
     have hk:k=3:=of_decide_eq_true hic
     have hcb:kP (S v).1 d=false:=by
      cases hs:kP (S v).1 d with
      |false=>rfl
      |true=>exact absurd ⟨hk,hs⟩ hch
     unfold kP at hcb
     simp only[Bool.or_eq_false_iff,Bool.and_eq_false_iff,Bool.not_eq_false',decide_eq_true_eq,decide_eq_false_iff_not] at hcb
     obtain⟨⟨b1,b2⟩,b3⟩:=hcb
     refine⟨?_,fun j f hj hf=>?_,?_⟩
     ·have hcm:=c.cm
      rw[s.rl.trm hR hcm.1 hcm.2] at b2
      have b2:tmA (S v).2 (S v).1.commit=(S v).1.term:=b2
      have hc0:0<(S v).1.commit:=by
       rcases Nat.eq_zero_or_pos (S v).1.commit with h9|h9
       ·rw[h9] at b2
        exact absurd b2.symm hvt.2
       ·exact h9
      obtain⟨f,hf⟩:=dj (l:=(S v).2) (k:=(S v).1.commit-1) (by omega)
      have e2:=iT hf
      rw[show (S v).1.commit-1+1=(S v).1.commit by omega,b2] at e2
      exact⟨f,hc0,hf,e2.symm⟩
     ·have hj:(S v).1.commit≤j:=hj
      have hf:(S v).2[j]? =some f:=hf
      have hcm:=c.cm
      have hjl:=fP hf
      have hfe:(S v).1.es[j-(S v).1.base.1]? =some f:=by rw[s.rl.at,show (S v).1.base.1+(j-(S v).1.base.1)=j by omega,hf]
      have hcf:kG (S v).1.base (S v).1.es (lastP (S v).1).1 (S v).1.es.length<j-(S v).1.base.1+1:=by
       rw[fv,if_pos hR] at b1
       split at b1
       ·rename_i hz;rw[hz];omega
       ·rename_i hz
        rcases b1 with b1|b1
        ·cases b1
        ·have b1: ¬ (S v).1.commit<(S v).1.base.1+kG (S v).1.base (S v).1.es (lastP (S v).1).1 (S v).1.es.length:=b1
         omega
      have:=pd _ _ _ _ _ hcf (by omega)
      unfold s5 at this
      rw[Nat.add_sub_cancel,List.getD_eq_getElem?_getD,hfe,hlp,decide_eq_true (show 0<j-(S v).1.base.1+1 by omega),decide_eq_true (show (S v).1.base.1+(j-(S v).1.base.1+1)≤(S v).2.length by omega)] at this
      show decide (f.2.1=3)=false
      simpa using this
     ·have e2:lG c0 ((S v).2++[((S v).1.term,k,d)])=C.cI d:=by
       rw[nO]
       show yX _ _=_
       unfold yX
       rw[if_pos hk]
      show Gi (lG c0 (S v).2) (lG c0 ((S v).2++[((S v).1.term,k,d)]))
      rw[e2, ← hnow]
      have b4:=b3
      unfold C.kW at b4
      split at b4
      ·rename_i hrr
       simp only[Bool.and_eq_true] at hrr
       exact⟨hrr.1,hrr.2,Or.inr b3⟩
      ·cases b4) (by rw[hy];rfl) (by rw[hy];rfl) O (by rw[hy];rfl) (by rw[hy];exact hr) (by rw[hy];rfl)
    have R2:RI c0 h (upd S v (y,(S v).2++[((S v).1.term,k,d)])) (B+1):=by
     refine R.to _ (B+1) h1 h5 I (wv R.gk hok.1 hok.2 hoke e1) hB ⟨wu s.rl _ y (by rw[hy]) (by rw[hy]) (by rw[hy]),by rw[hy];exact s.me,by rw[hy];show ((S v).1.es++[_]).length≤16;rw[List.length_append];show _+1≤16;omega,?_⟩
     rw[hy]
     refine⟨c.tm,c.vt,c.ld,?_,c.li,c.ck,r9 hr (ro.v0 (by rw[hr];decide)) ?_ (ro.ld.1 hr) hvt.1 hvt.2⟩
     ·show (S v).1.base.1≤(S v).1.commit∧(S v).1.commit≤_
      have:=c.cm
      rw[List.length_append];omega
     ·rw[List.length_append]
      exact pf _ _ _ (ro.ps hr)
    obtain⟨h2,H2,R3,e2⟩:=qK R2 h1 h5 (by rw[aX,hy];exact hr)
    rw[gw,aX] at R3
    refine⟨h2,_,H.trans H2,by rw[hpr];exact R3,fun mm hm=>?_,?_⟩
    ·unfold tA at hm
     rw[if_pos h00,hpr] at hm
     obtain⟨n,hn,hm⟩:=List.mem_flatMap.1 hm
     have hn2:=lO R3 h1 h5 (n:=n) (by rw[aX];exact hn)
     exact sf R3 h1 h5 hn2.2.2 mm (by rw[aX];exact hm)
    ·obtain⟨b1,b2⟩:=qL y
     rw[hpr]
     exact⟨by rw[b1,hy];exact Nat.le_refl _,fun _ _=>by rw[b2,hy]⟩
theorem qM (R:RI c0 g S B) (h1:1≤v) (h5:v≤5) (hx:(S v).1=x) {idx:Nat} (ha:x.base.1≤idx) (hb:idx≤x.commit):Tr c0 g S B v (lr x idx) [] B:=by
 subst hx
 have s:=R.sp v h1 h5
 have c:=s.cr
 have hR:=R.rt h1 h5
 have hlen:=s.rl.len
 have hcm:=c.cm
 have hs2:lC (S v).1.base (S v).1.es idx=(0,(idx,tmA (S v).2 idx),(S v).2.drop idx):=by
  have hf:d5 (S v).1.base (S v).1.es idx=(((idx-(S v).1.base.1:Nat):Int),(idx,tmA (S v).2 idx)):=by rw[s.rl.fnd,if_pos ⟨ha,by omega⟩]
  rw[lC,if_pos hR,hf,if_neg (by simp)]
  simp only[Int.toNat_natCast]
  rw[s.rl.es,List.drop_drop,show (S v).1.base.1+(idx-(S v).1.base.1)=idx by omega]
 have e:lr (S v).1 idx={(S v).1 with base:=(idx,tmA (S v).2 idx),es:=(S v).2.drop idx,cf:=lG c0 ((S v).2.take idx)}:=by
  unfold lr
  rw[hs2,s.rl.frc hR ha]
 rw[e]
 refine Tr.one (l:=(S v).2) (Le.refl g) (R.alike h1 h5 O ⟨⟨by show idx≤_;omega,O,O,O⟩,s.me,?_,⟨c.tm,c.vt,c.ld,⟨hb,hcm.2⟩,c.li,c.ck,c.ro⟩⟩) (fun _ h=>by cases h) (Vk.refl _)
 show ((S v).2.drop idx).length≤16
 rw[List.length_drop]
 have:=s.es
 omega
theorem wy (R:RI c0 g S B) (h1:1≤v) (h5:v≤5) (hx:(S v).1=x) {lim:Int} (hl:4≤lim∧lim≤16):Tr c0 g S B v ⟨x.me,x.term,x.vote,x.base,x.es,x.cf,x.base.1,1,0,0,lim,[],[]⟩ [] B:=by
 subst hx
 have s:=R.sp v h1 h5
 have c:=s.cr
 have hcm:=c.cm
 refine Tr.one (l:=(S v).2) (Le.refl g) (R.soft h1 h5 s.me O O O O O hcm.1 (show (1:Int)≠3 by decide) (show (1:Int)≠4 by decide) ⟨c.tm,c.vt,(show (0:Int)≤0∧(0:Int)≤5 by decide),⟨Nat.le_refl _,by show (S v).1.base.1≤_;omega⟩,hl,?_,mp O O O (by show (0:Int)≠(S v).1.me;rw[s.me];omega)⟩) (fun _ h=>by cases h) (Vk.refl _)
 show (0:Int)≤0∧(0:Int)≤lim;omega
def Stl (g:Gh) (i:Nat) (e:En):Prop:= ∃ T a b,g.K T a b∧1≤i∧i≤a∧(g.LL T)[i-1]? =some e
theorem Stl.le {C:Cf} {g h:Gh} (F:Ft C g) (H:Le g h) {i:Nat} {e:En} (s:Stl g i e):Stl h i e:=by
 obtain⟨T,a,b,k1,k2,k3,k4⟩:=s
 obtain⟨y,hy,_⟩:=H.ll T (F.kk _ _ _ k1).1
 exact⟨T,a,b,H.kk _ _ _ k1,k2,k3,by rw[hy,List.getElem?_append_left (fP k4)];exact k4⟩
theorem Stl.one {C:Cf} {g:Gh} (F:Ft C g) {i:Nat} {e f:En} (s:Stl g i e) (t:Stl g i f):e=f:=by
 obtain⟨T,a,b,k1,k2,k3,k4⟩:=s
 obtain⟨U,a2,b2,m1,m2,m3,m4⟩:=t
 have key: ∀ {T U a b a2 b2:Nat} {e f:En},g.K T a b→i≤a→(g.LL T)[i-1]? =some e→g.K U a2 b2→i≤a2→(g.LL U)[i-1]? =some f→T<U→e=f:=by
  intro T U a b a2 b2 e f k1 k3 k4 m1 m3 m4 h
  have:=(LC F _ _ _ _ k1 h (F.kk _ _ _ m1).1).at (k:=i-1) (by omega)
  rw[k4,m4] at this
  exact Option.some.inj this
 rcases Nat.lt_trichotomy T U with h|h|h
 ·exact key k1 k3 k4 m1 m3 m4 h
 ·subst h
  rw[k4] at m4
  exact Option.some.inj m4
 ·exact(key m1 m3 m4 k1 k3 k4 h).symm
theorem RI.stl (R:RI c0 g S B) (h1:1≤v) (h5:v≤5) {k:Nat} {e:En} (he:(S v).1.es[k]? =some e) (hc:(S v).1.base.1+k+1≤(S v).1.commit):Stl g ((S v).1.base.1+k+1) e:=by
 have s:=R.sp v h1 h5
 rw[s.rl.at] at he
 rcases(R.inv.on v (by omega)).cm with h0|⟨T,i,j,k1,k2,k3,k4⟩
 ·have h0:(S v).1.commit=0:=h0
  omega
 ·have k3:(S v).1.commit≤i:=k3
  have k4:Ag (S v).1.commit (S v).2 (g.LL T):=k4
  exact⟨T,i,j,k1,by omega,by omega,by rw[Nat.add_sub_cancel, ← k4.at (by omega)];exact he⟩
theorem RI.led (R:RI c0 g S B) (h1:1≤v) (h5:v≤5) (hr:(S v).1.role=4):g.El (S v).1.term∧g.ec (S v).1.term=(S v).1.me:=by
 rw[(R.sp v h1 h5).me]
 exact((R.inv.on v (by omega)).ld hr).el
theorem RI.mat (R:RI c0 g S B) (h1:1≤v) (h5:v≤5) {u:Int} (u1:1≤u) (u5:u≤5) {k:Nat} {e:En} (he:(S v).1.es[k]? =some e) (hh:fu (S u).1.base (S u).1.es ((S v).1.base.1+k+1,e.1)=true):Ag ((S v).1.base.1+k+1) (S v).2 (S u).2:=by
 have s:=R.sp v h1 h5
 have t:=R.sp u u1 u5
 rw[s.rl.at] at he
 obtain⟨a1,a2,a3⟩:=(t.rl.has _).1 hh
 have a2:(S v).1.base.1+k+1≤(S u).2.length:=a2
 obtain⟨f,hf⟩:=dj (l:=(S u).2) (k:=(S v).1.base.1+k) (by omega)
 have a3:e.1=tmA (S u).2 ((S v).1.base.1+k+1):=a3
 rw[iT hf] at a3
 have w1:=((R.inv.on v (by omega)).wf.1 _ e he).2
 have w2:=((R.inv.on u (by omega)).wf.1 _ f hf).2
 rw[← a3] at w2
 exact w1.trans w2.symm
theorem RI.mat2 (R:RI c0 g S B) (h1:1≤v) (h5:v≤5) {u:Int} (u1:1≤u) (u5:u≤5) {top k:Nat} {e:En} (ha:Ag top (S v).2 (S u).2) (he:(S v).1.es[k]? =some e) (ht:(S v).1.base.1+k+1≤top) (hb:(S u).1.base.1<(S v).1.base.1+k+1):(S u).1.es[(S v).1.base.1+k+1-(S u).1.base.1-1]? =some e:=by
 have s:=R.sp v h1 h5
 have t:=R.sp u u1 u5
 rw[s.rl.at] at he
 rw[t.rl.at,show (S u).1.base.1+((S v).1.base.1+k+1-(S u).1.base.1-1)=(S v).1.base.1+k by omega, ← ha.at (by omega)]
 exact he
def g0:Gh:=⟨fun _=>[],fun _=>False,fun _=>0,fun _=>0,fun _ _ _=>False,fun _ _=>0,fun _ _=>0,fun _ _=>[],fun _ _=>[],fun _ _=>False⟩
def s0 (c0:List Int) (v:Int):Rs:=⟨v,0,0,(0,0),[],c0,0,1,0,0,3+v,[],[]⟩
theorem DY (hc:C.right c0=true):RI c0 g0 (fun v=>(s0 c0 v,[])) 0:=by
 refine⟨⟨?_,fun _ _ _=>O,fun v hv=>?_⟩,fun T=>⟨Nat.le_refl 0,fun e he=>by cases he⟩,by omega,hc,fun v h1 h5=>⟨⟨Nat.le_refl _,O,O,O⟩,O,Nat.zero_le _,?_⟩⟩
 ·refine⟨fun T h=>h.elim,fun T h=>h.elim,fun T h=>h.elim,fun T v h=>absurd O h,fun T v h=>absurd O h,fun T v h=>absurd O h,fun T c h=>h.elim,fun T h=>h.elim,fun S T v _ h=>h.elim,fun T v h=>h.elim,fun T k e h=>h.elim,fun T i j h=>h.elim⟩
 ·refine⟨⟨(fun k e h=>by cases h),(fun i j e f _ h=>by cases h),(fun e h=>by cases h)⟩,O,fun _ _=>O,fun _ h=>h.elim,fun _ h=>h.elim,fun h=>absurd h (show ¬ (1:Int)=3 by decide),fun h=>absurd h (show ¬ (1:Int)=4 by decide),fun _ h=>h.elim,Or.inl O⟩
 ·refine⟨Nat.zero_le _,(show (0:Int)≤0∧(0:Int)≤5 by decide),(show (0:Int)≤0∧(0:Int)≤5 by decide),⟨Nat.le_refl _,Nat.le_refl _⟩,?_,?_,mp O O O (by show (0:Int)≠v;omega)⟩
  ·show 4≤3+v∧3+v≤16;omega
  ·show (0:Int)≤0∧(0:Int)≤3+v;omega
theorem sq: ∀ (l:List Int) (p:Int),iP p l=true→0≤p→p≤5→(l.length:Int)≤5-p
 |[],p,_,_,h5=>by simp;omega
 |n::l,p,h,h0,h5=>by
  simp only[iP,Bool.and_eq_true,decide_eq_true_eq,iO] at h
  have:=sq l n h.2 (by omega) (by omega)
  rw[List.length_cons]
  omega
structure Ok15 (x y:Rs) (ms:List Ms):Prop where
 ck:cz y=true
 u:RsU y
 vn:y.votes.length≤900
 pn:y.peers.length≤900
 vk:x.term≤y.term∧(y.term=x.term→x.vote=0∨y.vote=x.vote)
 ms: ∀ m∈ms,dm m=true∧m.F=y.me
section
variable {c0:List Int} {g:Gh} {S:Int→Rs×List En} {B:Nat} {v:Int}
theorem RI.len (R:RI c0 g S B) (h1:1≤v) (h5:v≤5):(S v).1.base.1+(S v).1.es.length≤B:=by
 have s:=R.sp v h1 h5
 rw[s.rl.len]
 exact(R.ok (v:=v) (by omega)).2
theorem RI.u (R:RI c0 g S B) (h1:1≤v) (h5:v≤5):RsU (S v).1∧(S v).1.votes.length≤900∧(S v).1.peers.length≤900:=by
 have s:=R.sp v h1 h5
 have hc:=R.ck h1 h5
 have hr:=R.rt h1 h5
 have hl:=R.len h1 h5
 have hB:=R.lim
 have c:=s.cr
 have hro:=oX hc
 have hb2:(S v).1.base.2≤(S v).1.term:=by
  rw[s.rl.bt]
  unfold tmA
  split
  ·exact Nat.zero_le _
  ·cases he:(S v).2[(S v).1.base.1-1]? with
   |none=>exact Nat.zero_le _
   |some e=>exact R.tm (v:=v) (by omega) e (List.mem_of_getElem? he)
 have hcm:(S v).1.commit≤B:=by
  have:=c.cm.2
  have:=(R.ok (v:=v) (by omega)).2
  omega
 have hlp:(lastP (S v).1).1≤B:=by rw[lastP,if_pos hr];exact hl
 unfold di at hro
 simp only[Bool.and_eq_true] at hro
 obtain⟨⟨_,hvo⟩,hpo⟩:=hro
 refine⟨⟨by have:=c.tm;omega,by omega,by have:=c.tm;omega,by omega,fun p hp=>?_⟩,?_,Nat.le_trans (jD hc) (by omega)⟩
 ·split at hpo
  ·have:=qD _ _ _ hpo p hp
   omega
  ·simp only[decide_eq_true_eq] at hpo
   rw[List.length_eq_zero_iff.1 hpo] at hp
   cases hp
 ·split at hvo
  ·simp only[Bool.and_eq_true] at hvo
   have:=sq _ _ hvo.1 (by omega) (by omega)
   omega
  ·simp only[decide_eq_true_eq] at hvo
   omega
theorem Tr.ok {y:Rs} {ms:List Ms} {B':Nat} (T:Tr c0 g S B v y ms B') (h1:1≤v) (h5:v≤5):Ok15 (S v).1 y ms:=by
 obtain⟨h,l,_,R,hm,hv⟩:=T
 have hc:=R.ck h1 h5
 have hu:=R.u h1 h5
 have hme:=(R.sp v h1 h5).me
 rw[aX] at hc hu hme
 refine⟨hc,hu.1,hu.2.1,hu.2.2,⟨hv.1,fun e=>?_⟩,fun m hm'=>⟨(hm m hm').2.r,by rw[(hm m hm').1];exact hme.symm⟩⟩
 by_cases h0:(S v).1.vote=0
 ·exact Or.inl h0
 ·exact Or.inr (hv.2 e h0)
end
structure GI (c0:List Int) (g:Gh) (S:Int→Rs×List En) (B:Nat) (c:Cl):Prop where
 ri:RI c0 g S B
 n5:c.N.length=5
 nd: ∀ i,i<5→(c.N.getD i (dy,df)).1=(S ((i:Int)+1)).1
 om: ∀ s∈c.W,Om c0 g B s.1
 w6:c.W.length≤60
section
variable {c0:List Int} {g:Gh} {S:Int→Rs×List En} {B:Nat} {c:Cl}
theorem GI.set (G:GI c0 g S B c) {i:Nat} (hi:i<5) {y:Rs} {p:Rp} {ms:List Ms} {B':Nat} (T:Tr c0 g S B ((i:Int)+1) y ms B') (hB:B≤B') {L:List (Ms×Mp)} (hL:L.map Prod.fst=ms) (A:Option Addr) (k:Nat): ∃ h S',Le g h∧GI c0 h S' B' (cG c i (y,p) L A k):=by
 obtain⟨h,l,hle,R,hm,hv⟩:=T
 refine⟨h,_,hle,R,?_,fun j hj=>?_,fun s hs=>?_,?_⟩
 ·show (c.N.set i (y,p)).length=5
  rw[List.length_set];exact G.n5
 ·show ((c.N.set i (y,p)).getD j (dy,df)).1=_
  rw[List.getD_eq_getElem?_getD,List.getElem?_set]
  by_cases e:i=j
  ·subst e
   rw[if_pos O,if_pos (by rw[G.n5];exact hi),aX];rfl
  ·rw[if_neg e,dJ _ _ (by omega), ← G.nd j hj,List.getD_eq_getElem?_getD]
 ·rcases List.mem_append.1 (show s∈c.W++L.take _ from hs) with hs|hs
  ·have o:=G.om s hs
   obtain⟨_,_,_,_,_,_,a1,a2,a3,a4⟩:=v9 o.r
   exact o.le G.ri.inv.F hle (by omega) (by omega) hB
  ·exact(hm s.1 (by rw[← hL];exact List.mem_map.2 ⟨s,List.mem_of_mem_take hs,O⟩)).2
 ·show (c.W++L.take _).length≤60
  have:=G.w6
  rw[List.length_append,List.length_take];omega
theorem GI.way (G:GI c0 g S B c) {W:List (Ms×Mp)} (h: ∀ s∈W,s∈c.W) (hl:W.length≤60) (A:Option Addr) (k:Nat):GI c0 g S B {c with W:=W,wA:=A,wc:=k}:=
 ⟨G.ri,G.n5,G.nd,fun s hs=>G.om s (h s hs),hl⟩
end
end Go.Proofs.YtdeffdldifepkaaGreat.Rq
namespace Go.Proofs.YtdeffdldifepkaaGreat
open Go.RowKit
open Asn (pt row rb)
set_option linter.unusedVariables false
set_option linter.unusedSimpArgs false
theorem mx {α:Type} {f:α→List Value} {s:Nat} (hf: ∀ a,(f a).length=s): ∀ (l:List α) (q:Nat),ab f (l.take q)=(ab f l).take (q*s)
 |[],q=>by simp[ab]
 |a::l,0=>by simp[ab]
 |a::l,q+1=>by
  have ec: ∀ (a:α) (k:List α),ab f (a::k)=f a++ab f k:=fun a k=>by simp[ab]
  have e1:(q+1)*s=(f a).length+q*s:=by rw[hf a,Nat.add_mul,Nat.one_mul,Nat.add_comm]
  rw[List.take_succ_cons,ec,ec,mx hf l q,e1,List.take_length_add_append]
theorem my {α:Type} {f:α→List Value} {s:Nat} (hf: ∀ a,(f a).length=s): ∀ (l:List α) (q:Nat),ab f (l.drop q)=(ab f l).drop (q*s)
 |[],q=>by simp[ab]
 |a::l,0=>by simp[ab]
 |a::l,q+1=>by
  have ec: ∀ (a:α) (k:List α),ab f (a::k)=f a++ab f k:=fun a k=>by simp[ab]
  have e1:(q+1)*s=(f a).length+q*s:=by rw[hf a,Nat.add_mul,Nat.one_mul,Nat.add_comm]
  rw[List.drop_succ_cons,ec,my hf l q,e1,List.drop_length_add_append]
section
variable {P:Program} {n:Nat} {w0:World} {M:Nat→Prop} {T:aF} {H:List Asn} {dd:Option Tmp} {tt:TypeId} {pos:String} {af:Array Edge} {g:Option (Nat×Bool)} {x y:Operand}
theorem Af {A:Option Addr} {m q:Nat} {E:List (Ms×Mp)} (h:Srd w0 M H 12 A m (ab bK E)) (hq:q≤m):Srd w0 M H 12 A q (ab bK (E.take q)):=⟨fun w hS=>by
 rw[mx jy]
 exact rH (h.rd w hS) hq⟩
theorem Ah {A:Option Addr} {m c q:Nat} {E:List (Ms×Mp)} (h:Srd w0 M H 12 A m (ab bK E)) (hq:q≤m) (hc:m≤c):Srd w0 M H 12 (cutP A c q 12) (m-q) (ab bK (E.drop q)):=⟨fun w hS=>by
 rw[my jy]
 exact(h.cutP hq hc).rd w hS⟩
theorem Ai [HasTab P] {sz:Nat} {s e:TypeId} {A:Option Addr} {m c q:Nat} {kk:IntKind} {i ei:Ti} (hsz:ei.size=sz) (hx:az T x=some (.slice A m c)) (hy:az T y=some (.int kk (q:Int))) (hs:ty P s=some i) (hi:i.desc= .slice e) (he:ty P e=some ei) (hq:q≤m) (hc:m≤c):
  Tk P n w0 M T H ⟨dd,.slice s x (some y) none none,tt,pos,af,g⟩ (.slice (cutP A c q sz) (m-q) (c-q)):=hsz▸uh hx hy hs hi he hq hc
theorem ls {s t:TypeId} {kk:IntKind} {i:Int} (hx:az T x=some (.int kk i)) (hy:az T y=some (.int kk 0)):Tk P n w0 M T H ⟨dd,.call ⟨.builtin .max,#[x,y],#[s,t]⟩,tt,pos,af,g⟩ (.int kk ((i.toNat:Nat):Int)):=by
 have h:=yz (P:=P) (n:=n) (w0:=w0) (M:=M) (H:=H) (dd:=dd) (tt:=tt) (pos:=pos) (af:=af) (g:=g) (s:=s) (t:=t) hx hy
 rwa [show (if i<0 then (0:Int) else i)=((i.toNat:Nat):Int) by split<;>omega] at h
theorem sr {t u:TypeId} {i:Int} (hx:az T x=some (.int .i64 i)) (hy:az T y=some (.int .i64 13)):
  Tk P n w0 M T H ⟨dd,.binOp .rem t x y u,tt,pos,af,g⟩ (.int .i64 (i.tmod 13)):= .mk (fun a w ha _=>by
 have h1:=Int.tmod_lt_of_pos i (show (0:Int)<13 by decide)
 have h2:=Int.lt_tmod_of_pos i (show (0:Int)<13 by decide)
 have hf:aH .i64 (i.tmod 13):=by unfold aH;omega
 simp[execOp,ha.eval hx,ha.eval hy,eqGuard,binOp,Op.intDiv,ig hf])
end
theorem DZ (i:Int): ∃ q:Nat,(i.tmod 13+13).tmod 13=(q:Int)∧q<13∧aH .i64 (i.tmod 13+13):=by
 have h1:=Int.tmod_lt_of_pos i (show (0:Int)<13 by decide)
 have h2:=Int.lt_tmod_of_pos i (show (0:Int)<13 by decide)
 generalize i.tmod 13=z at h1 h2
 have h3:0≤z+13:=by omega
 rw[Int.tmod_eq_emod_of_nonneg h3]
 exact⟨((z+13)%13).toNat,by omega,by omega,by unfold aH;omega⟩
theorem lv {w:World} {c:Cl} {i:Nat} {y:Rs} {m:Mm} {A:Option Addr} {k:Nat} (h:CR w c) (hy:SrvR w y m):CR w (cG c i (y,m.p) m.S A k):=⟨fun z hz=>by
 rcases List.mem_or_eq_of_mem_set hz with hz|rfl
 ·exact h.nd z hz
 ·exact hy.rf,fun s hs=>by
 rcases List.mem_append.1 hs with hs|hs
 ·exact h.ms s hs
 ·exact hy.ms s (List.mem_of_mem_take hs),h.st⟩
theorem wz {x:Rs} {k:Int} {d:List UInt8} (hr:br x.base x.es=true):eJ x k d=0∨eJ x k d=2∨eJ x k d=251∨eJ x k d=252∨eJ x k d=6:=by
 unfold eJ
 split
 ·omega
 split
 ·omega
 split
 ·omega
 unfold wP app
 rw[if_pos hr]
 split
 ·split
  ·exact Or.inr (Or.inr (Or.inr (Or.inr O)))
  ·exact Or.inl O
 ·exact Or.inr (Or.inl O)
def nY (k nd nn:Int) (A:Option Addr) (n c:Nat):List Value:=[.int .i64 k,.int .i64 nd,.int .i64 nn,.slice A n c]
theorem nU (k nd nn:Int) (A:Option Addr) (n c:Nat): ∀ u∈nY k nd nn A n c,u.oneCell'=true:=by simp[nY,Value.oneCell']
theorem nh (w:World) (gc:Nat) (c:Cl) (hS0:St w (ar (cP gc c)) (cP gc c) w) (D:Kw) (hD:Kd D (cP gc c) w) (h: ∀ w',D w'→CR w' c) (i:Nat) (hi:i<c.N.length) (hN:c.N.length≤5) (xw:Rs) (hw:(c.N.getD i (dy,df)).1=xw) (y:Rs) (m:Mm) (hy: ∀ w',D w'→SrvR w' y m) (hW:c.W.length≤60) (ok:Rq.Ok15 xw y (m.S.map Prod.fst)):
  Gives Tryz.prog 15 [.pointer (some ⟨gc,0,none⟩),.int .i64 (i:Int),.agg (aZ y m.p).toArray,.slice m.sA m.S.length m.sc] (cP gc c) w (X:=Option Addr×Nat) (fun _=> .bool true) (fun _=>True) (fun z=>cP gc (cG c i (y,m.p) m.S z.1 z.2)++[zN]):=by
 obtain⟨⟨x1,p1⟩,hz⟩: ∃ z,c.N.getD i (dy,df)=z:=⟨_,O⟩
 obtain rfl:x1=xw:=by rw[← hw,hz]
 exact(wd w gc c hS0 D hD h i hi hN y m.p (fun w' h'=>(hy w' h').rf) m.S m.sA m.sc (fun w' h'=>(hy w' h').rs) (fun w' h'=>(hy w' h').ms) hW (hy w hD.now).rl ok.ck x1 p1 hz ok.vk (fun s hs=>ok.ms _ (List.mem_map.2 ⟨s,hs,O⟩))).mono fun u w' ⟨z,he,hi,hS⟩=>⟨z,he,hi,(dN hS).perm (List.perm_append_comm (l₁:=[zN]))⟩
theorem nV {w:World} {x:Rs} {p:Rp} (h:RfR w x p):SrvR w x ⟨p,[],none,0,false⟩:=⟨h,Rd.none_,fun s hs=>absurd hs (by simp),Nat.zero_le _⟩
theorem wB (w:World) (x:Rs) (p:Rp) (h:RfR w x p) (lim:Int) (hr:cz ⟨x.me,x.term,x.vote,x.base,x.es,x.cf,x.base.1,1,0,0,lim,[],[]⟩=true) (hu:RsU ⟨x.me,x.term,x.vote,x.base,x.es,x.cf,x.base.1,1,0,0,lim,[],[]⟩):
  Gives Tryz.prog 10 [.int .i64 x.me,.int .u64 (x.term:Int),.int .i64 x.vote,.agg (aE x.base p.A p.n p.c).toArray,C.jM p.cA p.cn p.cc,.int .i64 lim] [] w (X:=Rp×Asn) (fun y=> .tuple #[.agg (aZ ⟨x.me,x.term,x.vote,x.base,x.es,x.cf,x.base.1,1,0,0,lim,[],[]⟩ y.1).toArray,zi 0]) (fun y=> ∀ w',y.2.holds w'→RfR w' ⟨x.me,x.term,x.vote,x.base,x.es,x.cf,x.base.1,1,0,0,lim,[],[]⟩ y.1) (fun y=>[y.2]):=by
 have h2:RfR w ⟨x.me,x.term,x.vote,x.base,x.es,x.cf,x.base.1,1,0,0,lim,[],[]⟩ ⟨p.A,p.n,p.c,p.Q,p.cA,p.cn,p.cc,none,0,0,none,0,0⟩:=⟨h.lg.like O O O O O O O O,O,Nat.zero_le _,Rd.none_,O,Nat.zero_le _,Rd.none_,hu⟩
 have hm:=h.lg.hm
 have hcm:=h.lg.hcm
 have hed:=h.lg.ed
 exact(oN w x.me x.term x.vote x.base x.es x.cf lim p.A p.n p.c p.Q p.cA p.cn p.cc h2 hr).mono fun u w' ⟨q,he,⟨ok,k1,k2,k3,k4⟩,hS⟩=>⟨(q,pj (yP ⟨x.me,x.term,x.vote,x.base,x.es,x.cf,x.base.1,1,0,0,lim,[],[]⟩ q)),he,fun w2 h2=>p8 (lM h2) ok (by rw[k1];exact hm) (by rw[k2];exact hcm) (by rw[k3];exact Nat.zero_le _) (by rw[k4];exact Nat.zero_le _) hed hu,eU (L:=yP ⟨x.me,x.term,x.vote,x.base,x.es,x.cf,x.base.1,1,0,0,lim,[],[]⟩ q) (H:=[]) hS⟩
def Ax (x:Rs) (y:Ms) (D:Kw):Type:={z:Mm×Asn//z.1.S.map Prod.fst=(cO x y).2.1∧ ∀ w',K2 D z.2 w'→SrvR w' (cO x y).1 z.1}
theorem y0 (w:World) (x:Rs) (p:Rp) (h:RfR w x p) (y:Ms) (q:Mp) (Dm:Kw) (hDm:Kd Dm [] w) (hm: ∀ w',Dm w'→MsR w' y q) (hck:cz x=true) (hb:x.base.1+x.es.length≤200000) (hgd:lF x y=true) (hed: ∀ e∈y.es,e.2.2.length≤100000) (hix:y.ix<18446744073709551614) (hu2:RsU (cO x y).1) (hv2:(cO x y).1.votes.length≤900) (hp2:(cO x y).1.peers.length≤900):
  Gives Tryz.prog 24 [.agg (aZ x p).toArray,.agg (aW y q).toArray] [] w (X:=Ax x y Dm) (fun z=> .tuple #[.agg (aZ (cO x y).1 z.1.1.p).toArray,.slice z.1.1.sA z.1.1.S.length z.1.1.sc,.bool (cO x y).2.2,zi 0]) (fun _=>True) (fun z=>[z.1.2]):=
 (wa w x p h y q Dm hDm hm hck hb hgd hed hix hu2 hv2 hp2).mono fun u w' ⟨z,he,hi,hS⟩=>⟨⟨z,hi⟩,he,trivial,hS⟩
theorem wC: ∀ (l:List En) (t:Nat),bw l t=true→ ∀ e∈l,eQ e=true
 |[],_,_,e,he=>absurd he (by simp)
 |a::l,t,h,e,he=>by
  simp only[bw,Bool.and_eq_true] at h
  rcases List.mem_cons.1 he with rfl|he
  ·exact h.1.1
  ·exact wC l _ h.2 e he
def bG (c:Cl) (j:Nat) (A:Option Addr) (k:Nat):Cl:={c with W:=c.W.take j++c.W.drop (j+1),wA:=A,wc:=k}
def wD (c:Cl) (s:Ms×Mp) (A:Option Addr) (k:Nat):Cl:={c with W:=c.W++[s],wA:=A,wc:=k}
abbrev Gj (c0:List Int) (g:Rq.Gh) (B:Nat) (c:Cl) (D:Kw) (y:Cl×Asn):Prop:=(∃ h S' B',Rq.Le g h∧Rq.GI c0 h S' B' y.1∧B'≤B+1)∧y.1.f1=c.f1∧y.1.f2=c.f2∧ ∀ w',K2 D y.2 w'→CR w' y.1
theorem gl {w:World} {M:Nat→Prop} {gc:Nat} {c c':Cl} {Z:Asn} {D:Kw} {c0:List Int} {g:Rq.Gh} {B:Nat} (h:Gj c0 g B c D (c',Z)) {w':World} (hS:St w M (Z::cP gc c') w'): ∃ y:Cl×Asn,Value.bool true=Value.bool true∧Gj c0 g B c D y∧St w M (cP gc y.1++[y.2]) w':=⟨(c',Z),O,h,hS.perm (List.perm_append_comm (l₁:=[Z]))⟩
theorem yu (c:Cl) (s:Ms×Mp) (A:Option Addr) (k:Nat):(gC c).set 1 (.slice A (c.W.length+1) k)=gC (wD c s A k):=by
 have e:c.W.length+1=(wD c s A k).W.length:=by show _=(c.W++[s]).length;rw[List.length_append];rfl
 rw[e]
 rfl
theorem yv (c:Cl) (j:Nat) (hj:j<c.W.length) (A:Option Addr) (k:Nat):(gC c).set 1 (.slice A (j+(c.W.length-(j+1))) k)=gC (bG c j A k):=by
 have e:j+(c.W.length-(j+1))=(bG c j A k).W.length:=by show _=(c.W.take j++c.W.drop (j+1)).length;rw[List.length_append,List.length_take,List.length_drop];omega
 rw[e]
 rfl
theorem pg (L:List (Ms×Mp)): ∀ v∈ab bK L,v.oneCell'=true:=fun v hv=>by
 obtain⟨s,_,hs⟩:=List.mem_flatMap.1 hv
 exact gP _ _ v hs
theorem D3 {u:Ms} (h:dm u=true): ∀ e∈u.es,e.2.2.length≤100000:=fun e he=>by
 unfold dm wN at h
 simp only[List.all_cons,List.all_nil,id,Bool.and_eq_true,decide_eq_true_eq] at h
 obtain⟨_,_,_,_,_,_,_,_,_,_,_,_,_,_,_,_,_,h18,_⟩:=h
 unfold mJ at h18
 rw[Bool.and_eq_true] at h18
 have:=wC u.es _ h18.1 e he
 unfold eQ at this
 split at this
 ·simp only[Bool.and_eq_true,decide_eq_true_eq] at this;omega
 ·split at this
  ·simp only[Bool.and_eq_true,decide_eq_true_eq] at this;omega
  ·cases this
theorem wE {P:Program} {n:Nat} {w0:World} {M:Nat→Prop} {T:aF} {H:List Asn} {dd:Option Tmp} {tt:TypeId} {pos:String} {af:Array Edge} {g:Option (Nat×Bool)} {x y:Operand} {t u:TypeId} {q:Nat} (hx:az T x=some (.int .i64 ((q+1:Nat):Int))) (hy:az T y=some (.int .i64 1)) (hq:q<1000):Tk P n w0 M T H ⟨dd,.binOp .sub t x y u,tt,pos,af,g⟩ (.int .i64 (q:Int)):=by
 have h:=bU (P:=P) (n:=n) (w0:=w0) (M:=M) (H:=H) (dd:=dd) (tt:=tt) (pos:=pos) (af:=af) (g:=g) (t:=t) (u:=u) (p:=q+1) (q:=1) hx hy (by omega) (by unfold aH;omega)
 rwa [Nat.add_sub_cancel] at h
theorem Aj (w:World) (gc:Nat) (c:Cl) (hS0:St w (ar (cP gc c)) (cP gc c) w) (D:Kw) (hD:Kd D (cP gc c) w) (h: ∀ w',D w'→CR w' c) {c0:List Int} {g:Rq.Gh} {S:Int→Rs×List En} {Bn:Nat} (G:Rq.GI c0 g S Bn c) (hB1:Bn+1≤100000) (k nd nn:Int) (A:Option Addr) (dc:Nat) (d:List UInt8) (hd: ∀ w',D w'→Bs w' bC A d.length dc d) (hdn:d.length≤90000):
  Gives Tryz.prog 11 [.pointer (some ⟨gc,0,none⟩),.agg (nY k nd nn A d.length dc).toArray] (cP gc c) w (X:=Cl×Asn) (fun _=> .bool true) (fun y=>Gj c0 g Bn c D y) (fun y=>cP gc y.1++[y.2]):=by
 refine aP Tryz.func11 O Tryz.ntmps11 Tryz.results11 (by simp) hS0 (fun B hB=>?_)
 have hn5:=G.n5
 have hw6:=G.w6
 obtain⟨i,hi⟩: ∃ i,nd.toNat%c.N.length=i:=⟨_,O⟩
 have hi5:i<5:=by rw[← hi,hn5];omega
 have hiN:i<c.N.length:=by omega
 obtain⟨l13,hl13⟩: ∃ l,nn.toNat%13=l:=⟨_,O⟩
 have hl:l13<13:=by omega
 obtain⟨⟨x,p⟩,hz⟩: ∃ z,c.N.getD i (dy,df)=z:=⟨_,O⟩
 have hzN:(x,p)∈c.N:=by rw[← hz,List.getD_eq_getElem?_getD,List.getElem?_eq_getElem hiN];exact List.getElem_mem _
 have hatN:=bi (f:=gu) iS c.N (dy,df) i hiN
 rw[hz] at hatN
 have hat0: ∀ e v,(aZ x p)[e]? =some v→(ab gu c.N)[i*14+e]? =some v:=hatN
 have hxS:(S ((i:Int)+1)).1=x:=by
  have:=G.nd i hi5
  rw[hz] at this
  exact this.symm
 have hck:cz x=true:=hxS▸G.ri.ck (by omega) (by omega)
 have hlen:x.base.1+x.es.length≤Bn:=hxS▸G.ri.len (by omega) (by omega)
 have hxp: ∀ w',D w'→RfR w' x p:=fun w' h'=>(h w' h').nd _ hzN
 refine eS c.nA c.N.length c.nc fun _ _ hneR _=>?_
 have hne:c.nA≠none:=hneR (by omega)
 refine eS c.wA c.W.length c.wc fun hWc _ hneW0 _=>?_
 focus (refine qs ?_;(refine qe (ap (cs:=nY k nd nn A d.length dc) O) ?_;rintro _ _ ⟨b3,rfl,rfl⟩);refine qp ?_;refine qz ?_;refine qq ?_;(refine dQ 10 ?_;(refine dp 0 ?_);(refine dl 1 ?_);(refine dt 2 O (ls O O) ?_);(refine dp 3 ?_);(refine dt 4 O (ac O) ?_);(refine dp 5 ?_);(refine dl 6 ?_);(refine dp 7 ?_);(refine dt 8 O (lf (p:=nd.toNat) (q:=c.N.length) hi O O (by omega)) ?_);(refine dp 9 ?_);refine dn ?_);refine qs ?_;refine qp ?_;refine qt (ac O) ?_;refine qp ?_;refine qt (ah O O O O) ?_;refine qp ?_;refine qt (bH (sz:=14) (q:=i) O O O O O O hne hiN) ?_;refine qt (cw (ds:=aZ x p) O O O (Srd.row (n:=c.N.length) (c:=c.nc)) O (by omega) hat0) ?_;(refine qe (am O ch) ?_;rintro _ _ ⟨b6,rfl,rfl⟩);(refine qw (aj (cs:=aZ dy df) (ds:=aZ x p) O O O O (bn _ _) O) ?_;rintro _ _ rfl);refine qn ?_;refine qp ?_;refine qt (ah O O O O) ?_;refine qt (ls O O) ?_;refine qt (lf (p:=nn.toNat) (q:=13) hl13 O O (by omega)) ?_;refine qt (aI O O (by unfold aH;omega)) ?_;refine qp ?_;refine qn ?_;refine qp ?_;refine qz ?_;refine qq ?_;refine qs ?_;refine qp ?_;refine qt (ac O) ?_;refine qp ?_;refine qt (ah O O O O) ?_;refine qp ?_;refine qp ?_;refine qz ?_)
 refine eo (X:=Int) (fun z=>[(0,.pointer (some ⟨gc,0,none⟩)),(3,.pointer (some ⟨b3,0,none⟩)),(5,.int .i64 (i:Int)),(6,.pointer (some ⟨b6,0,none⟩)),(7,.int .i64 ((4+l13:Nat):Int)),(8,.int .i64 z)]) (fun _=>[pt b3 48 (nY k nd nn A d.length dc),pt b6 42 (aZ x p),pt gc 30 (gC c),row 42 14 c.nA c.N.length c.nc (ab gu c.N),row 65 12 c.wA c.W.length c.wc (ab bK c.W),er .u64 c.b1 c.f1,er .u64 c.b2 c.f2]) (fun z=>(c.W.length=0∧z= -1)∨ ∃ j:Nat,j<c.W.length∧z=(j:Int)) (fun J hJ=>?_) (fun z hz8=>?_)
 ·by_cases hW0:0<c.W.length
  ·rw[decide_eq_true (show ((0:Int)<(c.W.length:Int)) by omega)]
   obtain⟨j,hj⟩: ∃ j,nn.toNat%c.W.length=j:=⟨_,O⟩
   have hjl:j<c.W.length:=by rw[← hj];exact Nat.mod_lt _ hW0
   focus (refine qT ?_;(refine dQ 10 ?_;(refine dp 0 ?_);(refine dl 1 ?_);(refine dt 2 O (ls O O) ?_);(refine dp 3 ?_);(refine dt 4 O (ac O) ?_);(refine dp 5 ?_);(refine dl 6 ?_);(refine dp 7 ?_);(refine dt 8 O (lf (p:=nn.toNat) (q:=c.W.length) hj O O hW0) ?_);(refine dp 9 ?_);refine dn ?_))
   exact hJ (j:Int) _ _ (Or.inr ⟨j,hjl,O⟩) (Sub.cons O (Sub.cons O (Sub.cons O (Sub.cons O (Sub.cons O (Sub.cons O Sub.nil)))))) ae
  ·rw[decide_eq_false (show ¬ ((0:Int)<(c.W.length:Int)) by omega)]
   focus (refine qF ?_;refine qx ?_)
   exact hJ (-1) _ _ (Or.inl ⟨by omega,O⟩) (Sub.cons O (Sub.cons O (Sub.cons O (Sub.cons O (Sub.cons O (Sub.cons O Sub.nil)))))) ae
 obtain⟨q,hq,hq13,hqf⟩:=DZ k
 focus (refine qq ?_;refine qs ?_;refine qp ?_;refine qt (ah O O O O) ?_)
 refine qt (sr O O) ?_
 refine qt (ii (op:= .add) O O O hqf) ?_
 refine qt (sr O O) ?_
 rw[hq]
 by_cases q2:q≤2
 ·skip
  have T:=Rq.yq G.ri (v:=(i:Int)+1) (by omega) (by omega) hxS (lim:=((4+l13:Nat):Int)) ⟨by omega,by omega⟩ hB1
  have ok:=T.ok (by omega) (by omega)
  rw[hxS] at ok
  focus (refine qp ?_;refine qz ?_;refine qb ?_;refine qs ?_;refine qp ?_;refine qd ?_;refine qp ?_;refine qz ?_;refine qT ?_;refine qs ?_;refine qt (ai (ds:=aZ x p) O O O O O) ?_;refine qp ?_;(refine qe (bB (f:=14) Gn (fun w1 hS1=>wb w1 x p (hxp w1 (hD.at_ hS1)) _ hck (by omega) (by omega) (by omega) ok.u ok.vn ok.pn) O O (fun _=>O)) ?_;rintro _ _ ⟨⟨m2,Z2⟩,rfl,⟨hI1,hI2⟩,rfl⟩;dsimp only at hI1 hI2);(iterate 4 refine qp ?_);(refine qe (am O ch) ?_;rintro _ _ ⟨b10,rfl,rfl⟩);(refine qw (aj (cs:=aZ dy df) (ds:=aZ (dW x ((4+l13:Nat):Int)).1 m2.p) O O O O (bn _ _) O) ?_;rintro _ _ rfl);refine qp ?_;refine qp ?_;refine qn ?_;refine qp ?_;refine qd ?_;(iterate 3 refine qp ?_);refine qt (ai (ds:=aZ (dW x ((4+l13:Nat):Int)).1 m2.p) O O O O O) ?_;refine qp ?_;(refine qe (cq (f:=15) (D:=D) (Z:=Z2) (cP gc c) (fun z:Option Addr×Nat=>cP gc (cG c i ((dW x ((4+l13:Nat):Int)).1,m2.p) m2.S z.1 z.2)) hD Am (fun w1 _ hk hS1=>nh w1 gc c hS1 (K2 D Z2) hk (fun w2 h2=>h w2 h2.1) i hiN (by show c.N.length≤5;omega) x (by rw[hz]) (dW x ((4+l13:Nat):Int)).1 m2 (fun w2 h2=>hI2 w2 h2.2) G.w6 (by rw[hI1];exact ok)) O O) ?_;rintro _ _ ⟨⟨A17,c17⟩,Z3,rfl,_,hold,_,rfl⟩;dsimp only[List.cons_append,List.nil_append]);refine qp ?_;refine qp ?_;refine qz ?_)
  exact hB _ _ _ _ _ O O fun w' hS=>gl (c':=(cG c i ((dW x ((4+l13:Nat):Int)).1,m2.p) m2.S A17 c17)) (Z:=Z3) ⟨(by obtain⟨h',S',a,b⟩:=G.set hi5 T (Nat.le_succ Bn) hI1 A17 c17;exact⟨h',S',_,a,b,Nat.le_refl _⟩),O,O,fun w2 h2=>lv (h w2 h2.1) (hI2 w2 (hold w2 h2).2)⟩ (ae w' hS)
 by_cases q8:q≤8
 ·rcases hz8 with⟨hW0,rfl⟩|⟨j,hjl,rfl⟩
  ·skip
   repeat' (first|refine aa (ay O (by omega)) ?_ O O|refine aa (aB O (by omega)) ?_ O O|refine bM O ?_ O O|refine ax ?_|refine au O ?_|refine al O O ?_|refine aC O O ?_|refine aA O O ?_|refine aG O ?_)
   exact hB _ _ _ _ _ O O fun w' hS=>gl (c':=c) (Z:=zN) ⟨⟨g,S,Bn,Rq.Le.refl g,G,Nat.le_succ Bn⟩,O,O,fun w2 h2=>h w2 h2.1⟩ (dN (ae w' hS))
  skip
  obtain⟨⟨u,qm⟩,hu⟩: ∃ s,c.W.getD j (gL,qW)=s:=⟨_,O⟩
  have huW:(u,qm)∈c.W:=by rw[← hu,List.getD_eq_getElem?_getD,List.getElem?_eq_getElem hjl];exact List.getElem_mem _
  have hatW:=bi (f:=bK) jy c.W (gL,qW) j hjl
  rw[hu] at hatW
  have hat9: ∀ e v,(aW u qm)[e]? =some v→(ab bK c.W)[j*12+e]? =some v:=hatW
  have hneW:c.wA≠none:=hneW0 (by omega)
  by_cases q7:q≤7
  ·skip
   have hG9: ∀ A9 c9,Rq.GI c0 g S Bn (bG c j A9 c9):=fun A9 c9=>G.way (fun s hs=>by
    rcases List.mem_append.1 hs with hs|hs
    ·exact List.mem_of_mem_take hs
    ·exact List.mem_of_mem_drop hs) (by have:=G.w6;rw[List.length_append,List.length_take,List.length_drop];omega) A9 c9
   repeat' (first|refine aa (ay O (by omega)) ?_ O O|refine aa (aB O (by omega)) ?_ O O|refine bM O ?_ O O|refine ax ?_|refine aa (ac O) ?_ O O|refine aa (bH (sz:=12) (q:=j) O O O O O O hneW hjl) ?_ O O|refine aa (cw (ds:=aW u qm) O O O (Srd.row (n:=c.W.length) (c:=c.wc)) O (by omega) hat9) ?_ O O|refine aa (ah O O O O) ?_ O O|refine au O ?_|refine al O O ?_|refine aC O O ?_|refine aA O O ?_|refine aG O ?_|(refine an (am O nI) ?_ O O;rintro _ _ ⟨b13,rfl,rfl⟩)|(refine bh (aj (cs:=aW gL ⟨none,0,0,none,0,0,none,0,0,[]⟩) (ds:=aW u qm) O O O O (gP _ _) O) ?_ O;rintro _ _ rfl))
   refine dS [pt gc 30 (gC c)] 20 ?_
   refine dp 0 ?_
   refine dp 2 ?_
   refine dt 3 O (ac O) ?_
   refine dp 4 ?_
   refine dl 5 ?_
   refine dp 6 ?_
   refine dt 7 O (ug (q:=j) O O O O O (by omega)) ?_
   refine dp 9 ?_
   refine dt 10 O (ac O) ?_
   refine dp 11 ?_
   refine dl 12 ?_
   refine dp 13 ?_
   (refine dt 14 O (aI O O (by unfold aH;omega)) ?_)
   refine dt 15 O (Ai (sz:=12) (q:=j+1) O O O O O O (by omega) hWc) ?_
   refine dE 1 O (cK (vs:=[]) (size:=12) (ds:=[]) O O O O O O (by simp) O (by omega)) ?_
   rintro _ _ ⟨bl,rfl,rfl⟩
   refine nx ?_
   refine dE 8 O (jr (sz:=12) (gb:=bl) (news:=ab bK (c.W.take j)) O O O O O O O (by decide) (by first|exact .here|exact .there .here) (Af (Srd.row (n:=c.W.length) (c:=c.wc)) (by omega)) (pg _) (by show j*144≤_;omega) (by unfold maxLen;omega)) ?_
   rintro _ _ ⟨A8,c8,rfl,rfl⟩
   refine nx ?_
   refine dE 16 O (gd (sz:=12) (m:=j) (c:=c8) (A:=A8) O O O O O O O (by decide) (Ah (Srd.row (A:=c.wA) (n:=c.W.length) (c:=c.wc)) (by omega) hWc) (pg _) (by show (j+(c.W.length-(j+1)))*144≤_;omega) (by unfold maxLen;omega)) ?_
   rintro _ _ ⟨A9,c9,rfl,rfl⟩
   refine nx ?_
   refine dt 17 O (ac O) ?_
   refine dp 18 ?_
   refine dE 19 O (aw (cs:=gC c) (cs':=gC (bG c j A9 c9)) O O O O O (yv c j hjl A9 c9) (by show _<4;omega)) ?_
   rintro _ _ rfl
   refine dV ?_
   refine dn ?_
   skip
   have hdel: ∀ w',D w'→CR w' (bG c j A9 c9):=fun w' h'=>⟨(h w' h').nd,fun s hs=>(h w' h').ms s (by
    rcases List.mem_append.1 hs with hs|hs
    ·exact List.mem_of_mem_take hs
    ·exact List.mem_of_mem_drop hs),(h w' h').st⟩
   refine eu (H':=[pt gc 30 (gC (bG c j A9 c9)),row 42 14 (bG c j A9 c9).nA (bG c j A9 c9).N.length (bG c j A9 c9).nc (ab gu (bG c j A9 c9).N),row 65 12 (bG c j A9 c9).wA (bG c j A9 c9).W.length (bG c j A9 c9).wc (ab bK (bG c j A9 c9).W),er .u64 (bG c j A9 c9).b1 (bG c j A9 c9).f1,er .u64 (bG c j A9 c9).b2 (bG c j A9 c9).f2,pt b13 65 (aW u qm)]) (fun w' hS=>?_) ?_
   ·have h9:=ae (H':=[pt gc 30 (gC (bG c j A9 c9)),row 42 14 c.nA c.N.length c.nc (ab gu c.N),row 65 12 A9 (j+(c.W.length-(j+1))) c9 (ab bK (c.W.take j)++ab bK (c.W.drop (j+1))),er .u64 c.b1 c.f1,er .u64 c.b2 c.f2,pt b13 65 (aW u qm)]) w' hS
    rw[← dC,show j+(c.W.length-(j+1))=(c.W.take j++c.W.drop (j+1)).length by rw[List.length_append,List.length_take,List.length_drop];omega] at h9
    exact h9
   by_cases q7e:q=7
   ·skip
    focus (refine qq ?_;refine qs ?_;refine qp ?_;refine qd ?_;refine qz ?_;refine qT ?_;refine qs ?_;refine qp ?_;refine qz ?_)
    exact hB _ _ _ _ _ O O fun w' hS=>gl (c':=(bG c j A9 c9)) (Z:=zN) ⟨⟨g,S,Bn,Rq.Le.refl g,hG9 A9 c9,Nat.le_succ Bn⟩,O,O,fun w2 h2=>hdel w2 h2.1⟩ (dN (ae w' hS))
   focus (refine qq ?_;refine qs ?_;refine qp ?_;refine qf ?_;refine qz ?_;refine qF ?_;refine qx ?_;refine qq ?_)
   have o:=G.om _ huW
   obtain⟨_,_,_,_,_,_,_,_,hT1,hT5⟩:=v9 o.r
   obtain⟨t,ht⟩: ∃ t:Nat,u.T=((t+1:Nat):Int):=⟨(u.T-1).toNat,by dsimp only at hT1 hT5 ⊢;omega⟩
   have ht5:t<5:=by dsimp only at hT5;omega
   have htN:t<c.N.length:=by omega
   obtain⟨⟨xt,pt_⟩,hzt⟩: ∃ z,c.N.getD t (dy,df)=z:=⟨_,O⟩
   have hzNt:(xt,pt_)∈c.N:=by rw[← hzt,List.getD_eq_getElem?_getD,List.getElem?_eq_getElem htN];exact List.getElem_mem _
   have hatT:=bi (f:=gu) iS c.N (dy,df) t htN
   rw[hzt] at hatT
   have hatT0: ∀ e v,(aZ xt pt_)[e]? =some v→(ab gu c.N)[t*14+e]? =some v:=hatT
   have hxtS:(S ((t:Int)+1)).1=xt:=by
    have:=G.nd t ht5
    rw[hzt] at this
    exact this.symm
   have hckt:cz xt=true:=hxtS▸G.ri.ck (by omega) (by omega)
   have hlent:xt.base.1+xt.es.length≤Bn:=hxtS▸G.ri.len (by omega) (by omega)
   have hxpt: ∀ w',D w'→RfR w' xt pt_:=fun w' h'=>(h w' h').nd _ hzNt
   have hmet:xt.me=((t:Int)+1):=by rw[← hxtS];exact(G.ri.sp _ (by omega) (by omega)).me
   have huT:u.T=(t:Int)+1:=by rw[ht];omega
   have T:=Rq.yt G.ri (v:=(t:Int)+1) (by omega) (by omega) hxtS huT o hB1
   have ok:=T.ok (by omega) (by omega)
   rw[hxtS] at ok
   have hgd:=Rq.tQ (x:=xt) o hmet huT
   have hed: ∀ e∈u.es,e.2.2.length≤100000:=D3 o.r
   have hix:u.ix<18446744073709551614:=by
    have h1:=o.ix
    have h2:=G.ri.lim
    dsimp only at h1
    omega
   refine eo (X:=Ax xt u D×Nat) (fun z=>[(0,.pointer (some ⟨gc,0,none⟩)),(13,.pointer (some ⟨b13,0,none⟩)),(14,.pointer (some ⟨z.2,0,none⟩)),(15,.slice z.1.1.1.sA z.1.1.1.S.length z.1.1.1.sc),(16,.bool (cO xt u).2.2),(17,zi 0)]) (fun z=>[z.1.1.2,pt z.2 42 (aZ (cO xt u).1 z.1.1.1.p),pt gc 30 (gC (bG c j A9 c9)),row 42 14 (bG c j A9 c9).nA (bG c j A9 c9).N.length (bG c j A9 c9).nc (ab gu (bG c j A9 c9).N),row 65 12 (bG c j A9 c9).wA (bG c j A9 c9).W.length (bG c j A9 c9).wc (ab bK (bG c j A9 c9).W),er .u64 (bG c j A9 c9).b1 (bG c j A9 c9).f1,er .u64 (bG c j A9 c9).b2 (bG c j A9 c9).f2,pt b13 65 (aW u qm)]) (fun _=>True) (fun J2 hJ2=>?_) (fun z _=>?_)
   ·skip
    refine dS [pt gc 30 (gC (bG c j A9 c9)),pt b13 65 (aW u qm),row 42 14 (bG c j A9 c9).nA (bG c j A9 c9).N.length (bG c j A9 c9).nc (ab gu (bG c j A9 c9).N)] 21 ?_
    refine dp 0 ?_
    refine dt 1 O (ac O) ?_
    refine dp 2 ?_
    refine dl 3 ?_
    refine dp 4 ?_
    (refine dt 5 O (ah (v:= .int .i64 ((t+1:Nat):Int)) O O O (by rw[← ht];rfl)) ?_)
    refine dt 6 O (wE O O (by omega)) ?_
    refine dt 7 O (bH (A:=c.nA) (m:=c.N.length) (c:=c.nc) (sz:=14) (q:=t) O O O O O O hne htN) ?_
    refine dt 8 O (cw (A:=c.nA) (m:=c.N.length) (ds:=aZ xt pt_) O O O (Srd.row (A:=(bG c j A9 c9).nA) (n:=(bG c j A9 c9).N.length) (c:=(bG c j A9 c9).nc)) O (by omega) hatT0) ?_
    refine dt 9 O (ai (ds:=aW u qm) O O O O O) ?_
    refine lY #[U,U,U,U,U,U,U,U,U,U,U,U,U,U,U,U,U,Y,Y,Y,Y] (fun x:Ax xt u D×Nat=>[(140,zi 0),(139,.bool (cO xt u).2.2),(138,.slice x.1.1.1.sA x.1.1.1.S.length x.1.1.1.sc),(137,.agg (aZ (cO xt u).1 x.1.1.1.p).toArray),(125,.tuple #[.agg (aZ (cO xt u).1 x.1.1.1.p).toArray,.slice x.1.1.1.sA x.1.1.1.S.length x.1.1.1.sc,.bool (cO xt u).2.2,zi 0]),(14,.pointer (some ⟨x.2,0,none⟩)),(136,.tuple #[.agg (aZ (cO xt u).1 x.1.1.1.p).toArray,.slice x.1.1.1.sA x.1.1.1.S.length x.1.1.1.sc,.bool (cO xt u).2.2,zi 0]),(0,.pointer (some ⟨gc,0,none⟩)),(13,.pointer (some ⟨b13,0,none⟩)),(134,.agg (aZ xt pt_).toArray),(135,.agg (aW u qm).toArray)]) (fun x:Ax xt u D×Nat=>[pt x.2 42 (aZ dy df),x.1.1.2,pt gc 30 (gC (bG c j A9 c9)),row 42 14 (bG c j A9 c9).nA (bG c j A9 c9).N.length (bG c j A9 c9).nc (ab gu (bG c j A9 c9).N),row 65 12 (bG c j A9 c9).wA (bG c j A9 c9).W.length (bG c j A9 c9).wc (ab bK (bG c j A9 c9).W),er .u64 (bG c j A9 c9).b1 (bG c j A9 c9).f1,er .u64 (bG c j A9 c9).b2 (bG c j A9 c9).f2,pt b13 65 (aW u qm)]) (fun nd0=>?_) (fun x=>?_)
    refine ct #[U,U,U,U,U,U,U,U,U,U,U,U,U,U,U,U,Y,Y,Y,Y,Y] (fun x:Ax xt u D=>[(140,zi 0),(139,.bool (cO xt u).2.2),(138,.slice x.1.1.sA x.1.1.S.length x.1.1.sc),(137,.agg (aZ (cO xt u).1 x.1.1.p).toArray),(125,.tuple #[.agg (aZ (cO xt u).1 x.1.1.p).toArray,.slice x.1.1.sA x.1.1.S.length x.1.1.sc,.bool (cO xt u).2.2,zi 0]),(136,.tuple #[.agg (aZ (cO xt u).1 x.1.1.p).toArray,.slice x.1.1.sA x.1.1.S.length x.1.1.sc,.bool (cO xt u).2.2,zi 0]),(0,.pointer (some ⟨gc,0,none⟩)),(13,.pointer (some ⟨b13,0,none⟩)),(134,.agg (aZ xt pt_).toArray),(135,.agg (aW u qm).toArray)]) (fun x:Ax xt u D=>[x.1.2,pt gc 30 (gC (bG c j A9 c9)),row 42 14 (bG c j A9 c9).nA (bG c j A9 c9).N.length (bG c j A9 c9).nc (ab gu (bG c j A9 c9).N),row 65 12 (bG c j A9 c9).wA (bG c j A9 c9).W.length (bG c j A9 c9).wc (ab bK (bG c j A9 c9).W),er .u64 (bG c j A9 c9).b1 (bG c j A9 c9).f1,er .u64 (bG c j A9 c9).b2 (bG c j A9 c9).f2,pt b13 65 (aW u qm)]) (fun x=>?_) (fun nd1=>?_)
    ·skip
     revert x;intro zt
     try dsimp only
     refine dE 16 O (am O ch) ?_
     rintro _ _ ⟨b14,rfl,rfl⟩
     refine nx ?_
     have h:=nd0 (zt,b14)
     try dsimp only at h
     exact Da h
    refine ct #[U,U,U,U,U,U,U,U,U,U,Y,Y,Y,Y,Y,Y,U,Y,Y,Y,Y] (fun x:Nat=>[(14,.pointer (some ⟨x,0,none⟩)),(0,.pointer (some ⟨gc,0,none⟩)),(13,.pointer (some ⟨b13,0,none⟩)),(134,.agg (aZ xt pt_).toArray),(135,.agg (aW u qm).toArray)]) (fun x:Nat=>[pt x 42 (aZ dy df),pt gc 30 (gC (bG c j A9 c9)),row 42 14 (bG c j A9 c9).nA (bG c j A9 c9).N.length (bG c j A9 c9).nc (ab gu (bG c j A9 c9).N),row 65 12 (bG c j A9 c9).wA (bG c j A9 c9).W.length (bG c j A9 c9).wc (ab bK (bG c j A9 c9).W),er .u64 (bG c j A9 c9).b1 (bG c j A9 c9).f1,er .u64 (bG c j A9 c9).b2 (bG c j A9 c9).f2,pt b13 65 (aW u qm)]) (fun x=>?_) (fun nd2=>?_)
    ·skip
     revert x;intro b14
     try dsimp only
     refine dE 10 O (bB (f:=24) FE (fun w1 hS1=>y0 w1 xt pt_ (hxpt w1 (hD.at_ hS1)) u qm D (hD.call0 hS1) (fun w2 h2=>(h w2 h2).ms _ huW) hckt (by omega) hgd hed hix ok.u ok.vn ok.pn) O O (fun _=>O)) ?_
     rintro _ _ ⟨zt,rfl,_,rfl⟩
     refine nx ?_
     refine dp 11 ?_
     refine dp 12 ?_
     refine dp 13 ?_
     refine dp 14 ?_
     refine dp 15 ?_
     have h:=nd0 (zt,b14)
     try dsimp only at h
     exact Da h
    refine ct #[U,U,U,U,U,U,U,U,U,U,Y,Y,Y,Y,Y,Y,Y,Y,Y,Y,Y] (fun _:Unit=>[(0,.pointer (some ⟨gc,0,none⟩)),(13,.pointer (some ⟨b13,0,none⟩)),(134,.agg (aZ xt pt_).toArray),(135,.agg (aW u qm).toArray)]) (fun _:Unit=>[pt gc 30 (gC (bG c j A9 c9)),row 42 14 (bG c j A9 c9).nA (bG c j A9 c9).N.length (bG c j A9 c9).nc (ab gu (bG c j A9 c9).N),row 65 12 (bG c j A9 c9).wA (bG c j A9 c9).W.length (bG c j A9 c9).wc (ab bK (bG c j A9 c9).W),er .u64 (bG c j A9 c9).b1 (bG c j A9 c9).f1,er .u64 (bG c j A9 c9).b2 (bG c j A9 c9).f2,pt b13 65 (aW u qm)]) (fun x=>?_) (fun nd3=>?_)
    ·skip
     obtain⟨⟩:=x
     try dsimp only
     refine fb 10 16 (by decide) O O (bB (f:=24) FE (fun w1 hS1=>y0 w1 xt pt_ (hxpt w1 (hD.at_ hS1)) u qm D (hD.call0 hS1) (fun w2 h2=>(h w2 h2).ms _ huW) hckt (by omega) hgd hed hix ok.u ok.vn ok.pn) O O (fun _=>O)) (am O ch) ?_ ?_ O O O O (by kernel_rfl)
     ·rintro _ _ ⟨zt,rfl,_,rfl⟩
      refine nx ?_
      refine dp 11 ?_
      refine dp 12 ?_
      refine dp 13 ?_
      refine dp 14 ?_
      refine dp 15 ?_
      have h:=nd1 (zt)
      try dsimp only at h
      exact Da h
     ·rintro _ _ ⟨b14,rfl,rfl⟩
      refine nx ?_
      have h:=nd2 (b14)
      try dsimp only at h
      exact Da h
    have h:=nd3 ()
    try dsimp only at h
    exact Da h
    obtain⟨zt,b14⟩:=x
    try dsimp only
    refine dE 17 O (aj (cs:=aZ dy df) (ds:=aZ (cO xt u).1 zt.1.1.p) O O O O (bn _ _) O) ?_
    rintro _ _ rfl
    refine nx ?_
    refine dp 18 ?_
    refine dp 19 ?_
    refine dp 20 ?_
    refine dn ?_
    exact hJ2 (zt,b14) _ _ trivial (Sub.cons O (Sub.cons O (Sub.cons O (Sub.cons O (Sub.cons O (Sub.cons O Sub.nil)))))) ae
   obtain⟨⟨⟨m2,Z2⟩,hI1,hI2⟩,b14⟩:=z
   dsimp only at hI1 hI2 ⊢
   focus (refine qs ?_;refine qp ?_;refine qd ?_;(iterate 3 refine qp ?_);refine qt (ah (v:= .int .i64 ((t+1:Nat):Int)) O O O (by rw[← ht];rfl)) ?_;refine qt (wE O O (by omega)) ?_;refine qt (ai (ds:=aZ (cO xt u).1 m2.p) O O O O O) ?_;refine qp ?_;(refine qe (cq (f:=15) (D:=D) (Z:=Z2) (cP gc (bG c j A9 c9)) (fun z:Option Addr×Nat=>cP gc (cG (bG c j A9 c9) t ((cO xt u).1,m2.p) m2.S z.1 z.2)) hD Am (fun w1 _ hk hS1=>nh w1 gc (bG c j A9 c9) hS1 (K2 D Z2) hk (fun w2 h2=>hdel w2 h2.1) t htN (by show c.N.length≤5;omega) xt (by show (c.N.getD t (dy,df)).1=xt;rw[hzt]) (cO xt u).1 m2 (fun w2 h2=>hI2 w2 h2) (hG9 A9 c9).w6 (by rw[hI1];exact ok)) O O) ?_;rintro _ _ ⟨⟨A17,c17⟩,Z3,rfl,_,hold,_,rfl⟩;dsimp only[List.cons_append,List.nil_append]);refine qp ?_;refine qp ?_;refine qz ?_)
   exact hB _ _ _ _ _ O O fun w' hS=>gl (c':=(cG (bG c j A9 c9) t ((cO xt u).1,m2.p) m2.S A17 c17)) (Z:=Z3) ⟨(by obtain⟨h',S',a,b⟩:=(hG9 A9 c9).set ht5 T (Nat.le_succ Bn) hI1 A17 c17;exact⟨h',S',_,a,b,Nat.le_refl _⟩),O,O,fun w2 h2=>lv (hdel w2 h2.1) (hI2 w2 (hold w2 h2))⟩ (ae w' hS)
  obtain rfl:q=8:=by omega
  repeat' (first|refine aa (ay O (by omega)) ?_ O O|refine aa (aB O (by omega)) ?_ O O|refine bM O ?_ O O|refine ax ?_|refine aa (ac O) ?_ O O|refine aa (ah O O O O) ?_ O O|refine au O ?_|refine al O O ?_|refine aC O O ?_|refine aA O O ?_|refine aG O ?_)
  by_cases h60:c.W.length<60
  ·rw[decide_eq_true (show ((c.W.length:Int)<60) by omega)]
   focus (refine qT ?_)
   refine dS [pt gc 30 (gC c)] 17 ?_
   refine dp 0 ?_
   refine dp 1 ?_
   refine dt 2 O (ac O) ?_
   refine dp 3 ?_
   refine dl 4 ?_
   refine dp 5 ?_
   refine dt 6 O (ac O) ?_
   refine dp 7 ?_
   refine dl 8 ?_
   refine dp 9 ?_
   refine dt 10 O (bH (sz:=12) (q:=j) O O O O O O hneW hjl) ?_
   refine dE 11 O (uq (cw (ds:=aW u qm) O O O (Srd.row (n:=c.W.length) (c:=c.wc)) O (by omega) hat9)) ?_
   rintro _ _ ⟨rfl,rfl⟩
   refine nx ?_
   refine dE 12 O (cK (vs:=[.agg (aW u qm).toArray]) (size:=12) (ds:=aW u qm) O O O O O O (by simp[aV,dZ]) O (by omega)) ?_
   rintro _ _ ⟨vb,rfl,rfl⟩
   refine nx ?_
   refine dE 13 O (gd (sz:=12) (m:=c.W.length) (c:=c.wc) (A:=c.wA) O O O O O O O (by decide) (Srd.pt (n:=1) (g:=vb) (ds:=aW u qm) O (fun j u hj=>by rw[Nat.zero_add];exact hj)) (gP _ _) (by show (c.W.length+1)*144≤_;omega) (by unfold maxLen;omega)) ?_
   rintro _ _ ⟨A9,c9,rfl,rfl⟩
   refine nx ?_
   refine dt 14 O (ac O) ?_
   refine dp 15 ?_
   refine dE 16 O (aw (cs:=gC c) (cs':=gC (wD c (u,qm) A9 c9)) O O O O O (yu c (u,qm) A9 c9) (by show _<4;omega)) ?_
   rintro _ _ rfl
   refine dV ?_
   refine dn ?_
   skip
   focus (refine aK ?_;refine qs ?_;refine qp ?_;refine qz ?_)
   exact hB _ _ _ _ _ O O fun w' hS=>⟨((wD c (u,qm) A9 c9),zN),O,⟨⟨g,S,Bn,Rq.Le.refl g,G.way (fun s hs=>by
    rcases List.mem_append.1 hs with hs|hs
    ·exact hs
    ·obtain rfl:=List.mem_singleton.1 hs;exact huW) (by rw[List.length_append];simp;omega) A9 c9,Nat.le_succ Bn⟩,O,O,fun w2 h2=>⟨(h w2 h2.1).nd,fun s hs=>by
    rcases List.mem_append.1 hs with hs|hs
    ·exact(h w2 h2.1).ms s hs
    ·obtain rfl:=List.mem_singleton.1 hs;exact(h w2 h2.1).ms _ huW,(h w2 h2.1).st⟩⟩,by
    have h9:=ae (H':=[pt gc 30 (gC (wD c (u,qm) A9 c9)),row 42 14 c.nA c.N.length c.nc (ab gu c.N),row 65 12 A9 (c.W.length+1) c9 (ab bK c.W++aW u qm),er .u64 c.b1 c.f1,er .u64 c.b2 c.f2]) w' hS
    rw[show ab bK c.W++aW u qm=ab bK (c.W++[(u,qm)]) by rw[dC,fI];rfl,show c.W.length+1=(c.W++[(u,qm)]).length by rw[List.length_append];rfl] at h9
    exact(dN h9).perm (List.perm_append_comm (l₁:=[zN]))⟩
  ·rw[decide_eq_false (show ¬ ((c.W.length:Int)<60) by omega)]
   focus (refine qF ?_;refine qx ?_;refine aK ?_;refine qs ?_;refine qp ?_;refine qz ?_)
   exact hB _ _ _ _ _ O O fun w' hS=>gl (c':=c) (Z:=zN) ⟨⟨g,S,Bn,Rq.Le.refl g,G,Nat.le_succ Bn⟩,O,O,fun w2 h2=>h w2 h2.1⟩ (dN (ae w' hS))
 by_cases q9:q=9
 ·skip
  have T:=Rq.wy G.ri (v:=(i:Int)+1) (by omega) (by omega) hxS (lim:=((4+l13:Nat):Int)) ⟨by omega,by omega⟩
  have ok:=T.ok (by omega) (by omega)
  rw[hxS] at ok
  repeat' (first|refine aa (ay O (by omega)) ?_ O O|refine aa (aB O (by omega)) ?_ O O|refine bM O ?_ O O|refine ax ?_|refine aU ?_ O O|refine aa (ai (ds:=aE x.base p.A p.n p.c) O O O O O) ?_ O O|refine aa (ai (ds:=[.slice p.cA p.cn p.cc]) O O O O O) ?_ O O|refine aa (ai (ds:=aZ ⟨x.me,x.term,x.vote,x.base,x.es,x.cf,x.base.1,1,0,0,((4+l13:Nat):Int),[],[]⟩ q2) O O O O O) ?_ O O|refine aa (ah O O O O) ?_ O O|refine au O ?_|refine al O O ?_|refine aC O O ?_|refine aA O O ?_|refine aG O ?_|(refine an (bB (f:=10) FD (fun w1 hS1=>wB w1 x p (hxp w1 (hD.at_ hS1)) _ ok.ck ok.u) O O (fun _=>O)) ?_ O O;rintro _ _ ⟨⟨q2,Z2⟩,rfl,hI2,rfl⟩;dsimp only at hI2)|(refine an (am O ch) ?_ O O;rintro _ _ ⟨b10,rfl,rfl⟩)|(refine bh (aj (cs:=aZ dy df) (ds:=aZ ⟨x.me,x.term,x.vote,x.base,x.es,x.cf,x.base.1,1,0,0,((4+l13:Nat):Int),[],[]⟩ q2) O O O O (bn _ _) O) ?_ O;rintro _ _ rfl)|(refine an (cq (f:=15) (D:=D) (Z:=Z2) (cP gc c) (fun z:Option Addr×Nat=>cP gc (cG c i (⟨x.me,x.term,x.vote,x.base,x.es,x.cf,x.base.1,1,0,0,((4+l13:Nat):Int),[],[]⟩,(⟨q2,[],none,0,false⟩:Mm).p) (⟨q2,[],none,0,false⟩:Mm).S z.1 z.2)) hD Am (fun w1 _ hk hS1=>nh w1 gc c hS1 (K2 D Z2) hk (fun w2 h2=>h w2 h2.1) i hiN (by show c.N.length≤5;omega) x (by rw[hz]) ⟨x.me,x.term,x.vote,x.base,x.es,x.cf,x.base.1,1,0,0,((4+l13:Nat):Int),[],[]⟩ (⟨q2,[],none,0,false⟩:Mm) (fun w2 h2=>nV (hI2 w2 h2.2)) G.w6 ok) O O) ?_ O O;rintro _ _ ⟨⟨A17,c17⟩,Z3,rfl,_,hold,_,rfl⟩;dsimp only[List.cons_append,List.nil_append]))
  exact hB _ _ _ _ _ O O fun w' hS=>gl (c':=(cG c i (⟨x.me,x.term,x.vote,x.base,x.es,x.cf,x.base.1,1,0,0,((4+l13:Nat):Int),[],[]⟩,(⟨q2,[],none,0,false⟩:Mm).p) (⟨q2,[],none,0,false⟩:Mm).S A17 c17)) (Z:=Z3) ⟨(by obtain⟨h',S',a,b⟩:=G.set hi5 T (Nat.le_refl Bn) (L:=[]) O A17 c17;exact⟨h',S',_,a,b,Nat.le_succ Bn⟩),O,O,fun w2 h2=>lv (h w2 h2.1) (nV (hI2 w2 (hold w2 h2).2))⟩ (ae w' hS)
 by_cases q10:q=10
 ·skip
  by_cases hp0:eJ x 2 d=0
  ·have T:=Rq.mw G.ri (v:=(i:Int)+1) (by omega) (by omega) hxS hp0 hB1
   have ok:=T.ok (by omega) (by omega)
   rw[hxS] at ok
   repeat' (first|refine aa (ay O (by omega)) ?_ O O|refine aa (aB O (by omega)) ?_ O O|refine bM O ?_ O O|refine ax ?_|refine aU ?_ O O|refine aa (ai (ds:=aZ x p) O O O O O) ?_ O O|refine aa (ai (ds:=aZ (gj x 2 d) m2.p) O O O O O) ?_ O O|refine aa (ah (v:= .slice A d.length dc) O O O O) ?_ O O|refine au O ?_|refine al O O ?_|refine aC O O ?_|refine aA O O ?_|refine aG O ?_|refine aM O ?_|(refine an (bB (f:=16) D9 (fun w1 hS1=>gS w1 x p (hxp w1 (hD.at_ hS1)) 2 A d.length dc d (hd w1 (hD.at_ hS1)) hdn hck (nK (hxp w hD.now).hu hck)) O O (fun _=>O)) ?_ O O;rintro _ _ ⟨⟨m2,Z2⟩,rfl,⟨hI1,hI2⟩,rfl⟩;dsimp only at hI1 hI2)|(refine an (am O ch) ?_ O O;rintro _ _ ⟨b10,rfl,rfl⟩)|(refine bh (aj (cs:=aZ dy df) (ds:=aZ (gj x 2 d) m2.p) O O O O (bn _ _) O) ?_ O;rintro _ _ rfl)|(refine an (am O ba) ?_ O O;rintro _ _ ⟨b11,rfl,rfl⟩)|(refine bh (aj (cs:=aO (0,0)) (ds:=aO (oV x 2 d)) O O O O (aQ _) O) ?_ O;rintro _ _ rfl)|(refine an (cq (f:=15) (D:=D) (Z:=Z2) (cP gc c) (fun z:Option Addr×Nat=>cP gc (cG c i ((gj x 2 d),m2.p) m2.S z.1 z.2)) hD Am (fun w1 _ hk hS1=>nh w1 gc c hS1 (K2 D Z2) hk (fun w2 h2=>h w2 h2.1) i hiN (by show c.N.length≤5;omega) x (by rw[hz]) (gj x 2 d) m2 (fun w2 h2=>hI2 w2 h2.2) G.w6 (by rw[hI1];exact ok)) O O) ?_ O O;rintro _ _ ⟨⟨A17,c17⟩,Z3,rfl,_,hold,_,rfl⟩;dsimp only[List.cons_append,List.nil_append]))
   try rw[hp0]
   skip
   exact hB _ _ _ _ _ O O fun w' hS=>gl (c':=(cG c i ((gj x 2 d),m2.p) m2.S A17 c17)) (Z:=Z3) ⟨(by obtain⟨h',S',a,b⟩:=G.set hi5 T (Nat.le_succ Bn) hI1 A17 c17;exact⟨h',S',_,a,b,Nat.le_refl _⟩),O,O,fun w2 h2=>lv (h w2 h2.1) (hI2 w2 (hold w2 h2).2)⟩ (ae w' hS)
  have hpi:=wz (x:=x) (k:=2) (d:=d) (iB hck)
  repeat' (first|refine aa (ay O (by omega)) ?_ O O|refine aa (aB O (by omega)) ?_ O O|refine bM O ?_ O O|refine ax ?_|refine aU ?_ O O|refine aa (ai (ds:=aZ x p) O O O O O) ?_ O O|refine aa (ah (v:= .slice A d.length dc) O O O O) ?_ O O|refine au O ?_|refine al O O ?_|refine aC O O ?_|refine aA O O ?_|refine aG O ?_|refine aM O ?_|(refine an (bB (f:=16) D9 (fun w1 hS1=>gS w1 x p (hxp w1 (hD.at_ hS1)) 2 A d.length dc d (hd w1 (hD.at_ hS1)) hdn hck (nK (hxp w hD.now).hu hck)) O O (fun _=>O)) ?_ O O;rintro _ _ ⟨⟨m2,Z2⟩,rfl,⟨hI1,hI2⟩,rfl⟩;dsimp only at hI1 hI2)|(refine an (am O ch) ?_ O O;rintro _ _ ⟨b10,rfl,rfl⟩)|(refine bh (aj (cs:=aZ dy df) (ds:=aZ (gj x 2 d) m2.p) O O O O (bn _ _) O) ?_ O;rintro _ _ rfl)|(refine an (am O ba) ?_ O O;rintro _ _ ⟨b11,rfl,rfl⟩)|(refine bh (aj (cs:=aO (0,0)) (ds:=aO (oV x 2 d)) O O O O (aQ _) O) ?_ O;rintro _ _ rfl)|(refine ie O O (fun hs=>?_) (fun hs=>?_)))
  all_goals (
   exact hB _ _ _ _ _ O O fun w' hS=>gl (c':=c) (Z:=zN) ⟨⟨g,S,Bn,Rq.Le.refl g,G,Nat.le_succ Bn⟩,O,O,fun w2 h2=>h w2 h2.1⟩ (dN (ae w' hS)))
 by_cases q11:q=11
 ·skip
  by_cases hp0:eJ x 3 d=0
  ·have T:=Rq.mw G.ri (v:=(i:Int)+1) (by omega) (by omega) hxS hp0 hB1
   have ok:=T.ok (by omega) (by omega)
   rw[hxS] at ok
   repeat' (first|refine aa (ay O (by omega)) ?_ O O|refine aa (aB O (by omega)) ?_ O O|refine bM O ?_ O O|refine ax ?_|refine aU ?_ O O|refine aa (ai (ds:=aZ x p) O O O O O) ?_ O O|refine aa (ai (ds:=aZ (gj x 3 d) m2.p) O O O O O) ?_ O O|refine aa (ah (v:= .slice A d.length dc) O O O O) ?_ O O|refine au O ?_|refine al O O ?_|refine aC O O ?_|refine aA O O ?_|refine aG O ?_|refine aM O ?_|(refine an (bB (f:=16) D9 (fun w1 hS1=>gS w1 x p (hxp w1 (hD.at_ hS1)) 3 A d.length dc d (hd w1 (hD.at_ hS1)) hdn hck (nK (hxp w hD.now).hu hck)) O O (fun _=>O)) ?_ O O;rintro _ _ ⟨⟨m2,Z2⟩,rfl,⟨hI1,hI2⟩,rfl⟩;dsimp only at hI1 hI2)|(refine an (am O ch) ?_ O O;rintro _ _ ⟨b10,rfl,rfl⟩)|(refine bh (aj (cs:=aZ dy df) (ds:=aZ (gj x 3 d) m2.p) O O O O (bn _ _) O) ?_ O;rintro _ _ rfl)|(refine an (am O ba) ?_ O O;rintro _ _ ⟨b11,rfl,rfl⟩)|(refine bh (aj (cs:=aO (0,0)) (ds:=aO (oV x 3 d)) O O O O (aQ _) O) ?_ O;rintro _ _ rfl)|(refine an (cq (f:=15) (D:=D) (Z:=Z2) (cP gc c) (fun z:Option Addr×Nat=>cP gc (cG c i ((gj x 3 d),m2.p) m2.S z.1 z.2)) hD Am (fun w1 _ hk hS1=>nh w1 gc c hS1 (K2 D Z2) hk (fun w2 h2=>h w2 h2.1) i hiN (by show c.N.length≤5;omega) x (by rw[hz]) (gj x 3 d) m2 (fun w2 h2=>hI2 w2 h2.2) G.w6 (by rw[hI1];exact ok)) O O) ?_ O O;rintro _ _ ⟨⟨A17,c17⟩,Z3,rfl,_,hold,_,rfl⟩;dsimp only[List.cons_append,List.nil_append]))
   try rw[hp0]
   skip
   exact hB _ _ _ _ _ O O fun w' hS=>gl (c':=(cG c i ((gj x 3 d),m2.p) m2.S A17 c17)) (Z:=Z3) ⟨(by obtain⟨h',S',a,b⟩:=G.set hi5 T (Nat.le_succ Bn) hI1 A17 c17;exact⟨h',S',_,a,b,Nat.le_refl _⟩),O,O,fun w2 h2=>lv (h w2 h2.1) (hI2 w2 (hold w2 h2).2)⟩ (ae w' hS)
  have hpi:=wz (x:=x) (k:=3) (d:=d) (iB hck)
  repeat' (first|refine aa (ay O (by omega)) ?_ O O|refine aa (aB O (by omega)) ?_ O O|refine bM O ?_ O O|refine ax ?_|refine aU ?_ O O|refine aa (ai (ds:=aZ x p) O O O O O) ?_ O O|refine aa (ah (v:= .slice A d.length dc) O O O O) ?_ O O|refine au O ?_|refine al O O ?_|refine aC O O ?_|refine aA O O ?_|refine aG O ?_|(refine an (bB (f:=16) D9 (fun w1 hS1=>gS w1 x p (hxp w1 (hD.at_ hS1)) 3 A d.length dc d (hd w1 (hD.at_ hS1)) hdn hck (nK (hxp w hD.now).hu hck)) O O (fun _=>O)) ?_ O O;rintro _ _ ⟨⟨m2,Z2⟩,rfl,⟨hI1,hI2⟩,rfl⟩;dsimp only at hI1 hI2)|(refine an (am O ch) ?_ O O;rintro _ _ ⟨b10,rfl,rfl⟩)|(refine bh (aj (cs:=aZ dy df) (ds:=aZ (gj x 3 d) m2.p) O O O O (bn _ _) O) ?_ O;rintro _ _ rfl)|(refine an (am O ba) ?_ O O;rintro _ _ ⟨b11,rfl,rfl⟩)|(refine bh (aj (cs:=aO (0,0)) (ds:=aO (oV x 3 d)) O O O O (aQ _) O) ?_ O;rintro _ _ rfl)|(refine ie O O (fun hs=>?_) (fun hs=>?_)))
  all_goals (
   exact hB _ _ _ _ _ O O fun w' hS=>gl (c':=c) (Z:=zN) ⟨⟨g,S,Bn,Rq.Le.refl g,G,Nat.le_succ Bn⟩,O,O,fun w2 h2=>h w2 h2.1⟩ (dN (ae w' hS)))
 obtain rfl:q=12:=by omega
 obtain⟨l4,hl4⟩: ∃ l,nn.toNat%4=l:=⟨_,O⟩
 have hl44:l4<4:=by omega
 by_cases hci:x.base.1+l4≤x.commit
 ·have T:=Rq.qM G.ri (v:=(i:Int)+1) (by omega) (by omega) hxS (idx:=x.base.1+l4) (by omega) hci
  have ok:=T.ok (by omega) (by omega)
  rw[hxS] at ok
  repeat' (first|refine aa (ay O (by omega)) ?_ O O|refine aa (aB O (by omega)) ?_ O O|refine bM O ?_ O O|refine ax ?_|refine aU ?_ O O|refine aa (ls O O) ?_ O O|refine aa (lf (p:=nn.toNat) (q:=4) hl4 O O (by omega)) ?_ O O|refine aa (ai (ds:=aZ x p) O O O O O) ?_ O O|refine aa (ai (ds:=aZ (lr x (x.base.1+l4)) q2) O O O O O) ?_ O O|refine aa (ah O O O O) ?_ O O|refine aa (aI O O (by unfold aH;omega)) ?_ O O|refine aa (bj O O O O (by unfold aH;omega)) ?_ O O|refine au O ?_|refine al O O ?_|refine aC O O ?_|refine aA O O ?_|refine aG O ?_|refine aM O ?_|(refine an (bB (f:=33) Gq (fun w1 hS1=>qA w1 x p (hxp w1 (hD.at_ hS1)) (x.base.1+l4) hck (by omega) hci ok.u) O O (fun _=>O)) ?_ O O;rintro _ _ ⟨⟨q2,Z2⟩,rfl,hI2,rfl⟩;dsimp only at hI2)|(refine an (am O ch) ?_ O O;rintro _ _ ⟨b10,rfl,rfl⟩)|(refine bh (aj (cs:=aZ dy df) (ds:=aZ (lr x (x.base.1+l4)) q2) O O O O (bn _ _) O) ?_ O;rintro _ _ rfl)|(refine an (cq (f:=15) (D:=D) (Z:=Z2) (cP gc c) (fun z:Option Addr×Nat=>cP gc (cG c i ((lr x (x.base.1+l4)),(⟨q2,[],none,0,false⟩:Mm).p) (⟨q2,[],none,0,false⟩:Mm).S z.1 z.2)) hD Am (fun w1 _ hk hS1=>nh w1 gc c hS1 (K2 D Z2) hk (fun w2 h2=>h w2 h2.1) i hiN (by show c.N.length≤5;omega) x (by rw[hz]) (lr x (x.base.1+l4)) (⟨q2,[],none,0,false⟩:Mm) (fun w2 h2=>nV (hI2 w2 h2.2)) G.w6 ok) O O) ?_ O O;rintro _ _ ⟨⟨A17,c17⟩,Z3,rfl,_,hold,_,rfl⟩;dsimp only[List.cons_append,List.nil_append]))
  exact hB _ _ _ _ _ O O fun w' hS=>gl (c':=(cG c i ((lr x (x.base.1+l4)),(⟨q2,[],none,0,false⟩:Mm).p) (⟨q2,[],none,0,false⟩:Mm).S A17 c17)) (Z:=Z3) ⟨(by obtain⟨h',S',a,b⟩:=G.set hi5 T (Nat.le_refl Bn) (L:=[]) O A17 c17;exact⟨h',S',_,a,b,Nat.le_succ Bn⟩),O,O,fun w2 h2=>lv (h w2 h2.1) (nV (hI2 w2 (hold w2 h2).2))⟩ (ae w' hS)
 ·skip
  repeat' (first|refine aa (ay O (by omega)) ?_ O O|refine aa (aB O (by omega)) ?_ O O|refine bM O ?_ O O|refine ax ?_|refine aU ?_ O O|refine aa (ls O O) ?_ O O|refine aa (lf (p:=nn.toNat) (q:=4) hl4 O O (by omega)) ?_ O O|refine aa (ai (ds:=aZ x p) O O O O O) ?_ O O|refine aa (ah O O O O) ?_ O O|refine aa (aI O O (by unfold aH;omega)) ?_ O O|refine aa (bj O O O O (by unfold aH;omega)) ?_ O O|refine au O ?_|refine al O O ?_|refine aC O O ?_|refine aA O O ?_|refine aG O ?_|(refine an (aq (f:=33) Gq (fun w1 hS1=>oW w1 x p (hxp w1 (hD.at_ hS1)) (x.base.1+l4) hck (Or.inr (by omega))) O O (fun _=>O)) ?_ O O;rintro _ _ ⟨_,rfl,_,rfl⟩)|(refine an (am O ch) ?_ O O;rintro _ _ ⟨b10,rfl,rfl⟩)|(refine bh (aj (cs:=aZ dy df) (ds:=aZ dy df) O O O O (bn _ _) O) ?_ O;rintro _ _ rfl))
  exact hB _ _ _ _ _ O O fun w' hS=>gl (c':=c) (Z:=zN) ⟨⟨g,S,Bn,Rq.Le.refl g,G,Nat.le_succ Bn⟩,O,O,fun w2 h2=>h w2 h2.1⟩ (dN (ae w' hS))
end Go.Proofs.YtdeffdldifepkaaGreat
namespace Go.Proofs.YtdeffdldifepkaaGreat
open Go.RowKit Go.ChangeShapes Go.WideShapes Go.ChangeAt
open Asn (pt row rb)
set_option linter.unusedVariables false
set_option linter.unusedSimpArgs false
theorem D4 {c0:List Int} {g:Rq.Gh} {S:Int→Rs×List En} {B:Nat} (R:Rq.RI c0 g S B) {v u:Int} (v1:1≤v) (v5:v≤5) (u1:1≤u) (u5:u≤5):z6 (S v).1.base (S v).1.es (S u).1.base (S u).1.es:=fun top ht j e he hle hlt=>by
 rcases ht with rfl|⟨k,f,hf,hh,rfl⟩
 ·omega
 ·rw[Bool.and_eq_true] at hh
  exact R.mat2 v1 v5 u1 u5 (R.mat v1 v5 u1 u5 hf hh.2) he hle hlt
def D5 (g:Rq.Gh) (t:Nat) (who:Int):Prop:=g.El t∧g.ec t=who
theorem FI.le {c0:List Int} {g h:Rq.Gh} {D D':Kw} {f1 f2:Int→Option Value} (F:Rq.Ft (Rq.CC c0) g) (H:Rq.Le g h) (hD: ∀ w,D' w→D w) (x:FI D (D5 g) (Rq.Stl g) f1 f2):FI D' (D5 h) (Rq.Stl h) f1 f2:=
 ⟨fun t v hv=>by
  obtain⟨who,e,h1,h2⟩:=x.led t v hv
  exact⟨who,e,(H.el t h1).1,by rw[(H.el t h1).2.1];exact h2⟩,fun k v hv=>by
  obtain⟨m,e,h1,h2⟩:=x.stl k v hv
  exact⟨m,e,fun n hn=>(h1 n hn).le F H,fun w' h'=>h2 w' (hD w' h')⟩⟩
def LI (D:Kw) (c0:List Int) (j:Nat) (c:Cl) (Z:Asn):Prop:= ∃ g S B,Rq.GI c0 g S B c∧B≤j∧FI (K2 D Z) (D5 g) (Rq.Stl g) c.f1 c.f2∧ ∀ w',K2 D Z w'→CR w' c
abbrev Ev:=Int×Int×Int×Option Addr×Nat×List UInt8
def Ay (e:Ev):List Value:=nY e.1 e.2.1 e.2.2.1 e.2.2.2.1 e.2.2.2.2.2.length e.2.2.2.2.1
theorem ss (e:Ev):(Ay e).length=4:=rfl
theorem nW:AL.zero= .agg (nY 0 0 0 none 0 0).toArray:=by kernel_rfl
theorem wF (b1 b2:Nat):Tryz.prog.built 30 [(2,.map (some b1)),(3,.map (some b2))]=some [Value.slice none 0 0,.slice none 0 0,.map (some b1),.map (some b2)].toArray:=by kernel_rfl
theorem D6:Tryz.prog.built 39 []=some (aE (0,0) none 0 0).toArray:=by kernel_rfl
def jp (k:Nat):List Int:=(List.range k).map fun j=>((j+1:Nat):Int)
theorem wG (k:Nat):(jp k).length=k:=by simp[jp]
theorem tR (k:Nat):jp (k+1)=jp k++[((k+1:Nat):Int)]:=by simp[jp,List.range_succ]
theorem su {k:Nat} (h1:1≤k) (h5:k≤5):C.right (jp k)=true:=by
 have:k=1∨k=2∨k=3∨k=4∨k=5:=by omega
 rcases this with rfl|rfl|rfl|rfl|rfl<;>decide
def fD (K j:Nat):Rs:=⟨((j+1:Nat):Int),0,0,(0,0),[],jp K,0,1,0,0,((4+j:Nat):Int),[],[]⟩
theorem ph (K j:Nat):fD K j=Rq.s0 (jp K) ((j:Int)+1):=by
 unfold fD Rq.s0
 rw[show (3+((j:Int)+1))=((4+j:Nat):Int) by omega]
 rfl
theorem wH {K j:Nat} (h1:1≤K) (h5:K≤5) (hj:j<5):cz (fD K j)=true∧RsU (fD K j):=by
 have R:=Rq.DY (su h1 h5)
 rw[ph]
 exact⟨R.ck (v:=(j:Int)+1) (by omega) (by omega),(R.u (v:=(j:Int)+1) (by omega) (by omega)).1⟩
theorem Gl {w:World} {K j:Nat} {A6:Option Addr} {c6:Nat} (h:Rd w bC 1 A6 K ((jp K).map zv)) (hK:K≤900) (hu:RsU (fD K j)):RfR w (fD K j) (⟨none,0,0,[],A6,K,c6,none,0,0,none,0,0⟩:Rp):=
 ⟨⟨O,Nat.zero_le _,Nat.le_refl _,O,Rd.none_,fun m hm=>absurd hm (by simp),fun m hm=>absurd hm (by simp),wG K,hK,h⟩,O,Nat.zero_le _,Rd.none_,O,Nat.zero_le _,Rd.none_,hu⟩
theorem yw (w:World) (gc:Nat) (c:Cl) (hS0:St w (ar (cP gc c)) (cP gc c) w) (D:Kw) (hD:Kd D (cP gc c) w) (h: ∀ w',D w'→CR w' c) (hN5:c.N.length≤5) (PL:Nat→Int→Prop) (PS:Nat→En→Prop) (hPL: ∀ t a b,PL t a→PL t b→a=b) (hPS: ∀ k a b,PS k a→PS k b→a=b) (hFI:FI D PL PS c.f1 c.f2)
  (hled: ∀ z∈c.N,z.1.role=4→PL z.1.term z.1.me) (hstl: ∀ z∈c.N, ∀ k e,z.1.es[k]? =some e→z.1.base.1+k+1≤z.1.commit→PS (z.1.base.1+k+1) e) (hmat: ∀ z∈c.N, ∀ y∈c.N,z6 z.1.base z.1.es y.1.base y.1.es) (hba: ∀ z∈c.N,z.1.base.1+z.1.es.length<18446744073709551615):
  Gives Tryz.prog 12 [.pointer (some ⟨gc,0,none⟩)] (cP gc c) w (X:=(Int→Option Value)×(Int→Option Value)) (fun _=> .bool true) (fun y=>FI D PL PS y.1 y.2) (fun y=>cP gc {c with f1:=y.1,f2:=y.2}++[zN]):=
 (qH w gc c hS0 D hD h hN5 PL PS hPL hPS hFI hled hstl hmat hba).mono fun u w' ⟨z,he,hi,hS⟩=>⟨z,he,hi,(dN hS).perm (List.perm_append_comm (l₁:=[zN]))⟩
theorem wI (w:World) (mem:Int) (A:Option Addr) (n c:Nat) (L:List Ev) (hn:L.length=n) (h:Rd w bC 4 A n (ab Ay L)) (hd: ∀ e∈L,Bs w bC e.2.2.2.1 e.2.2.2.2.2.length e.2.2.2.2.1 e.2.2.2.2.2) (hnm:n≤maxLen):
  Gives Tryz.prog 3 [.int .i64 mem,.slice A n c] [] w (X:=Unit) (fun _=> .bool true) (fun _=>True) (fun _=>[]):=by
 refine aP Tryz.func3 O Tryz.ntmps3 Tryz.results3 (by simp) (St.enter w) (fun B hB=>?_)
 unfold maxLen at hnm
 have hne:0<n→A≠none:=fun h0=>by obtain⟨ad,e,_⟩:=h.2 h0;rw[e];simp
 obtain⟨k5,hk5⟩: ∃ l,mem.toNat%5=l:=⟨_,O⟩
 have hk55:k5<5:=by omega
 focus (refine qs ?_;refine qp ?_;refine qz ?_;refine qq ?_;refine qs ?_;refine qh F9 (fun w1 hS1=>oQ w1) ?_;refine qt (aR O) ?_;refine qz ?_;refine qF ?_;refine qx ?_;refine qs ?_;refine qp ?_;refine qt (ls O O) ?_;refine qt (lf (p:=mem.toNat) (q:=5) hk5 O O (by omega)) ?_;refine qt (aI O O (by unfold aH;omega)) ?_;refine qp ?_;refine qn ?_;(iterate 2 (refine qe (ol .u64) ?_;rintro _ _ ⟨b2,rfl,rfl⟩));refine qt (bS O O (wF _ _)) ?_;(refine qe (ap O) ?_;rintro _ _ ⟨b,rfl,rfl⟩);refine qp ?_;refine qn ?_;(refine qe (am O C.dO) ?_;rintro _ _ ⟨b6,rfl,rfl⟩);refine qz ?_;refine qq ?_;refine qs ?_;refine qp ?_;refine qp ?_;refine qz ?_;refine qb ?_)
 rename_i b1
 obtain⟨gc,rfl⟩: ∃ g,g=b:=⟨_,O⟩
 obtain⟨K,hK⟩: ∃ K,k5+1=K:=⟨_,O⟩
 rw[hK]
 refine bV (X:=Nat×Option Addr×Nat) (fun z=>[(1,.slice A n c),(5,.pointer (some ⟨gc,0,none⟩)),(6,.pointer (some ⟨b6,0,none⟩)),(23,.int .i64 (K:Int)),(24,.int .i64 (z.1:Int))]) (fun z=>[row 3 1 z.2.1 z.1 z.2.2 ((jp z.1).map zv),pt b6 33 [.slice z.2.1 z.1 z.2.2],pt gc 30 [.slice none 0 0,.slice none 0 0,.map (some b1),.map (some b2)],er .u64 b1 (fun _=>none),er .u64 b2 (fun _=>none)]) (fun z=>z.1≤K) (fun z=>K-z.1) O (0,none,0) (Nat.zero_le _) (Sub.cons O (Sub.cons O (Sub.cons O (Sub.cons O (Sub.cons O Sub.nil))))) (fun w' hS=>(ae (H':=[pt b6 33 [.slice none 0 0],pt gc 30 [.slice none 0 0,.slice none 0 0,.map (some b1),.map (some b2)],er .u64 b1 (fun _=>none),er .u64 b2 (fun _=>none)]) w' hS).nilrow 3 1) ?_
 rintro⟨j,A6,c6⟩ hj J hJ
 dsimp only at hj ⊢
 rcases Nat.lt_or_ge j K with hjl|hjl
 ·skip
  focus (refine qs ?_;refine qd ?_;refine qz ?_;refine qq ?_;refine qT ?_;refine qx ?_;refine qq ?_;refine qb ?_;refine qs ?_;refine qp ?_;refine qp ?_;refine qz ?_;refine qr ?_;refine qp ?_;refine qt (ah O O O O) ?_;refine qp ?_;refine qt (aI O O (by unfold aH;omega)) ?_;(refine qe (d7 (m:=1) (vs:=[zv ((j+1:Nat):Int)]) O O O O O O O (by simp[zv,Value.oneCell']) (by decide)) ?_;rintro _ _ ⟨bm,rfl,rfl⟩);(refine qe (lV O O O O O O O (Srd.pt (ds:=[zv ((j+1:Nat):Int)]) O (fun j u hj=>by rw[Nat.zero_add];exact hj)) (by simp[zv,Value.oneCell']) (by show _*8≤_;omega) (by unfold maxLen;omega)) ?_;rintro _ _ ⟨A7,c7,rfl,rfl⟩);refine qp ?_;(refine qw (aw (cs:=[.slice A6 j c6]) (cs':=[.slice A7 (j+1) c7]) O O O O O O (by show _<1;omega)) ?_;rintro _ _ rfl);refine qz ?_;refine aK ?_;refine qr ?_;refine qt (aI O O (by unfold aH;omega)) ?_;refine qp ?_;refine qz ?_)
  refine hJ (j+1,A7,c7) _ _ (by show j+1≤K;omega) (Sub.cons O (Sub.cons O (Sub.cons O (Sub.cons O (Sub.cons O Sub.nil))))) (fun w' hS=>?_) (by show K-(j+1)<K-j;omega)
  dsimp only
  rw[tR,List.map_append]
  exact ae (H':=[row 3 1 A7 (j+1) c7 ((jp j).map zv++[zv ((j+1:Nat):Int)]),pt b6 33 [.slice A7 (j+1) c7],pt gc 30 [.slice none 0 0,.slice none 0 0,.map (some b1),.map (some b2)],er .u64 b1 (fun _=>none),er .u64 b2 (fun _=>none)]) w' hS
 obtain rfl:K=j:=by omega
 focus (refine qs ?_;refine qf ?_;refine qz ?_;refine qq ?_;refine qF ?_;refine bE O O ?_;refine qq ?_;refine qs ?_;refine qp ?_;refine qz ?_;refine qb ?_)
 refine ez ?_
 refine bV (X:=Nat×(List (Rs×Rp)×Option Addr×Nat)×Asn) (fun z=>[(1,.slice A n c),(5,.pointer (some ⟨gc,0,none⟩)),(6,.pointer (some ⟨b6,0,none⟩)),(35,.int .i64 (z.1:Int))]) (fun z=>[z.2.2,pt gc 30 [.slice z.2.1.2.1 z.2.1.1.length z.2.1.2.2,.slice none 0 0,.map (some b1),.map (some b2)],row 42 14 z.2.1.2.1 z.2.1.1.length z.2.1.2.2 (ab gu z.2.1.1),er .u64 b1 (fun _=>none),er .u64 b2 (fun _=>none),row 3 1 A6 K c6 ((jp K).map zv),pt b6 33 [.slice A6 K c6]]) (fun z=>z.1≤5∧z.2.1.1.length=z.1∧(∀ i,i<z.1→(z.2.1.1.getD i (dy,df)).1=fD K i)∧ ∀ w',z.2.2.holds w'→ ∀ y∈z.2.1.1,RfR w' y.1 y.2) (fun z=>5-z.1) O (0,([],none,0),zN) ⟨Nat.zero_le _,O,fun i hi=>absurd hi (Nat.not_lt_zero _),fun _ _ y hy=>absurd hy (by simp)⟩ (Sub.cons O (Sub.cons O (Sub.cons O (Sub.cons O Sub.nil)))) (fun w' hS=>(ae (H':=[zN,pt gc 30 [.slice none 0 0,.slice none 0 0,.map (some b1),.map (some b2)],row 42 14 none 0 0 [],er .u64 b1 (fun _=>none),er .u64 b2 (fun _=>none),row 3 1 A6 K c6 ((jp K).map zv),pt b6 33 [.slice A6 K c6]]) w' (hS.nilrow 42 14))) ?_
 rintro⟨j,⟨N,A8,c8⟩,Z⟩ ⟨hj5,hNl,hNx,hNr⟩ J2 hJ2
 dsimp only at hj5 hNl hNx hNr ⊢
 rcases Nat.lt_or_ge j 5 with hjl|hjl
 ·have hok:=wH (K:=K) (by omega) (by omega) hjl
  focus (refine qs ?_;refine qd ?_;refine qz ?_;refine qq ?_;refine qT ?_;refine qx ?_;refine qq ?_;refine qb ?_;refine qs ?_;refine qp ?_;refine qp ?_;refine qn ?_;refine qp ?_;refine qt (aI O O (by unfold aH;omega)) ?_;refine qt (bu D6) ?_;refine qt (ai (ds:=[.slice A6 K c6]) O O O O O) ?_;refine qp ?_;refine qt (aI O O (by unfold aH;omega)) ?_;(refine qe (bB (f:=10) FD (fun w1 hS1=>wB w1 (fD K j) (⟨none,0,0,[],A6,K,c6,none,0,0,none,0,0⟩:Rp) (Gl (ce (hS1.at_ (A:=row 3 1 A6 K c6 ((jp K).map zv)) (by simp))) (by omega) hok.2) ((4+j:Nat):Int) hok.1 hok.2) O O (fun _=>O)) ?_;rintro _ _ ⟨⟨q2,Z2⟩,rfl,hI2,rfl⟩;dsimp only at hI2);(iterate 3 refine qp ?_);(refine qe (am O ch) ?_;rintro _ _ ⟨b9,rfl,rfl⟩);(refine qw (aj (cs:=aZ dy df) (ds:=aZ (fD K j) q2) O O O O (bn _ _) O) ?_;rintro _ _ rfl);refine qp ?_;refine qz ?_;refine qq ?_;refine qs ?_;refine qp ?_;refine qf ?_;refine qz ?_;refine qF ?_;refine qx ?_)
  refine dS [pt b9 42 (aZ (fD K j) q2),pt gc 30 [.slice A8 N.length c8,.slice none 0 0,.map (some b1),.map (some b2)]] 11 ?_
  refine dp 0 ?_
  refine dp 1 ?_
  refine dt 2 O (ac O) ?_
  refine dp 3 ?_
  refine dl 4 ?_
  refine dt 5 O (ai (ds:=aZ (fD K j) q2) O O O O O) ?_
  refine dE 6 O (cK (vs:=[.agg (aZ (fD K j) q2).toArray]) (size:=14) (ds:=aZ (fD K j) q2) O O O O O O (by simp[aV,aZ]) O (by omega)) ?_
  rintro _ _ ⟨vb,rfl,rfl⟩
  refine nx ?_
  refine dE 7 O (gd (sz:=14) (m:=N.length) (c:=c8) (A:=A8) O O O O O O O (by decide) (Srd.pt (n:=1) (g:=vb) (ds:=aZ (fD K j) q2) O (fun j u hj=>by rw[Nat.zero_add];exact hj)) (bn _ _) (by show (N.length+1)*176≤_;omega) (by unfold maxLen;omega)) ?_
  rintro _ _ ⟨A9,c9,rfl,rfl⟩
  refine nx ?_
  refine dt 8 O (ac O) ?_
  refine dp 9 ?_
  refine dE 10 O (aw (cs:=[.slice A8 N.length c8,.slice none 0 0,.map (some b1),.map (some b2)]) (cs':=[.slice A9 (N.length+1) c9,.slice none 0 0,.map (some b1),.map (some b2)]) O O O O O O (by show _<4;omega)) ?_
  rintro _ _ rfl
  refine dV ?_
  refine dn ?_
  skip
  focus (refine aK ?_;refine qr ?_;refine qt (aI O O (by unfold aH;omega)) ?_;refine qp ?_;refine qz ?_)
  refine hJ2 (j+1,(N++[(fD K j,q2)],A9,c9),zA Z Z2) _ _ ⟨by show j+1≤5;omega,by show (N++[_]).length=j+1;rw[List.length_append,hNl];rfl,fun i hi=>?_,fun w' h' y hy=>?_⟩ (Sub.cons O (Sub.cons O (Sub.cons O (Sub.cons O Sub.nil)))) (fun w' hS=>?_) (by show 5-(j+1)<5-j;omega)
  ·dsimp only at hi ⊢
   rw[List.getD_eq_getElem?_getD,List.getElem?_append]
   split
   ·rename_i h9;rw[← List.getD_eq_getElem?_getD];exact hNx i (by omega)
   ·obtain rfl:i=j:=by omega
    rw[hNl,Nat.sub_self];rfl
  ·rcases List.mem_append.1 hy with hy|hy
   ·exact hNr w' (iY h') y hy
   ·obtain rfl:=List.mem_singleton.1 hy
    exact hI2 w' (gZ h')
  ·have h9:=ae (H':=[Z,Z2,pt gc 30 [.slice A9 (N.length+1) c9,.slice none 0 0,.map (some b1),.map (some b2)],row 42 14 A9 (N.length+1) c9 (ab gu N++aZ (fD K j) q2),er .u64 b1 (fun _=>none),er .u64 b2 (fun _=>none),row 3 1 A6 K c6 ((jp K).map zv),pt b6 33 [.slice A6 K c6]]) w' hS
   rw[show ab gu N++aZ (fD K j) q2=ab gu (N++[(fD K j,q2)]) by rw[dC,fI];rfl,show N.length+1=(N++[(fD K j,q2)]).length by rw[List.length_append];rfl] at h9
   exact fT h9
 obtain rfl:j=5:=by omega
 focus (refine qs ?_;refine qf ?_;refine qz ?_;refine qq ?_;refine qF ?_;refine bE O O ?_;refine qq ?_;refine qs ?_;(iterate 3 refine qp ?_);refine qz ?_;refine qb ?_)
 have R0:=Rq.DY (su (k:=K) (by omega) (by omega))
 have hL0:LI (fun w'=>Kp bC w w') (jp K) 0 (⟨N,A8,c8,[],none,0,b1,fun _=>none,b2,fun _=>none⟩:Cl) Z:=⟨Rq.g0,_,0,⟨R0,hNl,fun i hi=>by rw[hNx i hi,ph],fun s hs=>absurd hs (by simp),Nat.zero_le _⟩,Nat.le_refl _,⟨fun t v hv=>absurd hv (by simp),fun k v hv=>absurd hv (by simp)⟩,fun w' h'=>⟨hNr w' h'.2,fun s hs=>absurd hs (by simp),fun k v hv=>absurd hv (by simp)⟩⟩
 have hDw:Kd (fun w'=>Kp bC w w') [] w:=fun w' hk=>hk.mono fun k _ _=>ao k
 refine bV (X:=Nat×Cl×Asn) (fun z=>[(5,.pointer (some ⟨gc,0,none⟩)),(61,.slice A n c),(62,.int .i64 (n:Int)),(63,.int .i64 (z.1:Int))]) (fun z=>[pt gc 30 (gC z.2.1),row 42 14 z.2.1.nA z.2.1.N.length z.2.1.nc (ab gu z.2.1.N),row 65 12 z.2.1.wA z.2.1.W.length z.2.1.wc (ab bK z.2.1.W),er .u64 z.2.1.b1 z.2.1.f1,er .u64 z.2.1.b2 z.2.1.f2,z.2.2]) (fun z=>z.1≤n∧z.1≤150∧LI (fun w'=>Kp bC w w') (jp K) z.1 z.2.1 z.2.2) (fun z=>n-z.1) O (0,(⟨N,A8,c8,[],none,0,b1,fun _=>none,b2,fun _=>none⟩:Cl),Z) ⟨Nat.zero_le _,Nat.zero_le _,hL0⟩ (Sub.cons O (Sub.cons O (Sub.cons O (Sub.cons O Sub.nil)))) (fun w' hS=>ae (H':=[pt gc 30 [.slice A8 N.length c8,.slice none 0 0,.map (some b1),.map (some b2)],row 42 14 A8 N.length c8 (ab gu N),row 65 12 none 0 0 [],er .u64 b1 (fun _=>none),er .u64 b2 (fun _=>none),Z]) w' (hS.nilrow 65 12)) ?_
 rintro⟨j,c',Z⟩ ⟨hjn,hj150,hLI⟩ J3 hJ3
 dsimp only at hjn hj150 hLI ⊢
 rcases Nat.lt_or_ge j n with hjl|hjl
 rotate_left
 ·skip
  focus (refine qs ?_;refine qf ?_;refine qz ?_;refine qq ?_;refine qF ?_;refine bE O O ?_;refine qs ?_;refine qp ?_;refine qz ?_)
  exact hB _ _ _ _ _ O O (qE O)
 have hne:=hne (by omega)
 have hat:=bi (f:=Ay) ss L default j (by omega)
 obtain⟨⟨ek,en,em,eA,ec,ed⟩,he⟩: ∃ e,L.getD j default=e:=⟨_,O⟩
 have heL:(ek,en,em,eA,ec,ed)∈L:=by rw[← he,List.getD_eq_getElem?_getD,List.getElem?_eq_getElem (by omega)];exact List.getElem_mem _
 rw[he] at hat
 have hat0: ∀ i v,(nY ek en em eA ed.length ec)[i]? =some v→(ab Ay L)[j*4+i]? =some v:=hat
 have hbe:Bs w bC eA ed.length ec ed:=hd _ heL
 by_cases h150:j=150
 ·repeat' (first|refine aa (ay O (by omega)) ?_ O O|refine bM O ?_ O O|refine ax ?_|refine aU ?_ O O|refine aa (bH (sz:=4) (q:=j) O O O O O O hne hjl) ?_ O O|refine aa (cw (ds:=nY ek en em eA ed.length ec) O O O (Srd.old h (fun k _=>ao k)) O (by omega) hat0) ?_ O O|refine au O ?_|refine al O O ?_|refine aC O O ?_|refine aG O ?_|refine bE O O ?_|refine aM O ?_|(refine an (am O nW) ?_ O O;rintro _ _ ⟨b12,rfl,rfl⟩)|(refine bh (aj (cs:=nY 0 0 0 none 0 0) (ds:=nY ek en em eA ed.length ec) O O O O (nU _ _ _ _ _ _) O) ?_ O;rintro _ _ rfl))
  exact hB _ _ _ _ _ O O (qE O)
 by_cases h100:100<ed.length
 ·focus (refine qs ?_;refine qd ?_;refine qz ?_;refine qq ?_;refine qT ?_;refine qx ?_;refine qq ?_;refine qb ?_;refine qs ?_;refine qp ?_;refine qt (bH (sz:=4) (q:=j) O O O O O O hne hjl) ?_;refine qt (cw (ds:=nY ek en em eA ed.length ec) O O O (Srd.old h (fun k _=>ao k)) O (by omega) hat0) ?_;(refine qe (am O nW) ?_;rintro _ _ ⟨b12,rfl,rfl⟩);refine qp ?_;(refine qw (aj (cs:=nY 0 0 0 none 0 0) (ds:=nY ek en em eA ed.length ec) O O O O (nU _ _ _ _ _ _) O) ?_;rintro _ _ rfl);refine qz ?_;refine qq ?_;refine qs ?_;refine qp ?_;refine qf ?_;refine qp ?_;refine qp ?_;refine qt (ah (v:= .slice eA ed.length ec) O O O O) ?_;refine qp ?_;refine qd ?_;refine qp ?_;refine qz ?_;refine qT ?_;refine bE O O ?_;refine qs ?_;refine qp ?_;refine qz ?_)
  exact hB _ _ _ _ _ O O (qE O)
 obtain⟨g,S,Bn,G,hBn,hF,hCR⟩:=hLI
 focus (refine qs ?_;refine qd ?_;refine qz ?_;refine qq ?_;refine qT ?_;refine qx ?_;refine qq ?_;refine qb ?_;refine qs ?_;refine qp ?_;refine qt (bH (sz:=4) (q:=j) O O O O O O hne hjl) ?_;refine qt (cw (ds:=nY ek en em eA ed.length ec) O O O (Srd.old h (fun k _=>ao k)) O (by omega) hat0) ?_;(refine qe (am O nW) ?_;rintro _ _ ⟨b12,rfl,rfl⟩);refine qp ?_;(refine qw (aj (cs:=nY 0 0 0 none 0 0) (ds:=nY ek en em eA ed.length ec) O O O O (nU _ _ _ _ _ _) O) ?_;rintro _ _ rfl);refine qz ?_;refine qq ?_;refine qs ?_;refine qp ?_;refine qf ?_;refine qp ?_;refine qp ?_;refine qt (ah (v:= .slice eA ed.length ec) O O O O) ?_;refine qp ?_;refine qf ?_;refine qp ?_;refine qz ?_;refine qF ?_;refine qx ?_;refine qs ?_;refine qp ?_;refine qt (ai (ds:=nY ek en em eA ed.length ec) O O O O O) ?_;(refine qe (cq (f:=11) (D:=fun w'=>Kp bC w w') (Z:=Z) (cP gc c') (fun y:Cl×Asn=>cP gc y.1) hDw GF (fun w1 _ hk hS1=>Aj w1 gc c' hS1 (K2 (fun w'=>Kp bC w w') Z) hk hCR G (by omega) ek en em eA ec ed (fun w2 h2=>Bs.keep hbe h2.1) (by omega)) O O) ?_;rintro _ _ ⟨⟨c2,Zc⟩,Z2,rfl,⟨⟨g2,S2,B2,hle2,G2,hB2⟩,hf1,hf2,hCR2⟩,hold2,hnew2,rfl⟩;dsimp only[List.cons_append,List.nil_append] at hf1 hf2 hCR2 G2 ⊢);refine qt (aR O) ?_;refine qp ?_;refine qp ?_)
 have hCR3: ∀ w',K2 (fun w'=>Kp bC w w') Z2 w'→CR w' c2:=fun w' h'=>hCR2 w' (hnew2 w' h')
 have hF2:FI (K2 (fun w'=>Kp bC w w') Z2) (D5 g2) (Rq.Stl g2) c2.f1 c2.f2:=by
  rw[hf1,hf2]
  exact hF.le G.ri.inv.F hle2 hold2
 have hnd: ∀ z∈c2.N, ∃ i:Nat,i<5∧z.1=(S2 ((i:Int)+1)).1:=fun z hz=>by
  obtain⟨i,hi,rfl⟩:=List.getElem_of_mem hz
  have h5:=G2.n5
  refine⟨i,by omega,?_⟩
  rw[← G2.nd i (by omega),List.getD_eq_getElem?_getD,List.getElem?_eq_getElem hi]
  rfl
 have hn52:=G2.n5
 have hlim:=G2.ri.lim
 focus ((refine qe (cq (f:=12) (D:=fun w'=>Kp bC w w') (Z:=Z2) (cP gc c2) (fun y:(Int→Option Value)×(Int→Option Value)=>cP gc {c2 with f1:=y.1,f2:=y.2}) hDw GG (fun w1 _ hk hS1=>yw w1 gc c2 hS1 (K2 (fun w'=>Kp bC w w') Z2) hk hCR3 (by omega) (D5 g2) (Rq.Stl g2) (fun t a b h1 h2=>h1.2.symm.trans h2.2) (fun k a b h1 h2=>h1.one G2.ri.inv.F h2) hF2 (fun z hz hr=>by obtain⟨i,hi,e⟩:=hnd z hz;rw[e] at hr ⊢;exact G2.ri.led (by omega) (by omega) hr) (fun z hz k e he hc=>by obtain⟨i,hi,e9⟩:=hnd z hz;rw[e9] at he hc ⊢;exact G2.ri.stl (by omega) (by omega) he hc) (fun z hz y hy=>by obtain⟨i,hi,e⟩:=hnd z hz;obtain⟨k,hk,e9⟩:=hnd y hy;rw[e,e9];exact D4 G2.ri (by omega) (by omega) (by omega) (by omega)) (fun z hz=>by obtain⟨i,hi,e⟩:=hnd z hz;rw[e];have:=G2.ri.len (v:=(i:Int)+1) (by omega) (by omega);omega)) O O) ?_;rintro _ _ ⟨⟨f1,f2⟩,Z3,rfl,hFI3,hold3,_,rfl⟩;dsimp only[List.cons_append,List.nil_append] at hFI3 ⊢);refine qt (aR O) ?_;refine qp ?_;refine qz ?_;refine qF ?_;refine qx ?_;refine aK ?_;refine qr ?_;refine qt (aI O O (by unfold aH;omega)) ?_;refine qp ?_;refine qz ?_)
 refine hJ3 (j+1,{c2 with f1:=f1,f2:=f2},Z3) _ _ ⟨by show j+1≤n;omega,by show j+1≤150;omega,g2,S2,B2,⟨G2.ri,G2.n5,G2.nd,G2.om,G2.w6⟩,by show B2≤j+1;omega,?_,fun w' h'=>?_⟩ (Sub.cons O (Sub.cons O (Sub.cons O (Sub.cons O Sub.nil)))) ae (by show n-(j+1)<n-j;omega)
 ·exact⟨hFI3.led,fun k v hv=>by
   obtain⟨m,e,h1,h2⟩:=hFI3.stl k v hv
   exact⟨m,e,h1,fun w' h'=>h2 w' (hold3 w' h')⟩⟩
 ·have h9:=hCR3 w' (hold3 w' h')
  exact⟨h9.nd,h9.ms,fun k v hv=>by
   obtain⟨m,e,_,h2⟩:=hFI3.stl k v hv
   exact⟨m,e,h2 w' (hold3 w' h')⟩⟩
section
variable {H:Type} {enc:TypeId×Value→H} {W:World}
theorem wJ {cs:List Value} (h:Op_ enc Tryz.prog W 48 cs): ∃ e:Ev,cs=Ay e∧Bs W bC e.2.2.2.1 e.2.2.2.2.2.length e.2.2.2.2.1 e.2.2.2.2.2:=by
 obtain⟨hl,hf⟩:=h.struct Tryz.underlying48
 have c0:Tryz.prog.cellsOf 48=4:=by kernel_rfl
 have c2:Tryz.prog.cellsOf 3=1:=by kernel_rfl
 have c3:Tryz.prog.cellsOf 46=1:=by kernel_rfl
 rw[c0] at hl
 have g0:Op_ enc Tryz.prog W 3 ((cs.drop 0).take (Tryz.prog.cellsOf 3)):=hf 0 _ O
 have g1:Op_ enc Tryz.prog W 3 ((cs.drop 1).take (Tryz.prog.cellsOf 3)):=hf 1 _ O
 have g2:Op_ enc Tryz.prog W 3 ((cs.drop 2).take (Tryz.prog.cellsOf 3)):=hf 2 _ O
 have g3:Op_ enc Tryz.prog W 46 ((cs.drop 3).take (Tryz.prog.cellsOf 46)):=hf 3 _ O
 rw[c2] at g0 g1 g2
 rw[c3] at g3
 obtain⟨a,ha,_⟩:=Op_.int Tryz.underlying3 g0
 obtain⟨b,hb,_⟩:=Op_.int Tryz.underlying3 g1
 obtain⟨d,hd,_⟩:=Op_.int Tryz.underlying3 g2
 obtain⟨A,n,c,l,hc,hbs⟩:=Op_.bytes Tryz.underlying46 Tryz.underlying5 (by kernel_rfl) g3
 have hln:l.length=n:=by have:=hbs.rd.1;simpa using this
 subst hln
 match cs,hl with
 |[u,v,w,y],_=>
  simp at ha hb hd hc
  exact⟨(a,b,d,A,c,l),by rw[ha,hb,hd,hc];rfl,hbs⟩
end
theorem RaftSafe_open {H:Type} {enc:TypeId×Value→H} (W:World) {r:Reach} (base:Nat) (v0 v1:Value) {d0 d1:DataW H} {p0 p1:List MemPlace}
  (hv0:Value.okWide Tryz.prog W r base 3 v0) (hv1:Value.okWide Tryz.prog W r base 22 v1)
  (h0:DataW.Trod enc Tryz.prog W 0 (fun _=>true) true 3 v0 d0 p0) (h1:DataW.Trod enc Tryz.prog W 0 (fun _=>true) true 22 v1 d1 p1):
  Calls Tryz.prog 3 #[v0,v1] W fun e w'=>e= .returned (.bool true)∧Kp bC W w':=by
 obtain⟨mem,rfl⟩:=okWide_int Tryz.underlying3 hv0
 obtain⟨a0,len0,cap0,rfl⟩:=okWide_slice Tryz.underlying22 hv1
 obtain⟨A,n,c,xs,hcs,h1,h2,h3,h4⟩:=(Op_.of_trod h1).slice Tryz.underlying22 (size:=4) (by kernel_rfl)
 obtain⟨S,hS,rfl,hall⟩:=ru (n:=0) (size:=4) (f:=Ay) ss (fun e:Ev=>Bs W bC e.2.2.2.1 e.2.2.2.2.2.length e.2.2.2.2.1 e.2.2.2.2.2) _ _ h3.1 fun i hi=>wJ (h4 i hi)
 have hcs:[Value.slice a0 len0 cap0]=[.slice A n c]:=hcs
 injection hcs with hcs _
 rw[hcs]
 exact(wI W mem A n c S hS h3 hall (by omega)).pure12
end Go.Proofs.YtdeffdldifepkaaGreat
