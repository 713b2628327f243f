/- Lemmas of the proof, part 6. -/
import Derived.Test.YtdeffdldifepkaaGreatZp5
set_option maxRecDepth 100000
set_option maxHeartbeats 4000000
namespace Go.Proofs.YtdeffdldifepkaaGreat
open Go.RowKit Go.ChangeShapes Go.WideShapes Go.ChangeAt
open Asn (pt row rb)
set_option linter.unusedVariables false
set_option linter.unusedSimpArgs false
theorem rising_le: ∀ (l:List En) (t:Nat),risingB l t=true→t≤lastT l t∧ ∀ e∈l,e.1≤lastT l t
 |[],t,_=>⟨Nat.le_refl _,fun e he=>by cases he⟩
 |a::l,t,h=>by
  simp only[risingB,Bool.and_eq_true,decide_eq_true_eq] at h
  obtain⟨h1,h2⟩:=rising_le l a.1 h.2
  have e:lastT (a::l) t=lastT l a.1:=lastT_app [a] l t
  rw[e]
  refine⟨Nat.le_trans h.1.2 h1,fun y hy=>?_⟩
  rcases List.mem_cons.1 hy with rfl|hy
  ·exact h1
  ·exact h2 y hy
theorem rsU0:RsU rs0:=⟨by decide,by decide,by decide,by decide,fun p hp=>by cases hp⟩
theorem comR_u {x:Rs} (h:RsU x):RsU (comR x):=by
 have hc:comN x<18446744073709551616:=by
  unfold comN
  split
  ·exact agr_lt O (fun q hq=>by
    unfold mtcL at hq
    rcases List.mem_cons.1 hq with rfl|hq
    ·have:=lastP_le x;exact Nat.lt_of_le_of_lt this (by decide)
    ·obtain⟨z,hz,rfl⟩:=List.mem_map.1 hq
     exact(h.pe z hz).2)
  ·exact h.cm
 unfold comR
 split
 ·exact⟨h.tm,h.b1,h.b2,hc,fun p hp=>by cases hp⟩
 ·exact⟨h.tm,h.b1,h.b2,hc,h.pe⟩
theorem prpR_u {x:Rs} {k:Int} {d:List UInt8} (h:RsU x) (hck:checkB x=true):RsU (prpR x k d):=by
 unfold prpR
 split
 ·rename_i h0
  have h1:(prA x k d).1=0:=by
   unfold prpC at h0
   split at h0
   ·cases h0
   ·split at h0
    ·cases h0
    ·split at h0
     ·cases h0
     ·exact h0
  obtain⟨⟨e,pa,bb,r⟩,hap⟩: ∃ z,prA x k d=z:=⟨_,O⟩
  rw[hap] at h1 ⊢
  obtain rfl:e=0:=h1
  obtain⟨hb,_⟩:=app_eq hap
  refine comR_u ⟨h.tm,?_,?_,h.cm,h.pe⟩
  ·show bb.1<_;rw[hb];exact h.b1
  ·show bb.2<_;rw[hb];exact h.b2
 ·exact rsU0
theorem cmpX_u {x:Rs} {idx:Nat} (h:RsU x) (hck:checkB x=true) (h1:x.base.1≤idx) (h2:idx≤x.commit):RsU (cmpX x idx):=by
 have hrb:=chk_right hck
 have hb:(cmp x.base x.es idx).2.1.1<18446744073709551616∧(cmp x.base x.es idx).2.1.2<18446744073709551616:=by
  unfold cmp
  rw[if_pos hrb]
  rcases findR_cases x.base x.es idx with⟨n,hf,hn,hi⟩|⟨hf,_⟩
  ·rw[hf,if_neg (by omega)]
   dsimp only
   unfold placeN
   split
   ·exact⟨h.b1,h.b2⟩
   ·have:=h.cm
    refine⟨by show x.base.1+n<_;omega,?_⟩
    have hm:(x.es.getD (n-1) default)∈x.es:=by simp[List.getD,show n-1<x.es.length by omega]
    have hri:risingB x.es x.base.2=true:=by
     simp only[rightB,Bool.and_eq_true] at hrb
     exact hrb.2
    have h5:=(rising_le _ _ hri).2 _ hm
    have h6:(lastA x.base x.es).2≤x.term:=by
     have h7:chkE x.base x.es x.term=0:=by
      simp only[checkB,Bool.and_eq_true,decide_eq_true_eq] at hck
      exact hck.1.1.1.1.1.1.1.1.1.2
     unfold chkE at h7
     rw[if_pos hrb] at h7
     split at h7
     ·cases h7
     ·omega
    have h8:(lastA x.base x.es).2=lastT x.es x.base.2:=rfl
    have:=h.tm
    show (x.es.getD (n-1) default).1<_
    omega
  ·rw[hf,if_pos (by decide)]
   exact⟨by decide,by decide⟩
 exact⟨h.tm,hb.1,hb.2,h.cm,h.pe⟩
theorem compactD_no (w:World) (x:Rs) (p:Rp) (idx:Nat) (hlm:idx<x.base.1∨x.commit<idx):
  Gives Tryz.prog 35 [.agg (rfc x p).toArray,.int .u64 (idx:Int)] [] w (X:=Unit) (fun _=> .tuple #[.agg (rfc rs0 rp0).toArray,.bool false]) (fun _=>True) (fun _=>[]):=by
 refine gives_C Tryz.func35 O Tryz.ntmps35 Tryz.results35 (by simp) (St.enter w) (fun B hB=>?_)
 by_cases hl4:idx<x.base.1
 ·focus (refine qs ?_;(refine qe (E_boxa (cs:=rfc x p) O) ?_;rintro _ _ ⟨b2,rfl,rfl⟩);(refine qe (E_alloca O rf_zero) ?_;rintro _ _ ⟨b4,rfl,rfl⟩);refine qp ?_;refine qz ?_;refine qq ?_;refine qs ?_;(iterate 4 refine qp ?_);refine qt (T_load O O O O) ?_;refine qd ?_;refine qp ?_;(iterate 4 refine qk ?_);refine qp ?_;refine qz ?_;refine qT ?_;refine qs ?_;refine qt (T_build0 rf_built0) ?_;(refine qw (E_storew (cs:=rfc rs0 rp0) (ds:=rfc rs0 rp0) O O O O (rfc_one _ _) O) ?_;rintro _ _ rfl);refine qp ?_;refine qz ?_)
  refine hB _ _ _ _ _ O (.cell O O O inferInstance O (.tmp O .nil)) fun w' hS=>⟨(),O,trivial,hS.sublist (List.nil_sublist _)⟩
 ·repeat' (first|refine R_take (T_decT O (by omega)) ?_ O O|refine R_take (T_decF O (by omega)) ?_ O O|refine R_p O ?_ O O|refine R_nil ?_|refine R_take (T_build0 rf_built0) ?_ O O|refine R_take (T_load O O O O) ?_ O O|refine S_seq O ?_|refine S_region O O ?_|refine S_true O O ?_|(refine R_eff (E_boxa (cs:=rfc x p) O) ?_ O O;rintro _ _ ⟨b2,rfl,rfl⟩)|(refine R_eff (E_alloca O rf_zero) ?_ O O;rintro _ _ ⟨b4,rfl,rfl⟩)|(refine R_eff0 (E_storew (cs:=rfc rs0 rp0) (ds:=rfc rs0 rp0) O O O O (rfc_one _ _) O) ?_ O;rintro _ _ rfl))
  refine hB _ _ _ _ _ O (.cell O O O inferInstance O (.tmp O .nil)) fun w' hS=>⟨(),O,trivial,hS.sublist (List.nil_sublist _)⟩
theorem compactD_ok (w:World) (x:Rs) (p:Rp) (h:RfR w x p) (idx:Nat) (hck:checkB x=true) (hl1:x.base.1≤idx) (hl2:idx≤x.commit) (hu2:RsU (cmpX x idx)):
  Gives Tryz.prog 35 [.agg (rfc x p).toArray,.int .u64 (idx:Int)] [] w (X:=Rp×Asn) (fun y=> .tuple #[.agg (rfc (cmpX x idx) y.1).toArray,.bool true]) (fun y=> ∀ w',K2 (fun w'=>RfR w' x p) y.2 w'→RfR w' (cmpX x idx) y.1) (fun y=>[y.2]):=by
 refine gives_C Tryz.func35 O Tryz.ntmps35 Tryz.results35 (by simp) (St.enter w) (fun B hB=>?_)
 have n1:=h.lg.hm
 have hrb:=chk_right hck
 have hdd:=h.lg.ed
 obtain⟨ms,hms⟩: ∃ ms,forceL x idx=ms:=⟨_,O⟩
 have hm5:ms.length≤5:=by rw[← hms];exact force_le (chk_conf hck) _
 obtain⟨⟨e,bb,rr⟩,hcp⟩: ∃ z,cmp x.base x.es idx=z:=⟨_,O⟩
 have hlast:idx≤x.base.1+x.es.length:=by
  have h1:x.commit≤(lastP x).1:=by
   simp only[checkB,Bool.and_eq_true,decide_eq_true_eq] at hck
   exact hck.1.1.1.1.1.2
  rw[lastP,if_pos hrb] at h1
  exact Nat.le_trans hl2 h1
 obtain⟨he0,hrl,hrm⟩:=cpx_out hrb hl1 hlast hcp
 subst he0
 have hX:cmpX x idx={x with base:=bb,es:=rr,cf:=ms}:=by unfold cmpX;rw[hcp,hms]
 rw[hX] at hB hu2
 have hrd: ∀ y∈rr,y.2.2.length≤100000:=fun y hy=>hdd y (hrm y hy)
 have hln:=h.lg.ln
 focus (refine qs ?_;(refine qe (E_boxa (cs:=rfc x p) O) ?_;rintro _ _ ⟨b2,rfl,rfl⟩);(refine qe (E_alloca O rf_zero) ?_;rintro _ _ ⟨b4,rfl,rfl⟩);refine qp ?_;refine qz ?_;refine qq ?_;refine qs ?_;(iterate 4 refine qp ?_);refine qt (T_load O O O O) ?_;refine qf ?_;(iterate 3 refine qp ?_);refine qt (T_load O O O O) ?_;refine qf ?_;refine qp ?_;refine qz ?_;refine qF ?_;refine qx ?_;refine qs ?_;refine qt (T_loads (ds:=rfc x p) O O O O O) ?_;refine qp ?_;(refine qe (E_hv1 (f:=98) F98 (fun w1 hS1=>forceD_k w1 x p (fun w'=>LgR w' x p) (rf_lg (h.keep hS1.kpO).lg) (fun _ h=>h) hrb idx ms hms) O O (fun _=>O)) ?_;rintro _ _ ⟨⟨⟨A6,K6,c6⟩,Z6⟩,rfl,hI6,rfl⟩;dsimp only at hI6);(refine qe (E_alloca O C.cf_alloc) ?_;rintro _ _ ⟨b6,rfl,rfl⟩);(refine qw (E_storew (cs:=[.slice none 0 0]) (ds:=[.slice A6 ms.length c6]) O O O O (C.sl_one _ _ _) O) ?_;rintro _ _ rfl);refine qn ?_;refine qp ?_;refine qt (T_loads (ds:=lgc x.base p.A p.n p.c) O O O O O) ?_;refine qp ?_;(refine qe (E_hvG (f:=84) F84 (fun w1 hS1=>cmpD_any w1 x.base p.A p.c p.n p.Q x.es h.lg.hn h.lg.hQ (h.keep hS1.kpO).lg.rq (h.keep hS1.kpO).lg.dt h.lg.hc n1 h.lg.hd hrb idx 0 bb rr rr.length O hcp true O) O O) ?_;rintro _ _ ⟨⟨⟨A7,c7⟩,P7⟩,rfl,_,rfl⟩;dsimp only[List.cons_append,List.nil_append]);refine qp ?_;refine qp ?_;refine qd ?_;(refine qe (E_alloca O lg_zero) ?_;rintro _ _ ⟨b7,rfl,rfl⟩);(refine qw (E_storew (cs:=lgc (0,0) none 0 0) (ds:=lgc bb A7 rr.length c7) O O O O (lgc_one _ _ _ _) O) ?_;rintro _ _ rfl);refine qd ?_;refine qz ?_;refine qq ?_)
 refine S_draw ([pt b7 39 (lgc bb A7 rr.length c7),pt b6 33 [.slice A6 ms.length c6]]) sub_st (by kernel_rfl) O (by kernel_rfl) (by kernel_rfl:_=6) ?_
 refine dt 0 O (T_loads (ds:=lgc bb A7 rr.length c7) O O O O O) ?_
 refine dt 1 O (T_loads (ds:=[.slice A6 ms.length c6]) O O O O O) ?_
 refine dp 2 ?_
 refine D_one 3 O (E_storeA (gb:=b2) (t:=42) (cs:=rfc x p) (ds:=lgc bb A7 rr.length c7) (cs':=rfc {x with base:=bb,es:=rr} ⟨A7,rr.length,c7,P7.1,p.cA,p.cn,p.cc,p.vA,p.vn,p.vc,p.pA,p.pn,p.pc⟩) O O O O (lgc_one _ _ _ _) O (by show 3+3≤14;omega)) ?_ O O (by kernel_rfl)
 rintro _ _ rfl
 refine nx ?_
 refine dp 4 ?_
 refine D_one 5 O (E_storeA (gb:=b2) (t:=42) (cs:=rfc {x with base:=bb,es:=rr} ⟨A7,rr.length,c7,P7.1,p.cA,p.cn,p.cc,p.vA,p.vn,p.vc,p.pA,p.pn,p.pc⟩) (ds:=[.slice A6 ms.length c6]) (cs':=rfc {x with base:=bb,es:=rr,cf:=ms} ⟨A7,rr.length,c7,P7.1,A6,ms.length,c6,p.vA,p.vn,p.vc,p.pA,p.pn,p.pc⟩) O O O O (C.sl_one _ _ _) O (by show 6+1≤14;omega)) ?_ O O (by kernel_rfl)
 rintro _ _ rfl
 refine nx ?_
 refine dn ?_
 skip
 focus (refine qs ?_;refine qt (T_loads (ds:=rfc {x with base:=bb,es:=rr,cf:=ms} ⟨A7,rr.length,c7,P7.1,A6,ms.length,c6,p.vA,p.vn,p.vc,p.pA,p.pn,p.pc⟩) O O O O O) ?_;refine qd ?_;(refine qw (E_storew (cs:=rfc rs0 rp0) (ds:=rfc {x with base:=bb,es:=rr,cf:=ms} ⟨A7,rr.length,c7,P7.1,A6,ms.length,c6,p.vA,p.vn,p.vc,p.pA,p.pn,p.pc⟩) O O O O (rfc_one _ _) O) ?_;rintro _ _ rfl);refine qd ?_;refine qz ?_)
 refine hB _ _ _ _ _ O (.cell O O O inferInstance O (.tmp O .nil)) fun w' hS=>⟨(⟨A7,rr.length,c7,P7.1,A6,ms.length,c6,p.vA,p.vn,p.vc,p.pA,p.pn,p.pc⟩,bun [row 59 3 A7 rr.length c7 (cellsL emc P7.1),dtB 5 (P7.1.map emd),Z6]),O,fun w3 h3=>?_,bun_in (L:=[row 59 3 A7 rr.length c7 (cellsL emc P7.1),dtB 5 (P7.1.map emd),Z6]) (H:=[]) (sub_st (H':=[row 59 3 A7 rr.length c7 (cellsL emc P7.1),dtB 5 (P7.1.map emd),Z6]) w' hS)⟩
 have h4:=bun_all h3.2
 have hlg:LgR w3 {x with base:=bb,es:=rr,cf:=ms} ⟨A7,rr.length,c7,P7.1,A6,ms.length,c6,p.vA,p.vn,p.vc,p.pA,p.pn,p.pc⟩:=lgO_lg (h4 (row 59 3 A7 rr.length c7 (cellsL emc P7.1)) (by simp)) (h4 (dtB 5 (P7.1.map emd)) (by simp)) (hI6 w3 ⟨h3.1.lg,h4 Z6 (by simp)⟩) P7.2.1 (em_len P7.2.1) O (by show rr.length≤1000;omega) (by show ms.length≤900;omega) hrd
 exact⟨hlg,h3.1.hvn,h3.1.hvm,h3.1.rv,h3.1.hpn,h3.1.hpm,h3.1.rp,hu2⟩
theorem sameAll_k (w:World) (A1 A2:Option Addr) (cA cB:Nat) (L M:List (Ms×Mp)) (h1:Rd w All 12 A1 L.length (cellsL sgc L)) (h2:Rd w All 12 A2 M.length (cellsL sgc M)) (hL: ∀ s∈L,MsR w s.1 s.2) (hM: ∀ s∈M,MsR w s.1 s.2) (hE:L.map Prod.fst=M.map Prod.fst) (hl:L.length≤1000):
  Gives Tryz.prog 27 [.slice A1 L.length cA,.slice A2 M.length cB] [] w (X:=Unit) (fun _=> .bool true) (fun _=>True) (fun _=>[]):=by
 refine gives_S Tryz.func27 O Tryz.ntmps27 Tryz.results27 (by simp) (St.enter w) (fun B hB=>?_)
 have hlm:L.length=M.length:=by have:=congrArg List.length hE;simpa using this
 have hne1:0<L.length→A1≠none:=fun h0=>by obtain⟨ad,e,_⟩:=h1.2 (by omega);rw[e];simp
 have hne2:0<L.length→A2≠none:=fun h0=>by obtain⟨ad,e,_⟩:=h2.2 (by omega);rw[e];simp
 repeat' (first|refine R_take (T_decF O (by omega)) ?_ O O|refine R_p O ?_ O O|refine R_nil ?_|refine S_seq O ?_|refine S_region O O ?_|refine S_false O O ?_|refine S_block O ?_|refine S_skip O ?_)
 refine S_loop (X:=Nat) (fun j=>[(0,.slice A1 L.length cA),(1,.slice A2 M.length cB),(5,.int .i64 (j:Int))]) (fun _=>[]) (fun j=>j≤L.length) (fun j=>L.length-j) O 0 (Nat.zero_le _) (Sub.cons O (Sub.cons O (Sub.cons O Sub.nil))) (fun _ h=>h.sublist (List.nil_sublist _)) ?_
 rintro j hj J hJ
 rcases Nat.lt_or_ge j L.length with hjl|hjl
 ·have hne:=hne1 (by omega)
  have hne':=hne2 (by omega)
  have hjm:j<M.length:=by omega
  have hat:=cellsL_at (f:=sgc) sgc_len L default j hjl
  have hat':=cellsL_at (f:=sgc) sgc_len M default j hjm
  obtain⟨s,hs⟩: ∃ q,L.getD j default=q:=⟨_,O⟩
  obtain⟨t,ht⟩: ∃ q,M.getD j default=q:=⟨_,O⟩
  have hsm:s∈L:=by rw[← hs];simp[List.getD,hjl]
  have htm:t∈M:=by rw[← ht];simp[List.getD,hjm]
  have hst:s.1=t.1:=by
   have h3:=congrArg (fun l=>l[j]?) hE
   simp only[List.getElem?_map,hjl,hjm,List.getElem?_eq_getElem,Option.map_some,Option.some.injEq] at h3
   rw[← hs, ← ht]
   simpa[List.getD,hjl,hjm] using h3
  rw[hs] at hat
  rw[ht] at hat'
  obtain⟨sm,sp⟩:=s
  obtain⟨tm,tp⟩:=t
  dsimp only at hst
  subst hst
  focus (refine qq ?_;refine qs ?_;(iterate 3 refine qp ?_);refine qd ?_;refine qz ?_;refine qT ?_;refine qx ?_;refine qq ?_;refine qb ?_;refine qq ?_)
  refine S_draw ([]) sub_st (by kernel_rfl) O (by kernel_rfl) (by kernel_rfl:_=10) ?_
  refine dp 0 ?_
  refine dp 1 ?_
  refine dt 2 O (T_ixM (A:=A1) (sz:=12) O O O O O O hne hjl) ?_
  refine dt 3 O (T_lda (ds:=mgc sm sp) O O O (Srd.old h1 (fun k _=>noOwns k)) O (by omega) hat) ?_
  refine dp 4 ?_
  refine dp 5 ?_
  refine dt 6 O (T_ixM (A:=A2) (sz:=12) O O O O O O hne' hjm) ?_
  refine dt 7 O (T_lda (ds:=mgc sm tp) O O O (Srd.old h2 (fun k _=>noOwns k)) O (by omega) hat') ?_
  refine D_one 8 O (E_hv0 (f:=87) F87 (fun w1 hS1=>sameMD_k w1 sm sp ((hL _ hsm).keep hS1.kpO) sm tp ((hM _ htm).keep hS1.kpO) true ((eqL_iff _ _).2 O)) O O (fun _=>O)) ?_ O O (by kernel_rfl)
  rintro _ _ ⟨_,rfl,_,rfl⟩
  refine nx ?_
  refine dt 9 O (T_not O) ?_
  refine dn ?_
  skip
  focus (refine qF ?_;refine qx ?_;refine RS_blk ?_;refine qr ?_;refine qp ?_;refine qt (T_addN O O (by unfold fits;omega)) ?_;refine qp ?_;refine qz ?_)
  exact hJ (j+1) _ _ (by show j+1≤_;omega) (Sub.cons O (Sub.cons O (Sub.cons O Sub.nil))) (fun _ h=>h.sublist (List.nil_sublist _)) (by show L.length-(j+1)<_;omega)
 obtain rfl:j=L.length:=by omega
 repeat' (first|refine R_take (T_decF O (by omega)) ?_ O O|refine R_p O ?_ O O|refine R_nil ?_|refine S_seq O ?_|refine S_region O O ?_|refine S_false O O ?_|refine S_exit O O ?_)
 exact hB _ _ _ _ _ O O (qE O)
theorem prpM_le {x:Rs} {k:Int} {d:List UInt8} (hck:checkB x=true):(prpM x k d).length≤1000:=by
 unfold prpM
 split
 ·refine Nat.le_trans (flat_len (fun a=>lackM_le _ a) _) (Nat.le_trans (List.length_filter_le _ _) ?_)
  rename_i h0
  have hc:(prpR x k d).cf=x.cf:=by
   unfold prpR
   rw[if_pos h0,comR_cf]
   rfl
  exact Nat.le_trans (force_le (by rw[hc];exact chk_conf hck) _) (by decide)
 ·exact Nat.zero_le _
def CpS (x:Rs):Type:={y:Rp×Asn// ∀ w',y.2.holds w'→RfR w' x y.1}
def PrS (x:Rs) (ms:List Ms):Type:={y:Mm×Asn//y.1.S.map Prod.fst=ms∧ ∀ w',y.2.holds w'→SrvR w' x y.1}
theorem copied15_S (w:World) (x:Rs) (p:Rp) (h:RfR w x p):
  Gives Tryz.prog 19 [.agg (rfc x p).toArray] [] w (X:=CpS x) (fun y=> .agg (rfc x y.1.1).toArray) (fun _=>True) (fun y=>[y.1.2]):=
 (copied15_any w x p h).mono fun u w' ⟨y,he,hy,hS⟩=>⟨⟨y,hy⟩,he,trivial,hS⟩
theorem proposes_walk (w:World) (s:Rs) (p:Rp) (h:RfW w s p) (m:Em) (hmB:Bs w All m.2.2.1 m.2.2.2.2.length m.2.2.2.1 m.2.2.2.2) (idx:Nat):
  Gives Tryz.prog 8 [.agg (rfc s p).toArray,.agg (emc m).toArray,.int .u64 (idx:Int)] [] w (X:=Unit) (fun _=> .bool true) (fun _=>True) (fun _=>[]):=by
 refine gives_S Tryz.func8 O Tryz.ntmps8 Tryz.results8 (by simp) (St.enter w) (fun B hB=>?_)
 have hm:=hmB.rd
 rcases Classical.em (Small p) with hsm|hsm
 rotate_left
 ·skip
  focus (refine qs ?_;(refine qe (E_boxa (cs:=rfc s p) O) ?_;rintro _ _ ⟨b3,rfl,rfl⟩);(refine qe (E_boxa (cs:=emc m) O) ?_;rintro _ _ ⟨b4,rfl,rfl⟩);refine qp ?_;refine qz ?_;refine qq ?_;refine qs ?_;refine qh F9 (fun w1 _=>wakes15_any w1) ?_;refine qt (T_not O) ?_;refine qz ?_;refine qF ?_;refine qx ?_;refine qq ?_;refine qs ?_;refine qt (T_loads (ds:=rfc s p) O O O O O) ?_;refine qh F18 (fun w1 hS1=>large15_k w1 s p (h.keep hS1.kpO) true ⟨fun e=>(by cases e),fun s=>absurd s hsm⟩) ?_;refine qd ?_;(iterate 4 refine qk ?_);refine qd ?_;refine qz ?_;refine qT ?_;refine qs ?_;refine qd ?_;refine qz ?_)
  exact hB _ _ _ _ _ O O (qE O)
 have hr:=h.rf hsm
 by_cases h5k:5000<m.2.2.2.2.length
 ·skip
  focus (refine qs ?_;(refine qe (E_boxa (cs:=rfc s p) O) ?_;rintro _ _ ⟨b3,rfl,rfl⟩);(refine qe (E_boxa (cs:=emc m) O) ?_;rintro _ _ ⟨b4,rfl,rfl⟩);refine qp ?_;refine qz ?_;refine qq ?_;refine qs ?_;refine qh F9 (fun w1 _=>wakes15_any w1) ?_;refine qt (T_not O) ?_;refine qz ?_;refine qF ?_;refine qx ?_;refine qq ?_;refine qs ?_;refine qt (T_loads (ds:=rfc s p) O O O O O) ?_;refine qh F18 (fun w1 hS1=>large15_k w1 s p (h.keep hS1.kpO) false ⟨fun _=>hsm,fun _=>O⟩) ?_;refine qp ?_;refine qp ?_;refine qt (T_load O O O O) ?_;refine qp ?_;refine qd ?_;refine qd ?_;refine qz ?_;refine qT ?_;refine qs ?_;refine qd ?_;refine qz ?_)
  exact hB _ _ _ _ _ O O (qE O)
 focus (refine qs ?_;(refine qe (E_boxa (cs:=rfc s p) O) ?_;rintro _ _ ⟨b3,rfl,rfl⟩);(refine qe (E_boxa (cs:=emc m) O) ?_;rintro _ _ ⟨b4,rfl,rfl⟩);refine qp ?_;refine qz ?_;refine qq ?_;refine qs ?_;refine qh F9 (fun w1 _=>wakes15_any w1) ?_;refine qt (T_not O) ?_;refine qz ?_;refine qF ?_;refine qx ?_;refine qq ?_;refine qs ?_;refine qt (T_loads (ds:=rfc s p) O O O O O) ?_;refine qh F18 (fun w1 hS1=>large15_k w1 s p (h.keep hS1.kpO) false ⟨fun _=>hsm,fun _=>O⟩) ?_;refine qp ?_;refine qp ?_;refine qt (T_load O O O O) ?_;refine qp ?_;refine qf ?_;refine qp ?_;refine qz ?_;refine qF ?_;refine qx ?_;refine qq ?_)
 have h00:decide (((0,0):At)=(0,0))=true:=decide_eq_true O
 cases hck:checkB s
 ·skip
  refine S_cut (X:=Nat×Nat) (fun z=>[(2,.int .u64 (idx:Int)),(3,.pointer (some ⟨b3,0,none⟩)),(4,.pointer (some ⟨b4,0,none⟩)),(7,.pointer (some ⟨z.1,0,none⟩)),(8,.slice none 0 0),(9,.pointer (some ⟨z.2,0,none⟩)),(10,.int .i64 250)]) (fun z=>[pt z.1 42 (rfc rs0 rp0),pt z.2 36 (atc (0,0)),pt b3 42 (rfc s p),pt b4 59 (emc m)]) (fun _=>True) (fun J2 hJ2=>?_) (fun z _=>?_)
  ·skip
   refine S_draw ([pt b3 42 (rfc s p),pt b4 59 (emc m)]) sub_st (by kernel_rfl) O (by kernel_rfl) (by kernel_rfl:_=20) ?_
   refine dt 0 O (T_loads (ds:=rfc s p) O O O O O) ?_
   refine dp 2 ?_
   refine dl 3 ?_
   refine dp 5 ?_
   refine dl 6 ?_
   refine D_node #[U,U,U,U,U,U,U,U,U,U,U,U,U,U,U,U,Y,Y,Y,Y] (fun x:CpS s×Nat×Option Addr×Nat×Nat×Nat=>[(42,.int .i64 250),(41,.agg (atc (0,0)).toArray),(40,.slice none 0 0),(39,.agg (rfc rs0 rp0).toArray),(29,.tuple #[.agg (rfc rs0 rp0).toArray,.slice none 0 0,.agg (atc (0,0)).toArray,.int .i64 250]),(9,.pointer (some ⟨x.2.2.2.2.2,0,none⟩)),(7,.pointer (some ⟨x.2.2.2.2.1,0,none⟩)),(38,.tuple #[.agg (rfc rs0 rp0).toArray,.slice none 0 0,.agg (atc (0,0)).toArray,.int .i64 250]),(37,.slice x.2.2.1 m.2.2.2.2.length x.2.2.2.1),(34,.slice (some ⟨x.2.1,0,none⟩) 0 0),(31,.agg (rfc s x.1.1.1).toArray),(30,.agg (rfc s p).toArray),(33,.int .i64 m.2.1),(36,.slice m.2.2.1 m.2.2.2.2.length m.2.2.2.1),(2,.int .u64 (idx:Int)),(3,.pointer (some ⟨b3,0,none⟩)),(4,.pointer (some ⟨b4,0,none⟩))]) (fun x:CpS s×Nat×Option Addr×Nat×Nat×Nat=>[pt x.2.2.2.2.2 36 (atc (0,0)),pt x.2.2.2.2.1 42 (rfc rs0 rp0),row 5 1 x.2.2.1 m.2.2.2.2.length x.2.2.2.1 (m.2.2.2.2.map bv),x.1.1.2,pt b3 42 (rfc s p),pt b4 59 (emc m)]) (fun nd0=>?_) (fun x=>?_)
   refine D_nodeR #[U,U,U,U,U,U,U,U,U,U,U,U,U,U,U,Y,Y,Y,Y,Y] (fun x:CpS s×Nat×Option Addr×Nat×Nat=>[(42,.int .i64 250),(41,.agg (atc (0,0)).toArray),(40,.slice none 0 0),(39,.agg (rfc rs0 rp0).toArray),(29,.tuple #[.agg (rfc rs0 rp0).toArray,.slice none 0 0,.agg (atc (0,0)).toArray,.int .i64 250]),(7,.pointer (some ⟨x.2.2.2.2,0,none⟩)),(38,.tuple #[.agg (rfc rs0 rp0).toArray,.slice none 0 0,.agg (atc (0,0)).toArray,.int .i64 250]),(37,.slice x.2.2.1 m.2.2.2.2.length x.2.2.2.1),(34,.slice (some ⟨x.2.1,0,none⟩) 0 0),(31,.agg (rfc s x.1.1.1).toArray),(30,.agg (rfc s p).toArray),(33,.int .i64 m.2.1),(36,.slice m.2.2.1 m.2.2.2.2.length m.2.2.2.1),(2,.int .u64 (idx:Int)),(3,.pointer (some ⟨b3,0,none⟩)),(4,.pointer (some ⟨b4,0,none⟩))]) (fun x:CpS s×Nat×Option Addr×Nat×Nat=>[pt x.2.2.2.2 42 (rfc rs0 rp0),row 5 1 x.2.2.1 m.2.2.2.2.length x.2.2.2.1 (m.2.2.2.2.map bv),x.1.1.2,pt b3 42 (rfc s p),pt b4 59 (emc m)]) (fun x=>?_) (fun nd1=>?_)
   ·skip
    obtain⟨q1,bi,A9,c9,b7⟩:=x
    try dsimp only
    refine D_one 15 O (E_alloca O at_zero) ?_ O O (by kernel_rfl)
    rintro _ _ ⟨b9,rfl,rfl⟩
    refine nx ?_
    have h:=nd0 (q1,bi,A9,c9,b7,b9)
    try dsimp only at h
    exact Da h
   refine D_nodeR #[U,U,U,U,U,U,U,U,U,U,U,U,U,U,Y,U,Y,Y,Y,Y] (fun x:CpS s×Nat×Option Addr×Nat×Nat=>[(42,.int .i64 250),(41,.agg (atc (0,0)).toArray),(40,.slice none 0 0),(39,.agg (rfc rs0 rp0).toArray),(29,.tuple #[.agg (rfc rs0 rp0).toArray,.slice none 0 0,.agg (atc (0,0)).toArray,.int .i64 250]),(9,.pointer (some ⟨x.2.2.2.2,0,none⟩)),(38,.tuple #[.agg (rfc rs0 rp0).toArray,.slice none 0 0,.agg (atc (0,0)).toArray,.int .i64 250]),(37,.slice x.2.2.1 m.2.2.2.2.length x.2.2.2.1),(34,.slice (some ⟨x.2.1,0,none⟩) 0 0),(31,.agg (rfc s x.1.1.1).toArray),(30,.agg (rfc s p).toArray),(33,.int .i64 m.2.1),(36,.slice m.2.2.1 m.2.2.2.2.length m.2.2.2.1),(2,.int .u64 (idx:Int)),(3,.pointer (some ⟨b3,0,none⟩)),(4,.pointer (some ⟨b4,0,none⟩))]) (fun x:CpS s×Nat×Option Addr×Nat×Nat=>[pt x.2.2.2.2 36 (atc (0,0)),row 5 1 x.2.2.1 m.2.2.2.2.length x.2.2.2.1 (m.2.2.2.2.map bv),x.1.1.2,pt b3 42 (rfc s p),pt b4 59 (emc m)]) (fun x=>?_) (fun nd2=>?_)
   ·skip
    obtain⟨q1,bi,A9,c9,b9⟩:=x
    try dsimp only
    refine D_one 14 O (E_alloca O rf_zero) ?_ O O (by kernel_rfl)
    rintro _ _ ⟨b7,rfl,rfl⟩
    refine nx ?_
    have h:=nd0 (q1,bi,A9,c9,b7,b9)
    try dsimp only at h
    exact Da h
   refine D_nodeR #[U,U,U,U,U,U,U,U,U,U,U,U,U,U,Y,Y,Y,Y,Y,Y] (fun x:CpS s×Nat×Option Addr×Nat=>[(42,.int .i64 250),(41,.agg (atc (0,0)).toArray),(40,.slice none 0 0),(39,.agg (rfc rs0 rp0).toArray),(29,.tuple #[.agg (rfc rs0 rp0).toArray,.slice none 0 0,.agg (atc (0,0)).toArray,.int .i64 250]),(38,.tuple #[.agg (rfc rs0 rp0).toArray,.slice none 0 0,.agg (atc (0,0)).toArray,.int .i64 250]),(37,.slice x.2.2.1 m.2.2.2.2.length x.2.2.2),(34,.slice (some ⟨x.2.1,0,none⟩) 0 0),(31,.agg (rfc s x.1.1.1).toArray),(30,.agg (rfc s p).toArray),(33,.int .i64 m.2.1),(36,.slice m.2.2.1 m.2.2.2.2.length m.2.2.2.1),(2,.int .u64 (idx:Int)),(3,.pointer (some ⟨b3,0,none⟩)),(4,.pointer (some ⟨b4,0,none⟩))]) (fun x:CpS s×Nat×Option Addr×Nat=>[row 5 1 x.2.2.1 m.2.2.2.2.length x.2.2.2 (m.2.2.2.2.map bv),x.1.1.2,pt b3 42 (rfc s p),pt b4 59 (emc m)]) (fun x=>?_) (fun nd3=>?_)
   ·skip
    obtain⟨q1,bi,A9,c9⟩:=x
    try dsimp only
    refine D_two 14 15 (by decide) O O (E_alloca O rf_zero) (E_alloca O at_zero) ?_ ?_ O O O O (by kernel_rfl)
    ·rintro _ _ ⟨b7,rfl,rfl⟩
     refine nx ?_
     have h:=nd1 (q1,bi,A9,c9,b7)
     try dsimp only at h
     exact Da h
    ·rintro _ _ ⟨b9,rfl,rfl⟩
     refine nx ?_
     have h:=nd2 (q1,bi,A9,c9,b9)
     try dsimp only at h
     exact Da h
   refine D_nodeR #[U,U,U,U,U,U,U,U,Y,Y,Y,Y,Y,Y,U,U,Y,Y,Y,Y] (fun x:CpS s×Nat×Option Addr×Nat×Nat×Nat=>[(9,.pointer (some ⟨x.2.2.2.2.2,0,none⟩)),(7,.pointer (some ⟨x.2.2.2.2.1,0,none⟩)),(37,.slice x.2.2.1 m.2.2.2.2.length x.2.2.2.1),(34,.slice (some ⟨x.2.1,0,none⟩) 0 0),(31,.agg (rfc s x.1.1.1).toArray),(30,.agg (rfc s p).toArray),(33,.int .i64 m.2.1),(36,.slice m.2.2.1 m.2.2.2.2.length m.2.2.2.1),(2,.int .u64 (idx:Int)),(3,.pointer (some ⟨b3,0,none⟩)),(4,.pointer (some ⟨b4,0,none⟩))]) (fun x:CpS s×Nat×Option Addr×Nat×Nat×Nat=>[pt x.2.2.2.2.2 36 (atc (0,0)),pt x.2.2.2.2.1 42 (rfc rs0 rp0),row 5 1 x.2.2.1 m.2.2.2.2.length x.2.2.2.1 (m.2.2.2.2.map bv),x.1.1.2,pt b3 42 (rfc s p),pt b4 59 (emc m)]) (fun x=>?_) (fun nd4=>?_)
   ·skip
    obtain⟨q1,bi,A9,c9,b7,b9⟩:=x
    try dsimp only
    refine D_one 8 O (E_hv0 (f:=16) F16 (fun w1 hS1=>propose_ck w1 s q1.1.1 (q1.2 w1 (hS1.at_ (A:=q1.1.2) (by simp))) m.2.1 A9 m.2.2.2.2.length c9 hck) O O (fun _=>O)) ?_ O O (by kernel_rfl)
    rintro _ _ ⟨_,rfl,_,rfl⟩
    refine nx ?_
    refine dp 9 ?_
    refine dp 10 ?_
    refine dp 11 ?_
    refine dp 12 ?_
    refine dp 13 ?_
    have h:=nd0 (q1,bi,A9,c9,b7,b9)
    try dsimp only at h
    exact Da h
   refine D_nodeR #[U,U,U,U,U,U,U,U,Y,Y,Y,Y,Y,Y,U,Y,Y,Y,Y,Y] (fun x:CpS s×Nat×Option Addr×Nat×Nat=>[(7,.pointer (some ⟨x.2.2.2.2,0,none⟩)),(37,.slice x.2.2.1 m.2.2.2.2.length x.2.2.2.1),(34,.slice (some ⟨x.2.1,0,none⟩) 0 0),(31,.agg (rfc s x.1.1.1).toArray),(30,.agg (rfc s p).toArray),(33,.int .i64 m.2.1),(36,.slice m.2.2.1 m.2.2.2.2.length m.2.2.2.1),(2,.int .u64 (idx:Int)),(3,.pointer (some ⟨b3,0,none⟩)),(4,.pointer (some ⟨b4,0,none⟩))]) (fun x:CpS s×Nat×Option Addr×Nat×Nat=>[pt x.2.2.2.2 42 (rfc rs0 rp0),row 5 1 x.2.2.1 m.2.2.2.2.length x.2.2.2.1 (m.2.2.2.2.map bv),x.1.1.2,pt b3 42 (rfc s p),pt b4 59 (emc m)]) (fun x=>?_) (fun nd5=>?_)
   ·skip
    obtain⟨q1,bi,A9,c9,b7⟩:=x
    try dsimp only
    refine D_two 8 15 (by decide) O O (E_hv0 (f:=16) F16 (fun w1 hS1=>propose_ck w1 s q1.1.1 (q1.2 w1 (hS1.at_ (A:=q1.1.2) (by simp))) m.2.1 A9 m.2.2.2.2.length c9 hck) O O (fun _=>O)) (E_alloca O at_zero) ?_ ?_ O O O O (by kernel_rfl)
    ·rintro _ _ ⟨_,rfl,_,rfl⟩
     refine nx ?_
     refine dp 9 ?_
     refine dp 10 ?_
     refine dp 11 ?_
     refine dp 12 ?_
     refine dp 13 ?_
     have h:=nd1 (q1,bi,A9,c9,b7)
     try dsimp only at h
     exact Da h
    ·rintro _ _ ⟨b9,rfl,rfl⟩
     refine nx ?_
     have h:=nd4 (q1,bi,A9,c9,b7,b9)
     try dsimp only at h
     exact Da h
   refine D_nodeR #[U,U,U,U,U,U,U,U,Y,Y,Y,Y,Y,Y,Y,U,Y,Y,Y,Y] (fun x:CpS s×Nat×Option Addr×Nat×Nat=>[(9,.pointer (some ⟨x.2.2.2.2,0,none⟩)),(37,.slice x.2.2.1 m.2.2.2.2.length x.2.2.2.1),(34,.slice (some ⟨x.2.1,0,none⟩) 0 0),(31,.agg (rfc s x.1.1.1).toArray),(30,.agg (rfc s p).toArray),(33,.int .i64 m.2.1),(36,.slice m.2.2.1 m.2.2.2.2.length m.2.2.2.1),(2,.int .u64 (idx:Int)),(3,.pointer (some ⟨b3,0,none⟩)),(4,.pointer (some ⟨b4,0,none⟩))]) (fun x:CpS s×Nat×Option Addr×Nat×Nat=>[pt x.2.2.2.2 36 (atc (0,0)),row 5 1 x.2.2.1 m.2.2.2.2.length x.2.2.2.1 (m.2.2.2.2.map bv),x.1.1.2,pt b3 42 (rfc s p),pt b4 59 (emc m)]) (fun x=>?_) (fun nd6=>?_)
   ·skip
    obtain⟨q1,bi,A9,c9,b9⟩:=x
    try dsimp only
    refine D_two 8 14 (by decide) O O (E_hv0 (f:=16) F16 (fun w1 hS1=>propose_ck w1 s q1.1.1 (q1.2 w1 (hS1.at_ (A:=q1.1.2) (by simp))) m.2.1 A9 m.2.2.2.2.length c9 hck) O O (fun _=>O)) (E_alloca O rf_zero) ?_ ?_ O O O O (by kernel_rfl)
    ·rintro _ _ ⟨_,rfl,_,rfl⟩
     refine nx ?_
     refine dp 9 ?_
     refine dp 10 ?_
     refine dp 11 ?_
     refine dp 12 ?_
     refine dp 13 ?_
     have h:=nd2 (q1,bi,A9,c9,b9)
     try dsimp only at h
     exact Da h
    ·rintro _ _ ⟨b7,rfl,rfl⟩
     refine nx ?_
     have h:=nd4 (q1,bi,A9,c9,b7,b9)
     try dsimp only at h
     exact Da h
   refine D_nodeR #[U,U,U,U,U,U,U,Y,Y,Y,Y,Y,Y,Y,U,U,Y,Y,Y,Y] (fun x:CpS s×Nat×Nat×Nat=>[(9,.pointer (some ⟨x.2.2.2,0,none⟩)),(7,.pointer (some ⟨x.2.2.1,0,none⟩)),(34,.slice (some ⟨x.2.1,0,none⟩) 0 0),(31,.agg (rfc s x.1.1.1).toArray),(30,.agg (rfc s p).toArray),(33,.int .i64 m.2.1),(36,.slice m.2.2.1 m.2.2.2.2.length m.2.2.2.1),(2,.int .u64 (idx:Int)),(3,.pointer (some ⟨b3,0,none⟩)),(4,.pointer (some ⟨b4,0,none⟩))]) (fun x:CpS s×Nat×Nat×Nat=>[pt x.2.2.2 36 (atc (0,0)),pt x.2.2.1 42 (rfc rs0 rp0),pt x.2.1 5 [],x.1.1.2,pt b3 42 (rfc s p),pt b4 59 (emc m)]) (fun x=>?_) (fun nd7=>?_)
   ·skip
    obtain⟨q1,bi,b7,b9⟩:=x
    try dsimp only
    refine D_one 7 O (E_apple (gb:=bi) (sz:=1) (A2:=m.2.2.1) (m2:=m.2.2.2.2.length) (c2:=m.2.2.2.1) (news:=m.2.2.2.2.map bv) O O O O O O O (by decide) (by first|exact .here|exact .there .here|exact .there (.there .here)) (Srd.old hm (fun k _=>noOwns k)) (bv_ones _) (by show m.2.2.2.2.length*1≤_;omega) (by unfold maxLen;omega)) ?_ O O (by kernel_rfl)
    rintro _ _ ⟨A9,c9,rfl,rfl⟩
    refine nx ?_
    have h:=nd4 (q1,bi,A9,c9,b7,b9)
    try dsimp only at h
    exact Da h
   refine D_nodeR #[U,U,U,U,U,U,U,U,Y,Y,Y,Y,Y,Y,Y,Y,Y,Y,Y,Y] (fun x:CpS s×Nat×Option Addr×Nat=>[(37,.slice x.2.2.1 m.2.2.2.2.length x.2.2.2),(34,.slice (some ⟨x.2.1,0,none⟩) 0 0),(31,.agg (rfc s x.1.1.1).toArray),(30,.agg (rfc s p).toArray),(33,.int .i64 m.2.1),(36,.slice m.2.2.1 m.2.2.2.2.length m.2.2.2.1),(2,.int .u64 (idx:Int)),(3,.pointer (some ⟨b3,0,none⟩)),(4,.pointer (some ⟨b4,0,none⟩))]) (fun x:CpS s×Nat×Option Addr×Nat=>[row 5 1 x.2.2.1 m.2.2.2.2.length x.2.2.2 (m.2.2.2.2.map bv),x.1.1.2,pt b3 42 (rfc s p),pt b4 59 (emc m)]) (fun x=>?_) (fun nd8=>?_)
   ·skip
    obtain⟨q1,bi,A9,c9⟩:=x
    try dsimp only
    refine D_three 8 14 15 O O O (E_hv0 (f:=16) F16 (fun w1 hS1=>propose_ck w1 s q1.1.1 (q1.2 w1 (hS1.at_ (A:=q1.1.2) (by simp))) m.2.1 A9 m.2.2.2.2.length c9 hck) O O (fun _=>O)) (E_alloca O rf_zero) (E_alloca O at_zero) ?_ ?_ ?_ O O O O O O (by kernel_rfl)
    ·rintro _ _ ⟨_,rfl,_,rfl⟩
     refine nx ?_
     refine dp 9 ?_
     refine dp 10 ?_
     refine dp 11 ?_
     refine dp 12 ?_
     refine dp 13 ?_
     have h:=nd3 (q1,bi,A9,c9)
     try dsimp only at h
     exact Da h
    ·rintro _ _ ⟨b7,rfl,rfl⟩
     refine nx ?_
     have h:=nd5 (q1,bi,A9,c9,b7)
     try dsimp only at h
     exact Da h
    ·rintro _ _ ⟨b9,rfl,rfl⟩
     refine nx ?_
     have h:=nd6 (q1,bi,A9,c9,b9)
     try dsimp only at h
     exact Da h
   refine D_nodeR #[U,U,U,U,U,U,U,Y,Y,Y,Y,Y,Y,Y,U,Y,Y,Y,Y,Y] (fun x:CpS s×Nat×Nat=>[(7,.pointer (some ⟨x.2.2,0,none⟩)),(34,.slice (some ⟨x.2.1,0,none⟩) 0 0),(31,.agg (rfc s x.1.1.1).toArray),(30,.agg (rfc s p).toArray),(33,.int .i64 m.2.1),(36,.slice m.2.2.1 m.2.2.2.2.length m.2.2.2.1),(2,.int .u64 (idx:Int)),(3,.pointer (some ⟨b3,0,none⟩)),(4,.pointer (some ⟨b4,0,none⟩))]) (fun x:CpS s×Nat×Nat=>[pt x.2.2 42 (rfc rs0 rp0),pt x.2.1 5 [],x.1.1.2,pt b3 42 (rfc s p),pt b4 59 (emc m)]) (fun x=>?_) (fun nd9=>?_)
   ·skip
    obtain⟨q1,bi,b7⟩:=x
    try dsimp only
    refine D_two 7 15 (by decide) O O (E_apple (gb:=bi) (sz:=1) (A2:=m.2.2.1) (m2:=m.2.2.2.2.length) (c2:=m.2.2.2.1) (news:=m.2.2.2.2.map bv) O O O O O O O (by decide) (by first|exact .here|exact .there .here|exact .there (.there .here)) (Srd.old hm (fun k _=>noOwns k)) (bv_ones _) (by show m.2.2.2.2.length*1≤_;omega) (by unfold maxLen;omega)) (E_alloca O at_zero) ?_ ?_ O O O O (by kernel_rfl)
    ·rintro _ _ ⟨A9,c9,rfl,rfl⟩
     refine nx ?_
     have h:=nd5 (q1,bi,A9,c9,b7)
     try dsimp only at h
     exact Da h
    ·rintro _ _ ⟨b9,rfl,rfl⟩
     refine nx ?_
     have h:=nd7 (q1,bi,b7,b9)
     try dsimp only at h
     exact Da h
   refine D_nodeR #[U,U,U,U,U,U,U,Y,Y,Y,Y,Y,Y,Y,Y,U,Y,Y,Y,Y] (fun x:CpS s×Nat×Nat=>[(9,.pointer (some ⟨x.2.2,0,none⟩)),(34,.slice (some ⟨x.2.1,0,none⟩) 0 0),(31,.agg (rfc s x.1.1.1).toArray),(30,.agg (rfc s p).toArray),(33,.int .i64 m.2.1),(36,.slice m.2.2.1 m.2.2.2.2.length m.2.2.2.1),(2,.int .u64 (idx:Int)),(3,.pointer (some ⟨b3,0,none⟩)),(4,.pointer (some ⟨b4,0,none⟩))]) (fun x:CpS s×Nat×Nat=>[pt x.2.2 36 (atc (0,0)),pt x.2.1 5 [],x.1.1.2,pt b3 42 (rfc s p),pt b4 59 (emc m)]) (fun x=>?_) (fun nd10=>?_)
   ·skip
    obtain⟨q1,bi,b9⟩:=x
    try dsimp only
    refine D_two 7 14 (by decide) O O (E_apple (gb:=bi) (sz:=1) (A2:=m.2.2.1) (m2:=m.2.2.2.2.length) (c2:=m.2.2.2.1) (news:=m.2.2.2.2.map bv) O O O O O O O (by decide) (by first|exact .here|exact .there .here|exact .there (.there .here)) (Srd.old hm (fun k _=>noOwns k)) (bv_ones _) (by show m.2.2.2.2.length*1≤_;omega) (by unfold maxLen;omega)) (E_alloca O rf_zero) ?_ ?_ O O O O (by kernel_rfl)
    ·rintro _ _ ⟨A9,c9,rfl,rfl⟩
     refine nx ?_
     have h:=nd6 (q1,bi,A9,c9,b9)
     try dsimp only at h
     exact Da h
    ·rintro _ _ ⟨b7,rfl,rfl⟩
     refine nx ?_
     have h:=nd7 (q1,bi,b7,b9)
     try dsimp only at h
     exact Da h
   refine D_nodeR #[U,U,U,U,Y,U,U,Y,Y,Y,Y,Y,Y,Y,U,U,Y,Y,Y,Y] (fun x:CpS s×Nat×Nat=>[(9,.pointer (some ⟨x.2.2,0,none⟩)),(7,.pointer (some ⟨x.2.1,0,none⟩)),(31,.agg (rfc s x.1.1.1).toArray),(30,.agg (rfc s p).toArray),(33,.int .i64 m.2.1),(36,.slice m.2.2.1 m.2.2.2.2.length m.2.2.2.1),(2,.int .u64 (idx:Int)),(3,.pointer (some ⟨b3,0,none⟩)),(4,.pointer (some ⟨b4,0,none⟩))]) (fun x:CpS s×Nat×Nat=>[pt x.2.2 36 (atc (0,0)),pt x.2.1 42 (rfc rs0 rp0),x.1.1.2,pt b3 42 (rfc s p),pt b4 59 (emc m)]) (fun x=>?_) (fun nd11=>?_)
   ·skip
    obtain⟨q1,b7,b9⟩:=x
    try dsimp only
    refine D_one 4 O (E_lit1 (m:=0) (vs:=[]) O O O O O O O (by simp) (by decide)) ?_ O O (by kernel_rfl)
    rintro _ _ ⟨bi,rfl,rfl⟩
    refine nx ?_
    have h:=nd7 (q1,bi,b7,b9)
    try dsimp only at h
    exact Da h
   refine D_nodeR #[U,Y,U,U,U,U,U,Y,Y,Y,Y,Y,Y,Y,U,U,Y,Y,Y,Y] (fun x:Nat×Nat×Nat=>[(9,.pointer (some ⟨x.2.2,0,none⟩)),(7,.pointer (some ⟨x.2.1,0,none⟩)),(34,.slice (some ⟨x.1,0,none⟩) 0 0),(30,.agg (rfc s p).toArray),(33,.int .i64 m.2.1),(36,.slice m.2.2.1 m.2.2.2.2.length m.2.2.2.1),(2,.int .u64 (idx:Int)),(3,.pointer (some ⟨b3,0,none⟩)),(4,.pointer (some ⟨b4,0,none⟩))]) (fun x:Nat×Nat×Nat=>[pt x.2.2 36 (atc (0,0)),pt x.2.1 42 (rfc rs0 rp0),pt x.1 5 [],pt b3 42 (rfc s p),pt b4 59 (emc m)]) (fun x=>?_) (fun nd12=>?_)
   ·skip
    obtain⟨bi,b7,b9⟩:=x
    try dsimp only
    refine D_one 1 O (E_hv1 (f:=19) F19 (fun w1 hS1=>copied15_S w1 s p (hr.keep hS1.kpO)) O O (fun _=>O)) ?_ O O (by kernel_rfl)
    rintro _ _ ⟨q1,rfl,_,rfl⟩
    refine nx ?_
    have h:=nd7 (q1,bi,b7,b9)
    try dsimp only at h
    exact Da h
   refine D_nodeR #[U,U,U,U,U,U,U,Y,Y,Y,Y,Y,Y,Y,Y,Y,Y,Y,Y,Y] (fun x:CpS s×Nat=>[(34,.slice (some ⟨x.2,0,none⟩) 0 0),(31,.agg (rfc s x.1.1.1).toArray),(30,.agg (rfc s p).toArray),(33,.int .i64 m.2.1),(36,.slice m.2.2.1 m.2.2.2.2.length m.2.2.2.1),(2,.int .u64 (idx:Int)),(3,.pointer (some ⟨b3,0,none⟩)),(4,.pointer (some ⟨b4,0,none⟩))]) (fun x:CpS s×Nat=>[pt x.2 5 [],x.1.1.2,pt b3 42 (rfc s p),pt b4 59 (emc m)]) (fun x=>?_) (fun nd13=>?_)
   ·skip
    obtain⟨q1,bi⟩:=x
    try dsimp only
    refine D_three 7 14 15 O O O (E_apple (gb:=bi) (sz:=1) (A2:=m.2.2.1) (m2:=m.2.2.2.2.length) (c2:=m.2.2.2.1) (news:=m.2.2.2.2.map bv) O O O O O O O (by decide) (by first|exact .here|exact .there .here|exact .there (.there .here)) (Srd.old hm (fun k _=>noOwns k)) (bv_ones _) (by show m.2.2.2.2.length*1≤_;omega) (by unfold maxLen;omega)) (E_alloca O rf_zero) (E_alloca O at_zero) ?_ ?_ ?_ O O O O O O (by kernel_rfl)
    ·rintro _ _ ⟨A9,c9,rfl,rfl⟩
     refine nx ?_
     have h:=nd8 (q1,bi,A9,c9)
     try dsimp only at h
     exact Da h
    ·rintro _ _ ⟨b7,rfl,rfl⟩
     refine nx ?_
     have h:=nd9 (q1,bi,b7)
     try dsimp only at h
     exact Da h
    ·rintro _ _ ⟨b9,rfl,rfl⟩
     refine nx ?_
     have h:=nd10 (q1,bi,b9)
     try dsimp only at h
     exact Da h
   refine D_nodeR #[U,U,U,U,Y,U,U,Y,Y,Y,Y,Y,Y,Y,U,Y,Y,Y,Y,Y] (fun x:CpS s×Nat=>[(7,.pointer (some ⟨x.2,0,none⟩)),(31,.agg (rfc s x.1.1.1).toArray),(30,.agg (rfc s p).toArray),(33,.int .i64 m.2.1),(36,.slice m.2.2.1 m.2.2.2.2.length m.2.2.2.1),(2,.int .u64 (idx:Int)),(3,.pointer (some ⟨b3,0,none⟩)),(4,.pointer (some ⟨b4,0,none⟩))]) (fun x:CpS s×Nat=>[pt x.2 42 (rfc rs0 rp0),x.1.1.2,pt b3 42 (rfc s p),pt b4 59 (emc m)]) (fun x=>?_) (fun nd14=>?_)
   ·skip
    obtain⟨q1,b7⟩:=x
    try dsimp only
    refine D_two 4 15 (by decide) O O (E_lit1 (m:=0) (vs:=[]) O O O O O O O (by simp) (by decide)) (E_alloca O at_zero) ?_ ?_ O O O O (by kernel_rfl)
    ·rintro _ _ ⟨bi,rfl,rfl⟩
     refine nx ?_
     have h:=nd9 (q1,bi,b7)
     try dsimp only at h
     exact Da h
    ·rintro _ _ ⟨b9,rfl,rfl⟩
     refine nx ?_
     have h:=nd11 (q1,b7,b9)
     try dsimp only at h
     exact Da h
   refine D_nodeR #[U,U,U,U,Y,U,U,Y,Y,Y,Y,Y,Y,Y,Y,U,Y,Y,Y,Y] (fun x:CpS s×Nat=>[(9,.pointer (some ⟨x.2,0,none⟩)),(31,.agg (rfc s x.1.1.1).toArray),(30,.agg (rfc s p).toArray),(33,.int .i64 m.2.1),(36,.slice m.2.2.1 m.2.2.2.2.length m.2.2.2.1),(2,.int .u64 (idx:Int)),(3,.pointer (some ⟨b3,0,none⟩)),(4,.pointer (some ⟨b4,0,none⟩))]) (fun x:CpS s×Nat=>[pt x.2 36 (atc (0,0)),x.1.1.2,pt b3 42 (rfc s p),pt b4 59 (emc m)]) (fun x=>?_) (fun nd15=>?_)
   ·skip
    obtain⟨q1,b9⟩:=x
    try dsimp only
    refine D_two 4 14 (by decide) O O (E_lit1 (m:=0) (vs:=[]) O O O O O O O (by simp) (by decide)) (E_alloca O rf_zero) ?_ ?_ O O O O (by kernel_rfl)
    ·rintro _ _ ⟨bi,rfl,rfl⟩
     refine nx ?_
     have h:=nd10 (q1,bi,b9)
     try dsimp only at h
     exact Da h
    ·rintro _ _ ⟨b7,rfl,rfl⟩
     refine nx ?_
     have h:=nd11 (q1,b7,b9)
     try dsimp only at h
     exact Da h
   refine D_nodeR #[U,Y,U,U,U,U,U,Y,Y,Y,Y,Y,Y,Y,U,Y,Y,Y,Y,Y] (fun x:Nat×Nat=>[(7,.pointer (some ⟨x.2,0,none⟩)),(34,.slice (some ⟨x.1,0,none⟩) 0 0),(30,.agg (rfc s p).toArray),(33,.int .i64 m.2.1),(36,.slice m.2.2.1 m.2.2.2.2.length m.2.2.2.1),(2,.int .u64 (idx:Int)),(3,.pointer (some ⟨b3,0,none⟩)),(4,.pointer (some ⟨b4,0,none⟩))]) (fun x:Nat×Nat=>[pt x.2 42 (rfc rs0 rp0),pt x.1 5 [],pt b3 42 (rfc s p),pt b4 59 (emc m)]) (fun x=>?_) (fun nd16=>?_)
   ·skip
    obtain⟨bi,b7⟩:=x
    try dsimp only
    refine D_two 1 15 (by decide) O O (E_hv1 (f:=19) F19 (fun w1 hS1=>copied15_S w1 s p (hr.keep hS1.kpO)) O O (fun _=>O)) (E_alloca O at_zero) ?_ ?_ O O O O (by kernel_rfl)
    ·rintro _ _ ⟨q1,rfl,_,rfl⟩
     refine nx ?_
     have h:=nd9 (q1,bi,b7)
     try dsimp only at h
     exact Da h
    ·rintro _ _ ⟨b9,rfl,rfl⟩
     refine nx ?_
     have h:=nd12 (bi,b7,b9)
     try dsimp only at h
     exact Da h
   refine D_nodeR #[U,Y,U,U,U,U,U,Y,Y,Y,Y,Y,Y,Y,Y,U,Y,Y,Y,Y] (fun x:Nat×Nat=>[(9,.pointer (some ⟨x.2,0,none⟩)),(34,.slice (some ⟨x.1,0,none⟩) 0 0),(30,.agg (rfc s p).toArray),(33,.int .i64 m.2.1),(36,.slice m.2.2.1 m.2.2.2.2.length m.2.2.2.1),(2,.int .u64 (idx:Int)),(3,.pointer (some ⟨b3,0,none⟩)),(4,.pointer (some ⟨b4,0,none⟩))]) (fun x:Nat×Nat=>[pt x.2 36 (atc (0,0)),pt x.1 5 [],pt b3 42 (rfc s p),pt b4 59 (emc m)]) (fun x=>?_) (fun nd17=>?_)
   ·skip
    obtain⟨bi,b9⟩:=x
    try dsimp only
    refine D_two 1 14 (by decide) O O (E_hv1 (f:=19) F19 (fun w1 hS1=>copied15_S w1 s p (hr.keep hS1.kpO)) O O (fun _=>O)) (E_alloca O rf_zero) ?_ ?_ O O O O (by kernel_rfl)
    ·rintro _ _ ⟨q1,rfl,_,rfl⟩
     refine nx ?_
     have h:=nd10 (q1,bi,b9)
     try dsimp only at h
     exact Da h
    ·rintro _ _ ⟨b7,rfl,rfl⟩
     refine nx ?_
     have h:=nd12 (bi,b7,b9)
     try dsimp only at h
     exact Da h
   refine D_nodeR #[U,Y,U,U,Y,U,U,Y,Y,Y,Y,Y,Y,Y,U,U,Y,Y,Y,Y] (fun x:Nat×Nat=>[(9,.pointer (some ⟨x.2,0,none⟩)),(7,.pointer (some ⟨x.1,0,none⟩)),(30,.agg (rfc s p).toArray),(33,.int .i64 m.2.1),(36,.slice m.2.2.1 m.2.2.2.2.length m.2.2.2.1),(2,.int .u64 (idx:Int)),(3,.pointer (some ⟨b3,0,none⟩)),(4,.pointer (some ⟨b4,0,none⟩))]) (fun x:Nat×Nat=>[pt x.2 36 (atc (0,0)),pt x.1 42 (rfc rs0 rp0),pt b3 42 (rfc s p),pt b4 59 (emc m)]) (fun x=>?_) (fun nd18=>?_)
   ·skip
    obtain⟨b7,b9⟩:=x
    try dsimp only
    refine D_two 1 4 (by decide) O O (E_hv1 (f:=19) F19 (fun w1 hS1=>copied15_S w1 s p (hr.keep hS1.kpO)) O O (fun _=>O)) (E_lit1 (m:=0) (vs:=[]) O O O O O O O (by simp) (by decide)) ?_ ?_ O O O O (by kernel_rfl)
    ·rintro _ _ ⟨q1,rfl,_,rfl⟩
     refine nx ?_
     have h:=nd11 (q1,b7,b9)
     try dsimp only at h
     exact Da h
    ·rintro _ _ ⟨bi,rfl,rfl⟩
     refine nx ?_
     have h:=nd12 (bi,b7,b9)
     try dsimp only at h
     exact Da h
   refine D_nodeR #[U,U,U,U,Y,U,U,Y,Y,Y,Y,Y,Y,Y,Y,Y,Y,Y,Y,Y] (fun x:CpS s=>[(31,.agg (rfc s x.1.1).toArray),(30,.agg (rfc s p).toArray),(33,.int .i64 m.2.1),(36,.slice m.2.2.1 m.2.2.2.2.length m.2.2.2.1),(2,.int .u64 (idx:Int)),(3,.pointer (some ⟨b3,0,none⟩)),(4,.pointer (some ⟨b4,0,none⟩))]) (fun x:CpS s=>[x.1.2,pt b3 42 (rfc s p),pt b4 59 (emc m)]) (fun x=>?_) (fun nd19=>?_)
   ·skip
    revert x;intro q1
    try dsimp only
    refine D_three 4 14 15 O O O (E_lit1 (m:=0) (vs:=[]) O O O O O O O (by simp) (by decide)) (E_alloca O rf_zero) (E_alloca O at_zero) ?_ ?_ ?_ O O O O O O (by kernel_rfl)
    ·rintro _ _ ⟨bi,rfl,rfl⟩
     refine nx ?_
     have h:=nd13 (q1,bi)
     try dsimp only at h
     exact Da h
    ·rintro _ _ ⟨b7,rfl,rfl⟩
     refine nx ?_
     have h:=nd14 (q1,b7)
     try dsimp only at h
     exact Da h
    ·rintro _ _ ⟨b9,rfl,rfl⟩
     refine nx ?_
     have h:=nd15 (q1,b9)
     try dsimp only at h
     exact Da h
   refine D_nodeR #[U,Y,U,U,U,U,U,Y,Y,Y,Y,Y,Y,Y,Y,Y,Y,Y,Y,Y] (fun x:Nat=>[(34,.slice (some ⟨x,0,none⟩) 0 0),(30,.agg (rfc s p).toArray),(33,.int .i64 m.2.1),(36,.slice m.2.2.1 m.2.2.2.2.length m.2.2.2.1),(2,.int .u64 (idx:Int)),(3,.pointer (some ⟨b3,0,none⟩)),(4,.pointer (some ⟨b4,0,none⟩))]) (fun x:Nat=>[pt x 5 [],pt b3 42 (rfc s p),pt b4 59 (emc m)]) (fun x=>?_) (fun nd20=>?_)
   ·skip
    revert x;intro bi
    try dsimp only
    refine D_three 1 14 15 O O O (E_hv1 (f:=19) F19 (fun w1 hS1=>copied15_S w1 s p (hr.keep hS1.kpO)) O O (fun _=>O)) (E_alloca O rf_zero) (E_alloca O at_zero) ?_ ?_ ?_ O O O O O O (by kernel_rfl)
    ·rintro _ _ ⟨q1,rfl,_,rfl⟩
     refine nx ?_
     have h:=nd13 (q1,bi)
     try dsimp only at h
     exact Da h
    ·rintro _ _ ⟨b7,rfl,rfl⟩
     refine nx ?_
     have h:=nd16 (bi,b7)
     try dsimp only at h
     exact Da h
    ·rintro _ _ ⟨b9,rfl,rfl⟩
     refine nx ?_
     have h:=nd17 (bi,b9)
     try dsimp only at h
     exact Da h
   refine D_nodeR #[U,Y,U,U,Y,U,U,Y,Y,Y,Y,Y,Y,Y,U,Y,Y,Y,Y,Y] (fun x:Nat=>[(7,.pointer (some ⟨x,0,none⟩)),(30,.agg (rfc s p).toArray),(33,.int .i64 m.2.1),(36,.slice m.2.2.1 m.2.2.2.2.length m.2.2.2.1),(2,.int .u64 (idx:Int)),(3,.pointer (some ⟨b3,0,none⟩)),(4,.pointer (some ⟨b4,0,none⟩))]) (fun x:Nat=>[pt x 42 (rfc rs0 rp0),pt b3 42 (rfc s p),pt b4 59 (emc m)]) (fun x=>?_) (fun nd21=>?_)
   ·skip
    revert x;intro b7
    try dsimp only
    refine D_three 1 4 15 O O O (E_hv1 (f:=19) F19 (fun w1 hS1=>copied15_S w1 s p (hr.keep hS1.kpO)) O O (fun _=>O)) (E_lit1 (m:=0) (vs:=[]) O O O O O O O (by simp) (by decide)) (E_alloca O at_zero) ?_ ?_ ?_ O O O O O O (by kernel_rfl)
    ·rintro _ _ ⟨q1,rfl,_,rfl⟩
     refine nx ?_
     have h:=nd14 (q1,b7)
     try dsimp only at h
     exact Da h
    ·rintro _ _ ⟨bi,rfl,rfl⟩
     refine nx ?_
     have h:=nd16 (bi,b7)
     try dsimp only at h
     exact Da h
    ·rintro _ _ ⟨b9,rfl,rfl⟩
     refine nx ?_
     have h:=nd18 (b7,b9)
     try dsimp only at h
     exact Da h
   refine D_nodeR #[U,Y,U,U,Y,U,U,Y,Y,Y,Y,Y,Y,Y,Y,U,Y,Y,Y,Y] (fun x:Nat=>[(9,.pointer (some ⟨x,0,none⟩)),(30,.agg (rfc s p).toArray),(33,.int .i64 m.2.1),(36,.slice m.2.2.1 m.2.2.2.2.length m.2.2.2.1),(2,.int .u64 (idx:Int)),(3,.pointer (some ⟨b3,0,none⟩)),(4,.pointer (some ⟨b4,0,none⟩))]) (fun x:Nat=>[pt x 36 (atc (0,0)),pt b3 42 (rfc s p),pt b4 59 (emc m)]) (fun x=>?_) (fun nd22=>?_)
   ·skip
    revert x;intro b9
    try dsimp only
    refine D_three 1 4 14 O O O (E_hv1 (f:=19) F19 (fun w1 hS1=>copied15_S w1 s p (hr.keep hS1.kpO)) O O (fun _=>O)) (E_lit1 (m:=0) (vs:=[]) O O O O O O O (by simp) (by decide)) (E_alloca O rf_zero) ?_ ?_ ?_ O O O O O O (by kernel_rfl)
    ·rintro _ _ ⟨q1,rfl,_,rfl⟩
     refine nx ?_
     have h:=nd15 (q1,b9)
     try dsimp only at h
     exact Da h
    ·rintro _ _ ⟨bi,rfl,rfl⟩
     refine nx ?_
     have h:=nd17 (bi,b9)
     try dsimp only at h
     exact Da h
    ·rintro _ _ ⟨b7,rfl,rfl⟩
     refine nx ?_
     have h:=nd18 (b7,b9)
     try dsimp only at h
     exact Da h
   refine D_nodeR #[U,Y,U,U,Y,U,U,Y,Y,Y,Y,Y,Y,Y,Y,Y,Y,Y,Y,Y] (fun _:Unit=>[(30,.agg (rfc s p).toArray),(33,.int .i64 m.2.1),(36,.slice m.2.2.1 m.2.2.2.2.length m.2.2.2.1),(2,.int .u64 (idx:Int)),(3,.pointer (some ⟨b3,0,none⟩)),(4,.pointer (some ⟨b4,0,none⟩))]) (fun _:Unit=>[pt b3 42 (rfc s p),pt b4 59 (emc m)]) (fun x=>?_) (fun nd23=>?_)
   ·skip
    obtain⟨⟩:=x
    try dsimp only
    refine D_four 1 4 14 15 O O O O (E_hv1 (f:=19) F19 (fun w1 hS1=>copied15_S w1 s p (hr.keep hS1.kpO)) O O (fun _=>O)) (E_lit1 (m:=0) (vs:=[]) O O O O O O O (by simp) (by decide)) (E_alloca O rf_zero) (E_alloca O at_zero) ?_ ?_ ?_ ?_ O O O O O O O O (by kernel_rfl)
    ·rintro _ _ ⟨q1,rfl,_,rfl⟩
     refine nx ?_
     have h:=nd19 (q1)
     try dsimp only at h
     exact Da h
    ·rintro _ _ ⟨bi,rfl,rfl⟩
     refine nx ?_
     have h:=nd20 (bi)
     try dsimp only at h
     exact Da h
    ·rintro _ _ ⟨b7,rfl,rfl⟩
     refine nx ?_
     have h:=nd21 (b7)
     try dsimp only at h
     exact Da h
    ·rintro _ _ ⟨b9,rfl,rfl⟩
     refine nx ?_
     have h:=nd22 (b9)
     try dsimp only at h
     exact Da h
   have h:=nd23 ()
   try dsimp only at h
   exact Da h
   obtain⟨q1,bi,A9,c9,b7,b9⟩:=x
   try dsimp only
   refine D_one 16 O (E_storew (cs:=rfc rs0 rp0) (ds:=rfc rs0 rp0) O O O O (rfc_one _ _) O) ?_ O O (by kernel_rfl)
   rintro _ _ rfl
   refine nx ?_
   refine dp 17 ?_
   refine D_one 18 O (E_storew (cs:=atc (0,0)) (ds:=atc (0,0)) O O O O (atc_one _) O) ?_ O O (by kernel_rfl)
   rintro _ _ rfl
   refine nx ?_
   refine dp 19 ?_
   refine dn ?_
   exact hJ2 (b7,b9) _ _ trivial (Sub.cons O (Sub.cons O (Sub.cons O (Sub.cons O (Sub.cons O (Sub.cons O (Sub.cons O Sub.nil))))))) sub_st
  obtain⟨b7,b9⟩:=z
  dsimp only
  repeat' (first|refine R_take (T_eqAt (a:=(0,0)) (b:=(0,0)) O O h00) ?_ O O|refine R_take (T_decT O (by omega)) ?_ O O|refine R_p O ?_ O O|refine R_nil ?_|refine R_take (T_loads (ds:=rfc s p) O O O O O) ?_ O O|refine R_take (T_loads (ds:=rfc rs0 rp0) O O O O O) ?_ O O|refine R_take (T_loads (ds:=atc (0,0)) O O O O O) ?_ O O|refine R_take (T_build0 at_built0) ?_ O O|refine R_take (T_not O) ?_ O O|refine S_seq O ?_|refine S_region O O ?_|refine S_true O O ?_|(refine R_eff (E_hv1 (f:=19) F19 (fun w1 hS1=>copied15_any w1 s p (hr.keep hS1.kpO)) O O (fun _=>O)) ?_ O O;rintro _ _ ⟨⟨q2,Zq2⟩,rfl,hq2,rfl⟩;dsimp only at hq2)|(refine R_eff (E_hv0 (f:=33) F33 (fun w1 hS1=>compact_ck w1 s q2 (hq2 w1 (hS1.at_ (A:=Zq2) (by simp))) idx hck) O O (fun _=>O)) ?_ O O;rintro _ _ ⟨_,rfl,_,rfl⟩)|(refine R_eff (E_alloca O rf_zero) ?_ O O;rintro _ _ ⟨b11,rfl,rfl⟩)|(refine R_eff0 (E_storew (cs:=rfc rs0 rp0) (ds:=rfc rs0 rp0) O O O O (rfc_one _ _) O) ?_ O;rintro _ _ rfl)|(refine R_eff (E_hv0 (f:=20) F20 (fun w1 hS1=>rightR_any w1 s p (hr.keep hS1.kpO) false hck) O O (fun _=>O)) ?_ O O;rintro _ _ ⟨_,rfl,_,rfl⟩)|(refine R_eff (E_hv0 (f:=21) F21 (fun w1 hS1=>none15_any w1 rs0 rp0 (rf0 w1) true (by decide)) O O (fun _=>O)) ?_ O O;rintro _ _ ⟨_,rfl,_,rfl⟩))
  exact hB _ _ _ _ _ O O (qE O)
 obtain⟨cd,hcd⟩: ∃ c,prpC s m.2.1 m.2.2.2.2=c:=⟨_,O⟩
 obtain⟨X2,hX2⟩: ∃ c,prpR s m.2.1 m.2.2.2.2=c:=⟨_,O⟩
 obtain⟨pa,hpa⟩: ∃ c,prpA s m.2.1 m.2.2.2.2=c:=⟨_,O⟩
 obtain⟨MS,hMS⟩: ∃ c,prpM s m.2.1 m.2.2.2.2=c:=⟨_,O⟩
 have huX:RsU X2:=by rw[← hX2];exact prpR_u hr.hu hck
 have hMl:MS.length≤1000:=by rw[← hMS];exact prpM_le hck
 have hpp:decide (pa=pa)=true:=decide_eq_true O
 have hpro: ∀ (w1:World) (q1:Rp) (A9:Option Addr) (c9:Nat),RfR w1 s q1→Bs w1 All A9 m.2.2.2.2.length c9 m.2.2.2.2→Gives Tryz.prog 16 [.agg (rfc s q1).toArray,.int .i64 m.2.1,.slice A9 m.2.2.2.2.length c9] [] w1 (X:=PrS X2 MS) (fun y=> .tuple #[.agg (rfc X2 y.1.1.p).toArray,.slice y.1.1.sA y.1.1.S.length y.1.1.sc,.agg (atc pa).toArray,.int .i64 cd]) (fun _=>True) (fun y=>[y.1.2]):=fun w1 q1 A9 c9 h1 h2=>by
  have h3:=propose_any w1 s q1 h1 m.2.1 A9 m.2.2.2.2.length c9 m.2.2.2.2 h2 (by omega) hck (by rw[hX2];exact huX)
  rw[hX2,hpa,hcd,hMS] at h3
  exact h3.mono fun u w' ⟨y,he,hy,hS⟩=>⟨⟨y,hy⟩,he,trivial,hS⟩
 have hprd: ∀ (w1:World),RfR w1 s p→Bs w1 All m.2.2.1 m.2.2.2.2.length m.2.2.2.1 m.2.2.2.2→Gives Tryz.prog 34 [.agg (rfc s p).toArray,.int .i64 m.2.1,.slice m.2.2.1 m.2.2.2.2.length m.2.2.2.1] [] w1 (X:=Mm×Asn) (fun y=> .tuple #[.agg (rfc X2 y.1.p).toArray,.slice y.1.sA y.1.S.length y.1.sc,.agg (atc pa).toArray,.int .i64 cd]) (fun y=>y.1.S.map Prod.fst=MS∧ ∀ w',K2 (fun w'=>RfR w' s p) y.2 w'→SrvR w' X2 y.1) (fun y=>[y.2]):=fun w1 h1 h2=>by
  have h3:=proposeD_any w1 s p h1 m.2.1 m.2.2.1 m.2.2.2.1 m.2.2.2.2 h2 (by omega) hck (by rw[hX2];exact huX)
  rw[hX2,hpa,hcd,hMS] at h3
  exact h3
 refine S_cut (X:=(Mm×Asn)×Nat×Nat) (fun z=>[(2,.int .u64 (idx:Int)),(3,.pointer (some ⟨b3,0,none⟩)),(4,.pointer (some ⟨b4,0,none⟩)),(7,.pointer (some ⟨z.2.1,0,none⟩)),(8,.slice z.1.1.sA z.1.1.S.length z.1.1.sc),(9,.pointer (some ⟨z.2.2,0,none⟩)),(10,.int .i64 cd)]) (fun z=>[pt z.2.1 42 (rfc X2 z.1.1.p),pt z.2.2 36 (atc pa),z.1.2,pt b3 42 (rfc s p),pt b4 59 (emc m)]) (fun z=>z.1.1.S.map Prod.fst=MS∧ ∀ w',z.1.2.holds w'→SrvR w' X2 z.1.1) (fun J2 hJ2=>?_) (fun z hz=>?_)
 ·skip
  refine S_draw ([pt b3 42 (rfc s p),pt b4 59 (emc m)]) sub_st (by kernel_rfl) O (by kernel_rfl) (by kernel_rfl:_=20) ?_
  refine dt 0 O (T_loads (ds:=rfc s p) O O O O O) ?_
  refine dp 2 ?_
  refine dl 3 ?_
  refine dp 5 ?_
  refine dl 6 ?_
  refine D_node #[U,U,U,U,U,U,U,U,U,U,U,U,U,U,U,U,Y,Y,Y,Y] (fun x:CpS s×Nat×Option Addr×Nat×PrS X2 MS×Nat×Nat=>[(42,.int .i64 cd),(41,.agg (atc pa).toArray),(40,.slice x.2.2.2.2.1.1.1.sA x.2.2.2.2.1.1.1.S.length x.2.2.2.2.1.1.1.sc),(39,.agg (rfc X2 x.2.2.2.2.1.1.1.p).toArray),(29,.tuple #[.agg (rfc X2 x.2.2.2.2.1.1.1.p).toArray,.slice x.2.2.2.2.1.1.1.sA x.2.2.2.2.1.1.1.S.length x.2.2.2.2.1.1.1.sc,.agg (atc pa).toArray,.int .i64 cd]),(9,.pointer (some ⟨x.2.2.2.2.2.2,0,none⟩)),(7,.pointer (some ⟨x.2.2.2.2.2.1,0,none⟩)),(38,.tuple #[.agg (rfc X2 x.2.2.2.2.1.1.1.p).toArray,.slice x.2.2.2.2.1.1.1.sA x.2.2.2.2.1.1.1.S.length x.2.2.2.2.1.1.1.sc,.agg (atc pa).toArray,.int .i64 cd]),(37,.slice x.2.2.1 m.2.2.2.2.length x.2.2.2.1),(34,.slice (some ⟨x.2.1,0,none⟩) 0 0),(31,.agg (rfc s x.1.1.1).toArray),(30,.agg (rfc s p).toArray),(33,.int .i64 m.2.1),(36,.slice m.2.2.1 m.2.2.2.2.length m.2.2.2.1),(2,.int .u64 (idx:Int)),(3,.pointer (some ⟨b3,0,none⟩)),(4,.pointer (some ⟨b4,0,none⟩))]) (fun x:CpS s×Nat×Option Addr×Nat×PrS X2 MS×Nat×Nat=>[pt x.2.2.2.2.2.2 36 (atc (0,0)),pt x.2.2.2.2.2.1 42 (rfc rs0 rp0),x.2.2.2.2.1.1.2,row 5 1 x.2.2.1 m.2.2.2.2.length x.2.2.2.1 (m.2.2.2.2.map bv),x.1.1.2,pt b3 42 (rfc s p),pt b4 59 (emc m)]) (fun nd0=>?_) (fun x=>?_)
  refine D_nodeR #[U,U,U,U,U,U,U,U,U,U,U,U,U,U,U,Y,Y,Y,Y,Y] (fun x:CpS s×Nat×Option Addr×Nat×PrS X2 MS×Nat=>[(42,.int .i64 cd),(41,.agg (atc pa).toArray),(40,.slice x.2.2.2.2.1.1.1.sA x.2.2.2.2.1.1.1.S.length x.2.2.2.2.1.1.1.sc),(39,.agg (rfc X2 x.2.2.2.2.1.1.1.p).toArray),(29,.tuple #[.agg (rfc X2 x.2.2.2.2.1.1.1.p).toArray,.slice x.2.2.2.2.1.1.1.sA x.2.2.2.2.1.1.1.S.length x.2.2.2.2.1.1.1.sc,.agg (atc pa).toArray,.int .i64 cd]),(7,.pointer (some ⟨x.2.2.2.2.2,0,none⟩)),(38,.tuple #[.agg (rfc X2 x.2.2.2.2.1.1.1.p).toArray,.slice x.2.2.2.2.1.1.1.sA x.2.2.2.2.1.1.1.S.length x.2.2.2.2.1.1.1.sc,.agg (atc pa).toArray,.int .i64 cd]),(37,.slice x.2.2.1 m.2.2.2.2.length x.2.2.2.1),(34,.slice (some ⟨x.2.1,0,none⟩) 0 0),(31,.agg (rfc s x.1.1.1).toArray),(30,.agg (rfc s p).toArray),(33,.int .i64 m.2.1),(36,.slice m.2.2.1 m.2.2.2.2.length m.2.2.2.1),(2,.int .u64 (idx:Int)),(3,.pointer (some ⟨b3,0,none⟩)),(4,.pointer (some ⟨b4,0,none⟩))]) (fun x:CpS s×Nat×Option Addr×Nat×PrS X2 MS×Nat=>[pt x.2.2.2.2.2 42 (rfc rs0 rp0),x.2.2.2.2.1.1.2,row 5 1 x.2.2.1 m.2.2.2.2.length x.2.2.2.1 (m.2.2.2.2.map bv),x.1.1.2,pt b3 42 (rfc s p),pt b4 59 (emc m)]) (fun x=>?_) (fun nd1=>?_)
  ·skip
   obtain⟨q1,bi,A9,c9,y2,b7⟩:=x
   try dsimp only
   refine D_one 15 O (E_alloca O at_zero) ?_ O O (by kernel_rfl)
   rintro _ _ ⟨b9,rfl,rfl⟩
   refine nx ?_
   have h:=nd0 (q1,bi,A9,c9,y2,b7,b9)
   try dsimp only at h
   exact Da h
  refine D_nodeR #[U,U,U,U,U,U,U,U,U,U,U,U,U,U,Y,U,Y,Y,Y,Y] (fun x:CpS s×Nat×Option Addr×Nat×PrS X2 MS×Nat=>[(42,.int .i64 cd),(41,.agg (atc pa).toArray),(40,.slice x.2.2.2.2.1.1.1.sA x.2.2.2.2.1.1.1.S.length x.2.2.2.2.1.1.1.sc),(39,.agg (rfc X2 x.2.2.2.2.1.1.1.p).toArray),(29,.tuple #[.agg (rfc X2 x.2.2.2.2.1.1.1.p).toArray,.slice x.2.2.2.2.1.1.1.sA x.2.2.2.2.1.1.1.S.length x.2.2.2.2.1.1.1.sc,.agg (atc pa).toArray,.int .i64 cd]),(9,.pointer (some ⟨x.2.2.2.2.2,0,none⟩)),(38,.tuple #[.agg (rfc X2 x.2.2.2.2.1.1.1.p).toArray,.slice x.2.2.2.2.1.1.1.sA x.2.2.2.2.1.1.1.S.length x.2.2.2.2.1.1.1.sc,.agg (atc pa).toArray,.int .i64 cd]),(37,.slice x.2.2.1 m.2.2.2.2.length x.2.2.2.1),(34,.slice (some ⟨x.2.1,0,none⟩) 0 0),(31,.agg (rfc s x.1.1.1).toArray),(30,.agg (rfc s p).toArray),(33,.int .i64 m.2.1),(36,.slice m.2.2.1 m.2.2.2.2.length m.2.2.2.1),(2,.int .u64 (idx:Int)),(3,.pointer (some ⟨b3,0,none⟩)),(4,.pointer (some ⟨b4,0,none⟩))]) (fun x:CpS s×Nat×Option Addr×Nat×PrS X2 MS×Nat=>[pt x.2.2.2.2.2 36 (atc (0,0)),x.2.2.2.2.1.1.2,row 5 1 x.2.2.1 m.2.2.2.2.length x.2.2.2.1 (m.2.2.2.2.map bv),x.1.1.2,pt b3 42 (rfc s p),pt b4 59 (emc m)]) (fun x=>?_) (fun nd2=>?_)
  ·skip
   obtain⟨q1,bi,A9,c9,y2,b9⟩:=x
   try dsimp only
   refine D_one 14 O (E_alloca O rf_zero) ?_ O O (by kernel_rfl)
   rintro _ _ ⟨b7,rfl,rfl⟩
   refine nx ?_
   have h:=nd0 (q1,bi,A9,c9,y2,b7,b9)
   try dsimp only at h
   exact Da h
  refine D_nodeR #[U,U,U,U,U,U,U,U,U,U,U,U,U,U,Y,Y,Y,Y,Y,Y] (fun x:CpS s×Nat×Option Addr×Nat×PrS X2 MS=>[(42,.int .i64 cd),(41,.agg (atc pa).toArray),(40,.slice x.2.2.2.2.1.1.sA x.2.2.2.2.1.1.S.length x.2.2.2.2.1.1.sc),(39,.agg (rfc X2 x.2.2.2.2.1.1.p).toArray),(29,.tuple #[.agg (rfc X2 x.2.2.2.2.1.1.p).toArray,.slice x.2.2.2.2.1.1.sA x.2.2.2.2.1.1.S.length x.2.2.2.2.1.1.sc,.agg (atc pa).toArray,.int .i64 cd]),(38,.tuple #[.agg (rfc X2 x.2.2.2.2.1.1.p).toArray,.slice x.2.2.2.2.1.1.sA x.2.2.2.2.1.1.S.length x.2.2.2.2.1.1.sc,.agg (atc pa).toArray,.int .i64 cd]),(37,.slice x.2.2.1 m.2.2.2.2.length x.2.2.2.1),(34,.slice (some ⟨x.2.1,0,none⟩) 0 0),(31,.agg (rfc s x.1.1.1).toArray),(30,.agg (rfc s p).toArray),(33,.int .i64 m.2.1),(36,.slice m.2.2.1 m.2.2.2.2.length m.2.2.2.1),(2,.int .u64 (idx:Int)),(3,.pointer (some ⟨b3,0,none⟩)),(4,.pointer (some ⟨b4,0,none⟩))]) (fun x:CpS s×Nat×Option Addr×Nat×PrS X2 MS=>[x.2.2.2.2.1.2,row 5 1 x.2.2.1 m.2.2.2.2.length x.2.2.2.1 (m.2.2.2.2.map bv),x.1.1.2,pt b3 42 (rfc s p),pt b4 59 (emc m)]) (fun x=>?_) (fun nd3=>?_)
  ·skip
   obtain⟨q1,bi,A9,c9,y2⟩:=x
   try dsimp only
   refine D_two 14 15 (by decide) O O (E_alloca O rf_zero) (E_alloca O at_zero) ?_ ?_ O O O O (by kernel_rfl)
   ·rintro _ _ ⟨b7,rfl,rfl⟩
    refine nx ?_
    have h:=nd1 (q1,bi,A9,c9,y2,b7)
    try dsimp only at h
    exact Da h
   ·rintro _ _ ⟨b9,rfl,rfl⟩
    refine nx ?_
    have h:=nd2 (q1,bi,A9,c9,y2,b9)
    try dsimp only at h
    exact Da h
  refine D_nodeR #[U,U,U,U,U,U,U,U,Y,Y,Y,Y,Y,Y,U,U,Y,Y,Y,Y] (fun x:CpS s×Nat×Option Addr×Nat×Nat×Nat=>[(9,.pointer (some ⟨x.2.2.2.2.2,0,none⟩)),(7,.pointer (some ⟨x.2.2.2.2.1,0,none⟩)),(37,.slice x.2.2.1 m.2.2.2.2.length x.2.2.2.1),(34,.slice (some ⟨x.2.1,0,none⟩) 0 0),(31,.agg (rfc s x.1.1.1).toArray),(30,.agg (rfc s p).toArray),(33,.int .i64 m.2.1),(36,.slice m.2.2.1 m.2.2.2.2.length m.2.2.2.1),(2,.int .u64 (idx:Int)),(3,.pointer (some ⟨b3,0,none⟩)),(4,.pointer (some ⟨b4,0,none⟩))]) (fun x:CpS s×Nat×Option Addr×Nat×Nat×Nat=>[pt x.2.2.2.2.2 36 (atc (0,0)),pt x.2.2.2.2.1 42 (rfc rs0 rp0),row 5 1 x.2.2.1 m.2.2.2.2.length x.2.2.2.1 (m.2.2.2.2.map bv),x.1.1.2,pt b3 42 (rfc s p),pt b4 59 (emc m)]) (fun x=>?_) (fun nd4=>?_)
  ·skip
   obtain⟨q1,bi,A9,c9,b7,b9⟩:=x
   try dsimp only
   refine D_one 8 O (E_hv1 (f:=16) F16 (fun w1 hS1=>hpro w1 q1.1.1 A9 c9 (q1.2 w1 (hS1.at_ (A:=q1.1.2) (by simp))) (row_bs (e:=5) (A:=A9) (n:=m.2.2.2.2.length) (c:=c9) (l:=m.2.2.2.2) hS1 (by simp) O)) O O (fun _=>O)) ?_ O O (by kernel_rfl)
   rintro _ _ ⟨y2,rfl,_,rfl⟩
   refine nx ?_
   refine dp 9 ?_
   refine dp 10 ?_
   refine dp 11 ?_
   refine dp 12 ?_
   refine dp 13 ?_
   have h:=nd0 (q1,bi,A9,c9,y2,b7,b9)
   try dsimp only at h
   exact Da h
  refine D_nodeR #[U,U,U,U,U,U,U,U,Y,Y,Y,Y,Y,Y,U,Y,Y,Y,Y,Y] (fun x:CpS s×Nat×Option Addr×Nat×Nat=>[(7,.pointer (some ⟨x.2.2.2.2,0,none⟩)),(37,.slice x.2.2.1 m.2.2.2.2.length x.2.2.2.1),(34,.slice (some ⟨x.2.1,0,none⟩) 0 0),(31,.agg (rfc s x.1.1.1).toArray),(30,.agg (rfc s p).toArray),(33,.int .i64 m.2.1),(36,.slice m.2.2.1 m.2.2.2.2.length m.2.2.2.1),(2,.int .u64 (idx:Int)),(3,.pointer (some ⟨b3,0,none⟩)),(4,.pointer (some ⟨b4,0,none⟩))]) (fun x:CpS s×Nat×Option Addr×Nat×Nat=>[pt x.2.2.2.2 42 (rfc rs0 rp0),row 5 1 x.2.2.1 m.2.2.2.2.length x.2.2.2.1 (m.2.2.2.2.map bv),x.1.1.2,pt b3 42 (rfc s p),pt b4 59 (emc m)]) (fun x=>?_) (fun nd5=>?_)
  ·skip
   obtain⟨q1,bi,A9,c9,b7⟩:=x
   try dsimp only
   refine D_two 8 15 (by decide) O O (E_hv1 (f:=16) F16 (fun w1 hS1=>hpro w1 q1.1.1 A9 c9 (q1.2 w1 (hS1.at_ (A:=q1.1.2) (by simp))) (row_bs (e:=5) (A:=A9) (n:=m.2.2.2.2.length) (c:=c9) (l:=m.2.2.2.2) hS1 (by simp) O)) O O (fun _=>O)) (E_alloca O at_zero) ?_ ?_ O O O O (by kernel_rfl)
   ·rintro _ _ ⟨y2,rfl,_,rfl⟩
    refine nx ?_
    refine dp 9 ?_
    refine dp 10 ?_
    refine dp 11 ?_
    refine dp 12 ?_
    refine dp 13 ?_
    have h:=nd1 (q1,bi,A9,c9,y2,b7)
    try dsimp only at h
    exact Da h
   ·rintro _ _ ⟨b9,rfl,rfl⟩
    refine nx ?_
    have h:=nd4 (q1,bi,A9,c9,b7,b9)
    try dsimp only at h
    exact Da h
  refine D_nodeR #[U,U,U,U,U,U,U,U,Y,Y,Y,Y,Y,Y,Y,U,Y,Y,Y,Y] (fun x:CpS s×Nat×Option Addr×Nat×Nat=>[(9,.pointer (some ⟨x.2.2.2.2,0,none⟩)),(37,.slice x.2.2.1 m.2.2.2.2.length x.2.2.2.1),(34,.slice (some ⟨x.2.1,0,none⟩) 0 0),(31,.agg (rfc s x.1.1.1).toArray),(30,.agg (rfc s p).toArray),(33,.int .i64 m.2.1),(36,.slice m.2.2.1 m.2.2.2.2.length m.2.2.2.1),(2,.int .u64 (idx:Int)),(3,.pointer (some ⟨b3,0,none⟩)),(4,.pointer (some ⟨b4,0,none⟩))]) (fun x:CpS s×Nat×Option Addr×Nat×Nat=>[pt x.2.2.2.2 36 (atc (0,0)),row 5 1 x.2.2.1 m.2.2.2.2.length x.2.2.2.1 (m.2.2.2.2.map bv),x.1.1.2,pt b3 42 (rfc s p),pt b4 59 (emc m)]) (fun x=>?_) (fun nd6=>?_)
  ·skip
   obtain⟨q1,bi,A9,c9,b9⟩:=x
   try dsimp only
   refine D_two 8 14 (by decide) O O (E_hv1 (f:=16) F16 (fun w1 hS1=>hpro w1 q1.1.1 A9 c9 (q1.2 w1 (hS1.at_ (A:=q1.1.2) (by simp))) (row_bs (e:=5) (A:=A9) (n:=m.2.2.2.2.length) (c:=c9) (l:=m.2.2.2.2) hS1 (by simp) O)) O O (fun _=>O)) (E_alloca O rf_zero) ?_ ?_ O O O O (by kernel_rfl)
   ·rintro _ _ ⟨y2,rfl,_,rfl⟩
    refine nx ?_
    refine dp 9 ?_
    refine dp 10 ?_
    refine dp 11 ?_
    refine dp 12 ?_
    refine dp 13 ?_
    have h:=nd2 (q1,bi,A9,c9,y2,b9)
    try dsimp only at h
    exact Da h
   ·rintro _ _ ⟨b7,rfl,rfl⟩
    refine nx ?_
    have h:=nd4 (q1,bi,A9,c9,b7,b9)
    try dsimp only at h
    exact Da h
  refine D_nodeR #[U,U,U,U,U,U,U,Y,Y,Y,Y,Y,Y,Y,U,U,Y,Y,Y,Y] (fun x:CpS s×Nat×Nat×Nat=>[(9,.pointer (some ⟨x.2.2.2,0,none⟩)),(7,.pointer (some ⟨x.2.2.1,0,none⟩)),(34,.slice (some ⟨x.2.1,0,none⟩) 0 0),(31,.agg (rfc s x.1.1.1).toArray),(30,.agg (rfc s p).toArray),(33,.int .i64 m.2.1),(36,.slice m.2.2.1 m.2.2.2.2.length m.2.2.2.1),(2,.int .u64 (idx:Int)),(3,.pointer (some ⟨b3,0,none⟩)),(4,.pointer (some ⟨b4,0,none⟩))]) (fun x:CpS s×Nat×Nat×Nat=>[pt x.2.2.2 36 (atc (0,0)),pt x.2.2.1 42 (rfc rs0 rp0),pt x.2.1 5 [],x.1.1.2,pt b3 42 (rfc s p),pt b4 59 (emc m)]) (fun x=>?_) (fun nd7=>?_)
  ·skip
   obtain⟨q1,bi,b7,b9⟩:=x
   try dsimp only
   refine D_one 7 O (E_apple (gb:=bi) (sz:=1) (A2:=m.2.2.1) (m2:=m.2.2.2.2.length) (c2:=m.2.2.2.1) (news:=m.2.2.2.2.map bv) O O O O O O O (by decide) (by first|exact .here|exact .there .here|exact .there (.there .here)) (Srd.old hm (fun k _=>noOwns k)) (bv_ones _) (by show m.2.2.2.2.length*1≤_;omega) (by unfold maxLen;omega)) ?_ O O (by kernel_rfl)
   rintro _ _ ⟨A9,c9,rfl,rfl⟩
   refine nx ?_
   have h:=nd4 (q1,bi,A9,c9,b7,b9)
   try dsimp only at h
   exact Da h
  refine D_nodeR #[U,U,U,U,U,U,U,U,Y,Y,Y,Y,Y,Y,Y,Y,Y,Y,Y,Y] (fun x:CpS s×Nat×Option Addr×Nat=>[(37,.slice x.2.2.1 m.2.2.2.2.length x.2.2.2),(34,.slice (some ⟨x.2.1,0,none⟩) 0 0),(31,.agg (rfc s x.1.1.1).toArray),(30,.agg (rfc s p).toArray),(33,.int .i64 m.2.1),(36,.slice m.2.2.1 m.2.2.2.2.length m.2.2.2.1),(2,.int .u64 (idx:Int)),(3,.pointer (some ⟨b3,0,none⟩)),(4,.pointer (some ⟨b4,0,none⟩))]) (fun x:CpS s×Nat×Option Addr×Nat=>[row 5 1 x.2.2.1 m.2.2.2.2.length x.2.2.2 (m.2.2.2.2.map bv),x.1.1.2,pt b3 42 (rfc s p),pt b4 59 (emc m)]) (fun x=>?_) (fun nd8=>?_)
  ·skip
   obtain⟨q1,bi,A9,c9⟩:=x
   try dsimp only
   refine D_three 8 14 15 O O O (E_hv1 (f:=16) F16 (fun w1 hS1=>hpro w1 q1.1.1 A9 c9 (q1.2 w1 (hS1.at_ (A:=q1.1.2) (by simp))) (row_bs (e:=5) (A:=A9) (n:=m.2.2.2.2.length) (c:=c9) (l:=m.2.2.2.2) hS1 (by simp) O)) O O (fun _=>O)) (E_alloca O rf_zero) (E_alloca O at_zero) ?_ ?_ ?_ O O O O O O (by kernel_rfl)
   ·rintro _ _ ⟨y2,rfl,_,rfl⟩
    refine nx ?_
    refine dp 9 ?_
    refine dp 10 ?_
    refine dp 11 ?_
    refine dp 12 ?_
    refine dp 13 ?_
    have h:=nd3 (q1,bi,A9,c9,y2)
    try dsimp only at h
    exact Da h
   ·rintro _ _ ⟨b7,rfl,rfl⟩
    refine nx ?_
    have h:=nd5 (q1,bi,A9,c9,b7)
    try dsimp only at h
    exact Da h
   ·rintro _ _ ⟨b9,rfl,rfl⟩
    refine nx ?_
    have h:=nd6 (q1,bi,A9,c9,b9)
    try dsimp only at h
    exact Da h
  refine D_nodeR #[U,U,U,U,U,U,U,Y,Y,Y,Y,Y,Y,Y,U,Y,Y,Y,Y,Y] (fun x:CpS s×Nat×Nat=>[(7,.pointer (some ⟨x.2.2,0,none⟩)),(34,.slice (some ⟨x.2.1,0,none⟩) 0 0),(31,.agg (rfc s x.1.1.1).toArray),(30,.agg (rfc s p).toArray),(33,.int .i64 m.2.1),(36,.slice m.2.2.1 m.2.2.2.2.length m.2.2.2.1),(2,.int .u64 (idx:Int)),(3,.pointer (some ⟨b3,0,none⟩)),(4,.pointer (some ⟨b4,0,none⟩))]) (fun x:CpS s×Nat×Nat=>[pt x.2.2 42 (rfc rs0 rp0),pt x.2.1 5 [],x.1.1.2,pt b3 42 (rfc s p),pt b4 59 (emc m)]) (fun x=>?_) (fun nd9=>?_)
  ·skip
   obtain⟨q1,bi,b7⟩:=x
   try dsimp only
   refine D_two 7 15 (by decide) O O (E_apple (gb:=bi) (sz:=1) (A2:=m.2.2.1) (m2:=m.2.2.2.2.length) (c2:=m.2.2.2.1) (news:=m.2.2.2.2.map bv) O O O O O O O (by decide) (by first|exact .here|exact .there .here|exact .there (.there .here)) (Srd.old hm (fun k _=>noOwns k)) (bv_ones _) (by show m.2.2.2.2.length*1≤_;omega) (by unfold maxLen;omega)) (E_alloca O at_zero) ?_ ?_ O O O O (by kernel_rfl)
   ·rintro _ _ ⟨A9,c9,rfl,rfl⟩
    refine nx ?_
    have h:=nd5 (q1,bi,A9,c9,b7)
    try dsimp only at h
    exact Da h
   ·rintro _ _ ⟨b9,rfl,rfl⟩
    refine nx ?_
    have h:=nd7 (q1,bi,b7,b9)
    try dsimp only at h
    exact Da h
  refine D_nodeR #[U,U,U,U,U,U,U,Y,Y,Y,Y,Y,Y,Y,Y,U,Y,Y,Y,Y] (fun x:CpS s×Nat×Nat=>[(9,.pointer (some ⟨x.2.2,0,none⟩)),(34,.slice (some ⟨x.2.1,0,none⟩) 0 0),(31,.agg (rfc s x.1.1.1).toArray),(30,.agg (rfc s p).toArray),(33,.int .i64 m.2.1),(36,.slice m.2.2.1 m.2.2.2.2.length m.2.2.2.1),(2,.int .u64 (idx:Int)),(3,.pointer (some ⟨b3,0,none⟩)),(4,.pointer (some ⟨b4,0,none⟩))]) (fun x:CpS s×Nat×Nat=>[pt x.2.2 36 (atc (0,0)),pt x.2.1 5 [],x.1.1.2,pt b3 42 (rfc s p),pt b4 59 (emc m)]) (fun x=>?_) (fun nd10=>?_)
  ·skip
   obtain⟨q1,bi,b9⟩:=x
   try dsimp only
   refine D_two 7 14 (by decide) O O (E_apple (gb:=bi) (sz:=1) (A2:=m.2.2.1) (m2:=m.2.2.2.2.length) (c2:=m.2.2.2.1) (news:=m.2.2.2.2.map bv) O O O O O O O (by decide) (by first|exact .here|exact .there .here|exact .there (.there .here)) (Srd.old hm (fun k _=>noOwns k)) (bv_ones _) (by show m.2.2.2.2.length*1≤_;omega) (by unfold maxLen;omega)) (E_alloca O rf_zero) ?_ ?_ O O O O (by kernel_rfl)
   ·rintro _ _ ⟨A9,c9,rfl,rfl⟩
    refine nx ?_
    have h:=nd6 (q1,bi,A9,c9,b9)
    try dsimp only at h
    exact Da h
   ·rintro _ _ ⟨b7,rfl,rfl⟩
    refine nx ?_
    have h:=nd7 (q1,bi,b7,b9)
    try dsimp only at h
    exact Da h
  refine D_nodeR #[U,U,U,U,Y,U,U,Y,Y,Y,Y,Y,Y,Y,U,U,Y,Y,Y,Y] (fun x:CpS s×Nat×Nat=>[(9,.pointer (some ⟨x.2.2,0,none⟩)),(7,.pointer (some ⟨x.2.1,0,none⟩)),(31,.agg (rfc s x.1.1.1).toArray),(30,.agg (rfc s p).toArray),(33,.int .i64 m.2.1),(36,.slice m.2.2.1 m.2.2.2.2.length m.2.2.2.1),(2,.int .u64 (idx:Int)),(3,.pointer (some ⟨b3,0,none⟩)),(4,.pointer (some ⟨b4,0,none⟩))]) (fun x:CpS s×Nat×Nat=>[pt x.2.2 36 (atc (0,0)),pt x.2.1 42 (rfc rs0 rp0),x.1.1.2,pt b3 42 (rfc s p),pt b4 59 (emc m)]) (fun x=>?_) (fun nd11=>?_)
  ·skip
   obtain⟨q1,b7,b9⟩:=x
   try dsimp only
   refine D_one 4 O (E_lit1 (m:=0) (vs:=[]) O O O O O O O (by simp) (by decide)) ?_ O O (by kernel_rfl)
   rintro _ _ ⟨bi,rfl,rfl⟩
   refine nx ?_
   have h:=nd7 (q1,bi,b7,b9)
   try dsimp only at h
   exact Da h
  refine D_nodeR #[U,Y,U,U,U,U,U,Y,Y,Y,Y,Y,Y,Y,U,U,Y,Y,Y,Y] (fun x:Nat×Nat×Nat=>[(9,.pointer (some ⟨x.2.2,0,none⟩)),(7,.pointer (some ⟨x.2.1,0,none⟩)),(34,.slice (some ⟨x.1,0,none⟩) 0 0),(30,.agg (rfc s p).toArray),(33,.int .i64 m.2.1),(36,.slice m.2.2.1 m.2.2.2.2.length m.2.2.2.1),(2,.int .u64 (idx:Int)),(3,.pointer (some ⟨b3,0,none⟩)),(4,.pointer (some ⟨b4,0,none⟩))]) (fun x:Nat×Nat×Nat=>[pt x.2.2 36 (atc (0,0)),pt x.2.1 42 (rfc rs0 rp0),pt x.1 5 [],pt b3 42 (rfc s p),pt b4 59 (emc m)]) (fun x=>?_) (fun nd12=>?_)
  ·skip
   obtain⟨bi,b7,b9⟩:=x
   try dsimp only
   refine D_one 1 O (E_hv1 (f:=19) F19 (fun w1 hS1=>copied15_S w1 s p (hr.keep hS1.kpO)) O O (fun _=>O)) ?_ O O (by kernel_rfl)
   rintro _ _ ⟨q1,rfl,_,rfl⟩
   refine nx ?_
   have h:=nd7 (q1,bi,b7,b9)
   try dsimp only at h
   exact Da h
  refine D_nodeR #[U,U,U,U,U,U,U,Y,Y,Y,Y,Y,Y,Y,Y,Y,Y,Y,Y,Y] (fun x:CpS s×Nat=>[(34,.slice (some ⟨x.2,0,none⟩) 0 0),(31,.agg (rfc s x.1.1.1).toArray),(30,.agg (rfc s p).toArray),(33,.int .i64 m.2.1),(36,.slice m.2.2.1 m.2.2.2.2.length m.2.2.2.1),(2,.int .u64 (idx:Int)),(3,.pointer (some ⟨b3,0,none⟩)),(4,.pointer (some ⟨b4,0,none⟩))]) (fun x:CpS s×Nat=>[pt x.2 5 [],x.1.1.2,pt b3 42 (rfc s p),pt b4 59 (emc m)]) (fun x=>?_) (fun nd13=>?_)
  ·skip
   obtain⟨q1,bi⟩:=x
   try dsimp only
   refine D_three 7 14 15 O O O (E_apple (gb:=bi) (sz:=1) (A2:=m.2.2.1) (m2:=m.2.2.2.2.length) (c2:=m.2.2.2.1) (news:=m.2.2.2.2.map bv) O O O O O O O (by decide) (by first|exact .here|exact .there .here|exact .there (.there .here)) (Srd.old hm (fun k _=>noOwns k)) (bv_ones _) (by show m.2.2.2.2.length*1≤_;omega) (by unfold maxLen;omega)) (E_alloca O rf_zero) (E_alloca O at_zero) ?_ ?_ ?_ O O O O O O (by kernel_rfl)
   ·rintro _ _ ⟨A9,c9,rfl,rfl⟩
    refine nx ?_
    have h:=nd8 (q1,bi,A9,c9)
    try dsimp only at h
    exact Da h
   ·rintro _ _ ⟨b7,rfl,rfl⟩
    refine nx ?_
    have h:=nd9 (q1,bi,b7)
    try dsimp only at h
    exact Da h
   ·rintro _ _ ⟨b9,rfl,rfl⟩
    refine nx ?_
    have h:=nd10 (q1,bi,b9)
    try dsimp only at h
    exact Da h
  refine D_nodeR #[U,U,U,U,Y,U,U,Y,Y,Y,Y,Y,Y,Y,U,Y,Y,Y,Y,Y] (fun x:CpS s×Nat=>[(7,.pointer (some ⟨x.2,0,none⟩)),(31,.agg (rfc s x.1.1.1).toArray),(30,.agg (rfc s p).toArray),(33,.int .i64 m.2.1),(36,.slice m.2.2.1 m.2.2.2.2.length m.2.2.2.1),(2,.int .u64 (idx:Int)),(3,.pointer (some ⟨b3,0,none⟩)),(4,.pointer (some ⟨b4,0,none⟩))]) (fun x:CpS s×Nat=>[pt x.2 42 (rfc rs0 rp0),x.1.1.2,pt b3 42 (rfc s p),pt b4 59 (emc m)]) (fun x=>?_) (fun nd14=>?_)
  ·skip
   obtain⟨q1,b7⟩:=x
   try dsimp only
   refine D_two 4 15 (by decide) O O (E_lit1 (m:=0) (vs:=[]) O O O O O O O (by simp) (by decide)) (E_alloca O at_zero) ?_ ?_ O O O O (by kernel_rfl)
   ·rintro _ _ ⟨bi,rfl,rfl⟩
    refine nx ?_
    have h:=nd9 (q1,bi,b7)
    try dsimp only at h
    exact Da h
   ·rintro _ _ ⟨b9,rfl,rfl⟩
    refine nx ?_
    have h:=nd11 (q1,b7,b9)
    try dsimp only at h
    exact Da h
  refine D_nodeR #[U,U,U,U,Y,U,U,Y,Y,Y,Y,Y,Y,Y,Y,U,Y,Y,Y,Y] (fun x:CpS s×Nat=>[(9,.pointer (some ⟨x.2,0,none⟩)),(31,.agg (rfc s x.1.1.1).toArray),(30,.agg (rfc s p).toArray),(33,.int .i64 m.2.1),(36,.slice m.2.2.1 m.2.2.2.2.length m.2.2.2.1),(2,.int .u64 (idx:Int)),(3,.pointer (some ⟨b3,0,none⟩)),(4,.pointer (some ⟨b4,0,none⟩))]) (fun x:CpS s×Nat=>[pt x.2 36 (atc (0,0)),x.1.1.2,pt b3 42 (rfc s p),pt b4 59 (emc m)]) (fun x=>?_) (fun nd15=>?_)
  ·skip
   obtain⟨q1,b9⟩:=x
   try dsimp only
   refine D_two 4 14 (by decide) O O (E_lit1 (m:=0) (vs:=[]) O O O O O O O (by simp) (by decide)) (E_alloca O rf_zero) ?_ ?_ O O O O (by kernel_rfl)
   ·rintro _ _ ⟨bi,rfl,rfl⟩
    refine nx ?_
    have h:=nd10 (q1,bi,b9)
    try dsimp only at h
    exact Da h
   ·rintro _ _ ⟨b7,rfl,rfl⟩
    refine nx ?_
    have h:=nd11 (q1,b7,b9)
    try dsimp only at h
    exact Da h
  refine D_nodeR #[U,Y,U,U,U,U,U,Y,Y,Y,Y,Y,Y,Y,U,Y,Y,Y,Y,Y] (fun x:Nat×Nat=>[(7,.pointer (some ⟨x.2,0,none⟩)),(34,.slice (some ⟨x.1,0,none⟩) 0 0),(30,.agg (rfc s p).toArray),(33,.int .i64 m.2.1),(36,.slice m.2.2.1 m.2.2.2.2.length m.2.2.2.1),(2,.int .u64 (idx:Int)),(3,.pointer (some ⟨b3,0,none⟩)),(4,.pointer (some ⟨b4,0,none⟩))]) (fun x:Nat×Nat=>[pt x.2 42 (rfc rs0 rp0),pt x.1 5 [],pt b3 42 (rfc s p),pt b4 59 (emc m)]) (fun x=>?_) (fun nd16=>?_)
  ·skip
   obtain⟨bi,b7⟩:=x
   try dsimp only
   refine D_two 1 15 (by decide) O O (E_hv1 (f:=19) F19 (fun w1 hS1=>copied15_S w1 s p (hr.keep hS1.kpO)) O O (fun _=>O)) (E_alloca O at_zero) ?_ ?_ O O O O (by kernel_rfl)
   ·rintro _ _ ⟨q1,rfl,_,rfl⟩
    refine nx ?_
    have h:=nd9 (q1,bi,b7)
    try dsimp only at h
    exact Da h
   ·rintro _ _ ⟨b9,rfl,rfl⟩
    refine nx ?_
    have h:=nd12 (bi,b7,b9)
    try dsimp only at h
    exact Da h
  refine D_nodeR #[U,Y,U,U,U,U,U,Y,Y,Y,Y,Y,Y,Y,Y,U,Y,Y,Y,Y] (fun x:Nat×Nat=>[(9,.pointer (some ⟨x.2,0,none⟩)),(34,.slice (some ⟨x.1,0,none⟩) 0 0),(30,.agg (rfc s p).toArray),(33,.int .i64 m.2.1),(36,.slice m.2.2.1 m.2.2.2.2.length m.2.2.2.1),(2,.int .u64 (idx:Int)),(3,.pointer (some ⟨b3,0,none⟩)),(4,.pointer (some ⟨b4,0,none⟩))]) (fun x:Nat×Nat=>[pt x.2 36 (atc (0,0)),pt x.1 5 [],pt b3 42 (rfc s p),pt b4 59 (emc m)]) (fun x=>?_) (fun nd17=>?_)
  ·skip
   obtain⟨bi,b9⟩:=x
   try dsimp only
   refine D_two 1 14 (by decide) O O (E_hv1 (f:=19) F19 (fun w1 hS1=>copied15_S w1 s p (hr.keep hS1.kpO)) O O (fun _=>O)) (E_alloca O rf_zero) ?_ ?_ O O O O (by kernel_rfl)
   ·rintro _ _ ⟨q1,rfl,_,rfl⟩
    refine nx ?_
    have h:=nd10 (q1,bi,b9)
    try dsimp only at h
    exact Da h
   ·rintro _ _ ⟨b7,rfl,rfl⟩
    refine nx ?_
    have h:=nd12 (bi,b7,b9)
    try dsimp only at h
    exact Da h
  refine D_nodeR #[U,Y,U,U,Y,U,U,Y,Y,Y,Y,Y,Y,Y,U,U,Y,Y,Y,Y] (fun x:Nat×Nat=>[(9,.pointer (some ⟨x.2,0,none⟩)),(7,.pointer (some ⟨x.1,0,none⟩)),(30,.agg (rfc s p).toArray),(33,.int .i64 m.2.1),(36,.slice m.2.2.1 m.2.2.2.2.length m.2.2.2.1),(2,.int .u64 (idx:Int)),(3,.pointer (some ⟨b3,0,none⟩)),(4,.pointer (some ⟨b4,0,none⟩))]) (fun x:Nat×Nat=>[pt x.2 36 (atc (0,0)),pt x.1 42 (rfc rs0 rp0),pt b3 42 (rfc s p),pt b4 59 (emc m)]) (fun x=>?_) (fun nd18=>?_)
  ·skip
   obtain⟨b7,b9⟩:=x
   try dsimp only
   refine D_two 1 4 (by decide) O O (E_hv1 (f:=19) F19 (fun w1 hS1=>copied15_S w1 s p (hr.keep hS1.kpO)) O O (fun _=>O)) (E_lit1 (m:=0) (vs:=[]) O O O O O O O (by simp) (by decide)) ?_ ?_ O O O O (by kernel_rfl)
   ·rintro _ _ ⟨q1,rfl,_,rfl⟩
    refine nx ?_
    have h:=nd11 (q1,b7,b9)
    try dsimp only at h
    exact Da h
   ·rintro _ _ ⟨bi,rfl,rfl⟩
    refine nx ?_
    have h:=nd12 (bi,b7,b9)
    try dsimp only at h
    exact Da h
  refine D_nodeR #[U,U,U,U,Y,U,U,Y,Y,Y,Y,Y,Y,Y,Y,Y,Y,Y,Y,Y] (fun x:CpS s=>[(31,.agg (rfc s x.1.1).toArray),(30,.agg (rfc s p).toArray),(33,.int .i64 m.2.1),(36,.slice m.2.2.1 m.2.2.2.2.length m.2.2.2.1),(2,.int .u64 (idx:Int)),(3,.pointer (some ⟨b3,0,none⟩)),(4,.pointer (some ⟨b4,0,none⟩))]) (fun x:CpS s=>[x.1.2,pt b3 42 (rfc s p),pt b4 59 (emc m)]) (fun x=>?_) (fun nd19=>?_)
  ·skip
   revert x;intro q1
   try dsimp only
   refine D_three 4 14 15 O O O (E_lit1 (m:=0) (vs:=[]) O O O O O O O (by simp) (by decide)) (E_alloca O rf_zero) (E_alloca O at_zero) ?_ ?_ ?_ O O O O O O (by kernel_rfl)
   ·rintro _ _ ⟨bi,rfl,rfl⟩
    refine nx ?_
    have h:=nd13 (q1,bi)
    try dsimp only at h
    exact Da h
   ·rintro _ _ ⟨b7,rfl,rfl⟩
    refine nx ?_
    have h:=nd14 (q1,b7)
    try dsimp only at h
    exact Da h
   ·rintro _ _ ⟨b9,rfl,rfl⟩
    refine nx ?_
    have h:=nd15 (q1,b9)
    try dsimp only at h
    exact Da h
  refine D_nodeR #[U,Y,U,U,U,U,U,Y,Y,Y,Y,Y,Y,Y,Y,Y,Y,Y,Y,Y] (fun x:Nat=>[(34,.slice (some ⟨x,0,none⟩) 0 0),(30,.agg (rfc s p).toArray),(33,.int .i64 m.2.1),(36,.slice m.2.2.1 m.2.2.2.2.length m.2.2.2.1),(2,.int .u64 (idx:Int)),(3,.pointer (some ⟨b3,0,none⟩)),(4,.pointer (some ⟨b4,0,none⟩))]) (fun x:Nat=>[pt x 5 [],pt b3 42 (rfc s p),pt b4 59 (emc m)]) (fun x=>?_) (fun nd20=>?_)
  ·skip
   revert x;intro bi
   try dsimp only
   refine D_three 1 14 15 O O O (E_hv1 (f:=19) F19 (fun w1 hS1=>copied15_S w1 s p (hr.keep hS1.kpO)) O O (fun _=>O)) (E_alloca O rf_zero) (E_alloca O at_zero) ?_ ?_ ?_ O O O O O O (by kernel_rfl)
   ·rintro _ _ ⟨q1,rfl,_,rfl⟩
    refine nx ?_
    have h:=nd13 (q1,bi)
    try dsimp only at h
    exact Da h
   ·rintro _ _ ⟨b7,rfl,rfl⟩
    refine nx ?_
    have h:=nd16 (bi,b7)
    try dsimp only at h
    exact Da h
   ·rintro _ _ ⟨b9,rfl,rfl⟩
    refine nx ?_
    have h:=nd17 (bi,b9)
    try dsimp only at h
    exact Da h
  refine D_nodeR #[U,Y,U,U,Y,U,U,Y,Y,Y,Y,Y,Y,Y,U,Y,Y,Y,Y,Y] (fun x:Nat=>[(7,.pointer (some ⟨x,0,none⟩)),(30,.agg (rfc s p).toArray),(33,.int .i64 m.2.1),(36,.slice m.2.2.1 m.2.2.2.2.length m.2.2.2.1),(2,.int .u64 (idx:Int)),(3,.pointer (some ⟨b3,0,none⟩)),(4,.pointer (some ⟨b4,0,none⟩))]) (fun x:Nat=>[pt x 42 (rfc rs0 rp0),pt b3 42 (rfc s p),pt b4 59 (emc m)]) (fun x=>?_) (fun nd21=>?_)
  ·skip
   revert x;intro b7
   try dsimp only
   refine D_three 1 4 15 O O O (E_hv1 (f:=19) F19 (fun w1 hS1=>copied15_S w1 s p (hr.keep hS1.kpO)) O O (fun _=>O)) (E_lit1 (m:=0) (vs:=[]) O O O O O O O (by simp) (by decide)) (E_alloca O at_zero) ?_ ?_ ?_ O O O O O O (by kernel_rfl)
   ·rintro _ _ ⟨q1,rfl,_,rfl⟩
    refine nx ?_
    have h:=nd14 (q1,b7)
    try dsimp only at h
    exact Da h
   ·rintro _ _ ⟨bi,rfl,rfl⟩
    refine nx ?_
    have h:=nd16 (bi,b7)
    try dsimp only at h
    exact Da h
   ·rintro _ _ ⟨b9,rfl,rfl⟩
    refine nx ?_
    have h:=nd18 (b7,b9)
    try dsimp only at h
    exact Da h
  refine D_nodeR #[U,Y,U,U,Y,U,U,Y,Y,Y,Y,Y,Y,Y,Y,U,Y,Y,Y,Y] (fun x:Nat=>[(9,.pointer (some ⟨x,0,none⟩)),(30,.agg (rfc s p).toArray),(33,.int .i64 m.2.1),(36,.slice m.2.2.1 m.2.2.2.2.length m.2.2.2.1),(2,.int .u64 (idx:Int)),(3,.pointer (some ⟨b3,0,none⟩)),(4,.pointer (some ⟨b4,0,none⟩))]) (fun x:Nat=>[pt x 36 (atc (0,0)),pt b3 42 (rfc s p),pt b4 59 (emc m)]) (fun x=>?_) (fun nd22=>?_)
  ·skip
   revert x;intro b9
   try dsimp only
   refine D_three 1 4 14 O O O (E_hv1 (f:=19) F19 (fun w1 hS1=>copied15_S w1 s p (hr.keep hS1.kpO)) O O (fun _=>O)) (E_lit1 (m:=0) (vs:=[]) O O O O O O O (by simp) (by decide)) (E_alloca O rf_zero) ?_ ?_ ?_ O O O O O O (by kernel_rfl)
   ·rintro _ _ ⟨q1,rfl,_,rfl⟩
    refine nx ?_
    have h:=nd15 (q1,b9)
    try dsimp only at h
    exact Da h
   ·rintro _ _ ⟨bi,rfl,rfl⟩
    refine nx ?_
    have h:=nd17 (bi,b9)
    try dsimp only at h
    exact Da h
   ·rintro _ _ ⟨b7,rfl,rfl⟩
    refine nx ?_
    have h:=nd18 (b7,b9)
    try dsimp only at h
    exact Da h
  refine D_nodeR #[U,Y,U,U,Y,U,U,Y,Y,Y,Y,Y,Y,Y,Y,Y,Y,Y,Y,Y] (fun _:Unit=>[(30,.agg (rfc s p).toArray),(33,.int .i64 m.2.1),(36,.slice m.2.2.1 m.2.2.2.2.length m.2.2.2.1),(2,.int .u64 (idx:Int)),(3,.pointer (some ⟨b3,0,none⟩)),(4,.pointer (some ⟨b4,0,none⟩))]) (fun _:Unit=>[pt b3 42 (rfc s p),pt b4 59 (emc m)]) (fun x=>?_) (fun nd23=>?_)
  ·skip
   obtain⟨⟩:=x
   try dsimp only
   refine D_four 1 4 14 15 O O O O (E_hv1 (f:=19) F19 (fun w1 hS1=>copied15_S w1 s p (hr.keep hS1.kpO)) O O (fun _=>O)) (E_lit1 (m:=0) (vs:=[]) O O O O O O O (by simp) (by decide)) (E_alloca O rf_zero) (E_alloca O at_zero) ?_ ?_ ?_ ?_ O O O O O O O O (by kernel_rfl)
   ·rintro _ _ ⟨q1,rfl,_,rfl⟩
    refine nx ?_
    have h:=nd19 (q1)
    try dsimp only at h
    exact Da h
   ·rintro _ _ ⟨bi,rfl,rfl⟩
    refine nx ?_
    have h:=nd20 (bi)
    try dsimp only at h
    exact Da h
   ·rintro _ _ ⟨b7,rfl,rfl⟩
    refine nx ?_
    have h:=nd21 (b7)
    try dsimp only at h
    exact Da h
   ·rintro _ _ ⟨b9,rfl,rfl⟩
    refine nx ?_
    have h:=nd22 (b9)
    try dsimp only at h
    exact Da h
  have h:=nd23 ()
  try dsimp only at h
  exact Da h
  obtain⟨q1,bi,A9,c9,y2,b7,b9⟩:=x
  try dsimp only
  refine D_one 16 O (E_storew (cs:=rfc rs0 rp0) (ds:=rfc X2 y2.1.1.p) O O O O (rfc_one _ _) O) ?_ O O (by kernel_rfl)
  rintro _ _ rfl
  refine nx ?_
  refine dp 17 ?_
  refine D_one 18 O (E_storew (cs:=atc (0,0)) (ds:=atc pa) O O O O (atc_one _) O) ?_ O O (by kernel_rfl)
  rintro _ _ rfl
  refine nx ?_
  refine dp 19 ?_
  refine dn ?_
  exact hJ2 (y2.1,b7,b9) _ _ y2.2 (Sub.cons O (Sub.cons O (Sub.cons O (Sub.cons O (Sub.cons O (Sub.cons O (Sub.cons O Sub.nil))))))) sub_st
 obtain⟨⟨m2,Z2⟩,b7,b9⟩:=z
 obtain⟨hz1,hz2⟩:=hz
 dsimp only at hz1 hz2 ⊢
 by_cases hlm:idx<s.base.1∨s.commit<idx
 ·skip
  focus (refine qs ?_;refine qt (T_loads (ds:=rfc s p) O O O O O) ?_;(refine qe (E_hv1 (f:=19) F19 (fun w1 hS1=>copied15_any w1 s p (hr.keep hS1.kpO)) O O (fun _=>O)) ?_;rintro _ _ ⟨⟨q2,Zq2⟩,rfl,hq2,rfl⟩;dsimp only at hq2);refine qp ?_;refine qh F33 (fun w1 hS1=>compact_arg w1 s q2 (hq2 w1 (hS1.at_ (A:=Zq2) (by simp))) idx hck hlm) ?_;(iterate 3 refine qp ?_);(refine qe (E_alloca O rf_zero) ?_;rintro _ _ ⟨b11,rfl,rfl⟩);(refine qw (E_storew (cs:=rfc rs0 rp0) (ds:=rfc rs0 rp0) O O O O (rfc_one _ _) O) ?_;rintro _ _ rfl);refine qp ?_;refine qz ?_;refine qq ?_;refine qs ?_;refine qt (T_loads (ds:=rfc s p) O O O O O) ?_;refine qh F20 (fun w1 hS1=>rightR_any w1 s p (hr.keep hS1.kpO) true hck) ?_;refine qt (T_not O) ?_;refine qz ?_;refine qF ?_;refine qx ?_;refine qs ?_;refine qt (T_loads (ds:=rfc s p) O O O O O) ?_;(iterate 2 refine qp ?_;refine qt (T_load O O O O) ?_);(refine qe (E_hv1 (f:=34) F34 (fun w1 hS1=>hprd w1 (hr.keep hS1.kpO) (hmB.keep hS1.kpO)) O O (fun _=>O)) ?_;rintro _ _ ⟨⟨m3,Z3⟩,rfl,⟨hI5,hI6⟩,rfl⟩;dsimp only at hI5 hI6);(iterate 5 refine qp ?_);(refine qe (E_alloca O rf_zero) ?_;rintro _ _ ⟨b11,rfl,rfl⟩);(refine qe (E_alloca O at_zero) ?_;rintro _ _ ⟨b15,rfl,rfl⟩);(refine qw (E_storew (cs:=rfc rs0 rp0) (ds:=rfc X2 m3.p) O O O O (rfc_one _ _) O) ?_;rintro _ _ rfl);refine qp ?_;(refine qw (E_storew (cs:=atc (0,0)) (ds:=atc pa) O O O O (atc_one _) O) ?_;rintro _ _ rfl);refine qp ?_;refine qz ?_;refine qq ?_;refine qs ?_;refine qp ?_;refine qp ?_;refine qf ?_;refine qp ?_;(iterate 2 refine qt (T_loads (ds:=atc pa) O O O O O) ?_);refine qt (T_neAt (a:=pa) (b:=pa) O O hpp) ?_;refine qp ?_;refine qp ?_;refine qt (T_loads (ds:=rfc X2 m2.p) O O O O O) ?_;refine qt (T_loads (ds:=rfc X2 m3.p) O O O O O) ?_;refine qh F22 (fun w1 hS1=>sameR_k w1 X2 X2 m2.p m3.p (hz2 w1 (hS1.at_ (A:=Z2) (by simp))).rf (hI6 w1 ⟨hr.keep hS1.kpO,hS1.at_ (A:=Z3) (by simp)⟩).rf true ((same_iff _ _).2 O)) ?_;refine qt (T_not O) ?_;(iterate 4 refine qp ?_);refine qh F27 (fun w1 hS1=>sameAll_k w1 m2.sA m3.sA m2.sc m3.sc m2.S m3.S (hz2 w1 (hS1.at_ (A:=Z2) (by simp))).rs (hI6 w1 ⟨hr.keep hS1.kpO,hS1.at_ (A:=Z3) (by simp)⟩).rs (hz2 w1 (hS1.at_ (A:=Z2) (by simp))).ms (hI6 w1 ⟨hr.keep hS1.kpO,hS1.at_ (A:=Z3) (by simp)⟩).ms (hz1.trans hI5.symm) (by rw[← List.length_map (f:=Prod.fst),hz1];exact hMl)) ?_;refine qt (T_not O) ?_;refine qp ?_;refine qz ?_;refine qF ?_;refine qx ?_;refine qs ?_;refine qt (T_loads (ds:=rfc s p) O O O O O) ?_;refine qp ?_;refine qh F35 (fun w1 hS1=>compactD_no w1 s p idx hlm) ?_;(iterate 3 refine qp ?_);(refine qe (E_alloca O rf_zero) ?_;rintro _ _ ⟨b11,rfl,rfl⟩);(refine qw (E_storew (cs:=rfc rs0 rp0) (ds:=rfc rs0 rp0) O O O O (rfc_one _ _) O) ?_;rintro _ _ rfl);refine qp ?_;refine qz ?_;refine qq ?_;refine qs ?_;refine qp ?_;refine qt (T_not O) ?_;refine qz ?_;refine qT ?_;refine qs ?_;refine qt (T_loads (ds:=rfc rs0 rp0) O O O O O) ?_;refine qh F21 (fun w1 hS1=>none15_any w1 rs0 rp0 (rf0 w1) true (by decide)) ?_;refine qd ?_;refine qp ?_;(iterate 3 refine qd ?_);refine qz ?_)
  exact hB _ _ _ _ _ O O (qE O)
 ·have h1:s.base.1≤idx:=by omega
  have h2:idx≤s.commit:=by omega
  have hu3:=cmpX_u hr.hu hck h1 h2
  obtain⟨X3,hX3⟩: ∃ c,cmpX s idx=c:=⟨_,O⟩
  have hcp: ∀ (w1:World) (q1:Rp),RfR w1 s q1→Gives Tryz.prog 33 [.agg (rfc s q1).toArray,.int .u64 (idx:Int)] [] w1 (X:=Rp×Asn) (fun y=> .tuple #[.agg (rfc X3 y.1).toArray,zi 0]) (fun y=> ∀ w',y.2.holds w'→RfR w' X3 y.1) (fun y=>[y.2]):=fun w1 q1 h1'=>by
   have:=compact_ok w1 s q1 h1' idx hck h1 h2 hu3
   rw[hX3] at this
   exact this
  have hcd2: ∀ (w1:World),RfR w1 s p→Gives Tryz.prog 35 [.agg (rfc s p).toArray,.int .u64 (idx:Int)] [] w1 (X:=Rp×Asn) (fun y=> .tuple #[.agg (rfc X3 y.1).toArray,.bool true]) (fun y=> ∀ w',K2 (fun w'=>RfR w' s p) y.2 w'→RfR w' X3 y.1) (fun y=>[y.2]):=fun w1 h1'=>by
   have:=compactD_ok w1 s p h1' idx hck h1 h2 hu3
   rw[hX3] at this
   exact this
  focus (refine qs ?_;refine qt (T_loads (ds:=rfc s p) O O O O O) ?_;(refine qe (E_hv1 (f:=19) F19 (fun w1 hS1=>copied15_any w1 s p (hr.keep hS1.kpO)) O O (fun _=>O)) ?_;rintro _ _ ⟨⟨q2,Zq2⟩,rfl,hq2,rfl⟩;dsimp only at hq2);refine qp ?_;(refine qe (E_hv1 (f:=33) F33 (fun w1 hS1=>hcp w1 q2 (hq2 w1 (hS1.at_ (A:=Zq2) (by simp)))) O O (fun _=>O)) ?_;rintro _ _ ⟨⟨q4,Z4⟩,rfl,hI4,rfl⟩;dsimp only at hI4);(iterate 3 refine qp ?_);(refine qe (E_alloca O rf_zero) ?_;rintro _ _ ⟨b11,rfl,rfl⟩);(refine qw (E_storew (cs:=rfc rs0 rp0) (ds:=rfc X3 q4) O O O O (rfc_one _ _) O) ?_;rintro _ _ rfl);refine qp ?_;refine qz ?_;refine qq ?_;refine qs ?_;refine qt (T_loads (ds:=rfc s p) O O O O O) ?_;refine qh F20 (fun w1 hS1=>rightR_any w1 s p (hr.keep hS1.kpO) true hck) ?_;refine qt (T_not O) ?_;refine qz ?_;refine qF ?_;refine qx ?_;refine qs ?_;refine qt (T_loads (ds:=rfc s p) O O O O O) ?_;(iterate 2 refine qp ?_;refine qt (T_load O O O O) ?_);(refine qe (E_hv1 (f:=34) F34 (fun w1 hS1=>hprd w1 (hr.keep hS1.kpO) (hmB.keep hS1.kpO)) O O (fun _=>O)) ?_;rintro _ _ ⟨⟨m3,Z3⟩,rfl,⟨hI5,hI6⟩,rfl⟩;dsimp only at hI5 hI6);(iterate 5 refine qp ?_);(refine qe (E_alloca O rf_zero) ?_;rintro _ _ ⟨b11,rfl,rfl⟩);(refine qe (E_alloca O at_zero) ?_;rintro _ _ ⟨b15,rfl,rfl⟩);(refine qw (E_storew (cs:=rfc rs0 rp0) (ds:=rfc X2 m3.p) O O O O (rfc_one _ _) O) ?_;rintro _ _ rfl);refine qp ?_;(refine qw (E_storew (cs:=atc (0,0)) (ds:=atc pa) O O O O (atc_one _) O) ?_;rintro _ _ rfl);refine qp ?_;refine qz ?_;refine qq ?_;refine qs ?_;refine qp ?_;refine qp ?_;refine qf ?_;refine qp ?_;(iterate 2 refine qt (T_loads (ds:=atc pa) O O O O O) ?_);refine qt (T_neAt (a:=pa) (b:=pa) O O hpp) ?_;refine qp ?_;refine qp ?_;refine qt (T_loads (ds:=rfc X2 m2.p) O O O O O) ?_;refine qt (T_loads (ds:=rfc X2 m3.p) O O O O O) ?_;refine qh F22 (fun w1 hS1=>sameR_k w1 X2 X2 m2.p m3.p (hz2 w1 (hS1.at_ (A:=Z2) (by simp))).rf (hI6 w1 ⟨hr.keep hS1.kpO,hS1.at_ (A:=Z3) (by simp)⟩).rf true ((same_iff _ _).2 O)) ?_;refine qt (T_not O) ?_;(iterate 4 refine qp ?_);refine qh F27 (fun w1 hS1=>sameAll_k w1 m2.sA m3.sA m2.sc m3.sc m2.S m3.S (hz2 w1 (hS1.at_ (A:=Z2) (by simp))).rs (hI6 w1 ⟨hr.keep hS1.kpO,hS1.at_ (A:=Z3) (by simp)⟩).rs (hz2 w1 (hS1.at_ (A:=Z2) (by simp))).ms (hI6 w1 ⟨hr.keep hS1.kpO,hS1.at_ (A:=Z3) (by simp)⟩).ms (hz1.trans hI5.symm) (by rw[← List.length_map (f:=Prod.fst),hz1];exact hMl)) ?_;refine qt (T_not O) ?_;refine qp ?_;refine qz ?_;refine qF ?_;refine qx ?_;refine qs ?_;refine qt (T_loads (ds:=rfc s p) O O O O O) ?_;refine qp ?_;(refine qe (E_hv1 (f:=35) F35 (fun w1 hS1=>hcd2 w1 (hr.keep hS1.kpO)) O O (fun _=>O)) ?_;rintro _ _ ⟨⟨q5,Z5⟩,rfl,hI7,rfl⟩;dsimp only at hI7);(iterate 3 refine qp ?_);(refine qe (E_alloca O rf_zero) ?_;rintro _ _ ⟨b11,rfl,rfl⟩);(refine qw (E_storew (cs:=rfc rs0 rp0) (ds:=rfc X3 q5) O O O O (rfc_one _ _) O) ?_;rintro _ _ rfl);refine qp ?_;refine qz ?_;refine qq ?_;refine qs ?_;refine qp ?_;refine qt (T_not O) ?_;refine qz ?_;refine qF ?_;refine qx ?_;refine qs ?_;refine qp ?_;refine qd ?_;refine qp ?_;refine qt (T_loads (ds:=rfc X3 q4) O O O O O) ?_;refine qt (T_loads (ds:=rfc X3 q5) O O O O O) ?_;refine qh F22 (fun w1 hS1=>sameR_k w1 X3 X3 q4 q5 (hI4 w1 (hS1.at_ (A:=Z4) (by simp))) (hI7 w1 ⟨hr.keep hS1.kpO,hS1.at_ (A:=Z5) (by simp)⟩) true ((same_iff _ _).2 O)) ?_;refine qd ?_;refine qd ?_;refine qz ?_)
  exact hB _ _ _ _ _ O O (qE O)
theorem RaftProposes_open {H:Type} {enc:TypeId×Value→H} (W:World) {r:Reach} (base:Nat) (v0 v1 v2:Value) {d0 d1 d2:DataW H} {p0 p1 p2:List MemPlace}
  (hv0:Value.okWide Tryz.prog W r base 42 v0) (hv1:Value.okWide Tryz.prog W r base 59 v1) (hv2:Value.okWide Tryz.prog W r base 34 v2)
  (h0:DataW.Trod enc Tryz.prog W 0 (fun _=>true) true 42 v0 d0 p0) (h1:DataW.Trod enc Tryz.prog W 0 (fun _=>true) true 59 v1 d1 p1) (h2:DataW.Trod enc Tryz.prog W 0 (fun _=>true) true 34 v2 d2 p2):
  Calls Tryz.prog 8 #[v0,v1,v2] W fun e w'=>e= .returned (.bool true)∧Kp All W w':=by
 obtain⟨x,p,rfl,h⟩:=open_raft hv0 h0
 obtain⟨Z,rfl,hZ⟩:=okWide_struct Tryz.underlying59 hv1
 obtain⟨m,hcs,hmB⟩:=op_entryB (Op_.of_trod h1)
 have hcs:Z.toList=emc m:=hcs
 obtain⟨z,rfl⟩:=okWide_int Tryz.underlying34 hv2
 obtain⟨k,rfl,hk⟩:=open_u64 h2
 have e:Z=(emc m).toArray:=by rw[← hcs]
 subst e
 exact(proposes_walk W x p h m hmB.1 k).pure12
end Go.Proofs.YtdeffdldifepkaaGreat
