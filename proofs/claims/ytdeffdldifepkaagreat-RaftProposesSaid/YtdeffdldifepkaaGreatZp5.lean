/- Lemmas of the proof, part 5. -/
import Derived.Test.YtdeffdldifepkaaGreatZp4
set_option maxRecDepth 100000
set_option maxHeartbeats 4000000
namespace Go.Proofs.YtdeffdldifepkaaGreat
open Go.RowKit Go.ChangeShapes Go.WideShapes Go.ChangeAt
open Asn (pt row rb)
set_option linter.unusedVariables false
set_option linter.unusedSimpArgs false
structure RfW (w:World) (x:Rs) (p:Rp):Prop where
 hn:p.Q.length=p.n
 hc:p.n≤p.c
 hm:p.n≤maxLen
 hQ:p.Q.map emv=x.es
 rq:Rd w All 3 p.A p.n (cellsL emc p.Q)
 bq: ∀ m∈p.Q,BsM w m
 hcn:x.cf.length=p.cn
 hcm:p.cn≤maxLen
 rc:Rd w All 1 p.cA p.cn (x.cf.map zv)
 hvn:x.votes.length=p.vn
 hvm:p.vn≤maxLen
 rv:Rd w All 1 p.vA p.vn (x.votes.map zv)
 hpn:x.peers.length=p.pn
 hpm:p.pn≤maxLen
 rp:Rd w All 3 p.pA p.pn (cellsL pec x.peers)
 hu:RsU x
theorem RfW.keep {w w':World} {x:Rs} {p:Rp} (h:RfW w x p) (hk:Kp All w w'):RfW w' x p:=⟨h.hn,h.hc,h.hm,h.hQ,h.rq.keep hk,fun m hm=>Bs.keep (h.bq m hm) hk,h.hcn,h.hcm,h.rc.keep hk,h.hvn,h.hvm,h.rv.keep hk,h.hpn,h.hpm,h.rp.keep hk,h.hu⟩
structure Small (p:Rp):Prop where
 n:p.n≤200
 cn:p.cn≤50
 vn:p.vn≤50
 pn:p.pn≤50
 d: ∀ m∈p.Q,m.2.2.2.2.length≤5000
theorem RfW.rf {w:World} {x:Rs} {p:Rp} (h:RfW w x p) (s:Small p):RfR w x p:=
 ⟨⟨h.hn,Nat.le_trans s.n (by decide),h.hc,h.hQ,h.rq,h.bq,fun m hm=>Nat.le_trans (s.d m hm) (by decide),h.hcn,Nat.le_trans s.cn (by decide),h.rc⟩,h.hvn,Nat.le_trans s.vn (by decide),h.rv,h.hpn,Nat.le_trans s.pn (by decide),h.rp,h.hu⟩
section
variable {H:Type} {enc:TypeId×Value→H} {W:World}
theorem op_entryB {cs:List Value} (h:Op_ enc Tryz.prog W 59 cs): ∃ m:Em,cs=emc m∧BsM W m∧m.1<18446744073709551616:=by
 obtain⟨hl,hf⟩:=h.struct Tryz.underlying59
 have c0:Tryz.prog.cellsOf 59=3:=by kernel_rfl
 have c1:Tryz.prog.cellsOf 34=1:=by kernel_rfl
 have c2:Tryz.prog.cellsOf 3=1:=by kernel_rfl
 have c3:Tryz.prog.cellsOf 46=1:=by kernel_rfl
 rw[c0] at hl
 have g0:Op_ enc Tryz.prog W 34 ((cs.drop 0).take (Tryz.prog.cellsOf 34)):=hf 0 _ O
 have g1:Op_ enc Tryz.prog W 3 ((cs.drop 1).take (Tryz.prog.cellsOf 3)):=hf 1 _ O
 have g2:Op_ enc Tryz.prog W 46 ((cs.drop 2).take (Tryz.prog.cellsOf 46)):=hf 2 _ O
 rw[c1] at g0
 rw[c2] at g1
 rw[c3] at g2
 obtain⟨a,ha,hwa⟩:=Op_.int Tryz.underlying34 g0
 obtain⟨b,hb,_⟩:=Op_.int Tryz.underlying3 g1
 obtain⟨A,n,c,l,hc,hbs⟩:=Op_.bytes Tryz.underlying46 Tryz.underlying5 (by kernel_rfl) g2
 obtain⟨k,rfl,hk⟩:=wf_u64 hwa
 have hln:l.length=n:=by have:=hbs.rd.1;simpa using this
 subst hln
 have hcap:l.length≤c:=hbs.cap
 match cs,hl with
 |[u,v,w],_=>
  simp at ha hb hc
  exact⟨(k,b,A,c,l),by rw[ha,hb,hc];rfl,hbs,hk⟩
theorem op_logB {cs:List Value} (h:Op_ enc Tryz.prog W 39 cs): ∃ (a:At) (A:Option Addr) (c:Nat) (Q:List Em),cs=lgc a A Q.length c∧Rd W All 3 A Q.length (cellsL emc Q)∧(∀ m∈Q,BsM W m)∧Q.length≤c∧(c≤maxLen∧ ∀ m∈Q,m.1<18446744073709551616)∧a.1<18446744073709551616∧a.2<18446744073709551616:=by
 obtain⟨hl,hf⟩:=h.struct Tryz.underlying39
 have c0:Tryz.prog.cellsOf 39=3:=by kernel_rfl
 have c1:Tryz.prog.cellsOf 36=2:=by kernel_rfl
 have c2:Tryz.prog.cellsOf 37=1:=by kernel_rfl
 have c3:Tryz.prog.cellsOf 34=1:=by kernel_rfl
 rw[c0] at hl
 have g0:Op_ enc Tryz.prog W 36 ((cs.drop 0).take (Tryz.prog.cellsOf 36)):=hf 0 _ O
 have g1:Op_ enc Tryz.prog W 37 ((cs.drop 2).take (Tryz.prog.cellsOf 37)):=hf 1 _ O
 rw[c1] at g0
 rw[c2] at g1
 obtain⟨hl2,hf2⟩:=g0.struct Tryz.underlying36
 have g2:Op_ enc Tryz.prog W 34 (((((cs.drop 0).take 2)).drop 0).take (Tryz.prog.cellsOf 34)):=hf2 0 _ O
 have g3:Op_ enc Tryz.prog W 34 (((((cs.drop 0).take 2)).drop 1).take (Tryz.prog.cellsOf 34)):=hf2 1 _ O
 rw[c3] at g2 g3
 obtain⟨i,hi,hwi⟩:=Op_.int Tryz.underlying34 g2
 obtain⟨t,ht,hwt⟩:=Op_.int Tryz.underlying34 g3
 obtain⟨i,rfl,hi2⟩:=wf_u64 hwi
 obtain⟨t,rfl,ht2⟩:=wf_u64 hwt
 obtain⟨A,n,c,xs,hcs,h1,h2,h3,h4⟩:=g1.slice Tryz.underlying37 (size:=3) (by kernel_rfl)
 obtain⟨Q,hQ,rfl,hall⟩:=rows_of (n:=0) (size:=3) (f:=emc) emc_len (fun m:Em=>BsM W m∧m.1<18446744073709551616) _ _ h3.1 fun i hi=>op_entryB (h4 i hi)
 subst hQ
 refine⟨(i,t),A,c,Q,?_,h3,fun m hm=>(hall m hm).1,h1,⟨h2,fun m hm=>(hall m hm).2⟩,hi2,ht2⟩
 match cs,hl with
 |[u,v,w],_=>
  simp at hi ht hcs
  rw[hi,ht,hcs]
  rfl
theorem op_peer {cs:List Value} (h:Op_ enc Tryz.prog W 112 cs): ∃ m:Pe,cs=pec m∧m.2.1<18446744073709551616∧m.2.2<18446744073709551616:=by
 obtain⟨hl,hf⟩:=h.struct Tryz.underlying112
 have c0:Tryz.prog.cellsOf 112=3:=by kernel_rfl
 have c1:Tryz.prog.cellsOf 34=1:=by kernel_rfl
 have c2:Tryz.prog.cellsOf 3=1:=by kernel_rfl
 rw[c0] at hl
 have g0:Op_ enc Tryz.prog W 3 ((cs.drop 0).take (Tryz.prog.cellsOf 3)):=hf 0 _ O
 have g1:Op_ enc Tryz.prog W 34 ((cs.drop 1).take (Tryz.prog.cellsOf 34)):=hf 1 _ O
 have g2:Op_ enc Tryz.prog W 34 ((cs.drop 2).take (Tryz.prog.cellsOf 34)):=hf 2 _ O
 rw[c2] at g0
 rw[c1] at g1 g2
 obtain⟨a,ha,_⟩:=Op_.int Tryz.underlying3 g0
 obtain⟨b,hb,hwb⟩:=Op_.int Tryz.underlying34 g1
 obtain⟨d,hd,hwd⟩:=Op_.int Tryz.underlying34 g2
 obtain⟨k,rfl,hk⟩:=wf_u64 hwb
 obtain⟨k2,rfl,hk2⟩:=wf_u64 hwd
 match cs,hl with
 |[u,v,w],_=>
  simp at ha hb hd
  exact⟨(a,k,k2),by rw[ha,hb,hd];rfl,hk,hk2⟩
theorem op_raft {cs:List Value} (h:Op_ enc Tryz.prog W 42 cs): ∃ (x:Rs) (p:Rp),cs=rfc x p∧RfW W x p:=by
 obtain⟨hl,hf⟩:=h.struct Tryz.underlying42
 have c0:Tryz.prog.cellsOf 42=14:=by kernel_rfl
 have zint:Tryz.prog.cellsOf 3=1:=by kernel_rfl
 have zu64:Tryz.prog.cellsOf 34=1:=by kernel_rfl
 have zlog:Tryz.prog.cellsOf 39=3:=by kernel_rfl
 have zcf:Tryz.prog.cellsOf 33=1:=by kernel_rfl
 have zints:Tryz.prog.cellsOf 31=1:=by kernel_rfl
 have zprs:Tryz.prog.cellsOf 40=1:=by kernel_rfl
 rw[c0] at hl
 have g0:Op_ enc Tryz.prog W 3 ((cs.drop 0).take (Tryz.prog.cellsOf 3)):=hf 0 _ O
 rw[zint] at g0
 have g1:Op_ enc Tryz.prog W 34 ((cs.drop 1).take (Tryz.prog.cellsOf 34)):=hf 1 _ O
 rw[zu64] at g1
 have g2:Op_ enc Tryz.prog W 3 ((cs.drop 2).take (Tryz.prog.cellsOf 3)):=hf 2 _ O
 rw[zint] at g2
 have g3:Op_ enc Tryz.prog W 39 ((cs.drop 3).take (Tryz.prog.cellsOf 39)):=hf 3 _ O
 rw[zlog] at g3
 have g4:Op_ enc Tryz.prog W 33 ((cs.drop 6).take (Tryz.prog.cellsOf 33)):=hf 4 _ O
 rw[zcf] at g4
 have g5:Op_ enc Tryz.prog W 34 ((cs.drop 7).take (Tryz.prog.cellsOf 34)):=hf 5 _ O
 rw[zu64] at g5
 have g6:Op_ enc Tryz.prog W 3 ((cs.drop 8).take (Tryz.prog.cellsOf 3)):=hf 6 _ O
 rw[zint] at g6
 have g7:Op_ enc Tryz.prog W 3 ((cs.drop 9).take (Tryz.prog.cellsOf 3)):=hf 7 _ O
 rw[zint] at g7
 have g8:Op_ enc Tryz.prog W 3 ((cs.drop 10).take (Tryz.prog.cellsOf 3)):=hf 8 _ O
 rw[zint] at g8
 have g9:Op_ enc Tryz.prog W 3 ((cs.drop 11).take (Tryz.prog.cellsOf 3)):=hf 9 _ O
 rw[zint] at g9
 have g10:Op_ enc Tryz.prog W 31 ((cs.drop 12).take (Tryz.prog.cellsOf 31)):=hf 10 _ O
 rw[zints] at g10
 have g11:Op_ enc Tryz.prog W 40 ((cs.drop 13).take (Tryz.prog.cellsOf 40)):=hf 11 _ O
 rw[zprs] at g11
 obtain⟨me,e0,_⟩:=Op_.int Tryz.underlying3 g0
 obtain⟨vt,e2,_⟩:=Op_.int Tryz.underlying3 g2
 obtain⟨ro,e6,_⟩:=Op_.int Tryz.underlying3 g6
 obtain⟨ld,e7,_⟩:=Op_.int Tryz.underlying3 g7
 obtain⟨ck,e8,_⟩:=Op_.int Tryz.underlying3 g8
 obtain⟨lim,e9,_⟩:=Op_.int Tryz.underlying3 g9
 obtain⟨tm,e1,w1⟩:=Op_.int Tryz.underlying34 g1
 obtain⟨tm,rfl,u1⟩:=wf_u64 w1
 obtain⟨cm,e5,w5⟩:=Op_.int Tryz.underlying34 g5
 obtain⟨cm,rfl,u5⟩:=wf_u64 w5
 obtain⟨⟨p1,p2⟩,A,c,Q,e3,h31,h32,h33,h34,u31,u32⟩:=op_logB g3
 obtain⟨hl4,hf4⟩:=g4.struct Tryz.underlying33
 have g4':Op_ enc Tryz.prog W 31 ((((cs.drop 6).take 1).drop 0).take (Tryz.prog.cellsOf 31)):=hf4 0 _ O
 rw[zints] at g4'
 obtain⟨cA,cn,cc,zs,e4,h41,h42,h43,_⟩:=Op_.ints (k:= .i64) Tryz.underlying31 Tryz.underlying3 (by kernel_rfl) g4'
 obtain⟨vA,vn,vc,vs,e10,h101,h102,h103,_⟩:=Op_.ints (k:= .i64) Tryz.underlying31 Tryz.underlying3 (by kernel_rfl) g10
 obtain⟨pA,pn,pc,xs,e11,h111,h112,h113,h114⟩:=g11.slice Tryz.underlying40 (size:=3) (by kernel_rfl)
 obtain⟨L,hL,rfl,hall⟩:=rows_of (n:=0) (size:=3) (f:=pec) pec_len (fun m:Pe=>m.2.1<18446744073709551616∧m.2.2<18446744073709551616) _ _ h113.1 fun i hi=>op_peer (h114 i hi)
 have hlz:zs.length=cn:=by have:=h43.1;simpa using this
 have hlv:vs.length=vn:=by have:=h103.1;simpa using this
 subst hL
 match cs,hl with
 |[v0,v1,v2,v3,v4,v5,v6,v7,v8,v9,v10,v11,v12,v13],_=>
  simp at e0 e1 e2 e3 e4 e5 e6 e7 e8 e9 e10 e11
  have e3:v3= .int .u64 (p1:Int)∧v4= .int .u64 (p2:Int)∧v5= .slice A Q.length c:=by simpa[lgc] using e3
  refine⟨⟨me,tm,vt,(p1,p2),Q.map emv,zs,cm,ro,ld,ck,lim,vs,L⟩,⟨A,Q.length,c,Q,cA,cn,cc,vA,vn,vc,pA,L.length,pc⟩,?_,⟨O,h33,Nat.le_trans h33 h34.1,O,h31,h32,hlz,Nat.le_trans h41 h42,h43,hlv,Nat.le_trans h101 h102,h103,O,Nat.le_trans h111 h112,h113,⟨u1,u31,u32,u5,hall⟩⟩⟩
  rw[e0,e1,e2,e3.1,e3.2.1,e3.2.2,e4,e5,e6,e7,e8,e9,e10,e11]
  rfl
theorem open_raft {r:Reach} {base:Nat} {v:Value} {d:DataW H} {p:List MemPlace} (hv:Value.okWide Tryz.prog W r base 42 v) (h:DataW.Trod enc Tryz.prog W 0 (fun _=>true) true 42 v d p):
  ∃ (x:Rs) (p:Rp),v= .agg (rfc x p).toArray∧RfW W x p:=by
 obtain⟨Z,rfl,hZ⟩:=okWide_struct Tryz.underlying42 hv
 obtain⟨x,p,hcs,h1⟩:=op_raft (Op_.of_trod h)
 refine⟨x,p,?_,h1⟩
 have e:Z=(Z.toList).toArray:=by simp
 have hcs:Z.toList=rfc x p:=hcs
 rw[e,hcs]
end
theorem large15_any (w:World) (x:Rs) (p:Rp) (h:RfW w x p):
  Gives Tryz.prog 18 [.agg (rfc x p).toArray] [] w (X:=Bool) (fun y=> .bool y) (fun y=>y=false↔Small p) (fun _=>[]):=by
 refine gives_S Tryz.func18 O Tryz.ntmps18 Tryz.results18 (by simp) (St.enter w) (fun B hB=>?_)
 have hnm:=h.hm
 have hln:=h.hn
 have hcm:=h.hcm
 have hvm:=h.hvm
 have hpm:=h.hpm
 unfold maxLen at hnm hcm hvm hpm
 have hne:0<p.n→p.A≠none:=fun h0=>by obtain⟨ad,e,_⟩:=h.rq.2 h0;rw[e];simp
 by_cases h0:200<p.n
 ·repeat' (first|refine R_take (T_decT O (by omega)) ?_ O O|refine R_p O ?_ O O|refine R_nil ?_|refine R_skip ?_ O O|refine R_take (T_load O O O O) ?_ O O|refine S_seq O ?_|refine S_region O O ?_|refine S_true O O ?_|(refine R_eff (E_boxa (cs:=rfc x p) O) ?_ O O;rintro _ _ ⟨b1,rfl,rfl⟩))
  exact hB _ _ _ _ _ O O fun w' hS=>⟨true,O,⟨fun e=>(by cases e),fun s=>absurd s (fun s=>by have:=s.n;have:=s.cn;have:=s.vn;have:=s.pn;omega)⟩,hS.sublist (List.nil_sublist _)⟩
 by_cases h1:50<p.cn
 ·repeat' (first|refine R_take (T_decT O (by omega)) ?_ O O|refine R_take (T_decF O (by omega)) ?_ O O|refine R_p O ?_ O O|refine R_nil ?_|refine R_skip ?_ O O|refine R_take (T_load O O O O) ?_ O O|refine S_seq O ?_|refine S_region O O ?_|refine S_true O O ?_|(refine R_eff (E_boxa (cs:=rfc x p) O) ?_ O O;rintro _ _ ⟨b1,rfl,rfl⟩))
  exact hB _ _ _ _ _ O O fun w' hS=>⟨true,O,⟨fun e=>(by cases e),fun s=>absurd s (fun s=>by have:=s.n;have:=s.cn;have:=s.vn;have:=s.pn;omega)⟩,hS.sublist (List.nil_sublist _)⟩
 by_cases h2:50<p.vn
 ·repeat' (first|refine R_take (T_decT O (by omega)) ?_ O O|refine R_take (T_decF O (by omega)) ?_ O O|refine R_p O ?_ O O|refine R_nil ?_|refine R_skip ?_ O O|refine R_take (T_load O O O O) ?_ O O|refine S_seq O ?_|refine S_region O O ?_|refine S_true O O ?_|(refine R_eff (E_boxa (cs:=rfc x p) O) ?_ O O;rintro _ _ ⟨b1,rfl,rfl⟩))
  exact hB _ _ _ _ _ O O fun w' hS=>⟨true,O,⟨fun e=>(by cases e),fun s=>absurd s (fun s=>by have:=s.n;have:=s.cn;have:=s.vn;have:=s.pn;omega)⟩,hS.sublist (List.nil_sublist _)⟩
 by_cases h3:50<p.pn
 ·repeat' (first|refine R_take (T_decT O (by omega)) ?_ O O|refine R_take (T_decF O (by omega)) ?_ O O|refine R_p O ?_ O O|refine R_nil ?_|refine R_take (T_load O O O O) ?_ O O|refine S_seq O ?_|refine S_region O O ?_|refine S_true O O ?_|(refine R_eff (E_boxa (cs:=rfc x p) O) ?_ O O;rintro _ _ ⟨b1,rfl,rfl⟩))
  exact hB _ _ _ _ _ O O fun w' hS=>⟨true,O,⟨fun e=>(by cases e),fun s=>absurd s (fun s=>by have:=s.n;have:=s.cn;have:=s.vn;have:=s.pn;omega)⟩,hS.sublist (List.nil_sublist _)⟩
 repeat' (first|refine R_take (T_decF O (by omega)) ?_ O O|refine R_p O ?_ O O|refine R_nil ?_|refine R_take (T_load O O O O) ?_ O O|refine S_seq O ?_|refine S_region O O ?_|refine S_false O O ?_|refine S_block O ?_|refine S_skip O ?_|(refine R_eff (E_boxa (cs:=rfc x p) O) ?_ O O;rintro _ _ ⟨b1,rfl,rfl⟩))
 refine S_loop (X:=Nat) (fun j=>[(1,.pointer (some ⟨b1,0,none⟩)),(31,.slice p.A p.n p.c),(32,.int .i64 (p.n:Int)),(33,.int .i64 (j:Int))]) (fun _=>[pt b1 42 (rfc x p)]) (fun j=>j≤p.n∧ ∀ i,i<j→(p.Q.getD i default).2.2.2.2.length≤5000) (fun j=>p.n-j) O 0 ⟨Nat.zero_le _,fun i hi=>absurd hi (Nat.not_lt_zero _)⟩ (Sub.cons O (Sub.cons O (Sub.cons O (Sub.cons O Sub.nil)))) sub_st ?_
 rintro j ⟨hj,hok⟩ J hJ
 rcases Nat.lt_or_ge j p.n with hjl|hjl
 ·have hne:=hne (by omega)
  have hat:=cellsL_at (f:=emc) emc_len p.Q default j (by omega)
  obtain⟨m,hm⟩: ∃ m,p.Q.getD j default=m:=⟨_,O⟩
  rw[hm] at hat
  obtain⟨t,ki,D,cd,bs⟩:=m
  by_cases h4:5000<bs.length
  ·focus (refine qs ?_;refine qd ?_;refine qz ?_;refine qq ?_;refine qT ?_;refine qx ?_;refine qq ?_;refine qb ?_;refine qs ?_;refine qt (T_ixM (sz:=3) (q:=j) O O O O O O hne hjl) ?_;refine qt (T_lda (ds:=emc (t,ki,D,cd,bs)) O O O (Srd.old h.rq (fun k _=>noOwns k)) O (by omega) hat) ?_;(refine qe (E_alloca O em_zero) ?_;rintro _ _ ⟨b4,rfl,rfl⟩);(refine qw (E_storew (cs:=emc (0,0,none,0,[])) (ds:=emc (t,ki,D,cd,bs)) O O O O (emc_one _) O) ?_;rintro _ _ rfl);refine qn ?_;refine qp ?_;refine qt (T_load (v:= .slice D bs.length cd) O O O O) ?_;refine qp ?_;refine qd ?_;refine qz ?_;refine qT ?_;refine qs ?_;refine qp ?_;refine qz ?_)
   exact hB _ _ _ _ _ O O fun w' hS=>⟨true,O,⟨fun e=>(by cases e),fun s=>absurd (s.d _ (show p.Q.getD j default∈p.Q by simp[List.getD,show j<p.Q.length by omega])) (by rw[hm];show ¬ bs.length≤5000;omega)⟩,hS.sublist (List.nil_sublist _)⟩
  ·focus (refine qs ?_;refine qd ?_;refine qz ?_;refine qq ?_;refine qT ?_;refine qx ?_;refine qq ?_;refine qb ?_;refine qs ?_;refine qt (T_ixM (sz:=3) (q:=j) O O O O O O hne hjl) ?_;refine qt (T_lda (ds:=emc (t,ki,D,cd,bs)) O O O (Srd.old h.rq (fun k _=>noOwns k)) O (by omega) hat) ?_;(refine qe (E_alloca O em_zero) ?_;rintro _ _ ⟨b4,rfl,rfl⟩);(refine qw (E_storew (cs:=emc (0,0,none,0,[])) (ds:=emc (t,ki,D,cd,bs)) O O O O (emc_one _) O) ?_;rintro _ _ rfl);refine qn ?_;refine qp ?_;refine qt (T_load (v:= .slice D bs.length cd) O O O O) ?_;refine qp ?_;refine qf ?_;refine qz ?_;refine qF ?_;refine qx ?_;refine RS_blk ?_;refine qr ?_;refine qt (T_addN O O (by unfold fits;omega)) ?_;refine qp ?_;refine qz ?_)
   refine hJ (j+1) _ _ ⟨by omega,fun i hi=>?_⟩ (Sub.cons O (Sub.cons O (Sub.cons O (Sub.cons O Sub.nil)))) sub_st (by omega)
   rcases Nat.lt_or_ge i j with h5|h5
   ·exact hok i h5
   ·rw[show i=j by omega,hm]
    show bs.length≤5000
    omega
 ·skip
  focus (refine qs ?_;refine qf ?_;refine qz ?_;refine qq ?_;refine qF ?_;refine S_exit O O ?_;refine qs ?_;refine qp ?_;refine qz ?_)
  refine hB _ _ _ _ _ O O fun w' hS=>⟨false,O,⟨fun _=>⟨by omega,by omega,by omega,by omega,fun m hm=>?_⟩,fun _=>O⟩,hS.sublist (List.nil_sublist _)⟩
  obtain⟨i,hi,rfl⟩:=List.getElem_of_mem hm
  have:=hok i (by omega)
  simpa[List.getD,hi] using this
theorem large15_k (w:World) (x:Rs) (p:Rp) (h:RfW w x p) (r:Bool) (hr:r=false↔Small p):
  Gives Tryz.prog 18 [.agg (rfc x p).toArray] [] w (X:=Unit) (fun _=> .bool r) (fun _=>True) (fun _=>[]):=
 (large15_any w x p h).mono fun u w' ⟨y,he,hy,hS⟩=>by
  obtain rfl:y=r:=by cases y<;>cases r<;>simp_all
  exact⟨(),he,trivial,hS⟩
end Go.Proofs.YtdeffdldifepkaaGreat
namespace Go.Proofs.YtdeffdldifepkaaGreat
open Go.RowKit
open Asn (pt row rb)
set_option linter.unusedVariables false
set_option linter.unusedSimpArgs false
theorem copied15_own (w:World) (s:Rs) (p:Rp) (h:RfR w s p):
  Gives Tryz.prog 19 [.agg (rfc s p).toArray] [] w (X:=Rp) (fun q=> .agg (rfc s q).toArray) (fun q=>RpOk s q∧q.n=p.n∧q.cn=p.cn∧q.vn=p.vn∧q.pn=p.pn) (fun q=>rfO s q):=by
 refine gives_C Tryz.func19 O Tryz.ntmps19 Tryz.results19 (by simp) (St.enter w) (fun B hB=>?_)
 have hc:=h.lg.rc
 have hv:=h.rv
 have hp:=h.rp
 have hcm:=h.lg.hcm
 have hvm:=h.hvm
 have hpm:=h.hpm
 focus (refine qs ?_;(refine qe (E_boxa (cs:=rfc s p) O) ?_;rintro _ _ ⟨b1,rfl,rfl⟩);(refine qe (E_alloca O rf_zero) ?_;rintro _ _ ⟨b2,rfl,rfl⟩);refine qz ?_;refine qq ?_)
 refine S_draw ([pt b1 42 (rfc s p)]) sub_st (by kernel_rfl) O (by kernel_rfl) (by kernel_rfl:_=25) ?_
 refine dp 0 ?_
 refine dt 1 O (T_loads (ds:=lgc s.base p.A p.n p.c) O O O O O) ?_
 refine dp 4 ?_
 refine dp 5 ?_
 refine dl 6 ?_
 refine dp 9 ?_
 refine dl 10 ?_
 refine dp 13 ?_
 refine dl 14 ?_
 refine D_node #[U,U,U,U,U,U,U,U,U,U,U,U,U,U,U,Y,U,Y,Y,Y,Y,Y,Y,Y,Y] (fun x:Option Addr×Nat×Sh s.es×Nat×Option Addr×Nat×Nat×Option Addr×Nat×Nat=>[(19,.pointer (some ⟨b1,0+3,none⟩)),(15,.slice (some ⟨x.2.2.2.2.2.2.2.2.2,0,none⟩) 0 0),(14,.slice x.2.2.2.2.2.2.2.1 p.vn x.2.2.2.2.2.2.2.2.1),(11,.slice (some ⟨x.2.2.2.2.2.2.1,0,none⟩) 0 0),(10,.slice x.2.2.2.2.1 p.cn x.2.2.2.2.2.1),(6,.slice (some ⟨x.2.2.2.1,0,none⟩) 0 0),(5,.agg (lgc s.base x.1 p.n x.2.1).toArray),(1,.pointer (some ⟨b1,0,none⟩)),(2,.pointer (some ⟨b2,0,none⟩)),(4,.agg (lgc s.base p.A p.n p.c).toArray),(9,.slice p.cA p.cn p.cc),(13,.slice p.vA p.vn p.vc),(17,.slice p.pA p.pn p.pc)]) (fun x:Option Addr×Nat×Sh s.es×Nat×Option Addr×Nat×Nat×Option Addr×Nat×Nat=>[pt x.2.2.2.2.2.2.2.2.2 112 [],row 3 1 x.2.2.2.2.2.2.2.1 p.vn x.2.2.2.2.2.2.2.2.1 (s.votes.map zv),row 3 1 x.2.2.2.2.1 p.cn x.2.2.2.2.2.1 (s.cf.map zv),row 59 3 x.1 p.n x.2.1 (cellsL emc x.2.2.1.1),dtB 5 (x.2.2.1.1.map emd),pt b1 42 (rfc s p),pt b2 42 (rfc rs0 rp0)]) (fun nd0=>?_) (fun x=>?_)
 refine D_nodeR #[U,U,U,U,U,U,U,U,U,U,U,U,Y,U,U,Y,U,Y,Y,Y,Y,Y,Y,Y,Y] (fun x:Option Addr×Nat×Sh s.es×Nat×Option Addr×Nat×Nat×Option Addr×Nat=>[(19,.pointer (some ⟨b1,0+3,none⟩)),(14,.slice x.2.2.2.2.2.2.2.1 p.vn x.2.2.2.2.2.2.2.2),(11,.slice (some ⟨x.2.2.2.2.2.2.1,0,none⟩) 0 0),(10,.slice x.2.2.2.2.1 p.cn x.2.2.2.2.2.1),(6,.slice (some ⟨x.2.2.2.1,0,none⟩) 0 0),(5,.agg (lgc s.base x.1 p.n x.2.1).toArray),(1,.pointer (some ⟨b1,0,none⟩)),(2,.pointer (some ⟨b2,0,none⟩)),(4,.agg (lgc s.base p.A p.n p.c).toArray),(9,.slice p.cA p.cn p.cc),(13,.slice p.vA p.vn p.vc),(17,.slice p.pA p.pn p.pc)]) (fun x:Option Addr×Nat×Sh s.es×Nat×Option Addr×Nat×Nat×Option Addr×Nat=>[row 3 1 x.2.2.2.2.2.2.2.1 p.vn x.2.2.2.2.2.2.2.2 (s.votes.map zv),row 3 1 x.2.2.2.2.1 p.cn x.2.2.2.2.2.1 (s.cf.map zv),row 59 3 x.1 p.n x.2.1 (cellsL emc x.2.2.1.1),dtB 5 (x.2.2.1.1.map emd),pt b1 42 (rfc s p),pt b2 42 (rfc rs0 rp0)]) (fun x=>?_) (fun nd1=>?_)
 ·skip
  obtain⟨A5,c5,P5,bi,A6,c6,bv_,A7,c7⟩:=x
  try dsimp only
  refine D_one 12 O (E_litS (vs:=[]) (size:=3) (ds:=[]) O O O O O O (by simp) O (by omega)) ?_ O O (by kernel_rfl)
  rintro _ _ ⟨bq,rfl,rfl⟩
  refine nx ?_
  have h:=nd0 (A5,c5,P5,bi,A6,c6,bv_,A7,c7,bq)
  try dsimp only at h
  exact Da h
 refine D_nodeR #[U,U,U,U,U,U,U,U,U,U,U,Y,U,U,U,Y,U,Y,Y,Y,Y,Y,Y,Y,Y] (fun x:Option Addr×Nat×Sh s.es×Nat×Option Addr×Nat×Nat×Nat=>[(19,.pointer (some ⟨b1,0+3,none⟩)),(15,.slice (some ⟨x.2.2.2.2.2.2.2,0,none⟩) 0 0),(11,.slice (some ⟨x.2.2.2.2.2.2.1,0,none⟩) 0 0),(10,.slice x.2.2.2.2.1 p.cn x.2.2.2.2.2.1),(6,.slice (some ⟨x.2.2.2.1,0,none⟩) 0 0),(5,.agg (lgc s.base x.1 p.n x.2.1).toArray),(1,.pointer (some ⟨b1,0,none⟩)),(2,.pointer (some ⟨b2,0,none⟩)),(4,.agg (lgc s.base p.A p.n p.c).toArray),(9,.slice p.cA p.cn p.cc),(13,.slice p.vA p.vn p.vc),(17,.slice p.pA p.pn p.pc)]) (fun x:Option Addr×Nat×Sh s.es×Nat×Option Addr×Nat×Nat×Nat=>[pt x.2.2.2.2.2.2.2 112 [],pt x.2.2.2.2.2.2.1 3 [],row 3 1 x.2.2.2.2.1 p.cn x.2.2.2.2.2.1 (s.cf.map zv),row 59 3 x.1 p.n x.2.1 (cellsL emc x.2.2.1.1),dtB 5 (x.2.2.1.1.map emd),pt b1 42 (rfc s p),pt b2 42 (rfc rs0 rp0)]) (fun x=>?_) (fun nd2=>?_)
 ·skip
  obtain⟨A5,c5,P5,bi,A6,c6,bv_,bq⟩:=x
  try dsimp only
  refine D_one 11 O (E_apple (gb:=bv_) (sz:=1) (A2:=p.vA) (m2:=p.vn) (c2:=p.vc) (news:=s.votes.map zv) O O O O O O O (by decide) (by first|exact .here|exact .there .here|exact .there (.there .here)) (Srd.old hv (fun k _=>noOwns k)) (C.zv_ones _) (by show p.vn*8≤_;omega) (by unfold maxLen;omega)) ?_ O O (by kernel_rfl)
  rintro _ _ ⟨A7,c7,rfl,rfl⟩
  refine nx ?_
  have h:=nd0 (A5,c5,P5,bi,A6,c6,bv_,A7,c7,bq)
  try dsimp only at h
  exact Da h
 refine D_nodeR #[U,U,U,U,U,U,U,U,U,U,U,Y,Y,U,U,Y,U,Y,Y,Y,Y,Y,Y,Y,Y] (fun x:Option Addr×Nat×Sh s.es×Nat×Option Addr×Nat×Nat=>[(19,.pointer (some ⟨b1,0+3,none⟩)),(11,.slice (some ⟨x.2.2.2.2.2.2,0,none⟩) 0 0),(10,.slice x.2.2.2.2.1 p.cn x.2.2.2.2.2.1),(6,.slice (some ⟨x.2.2.2.1,0,none⟩) 0 0),(5,.agg (lgc s.base x.1 p.n x.2.1).toArray),(1,.pointer (some ⟨b1,0,none⟩)),(2,.pointer (some ⟨b2,0,none⟩)),(4,.agg (lgc s.base p.A p.n p.c).toArray),(9,.slice p.cA p.cn p.cc),(13,.slice p.vA p.vn p.vc),(17,.slice p.pA p.pn p.pc)]) (fun x:Option Addr×Nat×Sh s.es×Nat×Option Addr×Nat×Nat=>[pt x.2.2.2.2.2.2 3 [],row 3 1 x.2.2.2.2.1 p.cn x.2.2.2.2.2.1 (s.cf.map zv),row 59 3 x.1 p.n x.2.1 (cellsL emc x.2.2.1.1),dtB 5 (x.2.2.1.1.map emd),pt b1 42 (rfc s p),pt b2 42 (rfc rs0 rp0)]) (fun x=>?_) (fun nd3=>?_)
 ·skip
  obtain⟨A5,c5,P5,bi,A6,c6,bv_⟩:=x
  try dsimp only
  refine D_two 11 12 (by decide) O O (E_apple (gb:=bv_) (sz:=1) (A2:=p.vA) (m2:=p.vn) (c2:=p.vc) (news:=s.votes.map zv) O O O O O O O (by decide) (by first|exact .here|exact .there .here|exact .there (.there .here)) (Srd.old hv (fun k _=>noOwns k)) (C.zv_ones _) (by show p.vn*8≤_;omega) (by unfold maxLen;omega)) (E_litS (vs:=[]) (size:=3) (ds:=[]) O O O O O O (by simp) O (by omega)) ?_ ?_ O O O O (by kernel_rfl)
  ·rintro _ _ ⟨A7,c7,rfl,rfl⟩
   refine nx ?_
   have h:=nd1 (A5,c5,P5,bi,A6,c6,bv_,A7,c7)
   try dsimp only at h
   exact Da h
  ·rintro _ _ ⟨bq,rfl,rfl⟩
   refine nx ?_
   have h:=nd2 (A5,c5,P5,bi,A6,c6,bv_,bq)
   try dsimp only at h
   exact Da h
 refine D_nodeR #[U,U,U,U,U,U,U,U,Y,U,U,Y,U,U,U,Y,U,Y,Y,Y,Y,Y,Y,Y,Y] (fun x:Option Addr×Nat×Sh s.es×Nat×Option Addr×Nat×Nat=>[(19,.pointer (some ⟨b1,0+3,none⟩)),(15,.slice (some ⟨x.2.2.2.2.2.2,0,none⟩) 0 0),(10,.slice x.2.2.2.2.1 p.cn x.2.2.2.2.2.1),(6,.slice (some ⟨x.2.2.2.1,0,none⟩) 0 0),(5,.agg (lgc s.base x.1 p.n x.2.1).toArray),(1,.pointer (some ⟨b1,0,none⟩)),(2,.pointer (some ⟨b2,0,none⟩)),(4,.agg (lgc s.base p.A p.n p.c).toArray),(9,.slice p.cA p.cn p.cc),(13,.slice p.vA p.vn p.vc),(17,.slice p.pA p.pn p.pc)]) (fun x:Option Addr×Nat×Sh s.es×Nat×Option Addr×Nat×Nat=>[pt x.2.2.2.2.2.2 112 [],row 3 1 x.2.2.2.2.1 p.cn x.2.2.2.2.2.1 (s.cf.map zv),row 59 3 x.1 p.n x.2.1 (cellsL emc x.2.2.1.1),dtB 5 (x.2.2.1.1.map emd),pt b1 42 (rfc s p),pt b2 42 (rfc rs0 rp0)]) (fun x=>?_) (fun nd4=>?_)
 ·skip
  obtain⟨A5,c5,P5,bi,A6,c6,bq⟩:=x
  try dsimp only
  refine D_one 8 O (E_lit1 (m:=0) (vs:=[]) O O O O O O O (by simp) (by decide)) ?_ O O (by kernel_rfl)
  rintro _ _ ⟨bv_,rfl,rfl⟩
  refine nx ?_
  have h:=nd2 (A5,c5,P5,bi,A6,c6,bv_,bq)
  try dsimp only at h
  exact Da h
 refine D_nodeR #[U,U,U,U,U,U,U,Y,U,U,U,Y,U,U,U,Y,U,Y,Y,Y,Y,Y,Y,Y,Y] (fun x:Option Addr×Nat×Sh s.es×Nat×Nat×Nat=>[(19,.pointer (some ⟨b1,0+3,none⟩)),(15,.slice (some ⟨x.2.2.2.2.2,0,none⟩) 0 0),(11,.slice (some ⟨x.2.2.2.2.1,0,none⟩) 0 0),(6,.slice (some ⟨x.2.2.2.1,0,none⟩) 0 0),(5,.agg (lgc s.base x.1 p.n x.2.1).toArray),(1,.pointer (some ⟨b1,0,none⟩)),(2,.pointer (some ⟨b2,0,none⟩)),(4,.agg (lgc s.base p.A p.n p.c).toArray),(9,.slice p.cA p.cn p.cc),(13,.slice p.vA p.vn p.vc),(17,.slice p.pA p.pn p.pc)]) (fun x:Option Addr×Nat×Sh s.es×Nat×Nat×Nat=>[pt x.2.2.2.2.2 112 [],pt x.2.2.2.2.1 3 [],pt x.2.2.2.1 3 [],row 59 3 x.1 p.n x.2.1 (cellsL emc x.2.2.1.1),dtB 5 (x.2.2.1.1.map emd),pt b1 42 (rfc s p),pt b2 42 (rfc rs0 rp0)]) (fun x=>?_) (fun nd5=>?_)
 ·skip
  obtain⟨A5,c5,P5,bi,bv_,bq⟩:=x
  try dsimp only
  refine D_one 7 O (E_apple (gb:=bi) (sz:=1) (A2:=p.cA) (m2:=p.cn) (c2:=p.cc) (news:=s.cf.map zv) O O O O O O O (by decide) (by first|exact .here|exact .there .here|exact .there (.there .here)) (Srd.old hc (fun k _=>noOwns k)) (C.zv_ones _) (by show p.cn*8≤_;omega) (by unfold maxLen;omega)) ?_ O O (by kernel_rfl)
  rintro _ _ ⟨A6,c6,rfl,rfl⟩
  refine nx ?_
  have h:=nd2 (A5,c5,P5,bi,A6,c6,bv_,bq)
  try dsimp only at h
  exact Da h
 refine D_nodeR #[U,U,U,U,U,U,U,U,Y,U,U,Y,Y,U,U,Y,U,Y,Y,Y,Y,Y,Y,Y,Y] (fun x:Option Addr×Nat×Sh s.es×Nat×Option Addr×Nat=>[(19,.pointer (some ⟨b1,0+3,none⟩)),(10,.slice x.2.2.2.2.1 p.cn x.2.2.2.2.2),(6,.slice (some ⟨x.2.2.2.1,0,none⟩) 0 0),(5,.agg (lgc s.base x.1 p.n x.2.1).toArray),(1,.pointer (some ⟨b1,0,none⟩)),(2,.pointer (some ⟨b2,0,none⟩)),(4,.agg (lgc s.base p.A p.n p.c).toArray),(9,.slice p.cA p.cn p.cc),(13,.slice p.vA p.vn p.vc),(17,.slice p.pA p.pn p.pc)]) (fun x:Option Addr×Nat×Sh s.es×Nat×Option Addr×Nat=>[row 3 1 x.2.2.2.2.1 p.cn x.2.2.2.2.2 (s.cf.map zv),row 59 3 x.1 p.n x.2.1 (cellsL emc x.2.2.1.1),dtB 5 (x.2.2.1.1.map emd),pt b1 42 (rfc s p),pt b2 42 (rfc rs0 rp0)]) (fun x=>?_) (fun nd6=>?_)
 ·skip
  obtain⟨A5,c5,P5,bi,A6,c6⟩:=x
  try dsimp only
  refine D_two 8 12 (by decide) O O (E_lit1 (m:=0) (vs:=[]) O O O O O O O (by simp) (by decide)) (E_litS (vs:=[]) (size:=3) (ds:=[]) O O O O O O (by simp) O (by omega)) ?_ ?_ O O O O (by kernel_rfl)
  ·rintro _ _ ⟨bv_,rfl,rfl⟩
   refine nx ?_
   have h:=nd3 (A5,c5,P5,bi,A6,c6,bv_)
   try dsimp only at h
   exact Da h
  ·rintro _ _ ⟨bq,rfl,rfl⟩
   refine nx ?_
   have h:=nd4 (A5,c5,P5,bi,A6,c6,bq)
   try dsimp only at h
   exact Da h
 refine D_nodeR #[U,U,U,U,U,U,U,Y,U,U,U,Y,Y,U,U,Y,U,Y,Y,Y,Y,Y,Y,Y,Y] (fun x:Option Addr×Nat×Sh s.es×Nat×Nat=>[(19,.pointer (some ⟨b1,0+3,none⟩)),(11,.slice (some ⟨x.2.2.2.2,0,none⟩) 0 0),(6,.slice (some ⟨x.2.2.2.1,0,none⟩) 0 0),(5,.agg (lgc s.base x.1 p.n x.2.1).toArray),(1,.pointer (some ⟨b1,0,none⟩)),(2,.pointer (some ⟨b2,0,none⟩)),(4,.agg (lgc s.base p.A p.n p.c).toArray),(9,.slice p.cA p.cn p.cc),(13,.slice p.vA p.vn p.vc),(17,.slice p.pA p.pn p.pc)]) (fun x:Option Addr×Nat×Sh s.es×Nat×Nat=>[pt x.2.2.2.2 3 [],pt x.2.2.2.1 3 [],row 59 3 x.1 p.n x.2.1 (cellsL emc x.2.2.1.1),dtB 5 (x.2.2.1.1.map emd),pt b1 42 (rfc s p),pt b2 42 (rfc rs0 rp0)]) (fun x=>?_) (fun nd7=>?_)
 ·skip
  obtain⟨A5,c5,P5,bi,bv_⟩:=x
  try dsimp only
  refine D_two 7 12 (by decide) O O (E_apple (gb:=bi) (sz:=1) (A2:=p.cA) (m2:=p.cn) (c2:=p.cc) (news:=s.cf.map zv) O O O O O O O (by decide) (by first|exact .here|exact .there .here|exact .there (.there .here)) (Srd.old hc (fun k _=>noOwns k)) (C.zv_ones _) (by show p.cn*8≤_;omega) (by unfold maxLen;omega)) (E_litS (vs:=[]) (size:=3) (ds:=[]) O O O O O O (by simp) O (by omega)) ?_ ?_ O O O O (by kernel_rfl)
  ·rintro _ _ ⟨A6,c6,rfl,rfl⟩
   refine nx ?_
   have h:=nd3 (A5,c5,P5,bi,A6,c6,bv_)
   try dsimp only at h
   exact Da h
  ·rintro _ _ ⟨bq,rfl,rfl⟩
   refine nx ?_
   have h:=nd5 (A5,c5,P5,bi,bv_,bq)
   try dsimp only at h
   exact Da h
 refine D_nodeR #[U,U,U,U,U,U,U,Y,Y,U,U,Y,U,U,U,Y,U,Y,Y,Y,Y,Y,Y,Y,Y] (fun x:Option Addr×Nat×Sh s.es×Nat×Nat=>[(19,.pointer (some ⟨b1,0+3,none⟩)),(15,.slice (some ⟨x.2.2.2.2,0,none⟩) 0 0),(6,.slice (some ⟨x.2.2.2.1,0,none⟩) 0 0),(5,.agg (lgc s.base x.1 p.n x.2.1).toArray),(1,.pointer (some ⟨b1,0,none⟩)),(2,.pointer (some ⟨b2,0,none⟩)),(4,.agg (lgc s.base p.A p.n p.c).toArray),(9,.slice p.cA p.cn p.cc),(13,.slice p.vA p.vn p.vc),(17,.slice p.pA p.pn p.pc)]) (fun x:Option Addr×Nat×Sh s.es×Nat×Nat=>[pt x.2.2.2.2 112 [],pt x.2.2.2.1 3 [],row 59 3 x.1 p.n x.2.1 (cellsL emc x.2.2.1.1),dtB 5 (x.2.2.1.1.map emd),pt b1 42 (rfc s p),pt b2 42 (rfc rs0 rp0)]) (fun x=>?_) (fun nd8=>?_)
 ·skip
  obtain⟨A5,c5,P5,bi,bq⟩:=x
  try dsimp only
  refine D_two 7 8 (by decide) O O (E_apple (gb:=bi) (sz:=1) (A2:=p.cA) (m2:=p.cn) (c2:=p.cc) (news:=s.cf.map zv) O O O O O O O (by decide) (by first|exact .here|exact .there .here|exact .there (.there .here)) (Srd.old hc (fun k _=>noOwns k)) (C.zv_ones _) (by show p.cn*8≤_;omega) (by unfold maxLen;omega)) (E_lit1 (m:=0) (vs:=[]) O O O O O O O (by simp) (by decide)) ?_ ?_ O O O O (by kernel_rfl)
  ·rintro _ _ ⟨A6,c6,rfl,rfl⟩
   refine nx ?_
   have h:=nd4 (A5,c5,P5,bi,A6,c6,bq)
   try dsimp only at h
   exact Da h
  ·rintro _ _ ⟨bv_,rfl,rfl⟩
   refine nx ?_
   have h:=nd5 (A5,c5,P5,bi,bv_,bq)
   try dsimp only at h
   exact Da h
 refine D_nodeR #[U,U,U,Y,U,U,U,Y,U,U,U,Y,U,U,U,Y,U,Y,Y,Y,Y,Y,Y,Y,Y] (fun x:Option Addr×Nat×Sh s.es×Nat×Nat=>[(19,.pointer (some ⟨b1,0+3,none⟩)),(15,.slice (some ⟨x.2.2.2.2,0,none⟩) 0 0),(11,.slice (some ⟨x.2.2.2.1,0,none⟩) 0 0),(5,.agg (lgc s.base x.1 p.n x.2.1).toArray),(1,.pointer (some ⟨b1,0,none⟩)),(2,.pointer (some ⟨b2,0,none⟩)),(4,.agg (lgc s.base p.A p.n p.c).toArray),(9,.slice p.cA p.cn p.cc),(13,.slice p.vA p.vn p.vc),(17,.slice p.pA p.pn p.pc)]) (fun x:Option Addr×Nat×Sh s.es×Nat×Nat=>[pt x.2.2.2.2 112 [],pt x.2.2.2.1 3 [],row 59 3 x.1 p.n x.2.1 (cellsL emc x.2.2.1.1),dtB 5 (x.2.2.1.1.map emd),pt b1 42 (rfc s p),pt b2 42 (rfc rs0 rp0)]) (fun x=>?_) (fun nd9=>?_)
 ·skip
  obtain⟨A5,c5,P5,bv_,bq⟩:=x
  try dsimp only
  refine D_one 3 O (E_lit1 (m:=0) (vs:=[]) O O O O O O O (by simp) (by decide)) ?_ O O (by kernel_rfl)
  rintro _ _ ⟨bi,rfl,rfl⟩
  refine nx ?_
  have h:=nd5 (A5,c5,P5,bi,bv_,bq)
  try dsimp only at h
  exact Da h
 refine D_nodeR #[U,U,U,U,U,U,U,Y,Y,U,U,Y,Y,U,U,Y,U,Y,Y,Y,Y,Y,Y,Y,Y] (fun x:Option Addr×Nat×Sh s.es×Nat=>[(19,.pointer (some ⟨b1,0+3,none⟩)),(6,.slice (some ⟨x.2.2.2,0,none⟩) 0 0),(5,.agg (lgc s.base x.1 p.n x.2.1).toArray),(1,.pointer (some ⟨b1,0,none⟩)),(2,.pointer (some ⟨b2,0,none⟩)),(4,.agg (lgc s.base p.A p.n p.c).toArray),(9,.slice p.cA p.cn p.cc),(13,.slice p.vA p.vn p.vc),(17,.slice p.pA p.pn p.pc)]) (fun x:Option Addr×Nat×Sh s.es×Nat=>[pt x.2.2.2 3 [],row 59 3 x.1 p.n x.2.1 (cellsL emc x.2.2.1.1),dtB 5 (x.2.2.1.1.map emd),pt b1 42 (rfc s p),pt b2 42 (rfc rs0 rp0)]) (fun x=>?_) (fun nd10=>?_)
 ·skip
  obtain⟨A5,c5,P5,bi⟩:=x
  try dsimp only
  refine D_three 7 8 12 O O O (E_apple (gb:=bi) (sz:=1) (A2:=p.cA) (m2:=p.cn) (c2:=p.cc) (news:=s.cf.map zv) O O O O O O O (by decide) (by first|exact .here|exact .there .here|exact .there (.there .here)) (Srd.old hc (fun k _=>noOwns k)) (C.zv_ones _) (by show p.cn*8≤_;omega) (by unfold maxLen;omega)) (E_lit1 (m:=0) (vs:=[]) O O O O O O O (by simp) (by decide)) (E_litS (vs:=[]) (size:=3) (ds:=[]) O O O O O O (by simp) O (by omega)) ?_ ?_ ?_ O O O O O O (by kernel_rfl)
  ·rintro _ _ ⟨A6,c6,rfl,rfl⟩
   refine nx ?_
   have h:=nd6 (A5,c5,P5,bi,A6,c6)
   try dsimp only at h
   exact Da h
  ·rintro _ _ ⟨bv_,rfl,rfl⟩
   refine nx ?_
   have h:=nd7 (A5,c5,P5,bi,bv_)
   try dsimp only at h
   exact Da h
  ·rintro _ _ ⟨bq,rfl,rfl⟩
   refine nx ?_
   have h:=nd8 (A5,c5,P5,bi,bq)
   try dsimp only at h
   exact Da h
 refine D_nodeR #[U,U,U,Y,U,U,U,Y,U,U,U,Y,Y,U,U,Y,U,Y,Y,Y,Y,Y,Y,Y,Y] (fun x:Option Addr×Nat×Sh s.es×Nat=>[(19,.pointer (some ⟨b1,0+3,none⟩)),(11,.slice (some ⟨x.2.2.2,0,none⟩) 0 0),(5,.agg (lgc s.base x.1 p.n x.2.1).toArray),(1,.pointer (some ⟨b1,0,none⟩)),(2,.pointer (some ⟨b2,0,none⟩)),(4,.agg (lgc s.base p.A p.n p.c).toArray),(9,.slice p.cA p.cn p.cc),(13,.slice p.vA p.vn p.vc),(17,.slice p.pA p.pn p.pc)]) (fun x:Option Addr×Nat×Sh s.es×Nat=>[pt x.2.2.2 3 [],row 59 3 x.1 p.n x.2.1 (cellsL emc x.2.2.1.1),dtB 5 (x.2.2.1.1.map emd),pt b1 42 (rfc s p),pt b2 42 (rfc rs0 rp0)]) (fun x=>?_) (fun nd11=>?_)
 ·skip
  obtain⟨A5,c5,P5,bv_⟩:=x
  try dsimp only
  refine D_two 3 12 (by decide) O O (E_lit1 (m:=0) (vs:=[]) O O O O O O O (by simp) (by decide)) (E_litS (vs:=[]) (size:=3) (ds:=[]) O O O O O O (by simp) O (by omega)) ?_ ?_ O O O O (by kernel_rfl)
  ·rintro _ _ ⟨bi,rfl,rfl⟩
   refine nx ?_
   have h:=nd7 (A5,c5,P5,bi,bv_)
   try dsimp only at h
   exact Da h
  ·rintro _ _ ⟨bq,rfl,rfl⟩
   refine nx ?_
   have h:=nd9 (A5,c5,P5,bv_,bq)
   try dsimp only at h
   exact Da h
 refine D_nodeR #[U,U,U,Y,U,U,U,Y,Y,U,U,Y,U,U,U,Y,U,Y,Y,Y,Y,Y,Y,Y,Y] (fun x:Option Addr×Nat×Sh s.es×Nat=>[(19,.pointer (some ⟨b1,0+3,none⟩)),(15,.slice (some ⟨x.2.2.2,0,none⟩) 0 0),(5,.agg (lgc s.base x.1 p.n x.2.1).toArray),(1,.pointer (some ⟨b1,0,none⟩)),(2,.pointer (some ⟨b2,0,none⟩)),(4,.agg (lgc s.base p.A p.n p.c).toArray),(9,.slice p.cA p.cn p.cc),(13,.slice p.vA p.vn p.vc),(17,.slice p.pA p.pn p.pc)]) (fun x:Option Addr×Nat×Sh s.es×Nat=>[pt x.2.2.2 112 [],row 59 3 x.1 p.n x.2.1 (cellsL emc x.2.2.1.1),dtB 5 (x.2.2.1.1.map emd),pt b1 42 (rfc s p),pt b2 42 (rfc rs0 rp0)]) (fun x=>?_) (fun nd12=>?_)
 ·skip
  obtain⟨A5,c5,P5,bq⟩:=x
  try dsimp only
  refine D_two 3 8 (by decide) O O (E_lit1 (m:=0) (vs:=[]) O O O O O O O (by simp) (by decide)) (E_lit1 (m:=0) (vs:=[]) O O O O O O O (by simp) (by decide)) ?_ ?_ O O O O (by kernel_rfl)
  ·rintro _ _ ⟨bi,rfl,rfl⟩
   refine nx ?_
   have h:=nd8 (A5,c5,P5,bi,bq)
   try dsimp only at h
   exact Da h
  ·rintro _ _ ⟨bv_,rfl,rfl⟩
   refine nx ?_
   have h:=nd9 (A5,c5,P5,bv_,bq)
   try dsimp only at h
   exact Da h
 refine D_nodeR #[U,U,Y,U,U,U,U,Y,U,U,U,Y,U,U,U,Y,Y,Y,Y,Y,Y,Y,Y,Y,Y] (fun x:Nat×Nat×Nat=>[(15,.slice (some ⟨x.2.2,0,none⟩) 0 0),(11,.slice (some ⟨x.2.1,0,none⟩) 0 0),(6,.slice (some ⟨x.1,0,none⟩) 0 0),(1,.pointer (some ⟨b1,0,none⟩)),(2,.pointer (some ⟨b2,0,none⟩)),(4,.agg (lgc s.base p.A p.n p.c).toArray),(9,.slice p.cA p.cn p.cc),(13,.slice p.vA p.vn p.vc),(17,.slice p.pA p.pn p.pc)]) (fun x:Nat×Nat×Nat=>[pt x.2.2 112 [],pt x.2.1 3 [],pt x.1 3 [],pt b1 42 (rfc s p),pt b2 42 (rfc rs0 rp0)]) (fun x=>?_) (fun nd13=>?_)
 ·skip
  obtain⟨bi,bv_,bq⟩:=x
  try dsimp only
  refine D_one 2 O (E_hvG (f:=62) F62 (fun w hS=>copyD_any w s.base p.A p.c p.n p.Q s.es h.lg.hn h.lg.hQ (h.keep hS.kpO).lg.rq (h.keep hS.kpO).lg.dt h.lg.hm h.lg.hd) O O) ?_ O O (by kernel_rfl)
  rintro _ _ ⟨⟨⟨A5,c5⟩,P5⟩,rfl,hc5,rfl⟩;dsimp only[List.cons_append,List.nil_append]
  refine nx ?_
  refine dp 16 ?_
  have h:=nd5 (A5,c5,P5,bi,bv_,bq)
  try dsimp only at h
  exact Da h
 refine D_nodeR #[U,U,U,Y,U,U,U,Y,Y,U,U,Y,Y,U,U,Y,U,Y,Y,Y,Y,Y,Y,Y,Y] (fun x:Option Addr×Nat×Sh s.es=>[(19,.pointer (some ⟨b1,0+3,none⟩)),(5,.agg (lgc s.base x.1 p.n x.2.1).toArray),(1,.pointer (some ⟨b1,0,none⟩)),(2,.pointer (some ⟨b2,0,none⟩)),(4,.agg (lgc s.base p.A p.n p.c).toArray),(9,.slice p.cA p.cn p.cc),(13,.slice p.vA p.vn p.vc),(17,.slice p.pA p.pn p.pc)]) (fun x:Option Addr×Nat×Sh s.es=>[row 59 3 x.1 p.n x.2.1 (cellsL emc x.2.2.1),dtB 5 (x.2.2.1.map emd),pt b1 42 (rfc s p),pt b2 42 (rfc rs0 rp0)]) (fun x=>?_) (fun nd14=>?_)
 ·skip
  obtain⟨A5,c5,P5⟩:=x
  try dsimp only
  refine D_three 3 8 12 O O O (E_lit1 (m:=0) (vs:=[]) O O O O O O O (by simp) (by decide)) (E_lit1 (m:=0) (vs:=[]) O O O O O O O (by simp) (by decide)) (E_litS (vs:=[]) (size:=3) (ds:=[]) O O O O O O (by simp) O (by omega)) ?_ ?_ ?_ O O O O O O (by kernel_rfl)
  ·rintro _ _ ⟨bi,rfl,rfl⟩
   refine nx ?_
   have h:=nd10 (A5,c5,P5,bi)
   try dsimp only at h
   exact Da h
  ·rintro _ _ ⟨bv_,rfl,rfl⟩
   refine nx ?_
   have h:=nd11 (A5,c5,P5,bv_)
   try dsimp only at h
   exact Da h
  ·rintro _ _ ⟨bq,rfl,rfl⟩
   refine nx ?_
   have h:=nd12 (A5,c5,P5,bq)
   try dsimp only at h
   exact Da h
 refine D_nodeR #[U,U,Y,U,U,U,U,Y,U,U,U,Y,Y,U,U,Y,Y,Y,Y,Y,Y,Y,Y,Y,Y] (fun x:Nat×Nat=>[(11,.slice (some ⟨x.2,0,none⟩) 0 0),(6,.slice (some ⟨x.1,0,none⟩) 0 0),(1,.pointer (some ⟨b1,0,none⟩)),(2,.pointer (some ⟨b2,0,none⟩)),(4,.agg (lgc s.base p.A p.n p.c).toArray),(9,.slice p.cA p.cn p.cc),(13,.slice p.vA p.vn p.vc),(17,.slice p.pA p.pn p.pc)]) (fun x:Nat×Nat=>[pt x.2 3 [],pt x.1 3 [],pt b1 42 (rfc s p),pt b2 42 (rfc rs0 rp0)]) (fun x=>?_) (fun nd15=>?_)
 ·skip
  obtain⟨bi,bv_⟩:=x
  try dsimp only
  refine D_two 2 12 (by decide) O O (E_hvG (f:=62) F62 (fun w hS=>copyD_any w s.base p.A p.c p.n p.Q s.es h.lg.hn h.lg.hQ (h.keep hS.kpO).lg.rq (h.keep hS.kpO).lg.dt h.lg.hm h.lg.hd) O O) (E_litS (vs:=[]) (size:=3) (ds:=[]) O O O O O O (by simp) O (by omega)) ?_ ?_ O O O O (by kernel_rfl)
  ·rintro _ _ ⟨⟨⟨A5,c5⟩,P5⟩,rfl,hc5,rfl⟩;dsimp only[List.cons_append,List.nil_append]
   refine nx ?_
   refine dp 16 ?_
   have h:=nd7 (A5,c5,P5,bi,bv_)
   try dsimp only at h
   exact Da h
  ·rintro _ _ ⟨bq,rfl,rfl⟩
   refine nx ?_
   have h:=nd13 (bi,bv_,bq)
   try dsimp only at h
   exact Da h
 refine D_nodeR #[U,U,Y,U,U,U,U,Y,Y,U,U,Y,U,U,U,Y,Y,Y,Y,Y,Y,Y,Y,Y,Y] (fun x:Nat×Nat=>[(15,.slice (some ⟨x.2,0,none⟩) 0 0),(6,.slice (some ⟨x.1,0,none⟩) 0 0),(1,.pointer (some ⟨b1,0,none⟩)),(2,.pointer (some ⟨b2,0,none⟩)),(4,.agg (lgc s.base p.A p.n p.c).toArray),(9,.slice p.cA p.cn p.cc),(13,.slice p.vA p.vn p.vc),(17,.slice p.pA p.pn p.pc)]) (fun x:Nat×Nat=>[pt x.2 112 [],pt x.1 3 [],pt b1 42 (rfc s p),pt b2 42 (rfc rs0 rp0)]) (fun x=>?_) (fun nd16=>?_)
 ·skip
  obtain⟨bi,bq⟩:=x
  try dsimp only
  refine D_two 2 8 (by decide) O O (E_hvG (f:=62) F62 (fun w hS=>copyD_any w s.base p.A p.c p.n p.Q s.es h.lg.hn h.lg.hQ (h.keep hS.kpO).lg.rq (h.keep hS.kpO).lg.dt h.lg.hm h.lg.hd) O O) (E_lit1 (m:=0) (vs:=[]) O O O O O O O (by simp) (by decide)) ?_ ?_ O O O O (by kernel_rfl)
  ·rintro _ _ ⟨⟨⟨A5,c5⟩,P5⟩,rfl,hc5,rfl⟩;dsimp only[List.cons_append,List.nil_append]
   refine nx ?_
   refine dp 16 ?_
   have h:=nd8 (A5,c5,P5,bi,bq)
   try dsimp only at h
   exact Da h
  ·rintro _ _ ⟨bv_,rfl,rfl⟩
   refine nx ?_
   have h:=nd13 (bi,bv_,bq)
   try dsimp only at h
   exact Da h
 refine D_nodeR #[U,U,Y,Y,U,U,U,Y,U,U,U,Y,U,U,U,Y,Y,Y,Y,Y,Y,Y,Y,Y,Y] (fun x:Nat×Nat=>[(15,.slice (some ⟨x.2,0,none⟩) 0 0),(11,.slice (some ⟨x.1,0,none⟩) 0 0),(1,.pointer (some ⟨b1,0,none⟩)),(2,.pointer (some ⟨b2,0,none⟩)),(4,.agg (lgc s.base p.A p.n p.c).toArray),(9,.slice p.cA p.cn p.cc),(13,.slice p.vA p.vn p.vc),(17,.slice p.pA p.pn p.pc)]) (fun x:Nat×Nat=>[pt x.2 112 [],pt x.1 3 [],pt b1 42 (rfc s p),pt b2 42 (rfc rs0 rp0)]) (fun x=>?_) (fun nd17=>?_)
 ·skip
  obtain⟨bv_,bq⟩:=x
  try dsimp only
  refine D_two 2 3 (by decide) O O (E_hvG (f:=62) F62 (fun w hS=>copyD_any w s.base p.A p.c p.n p.Q s.es h.lg.hn h.lg.hQ (h.keep hS.kpO).lg.rq (h.keep hS.kpO).lg.dt h.lg.hm h.lg.hd) O O) (E_lit1 (m:=0) (vs:=[]) O O O O O O O (by simp) (by decide)) ?_ ?_ O O O O (by kernel_rfl)
  ·rintro _ _ ⟨⟨⟨A5,c5⟩,P5⟩,rfl,hc5,rfl⟩;dsimp only[List.cons_append,List.nil_append]
   refine nx ?_
   refine dp 16 ?_
   have h:=nd9 (A5,c5,P5,bv_,bq)
   try dsimp only at h
   exact Da h
  ·rintro _ _ ⟨bi,rfl,rfl⟩
   refine nx ?_
   have h:=nd13 (bi,bv_,bq)
   try dsimp only at h
   exact Da h
 refine D_nodeR #[U,U,Y,U,U,U,U,Y,Y,U,U,Y,Y,U,U,Y,Y,Y,Y,Y,Y,Y,Y,Y,Y] (fun x:Nat=>[(6,.slice (some ⟨x,0,none⟩) 0 0),(1,.pointer (some ⟨b1,0,none⟩)),(2,.pointer (some ⟨b2,0,none⟩)),(4,.agg (lgc s.base p.A p.n p.c).toArray),(9,.slice p.cA p.cn p.cc),(13,.slice p.vA p.vn p.vc),(17,.slice p.pA p.pn p.pc)]) (fun x:Nat=>[pt x 3 [],pt b1 42 (rfc s p),pt b2 42 (rfc rs0 rp0)]) (fun x=>?_) (fun nd18=>?_)
 ·skip
  revert x;intro bi
  try dsimp only
  refine D_three 2 8 12 O O O (E_hvG (f:=62) F62 (fun w hS=>copyD_any w s.base p.A p.c p.n p.Q s.es h.lg.hn h.lg.hQ (h.keep hS.kpO).lg.rq (h.keep hS.kpO).lg.dt h.lg.hm h.lg.hd) O O) (E_lit1 (m:=0) (vs:=[]) O O O O O O O (by simp) (by decide)) (E_litS (vs:=[]) (size:=3) (ds:=[]) O O O O O O (by simp) O (by omega)) ?_ ?_ ?_ O O O O O O (by kernel_rfl)
  ·rintro _ _ ⟨⟨⟨A5,c5⟩,P5⟩,rfl,hc5,rfl⟩;dsimp only[List.cons_append,List.nil_append]
   refine nx ?_
   refine dp 16 ?_
   have h:=nd10 (A5,c5,P5,bi)
   try dsimp only at h
   exact Da h
  ·rintro _ _ ⟨bv_,rfl,rfl⟩
   refine nx ?_
   have h:=nd15 (bi,bv_)
   try dsimp only at h
   exact Da h
  ·rintro _ _ ⟨bq,rfl,rfl⟩
   refine nx ?_
   have h:=nd16 (bi,bq)
   try dsimp only at h
   exact Da h
 refine D_nodeR #[U,U,Y,Y,U,U,U,Y,U,U,U,Y,Y,U,U,Y,Y,Y,Y,Y,Y,Y,Y,Y,Y] (fun x:Nat=>[(11,.slice (some ⟨x,0,none⟩) 0 0),(1,.pointer (some ⟨b1,0,none⟩)),(2,.pointer (some ⟨b2,0,none⟩)),(4,.agg (lgc s.base p.A p.n p.c).toArray),(9,.slice p.cA p.cn p.cc),(13,.slice p.vA p.vn p.vc),(17,.slice p.pA p.pn p.pc)]) (fun x:Nat=>[pt x 3 [],pt b1 42 (rfc s p),pt b2 42 (rfc rs0 rp0)]) (fun x=>?_) (fun nd19=>?_)
 ·skip
  revert x;intro bv_
  try dsimp only
  refine D_three 2 3 12 O O O (E_hvG (f:=62) F62 (fun w hS=>copyD_any w s.base p.A p.c p.n p.Q s.es h.lg.hn h.lg.hQ (h.keep hS.kpO).lg.rq (h.keep hS.kpO).lg.dt h.lg.hm h.lg.hd) O O) (E_lit1 (m:=0) (vs:=[]) O O O O O O O (by simp) (by decide)) (E_litS (vs:=[]) (size:=3) (ds:=[]) O O O O O O (by simp) O (by omega)) ?_ ?_ ?_ O O O O O O (by kernel_rfl)
  ·rintro _ _ ⟨⟨⟨A5,c5⟩,P5⟩,rfl,hc5,rfl⟩;dsimp only[List.cons_append,List.nil_append]
   refine nx ?_
   refine dp 16 ?_
   have h:=nd11 (A5,c5,P5,bv_)
   try dsimp only at h
   exact Da h
  ·rintro _ _ ⟨bi,rfl,rfl⟩
   refine nx ?_
   have h:=nd15 (bi,bv_)
   try dsimp only at h
   exact Da h
  ·rintro _ _ ⟨bq,rfl,rfl⟩
   refine nx ?_
   have h:=nd17 (bv_,bq)
   try dsimp only at h
   exact Da h
 refine D_nodeR #[U,U,Y,Y,U,U,U,Y,Y,U,U,Y,U,U,U,Y,Y,Y,Y,Y,Y,Y,Y,Y,Y] (fun x:Nat=>[(15,.slice (some ⟨x,0,none⟩) 0 0),(1,.pointer (some ⟨b1,0,none⟩)),(2,.pointer (some ⟨b2,0,none⟩)),(4,.agg (lgc s.base p.A p.n p.c).toArray),(9,.slice p.cA p.cn p.cc),(13,.slice p.vA p.vn p.vc),(17,.slice p.pA p.pn p.pc)]) (fun x:Nat=>[pt x 112 [],pt b1 42 (rfc s p),pt b2 42 (rfc rs0 rp0)]) (fun x=>?_) (fun nd20=>?_)
 ·skip
  revert x;intro bq
  try dsimp only
  refine D_three 2 3 8 O O O (E_hvG (f:=62) F62 (fun w hS=>copyD_any w s.base p.A p.c p.n p.Q s.es h.lg.hn h.lg.hQ (h.keep hS.kpO).lg.rq (h.keep hS.kpO).lg.dt h.lg.hm h.lg.hd) O O) (E_lit1 (m:=0) (vs:=[]) O O O O O O O (by simp) (by decide)) (E_lit1 (m:=0) (vs:=[]) O O O O O O O (by simp) (by decide)) ?_ ?_ ?_ O O O O O O (by kernel_rfl)
  ·rintro _ _ ⟨⟨⟨A5,c5⟩,P5⟩,rfl,hc5,rfl⟩;dsimp only[List.cons_append,List.nil_append]
   refine nx ?_
   refine dp 16 ?_
   have h:=nd12 (A5,c5,P5,bq)
   try dsimp only at h
   exact Da h
  ·rintro _ _ ⟨bi,rfl,rfl⟩
   refine nx ?_
   have h:=nd16 (bi,bq)
   try dsimp only at h
   exact Da h
  ·rintro _ _ ⟨bv_,rfl,rfl⟩
   refine nx ?_
   have h:=nd17 (bv_,bq)
   try dsimp only at h
   exact Da h
 refine D_nodeR #[U,U,Y,Y,U,U,U,Y,Y,U,U,Y,Y,U,U,Y,Y,Y,Y,Y,Y,Y,Y,Y,Y] (fun _:Unit=>[(1,.pointer (some ⟨b1,0,none⟩)),(2,.pointer (some ⟨b2,0,none⟩)),(4,.agg (lgc s.base p.A p.n p.c).toArray),(9,.slice p.cA p.cn p.cc),(13,.slice p.vA p.vn p.vc),(17,.slice p.pA p.pn p.pc)]) (fun _:Unit=>[pt b1 42 (rfc s p),pt b2 42 (rfc rs0 rp0)]) (fun x=>?_) (fun nd21=>?_)
 ·skip
  obtain⟨⟩:=x
  try dsimp only
  refine D_four 2 3 8 12 O O O O (E_hvG (f:=62) F62 (fun w hS=>copyD_any w s.base p.A p.c p.n p.Q s.es h.lg.hn h.lg.hQ (h.keep hS.kpO).lg.rq (h.keep hS.kpO).lg.dt h.lg.hm h.lg.hd) O O) (E_lit1 (m:=0) (vs:=[]) O O O O O O O (by simp) (by decide)) (E_lit1 (m:=0) (vs:=[]) O O O O O O O (by simp) (by decide)) (E_litS (vs:=[]) (size:=3) (ds:=[]) O O O O O O (by simp) O (by omega)) ?_ ?_ ?_ ?_ O O O O O O O O (by kernel_rfl)
  ·rintro _ _ ⟨⟨⟨A5,c5⟩,P5⟩,rfl,hc5,rfl⟩;dsimp only[List.cons_append,List.nil_append]
   refine nx ?_
   refine dp 16 ?_
   have h:=nd14 (A5,c5,P5)
   try dsimp only at h
   exact Da h
  ·rintro _ _ ⟨bi,rfl,rfl⟩
   refine nx ?_
   have h:=nd18 (bi)
   try dsimp only at h
   exact Da h
  ·rintro _ _ ⟨bv_,rfl,rfl⟩
   refine nx ?_
   have h:=nd19 (bv_)
   try dsimp only at h
   exact Da h
  ·rintro _ _ ⟨bq,rfl,rfl⟩
   refine nx ?_
   have h:=nd20 (bq)
   try dsimp only at h
   exact Da h
 have h:=nd21 ()
 try dsimp only at h
 exact Da h
 obtain⟨A5,c5,P5,bi,A6,c6,bv_,A7,c7,bq⟩:=x
 try dsimp only
 refine D_one 15 O (E_apple (gb:=bq) (sz:=3) (A2:=p.pA) (m2:=p.pn) (c2:=p.pc) (news:=cellsL pec s.peers) O O O O O O O (by decide) (by first|exact .here|exact .there .here|exact .there (.there .here)) (Srd.old hp (fun k _=>noOwns k)) (pe_ones _) (by show p.pn*24≤_;omega) (by unfold maxLen;omega)) ?_ O O (by kernel_rfl)
 rintro _ _ ⟨A8,c8,rfl,rfl⟩
 refine nx ?_
 refine D_one 17 O (E_storeA (gb:=b1) (t:=42) (cs:=rfc s p) (ds:=lgc s.base A5 p.n c5) (cs':=rfc s ⟨A5,p.n,c5,P5.1,p.cA,p.cn,p.cc,p.vA,p.vn,p.vc,p.pA,p.pn,p.pc⟩) O O O O (lgc_one _ _ _ _) O (by show 3+3≤14;omega)) ?_ O O (by kernel_rfl)
 rintro _ _ rfl
 refine Nx_pivot (by kernel_rfl) ?_
 refine dp 18 ?_
 refine dp 19 ?_
 refine D_one 20 O (E_storeA1 (gb:=b1) (t:=42) (cs:=rfc s ⟨A5,p.n,c5,P5.1,p.cA,p.cn,p.cc,p.vA,p.vn,p.vc,p.pA,p.pn,p.pc⟩) (cs':=rfc s ⟨A5,p.n,c5,P5.1,A6,p.cn,c6,p.vA,p.vn,p.vc,p.pA,p.pn,p.pc⟩) O O O O O O (by show 6<14;omega)) ?_ O O (by kernel_rfl)
 rintro _ _ rfl
 refine Nx_pivot (by kernel_rfl) ?_
 refine dp 21 ?_
 refine D_one 22 O (E_storeA1 (gb:=b1) (t:=42) (cs:=rfc s ⟨A5,p.n,c5,P5.1,A6,p.cn,c6,p.vA,p.vn,p.vc,p.pA,p.pn,p.pc⟩) (cs':=rfc s ⟨A5,p.n,c5,P5.1,A6,p.cn,c6,A7,p.vn,c7,p.pA,p.pn,p.pc⟩) O O O O O O (by show 12<14;omega)) ?_ O O (by kernel_rfl)
 rintro _ _ rfl
 refine Nx_pivot (by kernel_rfl) ?_
 refine dp 23 ?_
 refine D_one 24 O (E_storeA1 (gb:=b1) (t:=42) (cs:=rfc s ⟨A5,p.n,c5,P5.1,A6,p.cn,c6,A7,p.vn,c7,p.pA,p.pn,p.pc⟩) (cs':=rfc s ⟨A5,p.n,c5,P5.1,A6,p.cn,c6,A7,p.vn,c7,A8,p.pn,c8⟩) O O O O O O (by show 13<14;omega)) ?_ O O (by kernel_rfl)
 rintro _ _ rfl
 refine Nx_pivot (by kernel_rfl) ?_
 refine dn ?_
 skip
 focus (refine qs ?_;refine qt (T_loads (ds:=rfc s ⟨A5,p.n,c5,P5.1,A6,p.cn,c6,A7,p.vn,c7,A8,p.pn,c8⟩) O O O O O) ?_;(refine qw (E_storew (cs:=rfc rs0 rp0) (ds:=rfc s ⟨A5,p.n,c5,P5.1,A6,p.cn,c6,A7,p.vn,c7,A8,p.pn,c8⟩) O O O O (rfc_one _ _) O) ?_;rintro _ _ rfl);refine qz ?_)
 refine hB _ _ _ _ _ O (.cell O O O inferInstance O .nil) fun w' hS=>⟨⟨A5,p.n,c5,P5.1,A6,p.cn,c6,A7,p.vn,c7,A8,p.pn,c8⟩,O,⟨⟨P5.2.1,by rw[← List.length_map (f:=emv),P5.2.1];exact h.lg.ln,h.lg.hcn,h.hvn,h.hpn⟩,O,O,O,O⟩,sub_st (H':=rfO s ⟨A5,p.n,c5,P5.1,A6,p.cn,c6,A7,p.vn,c7,A8,p.pn,c8⟩) w' hS⟩
theorem chk_right {x:Rs} (h:checkB x=true):rightB x.base x.es=true:=by
 cases hr:rightB x.base x.es
 ·simp[checkB,chkE,hr] at h
 ·rfl
theorem lastP_is {x:Rs} (h:rightB x.base x.es=true):lastP x=lastA x.base x.es:=if_pos h
theorem rf0 (w:World):RfR w rs0 rp0:=⟨⟨O,Nat.zero_le _,Nat.le_refl _,O,Rd.none_,fun m hm=>absurd hm (by simp[rp0]),fun m hm=>absurd hm (by simp[rp0]),O,Nat.zero_le _,Rd.none_⟩,O,Nat.zero_le _,Rd.none_,O,Nat.zero_le _,Rd.none_,⟨by decide,by decide,by decide,by decide,fun p hp=>absurd hp (by simp[rs0])⟩⟩
theorem none15_any (w:World) (x:Rs) (p:Rp) (h:RfR w x p) (r:Bool) (hr:(sameL x rs0).all id=r):
  Gives Tryz.prog 21 [.agg (rfc x p).toArray] [] w (X:=Unit) (fun _=> .bool r) (fun _=>True) (fun _=>[]):=by
 refine gives_S Tryz.func21 O Tryz.ntmps21 Tryz.results21 (by simp) (St.enter w) (fun B hB=>?_)
 focus (refine qs ?_;(refine qe (E_boxa (cs:=rfc x p) O) ?_;rintro _ _ ⟨b1,rfl,rfl⟩);refine qp ?_;refine qn ?_;refine qt (T_loads (ds:=rfc x p) O O O O O) ?_;refine qt (T_build0 rf_built0) ?_;refine qh F22 (fun w hS=>sameR_k w x rs0 p rp0 (h.keep hS.kpO) (rf0 w) r hr) ?_;refine qp ?_;refine qz ?_)
 exact hB _ _ _ _ _ O O (qE O)
theorem allD_k (w:World) (x:Rs) (p:Rp) (h:LgR w x p) (hrb:rightB x.base x.es=true) (n:Nat) (hn:(lastP x).1=n):
  Gives Tryz.prog 99 [.agg (rfc x p).toArray] [] w (X:=Unit) (fun _=> .int .u64 (n:Int)) (fun _=>True) (fun _=>[]):=by
 refine gives_S Tryz.func99 O Tryz.ntmps99 Tryz.results99 (by simp) (St.enter w) (fun B hB=>?_)
 have hn1:=h.hm
 have hf:=right_fits hrb
 have hln:=h.ln
 subst hn
 rw[lastP_is hrb] at hB
 focus (refine qs ?_;(refine qe (E_boxa (cs:=rfc x p) O) ?_;rintro _ _ ⟨b1,rfl,rfl⟩);refine qp ?_;refine qn ?_;refine qp ?_;refine qt (T_loads (ds:=lgc x.base p.A p.n p.c) O O O O O) ?_;refine qh F67 (fun w hS=>lastD_any w x.base p.A p.c p.n p.Q x.es h.hn h.hQ (h.keep hS.kpO).rq (by omega) (by omega) _ O) ?_;refine qt (T_fldv (xs:=atc (lastA x.base x.es)) O O O O O O) ?_;refine qp ?_;refine qz ?_)
 exact hB _ _ _ _ _ O O (qE O)
theorem confDk (w:World) (a:At) (A:Option Addr) (c k:Nat) (Q:List Em) (l:List En) (hk:Q.length=k) (hl:Q.map emv=l) (h:Rd w All 3 A k (cellsL emc Q)) (hd:RDt w All (Q.map emd)) (hn:k≤1000) (hkk: ∀ m∈Q,m.2.2.2.2.length≤100000) (hr0:rightB a l=true) (idx:Nat) (ri:Nat) (rbs:List UInt8) (rq:Bool) (N:Nat) (hN:rbs.length=N) (hs:confR a l idx=(ri,rbs,rq)):
  Gives Tryz.prog 102 [.agg (lgc a A k c).toArray,.int .u64 (idx:Int)] [] w (X:=Option Addr×Nat) (fun x=> .tuple #[.int .u64 (ri:Int),.slice x.1 N x.2,.bool rq]) (fun _=>True) (fun x=>[row 5 1 x.1 N x.2 (rbs.map bv)]):=confD_any w a A c k Q l hk hl h hd hn hkk hr0 idx ri rbs rq N hN hs
theorem forceD_k (w:World) (x:Rs) (p:Rp) (D:Kw) (hD:Kd D [] w) (h: ∀ w',D w'→LgR w' x p) (hrb:rightB x.base x.es=true) (idx:Nat) (ms:List Int) (hms:forceL x idx=ms):
  Gives Tryz.prog 98 [.agg (rfc x p).toArray,.int .u64 (idx:Int)] [] w (X:=(Option Addr×Nat×Nat)×Asn) (fun y=>C.cfv y.1.1 ms.length y.1.2.2) (fun y=> ∀ w',K2 D y.2 w'→Rd w' All 1 y.1.1 ms.length (ms.map zv)) (fun y=>[y.2]):=by
 refine gives_C Tryz.func98 O Tryz.ntmps98 Tryz.results98 (by simp) (St.enter w) (fun B hB=>?_)
 obtain⟨⟨ri,rbs,rq⟩,hs⟩: ∃ z,confR x.base x.es idx=z:=⟨_,O⟩
 obtain⟨N,hN⟩: ∃ N,rbs.length=N:=⟨_,O⟩
 have hw:=h w hD.now
 have hn1:=hw.hm
 have hn2:=hw.hcm
 have hN2:N≤100000:=by
  have:=conf_len (idx:=idx) hw.ed
  rw[hs] at this
  have this:rbs.length≤100000:=this
  omega
 rw[forceL,hs] at hms
 cases rq
 ·obtain rfl:x.cf=ms:=by rw[← hms];rfl
  focus (refine qs ?_;(refine qe (E_boxa (cs:=rfc x p) O) ?_;rintro _ _ ⟨b2,rfl,rfl⟩);(refine qe (E_alloca O C.cf_alloc) ?_;rintro _ _ ⟨b4,rfl,rfl⟩);refine qz ?_;refine qq ?_;refine qs ?_;refine qp ?_;refine qt (T_loads (ds:=lgc x.base p.A p.n p.c) O O O O O) ?_;refine qp ?_;(refine qe (E_hv1 (f:=102) F102 (fun w' hS=>confDk w' x.base p.A p.c p.n p.Q x.es hw.hn hw.hQ (h w' (hD.at_ hS)).rq (h w' (hD.at_ hS)).dt hn1 hw.hd hrb idx ri rbs _ N hN hs) O O (fun _=>O)) ?_;rintro _ _ ⟨⟨Ab,cb⟩,rfl,_,rfl⟩);(iterate 7 refine qp ?_);refine qn ?_;refine qp ?_;refine qz ?_;refine qF ?_;refine qx ?_;refine qs ?_;refine qp ?_;refine qt (T_loads (ds:=[.slice p.cA p.cn p.cc]) O O O O O) ?_;(refine qw (E_storew (cs:=[.slice none 0 0]) (ds:=[.slice p.cA p.cn p.cc]) O O O O (C.sl_one _ _ _) O) ?_;rintro _ _ rfl);refine qz ?_)
  rw[hw.hcn] at hB
  refine hB _ _ _ _ _ O (.cell O O O inferInstance O .nil) fun w' hS=>⟨((p.cA,p.cn,p.cc),zN),O,fun w2 h2=>(h w2 h2.1).rc,zN_in (hS.sublist (List.nil_sublist _))⟩
 ·obtain rfl:C.decL rbs=ms:=by rw[← hms];rfl
  obtain⟨K,hK⟩: ∃ K,(C.decL rbs).length=K:=⟨_,O⟩
  rw[hK] at hB
  focus (refine qs ?_;(refine qe (E_boxa (cs:=rfc x p) O) ?_;rintro _ _ ⟨b2,rfl,rfl⟩);(refine qe (E_alloca O C.cf_alloc) ?_;rintro _ _ ⟨b4,rfl,rfl⟩);refine qz ?_;refine qq ?_;refine qs ?_;refine qp ?_;refine qt (T_loads (ds:=lgc x.base p.A p.n p.c) O O O O O) ?_;refine qp ?_;(refine qe (E_hv1 (f:=102) F102 (fun w' hS=>confDk w' x.base p.A p.c p.n p.Q x.es hw.hn hw.hQ (h w' (hD.at_ hS)).rq (h w' (hD.at_ hS)).dt hn1 hw.hd hrb idx ri rbs _ N hN hs) O O (fun _=>O)) ?_;rintro _ _ ⟨⟨Ab,cb⟩,rfl,_,rfl⟩);(iterate 3 refine qp ?_);refine qd ?_;refine qp ?_;refine qp ?_;refine qd ?_;refine qn ?_;refine qd ?_;refine qz ?_;refine qT ?_;refine qs ?_;refine qp ?_;(refine qe (E_hv1 (f:=101) F101 (fun w' hS=>decD_k w' Ab N cb rbs (row_bs (e:=5) hS (by simp) hN) hN2 _ O _ O K hK) O O (fun _=>O)) ?_;rintro _ _ ⟨⟨A3,c3⟩,rfl,_,rfl⟩);(iterate 3 refine qp ?_);(refine qe (E_alloca O C.cf_alloc) ?_;rintro _ _ ⟨b4,rfl,rfl⟩);(refine qw (E_storew (cs:=[.slice none 0 0]) (ds:=[.slice A3 K c3]) O O O O (C.sl_one _ _ _) O) ?_;rintro _ _ rfl);refine qp ?_;refine qn ?_;refine qt (T_loads (ds:=[.slice A3 K c3]) O O O O O) ?_;(refine qw (E_storew (cs:=[.slice none 0 0]) (ds:=[.slice A3 K c3]) O O O O (C.sl_one _ _ _) O) ?_;rintro _ _ rfl);refine qz ?_)
  refine hB _ _ _ _ _ O (.cell O O O inferInstance O .nil) fun w' hS=>⟨((A3,K,c3),row 3 1 A3 K c3 ((C.decL rbs).map zv)),O,fun w2 h2=>row_rd h2.2,sub_st (H':=[row 3 1 A3 K c3 ((C.decL rbs).map zv)]) w' hS⟩
theorem nowD_k (w:World) (x:Rs) (p:Rp) (D:Kw) (hD:Kd D [] w) (h: ∀ w',D w'→LgR w' x p) (hrb:rightB x.base x.es=true) (ms:List Int) (hms:nowL x=ms):
  Gives Tryz.prog 32 [.agg (rfc x p).toArray] [] w (X:=(Option Addr×Nat×Nat)×Asn) (fun y=>C.cfv y.1.1 ms.length y.1.2.2) (fun y=> ∀ w',K2 D y.2 w'→Rd w' All 1 y.1.1 ms.length (ms.map zv)) (fun y=>[y.2]):=by
 refine gives_C Tryz.func32 O Tryz.ntmps32 Tryz.results32 (by simp) (St.enter w) (fun B hB=>?_)
 focus (refine qs ?_;(refine qe (E_boxa (cs:=rfc x p) O) ?_;rintro _ _ ⟨b2,rfl,rfl⟩);(refine qe (E_alloca O C.cf_alloc) ?_;rintro _ _ ⟨b4,rfl,rfl⟩);refine qz ?_;refine qq ?_)
 refine S_draw ([pt b2 42 (rfc x p)]) sub_st (by kernel_rfl) O (by kernel_rfl) (by kernel_rfl:_=5) ?_
 refine dt 0 O (T_loads (ds:=rfc x p) O O O O O) ?_
 refine dt 1 O (T_loads (ds:=rfc x p) O O O O O) ?_
 refine D_one 2 O (E_hv0 (f:=99) F99 (fun w1 hS1=>allD_k w1 x p (h w1 (hD.at_ hS1)) hrb _ O) O O (fun _=>O)) ?_ O O (by kernel_rfl)
 rintro _ _ ⟨_,rfl,_,rfl⟩
 refine nx ?_
 refine D_one 3 O (E_hv1 (f:=98) F98 (fun w1 hS1=>forceD_k w1 x p D (hD.call0 hS1) h hrb _ ms hms) O O (fun _=>O)) ?_ O O (by kernel_rfl)
 rintro _ _ ⟨⟨⟨A3,K3,c3⟩,Z3⟩,rfl,hI3,rfl⟩
 refine nx ?_
 refine D_one 4 O (E_storew (cs:=[.slice none 0 0]) (ds:=[.slice A3 ms.length c3]) O O O O (C.sl_one _ _ _) O) ?_ O O (by kernel_rfl)
 rintro _ _ rfl
 refine Nx_pivot (by kernel_rfl) ?_
 refine dn ?_
 skip
 skip
 refine hB _ _ _ _ _ O (.cell O O O inferInstance O .nil) fun w' hS=>⟨((A3,K3,c3),Z3),O,hI3,sub_st (H':=[Z3]) w' hS⟩
theorem rf_lg {x:Rs} {p:Rp} {w:World} (h:LgR w x p):Kd (fun w'=>LgR w' x p) [] w:=fun w' hk=>h.keep (hk.mono fun k _ _=>noOwns k)
theorem rf_kd {x:Rs} {p:Rp} {w:World} (h:RfR w x p):Kd (fun w'=>RfR w' x p) [] w:=fun w' hk=>h.keep (hk.mono fun k _ _=>noOwns k)
theorem lastP_k2 (w:World) (x:Rs) (p:Rp) (h:LgR w x p):
  Gives Tryz.prog 50 [.agg (lgc x.base p.A p.n p.c).toArray] [] w (X:=Unit) (fun _=> .agg (atc (lastP x)).toArray) (fun _=>True) (fun _=>[]):=lastP_k w x.base p.A p.c p.n p.Q x.es h.hn h.hQ h.rq (Nat.le_trans h.hm (by decide)) (lastP x) O
end Go.Proofs.YtdeffdldifepkaaGreat
namespace Go.Proofs.YtdeffdldifepkaaGreat
open Go.RowKit Go.ChangeShapes Go.WideShapes Go.ChangeAt
open Asn (pt row rb)
set_option linter.unusedVariables false
set_option linter.unusedSimpArgs false
theorem rpz {x:Rs} {p q:Rp} {w w':World} (h:RfR w x p) (hq:RpOk x q) (n1:q.n=p.n) (n2:q.cn=p.cn) (n3:q.vn=p.vn) (n4:q.pn=p.pn) (hb:(bun (rfO x q)).holds w'):RfR w' x q:=
 rfO_rf (bun_all hb) hq (n1▸h.lg.hm) (n2▸h.lg.hcm) (n3▸h.hvm) (n4▸h.hpm) h.lg.ed h.hu
theorem copied15_any (w:World) (x:Rs) (p:Rp) (h:RfR w x p):
  Gives Tryz.prog 19 [.agg (rfc x p).toArray] [] w (X:=Rp×Asn) (fun y=> .agg (rfc x y.1).toArray) (fun y=> ∀ w',y.2.holds w'→RfR w' x y.1) (fun y=>[y.2]):=
 (copied15_own w x p h).mono fun u w' ⟨q,he,⟨hq,h1,h2,h3,h4⟩,hS⟩=>⟨(q,bun (rfO x q)),he,fun w2 h5=>rpz h hq h1 h2 h3 h4 h5,bun_in (L:=rfO x q) (H:=[]) hS⟩
def stX (x:Rs):Rs:=⟨x.me,x.term,x.vote,x.base,x.es,x.cf,x.base.1,1,0,0,x.limit,[],[]⟩
def stP (p:Rp):Rp:=⟨p.A,p.n,p.c,p.Q,p.cA,p.cn,p.cc,none,0,0,none,0,0⟩
theorem RfR.st {w:World} {x:Rs} {p:Rp} (h:RfR w x p):RfR w (stX x) (stP p):=
 ⟨h.lg.like O O O O O O O O,O,Nat.zero_le _,Rd.none_,O,Nat.zero_le _,Rd.none_,⟨h.hu.tm,h.hu.b1,h.hu.b2,h.hu.b1,fun p hp=>absurd hp (by simp[stX])⟩⟩
theorem decL_le (l:List UInt8):(C.decL l).length≤5:=by
 unfold C.decL
 split
 ·rename_i h
  unfold C.decE at h
  split at h
  ·cases h
  ·split at h
   ·rename_i h2
    exact(C.right_len h2.2).2
   ·cases h
 ·exact Nat.zero_le _
theorem force_le {x:Rs} (h:C.right x.cf=true) (idx:Nat):(forceL x idx).length≤5:=by
 unfold forceL
 split
 ·exact decL_le _
 ·exact(C.right_len h).2
theorem chk_conf {x:Rs} (h:checkB x=true):C.right x.cf=true:=by
 cases hr:C.right x.cf
 ·simp[checkB,hr] at h
 ·rfl
theorem now_le {x:Rs} (h:checkB x=true):(nowL x).length≤5:=force_le (chk_conf h) _
end Go.Proofs.YtdeffdldifepkaaGreat
namespace Go.Proofs.YtdeffdldifepkaaGreat
open Go.RowKit
open Asn (pt row rb)
set_option linter.unusedVariables false
set_option linter.unusedSimpArgs false
theorem agr_k (w:World) (A A2:Option Addr) (n c n2 c2:Nat) (ms:List Int) (l:List (Int×Nat)) (h:Rd w All 1 A n (ms.map zv)) (h2:Rd w All 2 A2 n2 (C.mtc l)) (hn:n≤900) (hn2:n2≤900) (r:Nat) (hr:agrN ms l=r):
  Gives Tryz.prog 131 [C.cfv A n c,.slice A2 n2 c2] [] w (X:=Unit) (fun _=> .int .u64 (r:Int)) (fun _=>True) (fun _=>[]):=
 (C.agr_any w A A2 n c n2 c2 ms l h h2 hn hn2).mono fun u w' ⟨y,he,hy,hS⟩=>⟨(),by
  rw[he]
  have hy:(if C.right ms=true then C.IsAg (ms.map (C.idxN l)) y else y=0):=hy
  unfold agrN at hr
  split at hr
  ·rename_i h3
   rw[if_pos h3] at hy
   rw[← hr,C.rag_is hy];rfl
  ·rename_i h3
   rw[if_neg h3] at hy
   rw[← hr,hy];rfl,trivial,hS⟩
theorem mt_built (a:Int) (n:Nat):Tryz.prog.built 168 [(0,.int .i64 a),(1,.int .u64 (n:Int))]=some ([zv a,C.uv n]:List Value).toArray:=by kernel_rfl
def mtcJ (x:Rs) (j:Nat):List (Int×Nat):=(x.me,(lastP x).1)::(x.peers.take j).map fun p=>(p.1,p.2.2)
theorem mtcJ_all (x:Rs):mtcJ x x.peers.length=mtcL x:=by unfold mtcJ mtcL;rw[List.take_length]
theorem mtcJ_next (x:Rs) (j:Nat) (hj:j<x.peers.length) (q:Pe) (hq:x.peers.getD j default=q):C.mtc (mtcJ x (j+1))=C.mtc (mtcJ x j)++[zv q.1,C.uv q.2.2]:=by
 have e:x.peers.take (j+1)=x.peers.take j++[q]:=by rw[List.take_succ_eq_append_getElem hj];simp[← hq,List.getD,hj]
 unfold mtcJ C.mtc
 rw[e,List.map_append, ← List.cons_append,List.flatMap_append]
 rfl
theorem comR_of (x y:Rs) (h:y={x with commit:=comN x}):comR x=if (confR y.base y.es (lastP y).1).2.2=true∧(confR y.base y.es (lastP y).1).1≤y.commit∧(C.right (nowL y)&&decide (y.me∈nowL y))=false then folR y else y:=by
 rw[h];rfl
theorem mcommit_any (w:World) (g:Nat) (x:Rs) (m:Mm) (hS0:St w (owns (mP g x m)) (mP g x m) w) (D:Kw) (hD:Kd D (mP g x m) w) (h: ∀ w',D w'→McR w' x m) (hl:McL x m) (h5:(nowL x).length≤5) (hp5:x.peers.length≤800):
  Mth g x (comR x) m [] m.i D 56 [] w:=by
 unfold Mth
 refine gives_N2 Tryz.func56 O Tryz.ntmps56 Tryz.results56 (by simp) hS0 (fun B hE hB=>?_)
 have hpl:=hl.hpn
 have hw:=(h w hD.now).lg
 have hn1:=hw.hm
 obtain⟨n,hn⟩: ∃ n,agrN (nowL x) (mtcL x)=n:=⟨_,O⟩
 obtain⟨⟨t,tq⟩,ht⟩: ∃ z,termR x.base x.es n=z:=⟨_,O⟩
 obtain⟨y1,hy1⟩: ∃ y,y=({x with commit:=comN x}:Rs):=⟨_,O⟩
 have hcr:=comR_of x y1 hy1
 have hyM: ∀ w',D w'→McR w' y1 m:=fun w' h'=>by rw[hy1];exact⟨(h w' h').lg.like O O O O O O O O,(h w' h').ms⟩
 have hyL:McL y1 m:=by rw[hy1];exact⟨hl.hvn,hl.hpn⟩
 have hy5:(nowL y1).length≤5:=by rw[hy1];exact h5
 have hyv:y1.votes=x.votes:=by rw[hy1]
 have hyp:y1.peers=x.peers:=by rw[hy1]
 rw[hcr] at hE hB
 have htail:RS Tryz.prog B 111 w (owns (mP g x m)) [.code (c1 (c2 (c2 (c2 (c2 (cbody Tryz.f56)))))),.code (c2 (c2 (c2 (c2 (c2 (cbody Tryz.f56))))))] [(0,.pointer (some ⟨g,0,none⟩))] [pt g 89 (mcc y1 m),row 3 1 m.p.vA m.p.vn m.p.vc (y1.votes.map zv),row 112 3 m.p.pA m.p.pn m.p.pc (cellsL pec y1.peers),row 65 12 m.sA m.S.length m.sc (cellsL sgc m.S)]:=by
  obtain⟨⟨ri,rbs,rq⟩,hs⟩: ∃ z,confR y1.base y1.es (lastP y1).1=z:=⟨_,O⟩
  obtain⟨N,hN⟩: ∃ N,rbs.length=N:=⟨_,O⟩
  have hw1:=(hyM w hD.now).lg
  rw[hs] at hE hB
  refine RS_zN ?_
  refine S_draw ([pt g 89 (mcc y1 m)]) sub_st (by kernel_rfl) O (by kernel_rfl) (by kernel_rfl:_=16) ?_
  refine dp 0 ?_
  refine dt 1 O (T_nilCheck O) ?_
  refine dp 2 ?_
  refine dp 3 ?_
  refine dt 4 O (T_loads (ds:=lgc y1.base m.p.A m.p.n m.p.c) O O O O O) ?_
  refine dp 5 ?_
  refine D_one 6 O (E_hv0 (f:=59) F59 (fun w1 hS1=>mlast_k w1 g y1 m (mcB_st hS1 (by simp)) (hyM w1 (hD.at_ hS1)).lg) O O (fun _=>O)) ?_ O O (by kernel_rfl)
  rintro _ _ ⟨_,rfl,_,rfl⟩
  refine nx ?_
  refine dt 7 O (T_fldv (xs:=atc (lastP y1)) O O O O O O) ?_
  refine D_one 8 O (E_hv1 (f:=49) F49 (fun w1 hS1=>conf_k w1 y1.base m.p.A m.p.c m.p.n m.p.Q y1.es hw1.hn hw1.hQ (hyM w1 (hD.at_ hS1)).lg.rq (hyM w1 (hD.at_ hS1)).lg.dt hw1.hm hw1.hd (lastP y1).1 ri rbs _ N hN hs) O O (fun _=>O)) ?_ O O (by kernel_rfl)
  rintro _ _ ⟨⟨Ab,cb⟩,rfl,_,rfl⟩
  refine nx ?_
  refine dp 9 ?_
  refine dp 10 ?_
  refine dp 11 ?_
  refine dp 12 ?_
  refine dp 13 ?_
  refine dp 14 ?_
  refine dp 15 ?_
  refine dn ?_
  skip
  focus (refine qq ?_)
  cases rq
  ·rw[if_neg (fun e=>by cases e.1)] at hE hB
   refine S_draw ([pt g 89 (mcc y1 m)]) sub_st (by kernel_rfl) O (by kernel_rfl) (by kernel_rfl:_=21) ?_
   refine dp 0 ?_
   refine dp 1 ?_
   refine dk 2 ?_
   refine dk 3 ?_
   refine dk 4 ?_
   refine dk 5 ?_
   refine dk 6 ?_
   refine dk 7 ?_
   refine dk 8 ?_
   refine dp 9 ?_
   refine dp 10 ?_
   refine dk 11 ?_
   refine dk 12 ?_
   refine dk 13 ?_
   refine dk 14 ?_
   refine dk 15 ?_
   refine dk 16 ?_
   refine dk 17 ?_
   refine dk 18 ?_
   refine dk 19 ?_
   refine dp 20 ?_
   refine dn ?_
   skip
   focus (refine qF ?_;refine qx ?_)
   have hfin: ∀ w',St w (owns (mP g x m)) (mP g y1 m) w'→ ∃ y:Mm×Asn,(y.1.S.map Prod.fst=m.S.map Prod.fst++[]∧y.1.i=m.i∧McL y1 y.1∧ ∀ w',K2 D y.2 w'→McR w' y1 y.1)∧St w (owns (mP g x m)) (mP g y1 y.1++[y.2]) w':=fun w' hS=>⟨(m,zN),⟨by simp,O,⟨hyL.hvn,hyL.hpn⟩,fun w2 h2=>hyM w2 h2.1⟩,(zN_in hS).perm (List.perm_append_comm (l₁:=[zN]))⟩
   first
   |exact hE _ _ fun w' hS=>hfin w' (sub_st (H':=mP g y1 m) w' hS)
   |exact hB _ _ _ _ O fun w' hS=>hfin w' (sub_st (H':=mP g y1 m) w' hS)
  by_cases hat:ri≤y1.commit
  rotate_left
  ·rw[if_neg (fun e=>hat e.2.1)] at hE hB
   refine S_draw ([pt g 89 (mcc y1 m)]) sub_st (by kernel_rfl) O (by kernel_rfl) (by kernel_rfl:_=21) ?_
   refine dp 0 ?_
   refine dp 1 ?_
   refine dp 2 ?_
   refine dp 3 ?_
   refine dt 4 O (T_nilCheck O) ?_
   refine dp 5 ?_
   refine dp 6 ?_
   refine dl 7 ?_
   refine dqF 8 ?_
   refine dp 9 ?_
   refine dp 10 ?_
   refine dk 11 ?_
   refine dk 12 ?_
   refine dk 13 ?_
   refine dk 14 ?_
   refine dk 15 ?_
   refine dk 16 ?_
   refine dk 17 ?_
   refine dk 18 ?_
   refine dk 19 ?_
   refine dp 20 ?_
   refine dn ?_
   skip
   focus (refine qF ?_;refine qx ?_)
   have hfin: ∀ w',St w (owns (mP g x m)) (mP g y1 m) w'→ ∃ y:Mm×Asn,(y.1.S.map Prod.fst=m.S.map Prod.fst++[]∧y.1.i=m.i∧McL y1 y.1∧ ∀ w',K2 D y.2 w'→McR w' y1 y.1)∧St w (owns (mP g x m)) (mP g y1 y.1++[y.2]) w':=fun w' hS=>⟨(m,zN),⟨by simp,O,⟨hyL.hvn,hyL.hpn⟩,fun w2 h2=>hyM w2 h2.1⟩,(zN_in hS).perm (List.perm_append_comm (l₁:=[zN]))⟩
   first
   |exact hE _ _ fun w' hS=>hfin w' (sub_st (H':=mP g y1 m) w' hS)
   |exact hB _ _ _ _ O fun w' hS=>hfin w' (sub_st (H':=mP g y1 m) w' hS)
  cases hq:(C.right (nowL y1)&&decide (y1.me∈nowL y1))
  rotate_left
  ·rw[hq,if_neg (fun e=>by cases e.2.2)] at hE hB
   refine S_draw ([pt g 89 (mcc y1 m)]) sub_st (by kernel_rfl) O (by kernel_rfl) (by kernel_rfl:_=21) ?_
   refine dp 0 ?_
   refine dp 1 ?_
   refine dp 2 ?_
   refine dp 3 ?_
   refine dt 4 O (T_nilCheck O) ?_
   refine dp 5 ?_
   refine dp 6 ?_
   refine dl 7 ?_
   refine dqT 8 ?_
   refine dp 9 ?_
   refine dp 10 ?_
   refine dp 11 ?_
   refine dp 13 ?_
   refine dt 14 O (T_nilCheck O) ?_
   refine dp 15 ?_
   refine dp 16 ?_
   refine dl 17 ?_
   refine D_one 12 O (E_hv1 (f:=43) F43 (fun w1 hS1=>mforce_k w1 g y1 m (mcB_st hS1 (by simp)) D (hD.call0 hS1) (fun w2 h2=>(hyM w2 h2).lg) (nowL y1) O) O O (fun _=>O)) ?_ O O (by kernel_rfl)
   rintro _ _ ⟨⟨⟨A3,K3,c3⟩,Z3⟩,rfl,hI3,rfl⟩
   refine nx ?_
   refine D_one 18 O (E_hv0 (f:=42) F42 (fun w1 hS1=>has14_k w1 A3 (nowL y1).length c3 (nowL y1) y1.me (hI3 w1 ⟨hD.at_ hS1,hS1.at_ (A:=Z3) (by simp)⟩) (by omega) true hq) O O (fun _=>O)) ?_ O O (by kernel_rfl)
   rintro _ _ ⟨_,rfl,_,rfl⟩
   refine nx ?_
   refine dt 19 O (T_not O) ?_
   refine dp 20 ?_
   refine dn ?_
   skip
   focus (refine qF ?_;refine qx ?_)
   have hfin: ∀ w',St w (owns (mP g x m)) (mP g y1 m) w'→ ∃ y:Mm×Asn,(y.1.S.map Prod.fst=m.S.map Prod.fst++[]∧y.1.i=m.i∧McL y1 y.1∧ ∀ w',K2 D y.2 w'→McR w' y1 y.1)∧St w (owns (mP g x m)) (mP g y1 y.1++[y.2]) w':=fun w' hS=>⟨(m,zN),⟨by simp,O,⟨hyL.hvn,hyL.hpn⟩,fun w2 h2=>hyM w2 h2.1⟩,(zN_in hS).perm (List.perm_append_comm (l₁:=[zN]))⟩
   first
   |exact hE _ _ fun w' hS=>hfin w' (sub_st (H':=mP g y1 m) w' hS)
   |exact hB _ _ _ _ O fun w' hS=>hfin w' (sub_st (H':=mP g y1 m) w' hS)
  rw[hq,if_pos ⟨O,hat,O⟩] at hE hB
  refine S_draw ([pt g 89 (mcc y1 m)]) sub_st (by kernel_rfl) O (by kernel_rfl) (by kernel_rfl:_=21) ?_
  refine dp 0 ?_
  refine dp 1 ?_
  refine dp 2 ?_
  refine dp 3 ?_
  refine dt 4 O (T_nilCheck O) ?_
  refine dp 5 ?_
  refine dp 6 ?_
  refine dl 7 ?_
  refine dqT 8 ?_
  refine dp 9 ?_
  refine dp 10 ?_
  refine dp 11 ?_
  refine dp 13 ?_
  refine dt 14 O (T_nilCheck O) ?_
  refine dp 15 ?_
  refine dp 16 ?_
  refine dl 17 ?_
  refine D_one 12 O (E_hv1 (f:=43) F43 (fun w1 hS1=>mforce_k w1 g y1 m (mcB_st hS1 (by simp)) D (hD.call0 hS1) (fun w2 h2=>(hyM w2 h2).lg) (nowL y1) O) O O (fun _=>O)) ?_ O O (by kernel_rfl)
  rintro _ _ ⟨⟨⟨A3,K3,c3⟩,Z3⟩,rfl,hI3,rfl⟩
  refine nx ?_
  refine D_one 18 O (E_hv0 (f:=42) F42 (fun w1 hS1=>has14_k w1 A3 (nowL y1).length c3 (nowL y1) y1.me (hI3 w1 ⟨hD.at_ hS1,hS1.at_ (A:=Z3) (by simp)⟩) (by omega) false hq) O O (fun _=>O)) ?_ O O (by kernel_rfl)
  rintro _ _ ⟨_,rfl,_,rfl⟩
  refine nx ?_
  refine dt 19 O (T_not O) ?_
  refine dqT 20 ?_
  refine dn ?_
  skip
  focus (refine qT ?_;refine qr ?_;refine qp ?_)
  focus ((refine qe (E_htL (f:=72) (mP g y1 m) (fun _:Unit=>mP g (folR y1) (folM m)) F72 (fun w1 hS1 hS2=>mfollow_any w1 g y1 m hS2) O O) ?_;rintro _ _ ⟨_,rfl,_,rfl⟩;dsimp only[List.cons_append,List.nil_append]);refine qz ?_)
  have hfin: ∀ w',St w (owns (mP g x m)) (mP g (folR y1) (folM m)) w'→ ∃ y:Mm×Asn,(y.1.S.map Prod.fst=m.S.map Prod.fst++[]∧y.1.i=m.i∧McL (folR y1) y.1∧ ∀ w',K2 D y.2 w'→McR w' (folR y1) y.1)∧St w (owns (mP g x m)) (mP g (folR y1) y.1++[y.2]) w':=fun w' hS=>⟨((folM m),zN),⟨by simp[folM],O,⟨O,O⟩,fun w2 h2=>⟨(hyM w2 h2.1).lg.like O O O O O O O O,(hyM w2 h2.1).ms⟩⟩,(zN_in hS).perm (List.perm_append_comm (l₁:=[zN]))⟩
  first
  |exact hE _ _ fun w' hS=>hfin w' (sub_st (H':=mP g (folR y1) (folM m)) w' hS)
  |exact hB _ _ _ _ O fun w' hS=>hfin w' (sub_st (H':=mP g (folR y1) (folM m)) w' hS)
 refine RS_zN ?_
 refine RS_row m.p.pA m.p.pn m.p.pc fun _ _ hne _=>?_
 focus (refine qq ?_)
 refine S_draw ([pt g 89 (mcc x m)]) sub_st (by kernel_rfl) O (by kernel_rfl) (by kernel_rfl:_=11) ?_
 refine dp 0 ?_
 refine dt 1 O (T_nilCheck O) ?_
 refine dp 2 ?_
 refine dp 3 ?_
 refine dl 4 ?_
 refine dp 5 ?_
 refine D_one 6 O (E_hv0 (f:=59) F59 (fun w1 hS1=>mlast_k w1 g x m (mcB_st hS1 (by simp)) (h w1 (hD.at_ hS1)).lg) O O (fun _=>O)) ?_ O O (by kernel_rfl)
 rintro _ _ ⟨_,rfl,_,rfl⟩
 refine nx ?_
 refine dt 7 O (T_fldv (xs:=atc (lastP x)) O O O O O O) ?_
 refine dt 8 O (T_build2 O O (mt_built _ _)) ?_
 refine D_one 9 O (E_litS (vs:=[.agg ([zv x.me,C.uv (lastP x).1]:List Value).toArray]) (size:=2) (ds:=[zv x.me,C.uv (lastP x).1]) O O O O O O (by simp[vcells]) O (by omega)) ?_ O O (by kernel_rfl)
 rintro _ _ ⟨vb,rfl,rfl⟩
 refine nx ?_
 refine dp 10 ?_
 refine dn ?_
 skip
 focus (refine qq ?_;refine qs ?_;refine qp ?_;refine qt (T_nilCheck O) ?_;refine qp ?_;refine qp ?_;refine qt (T_load O O O O) ?_;refine qp ?_;refine qp ?_;refine qz ?_;refine qb ?_)
 refine S_loop (X:=Nat×Option Addr×Nat) (fun z=>[(0,.pointer (some ⟨g,0,none⟩)),(2,.slice z.2.1 (z.1+1) z.2.2),(25,.slice m.p.pA m.p.pn m.p.pc),(26,.int .i64 (m.p.pn:Int)),(27,.int .i64 (z.1:Int))]) (fun z=>[row 168 2 z.2.1 (z.1+1) z.2.2 (C.mtc (mtcJ x z.1)),zN,pt g 89 (mcc x m),row 3 1 m.p.vA m.p.vn m.p.vc (x.votes.map zv),row 112 3 m.p.pA m.p.pn m.p.pc (cellsL pec x.peers),row 65 12 m.sA m.S.length m.sc (cellsL sgc m.S)]) (fun z=>z.1≤m.p.pn) (fun z=>m.p.pn-z.1) O (0,some ⟨vb,0,none⟩,1) (Nat.zero_le _) (Sub.cons O (Sub.cons O (Sub.cons O (Sub.cons O (Sub.cons O Sub.nil))))) (fun w' hS=>?_) ?_
 ·have h1:=sub_st (H':=[pt vb 168 [zv x.me,C.uv (lastP x).1],zN,pt g 89 (mcc x m),row 3 1 m.p.vA m.p.vn m.p.vc (x.votes.map zv),row 112 3 m.p.pA m.p.pn m.p.pc (cellsL pec x.peers),row 65 12 m.sA m.S.length m.sc (cellsL sgc m.S)]) w' hS
  exact St.rowOf (e:=168) (size:=2) (g:=vb) (n:=1) (m:=1) h1 Upd.here (Nat.le_refl _) (by unfold maxLen;omega) (by simp)
 rintro⟨j,A5,c5⟩ hj J hJ
 dsimp only at hj ⊢
 rcases Nat.lt_or_ge j m.p.pn with hjl|hjl
 ·have hne':=hne (by omega)
  have hat:=cellsL_at (f:=pec) pec_len x.peers default j (by omega)
  obtain⟨q,hq⟩: ∃ q,x.peers.getD j default=q:=⟨_,O⟩
  rw[hq] at hat
  have hnx:=mtcJ_next x j (by omega) q hq
  focus (refine qs ?_;refine qd ?_;refine qz ?_;refine qq ?_;refine qT ?_;refine qx ?_;refine qq ?_;refine qb ?_;refine qs ?_;refine qt (T_ixM (sz:=3) O O O O O O hne' hjl) ?_;refine qt (T_lda (ds:=pec q) O O O (Srd.row (n:=m.p.pn) (c:=m.p.pc)) O (by omega) hat) ?_;(refine qe (E_alloca O pe_zero) ?_;rintro _ _ ⟨b4,rfl,rfl⟩);(refine qw (E_storew (cs:=pec (0,0,0)) (ds:=pec q) O O O O (pec_one _) O) ?_;rintro _ _ rfl);refine qz ?_;refine qr ?_;refine qp ?_;(iterate 2 refine qp ?_;refine qt (T_load O O O O) ?_);refine qt (T_build2 O O (mt_built _ _)) ?_;(refine qe (E_litS (vs:=[.agg ([zv q.1,C.uv q.2.2]:List Value).toArray]) (size:=2) (ds:=[zv q.1,C.uv q.2.2]) O O O O O O (by simp[vcells]) O (by omega)) ?_;rintro _ _ ⟨vq,rfl,rfl⟩);(refine qe (E_appS (sz:=2) (m:=j+1) (c:=c5) (A:=A5) O O O O O O O (by decide) (Srd.pt (n:=1) (g:=vq) (ds:=[zv q.1,C.uv q.2.2]) O (fun j u hj=>by rw[Nat.zero_add];exact hj)) (by simp[zv,C.uv,Value.oneCell']) (by show (j+1+1)*16≤_;omega) (by unfold maxLen;omega)) ?_;rintro _ _ ⟨A7,c7,rfl,rfl⟩);refine qp ?_;refine qz ?_;refine RS_blk ?_;refine qr ?_;refine qt (T_addN O O (by unfold fits;omega)) ?_;refine qp ?_;refine qz ?_)
  refine hJ (j+1,A7,c7) _ _ (by show j+1≤_;omega) (Sub.cons O (Sub.cons O (Sub.cons O (Sub.cons O (Sub.cons O Sub.nil))))) (fun w' hS=>?_) (by show m.p.pn-(j+1)<_;omega)
  dsimp only
  rw[hnx]
  exact sub_st (H':=[row 168 2 A7 (j+1+1) c7 (C.mtc (mtcJ x j)++[zv q.1,C.uv q.2.2]),zN,pt g 89 (mcc x m),row 3 1 m.p.vA m.p.vn m.p.vc (x.votes.map zv),row 112 3 m.p.pA m.p.pn m.p.pc (cellsL pec x.peers),row 65 12 m.sA m.S.length m.sc (cellsL sgc m.S)]) w' hS
 obtain rfl:j=m.p.pn:=by omega
 rw[show mtcJ x m.p.pn=mtcL x by rw[← hpl];exact mtcJ_all x]
 by_cases h1:x.commit<n
 ·by_cases h2:t=x.term
  ·have hc:comN x=n:=by unfold comN;rw[hn,ht];exact if_pos ⟨h1,h2⟩
   repeat' (first|refine R_take (T_decT O (by omega)) ?_ O O|refine R_take (T_decF O (by omega)) ?_ O O|refine R_p O ?_ O O|refine R_nil ?_|refine R_take (T_nilCheck O) ?_ O O|refine R_take (T_loads (ds:=lgc x.base m.p.A m.p.n m.p.c) O O O O O) ?_ O O|refine R_take (T_load O O O O) ?_ O O|refine S_seq O ?_|refine S_region O O ?_|refine S_true O O ?_|refine S_false O O ?_|refine S_exit O O ?_|(refine R_eff (E_hv1 (f:=43) F43 (fun w1 hS1=>mforce_k w1 g x m (mcB_st hS1 (by simp)) D (hD.call0 hS1) (fun w2 h2=>(h w2 h2).lg) (nowL x) O) O O (fun _=>O)) ?_ O O;rintro _ _ ⟨⟨⟨A3,K3,c3⟩,Z3⟩,rfl,hI3,rfl⟩)|(refine R_eff (E_hv0 (f:=131) F131 (fun w1 hS1=>agr_k w1 A3 A5 (nowL x).length c3 (m.p.pn+1) c5 (nowL x) (mtcL x) (hI3 w1 ⟨hD.at_ hS1,hS1.at_ (A:=Z3) (by simp)⟩) (row_rd (hS1.at_ (A:=row 168 2 A5 (m.p.pn+1) c5 (C.mtc (mtcL x))) (by simp))) (by omega) (by omega) n hn) O O (fun _=>O)) ?_ O O;rintro _ _ ⟨_,rfl,_,rfl⟩)|(refine R_eff (E_hv0 (f:=51) F51 (fun w1 hS1=>term_k w1 x.base m.p.A m.p.c m.p.n m.p.Q x.es hw.hn hw.hQ (h w1 (hD.at_ hS1)).lg.rq hn1 n _ ht) O O (fun _=>O)) ?_ O O;rintro _ _ ⟨_,rfl,_,rfl⟩)|(refine R_eff0 (E_storeA1 (cs:=mcc x m) (cs':=mcc y1 m) O O O O O (by rw[hy1,hc];rfl) (by show _<16;omega)) ?_ O;rintro _ _ rfl))
   exact RS_sub (Sub.cons O Sub.nil) (RS_mem (fun w' hS=>by rw[hyv,hyp];exact sub_st (H':=[pt g 89 (mcc y1 m),row 3 1 m.p.vA m.p.vn m.p.vc (x.votes.map zv),row 112 3 m.p.pA m.p.pn m.p.pc (cellsL pec x.peers),row 65 12 m.sA m.S.length m.sc (cellsL sgc m.S)]) w' hS) htail)
  ·have hc:y1=x:=by rw[hy1];unfold comN;rw[hn,ht,if_neg (fun e=>h2 e.2)]
   repeat' (first|refine R_take (T_decT O (by omega)) ?_ O O|refine R_take (T_decF O (by omega)) ?_ O O|refine R_p O ?_ O O|refine R_nil ?_|refine R_take (T_nilCheck O) ?_ O O|refine R_take (T_loads (ds:=lgc x.base m.p.A m.p.n m.p.c) O O O O O) ?_ O O|refine R_take (T_load O O O O) ?_ O O|refine S_seq O ?_|refine S_region O O ?_|refine S_false O O ?_|refine S_exit O O ?_|refine S_skip O ?_|(refine R_eff (E_hv1 (f:=43) F43 (fun w1 hS1=>mforce_k w1 g x m (mcB_st hS1 (by simp)) D (hD.call0 hS1) (fun w2 h2=>(h w2 h2).lg) (nowL x) O) O O (fun _=>O)) ?_ O O;rintro _ _ ⟨⟨⟨A3,K3,c3⟩,Z3⟩,rfl,hI3,rfl⟩)|(refine R_eff (E_hv0 (f:=131) F131 (fun w1 hS1=>agr_k w1 A3 A5 (nowL x).length c3 (m.p.pn+1) c5 (nowL x) (mtcL x) (hI3 w1 ⟨hD.at_ hS1,hS1.at_ (A:=Z3) (by simp)⟩) (row_rd (hS1.at_ (A:=row 168 2 A5 (m.p.pn+1) c5 (C.mtc (mtcL x))) (by simp))) (by omega) (by omega) n hn) O O (fun _=>O)) ?_ O O;rintro _ _ ⟨_,rfl,_,rfl⟩)|(refine R_eff (E_hv0 (f:=51) F51 (fun w1 hS1=>term_k w1 x.base m.p.A m.p.c m.p.n m.p.Q x.es hw.hn hw.hQ (h w1 (hD.at_ hS1)).lg.rq hn1 n _ ht) O O (fun _=>O)) ?_ O O;rintro _ _ ⟨_,rfl,_,rfl⟩))
   exact RS_sub (Sub.cons O Sub.nil) (RS_mem (fun w' hS=>by rw[hc];exact sub_st (H':=[pt g 89 (mcc x m),row 3 1 m.p.vA m.p.vn m.p.vc (x.votes.map zv),row 112 3 m.p.pA m.p.pn m.p.pc (cellsL pec x.peers),row 65 12 m.sA m.S.length m.sc (cellsL sgc m.S)]) w' hS) htail)
 ·have hc:y1=x:=by rw[hy1];unfold comN;rw[hn,ht,if_neg (fun e=>h1 e.1)]
  focus (refine qs ?_;refine qf ?_;refine qz ?_;refine qq ?_;refine qF ?_;refine S_exit O O ?_;refine qs ?_;refine qp ?_;(refine qe (E_hv1 (f:=43) F43 (fun w1 hS1=>mforce_k w1 g x m (mcB_st hS1 (by simp)) D (hD.call0 hS1) (fun w2 h2=>(h w2 h2).lg) (nowL x) O) O O (fun _=>O)) ?_;rintro _ _ ⟨⟨⟨A3,K3,c3⟩,Z3⟩,rfl,hI3,rfl⟩);refine qp ?_;refine qh F131 (fun w1 hS1=>agr_k w1 A3 A5 (nowL x).length c3 (m.p.pn+1) c5 (nowL x) (mtcL x) (hI3 w1 ⟨hD.at_ hS1,hS1.at_ (A:=Z3) (by simp)⟩) (row_rd (hS1.at_ (A:=row 168 2 A5 (m.p.pn+1) c5 (C.mtc (mtcL x))) (by simp))) (by omega) (by omega) n hn) ?_;refine qp ?_;refine qz ?_;refine qq ?_;refine qs ?_;refine qp ?_;refine qt (T_nilCheck O) ?_;refine qp ?_;refine qp ?_;refine qt (T_loads (ds:=lgc x.base m.p.A m.p.n m.p.c) O O O O O) ?_;refine qp ?_;refine qh F51 (fun w1 hS1=>term_k w1 x.base m.p.A m.p.c m.p.n m.p.Q x.es hw.hn hw.hQ (h w1 (hD.at_ hS1)).lg.rq hn1 n _ ht) ?_;(iterate 5 refine qp ?_);refine qn ?_;refine qp ?_;refine qp ?_;refine qt (T_nilCheck O) ?_;refine qp ?_;refine qp ?_;refine qt (T_load O O O O) ?_;refine qf ?_;refine qp ?_;(iterate 7 refine qk ?_);refine qp ?_;refine qz ?_;refine qF ?_;refine qx ?_;refine qq ?_)
  exact RS_sub (Sub.cons O Sub.nil) (RS_mem (fun w' hS=>by rw[hc];exact sub_st (H':=[pt g 89 (mcc x m),row 3 1 m.p.vA m.p.vn m.p.vc (x.votes.map zv),row 112 3 m.p.pA m.p.pn m.p.pc (cellsL pec x.peers),row 65 12 m.sA m.S.length m.sc (cellsL sgc m.S)]) w' hS) htail)
theorem nextM_le (x:Rs) (n:Int):(nextM x n).length≤1:=by
 unfold nextM
 split
 ·exact Nat.zero_le _
 ·split<;>exact Nat.le_refl _
theorem lackM_le (x:Rs) (n:Int):(lackM x n).length≤1:=by
 unfold lackM
 split
 ·exact Nat.zero_le _
 ·split
  ·exact nextM_le x n
  ·exact Nat.zero_le _
theorem comR_peers (x:Rs):(comR x).peers.length≤x.peers.length:=by
 unfold comR
 split
 ·exact Nat.zero_le _
 ·exact Nat.le_refl _
def logM (m:Mm) (A:Option Addr) (n c:Nat) (Q:List Em):Mm:=⟨⟨A,n,c,Q,m.p.cA,m.p.cn,m.p.cc,m.p.vA,m.p.vn,m.p.vc,m.p.pA,m.p.pn,m.p.pc⟩,m.S,m.sA,m.sc,m.i⟩
def logX (x:Rs) (b:At) (es:List En):Rs:={x with base:=b,es:=es}
theorem prop2_any (w:World) (g:Nat) (x:Rs) (m:Mm) (hS0:St w (owns (mP g x m)) (mP g x m) w) (D:Kw) (hD:Kd D (mP g x m) w) (h: ∀ w',D w'→McR w' x m) (hl:McL x m) (bl:Nat) (b:At) (es:List En) (A:Option Addr) (n c:Nat) (Q:List Em) (hbl: ∀ w',D w'→Rd w' All 1 (some ⟨bl,0,none⟩) 3 (lgc b A n c)) (hlg: ∀ w',D w'→LgR w' (logX x b es) (logM m A n c Q).p)
  (hpn:m.p.pn≤800) (h5:(nowL (logX x b es)).length≤5) (hSm:m.S.length≤800) (hu2:RsU (comR (logX x b es))) (h52:(nowL (comR (logX x b es))).length≤5):
  Mth g x (comR (logX x b es)) m ((felL (comR (logX x b es))).flatMap (lackM (comR (logX x b es)))) m.i D 55 [.pointer (some ⟨bl,0,none⟩)] w:=by
 unfold Mth
 refine gives_MN Tryz.func55 O Tryz.ntmps55 Tryz.results55 (by simp) hS0 (fun B hE0 hR0 hEM=>?_)
 obtain⟨x1,hx1⟩: ∃ y,y=logX x b es:=⟨_,O⟩
 obtain⟨m1,hm1⟩: ∃ y,y=logM m A n c Q:=⟨_,O⟩
 rw[← hx1] at hEM hE0 hR0 hlg h5 hu2 h52
 rw[← hm1] at hlg
 obtain⟨x2,hx2⟩: ∃ y,y=comR x1:=⟨_,O⟩
 rw[← hx2] at hEM hE0 hR0 hu2 h52
 have hM1: ∀ w',D w'→McR w' x1 m1:=fun w' h'=>⟨hlg w' h',by rw[hm1];exact(h w' h').ms⟩
 have hL1:McL x1 m1:=by rw[hx1,hm1];exact⟨hl.hvn,hl.hpn⟩
 have hp1:x1.peers.length≤800:=by rw[hx1];show x.peers.length≤800;rw[hl.hpn];exact hpn
 have hcv: ∀ b1 w',St w (owns (mP g x m)) [pt b1 87 [.pointer (some ⟨g,0,none⟩)],pt g 89 (mcc x1 m1),row 3 1 m.p.vA m.p.vn m.p.vc (x.votes.map zv),row 112 3 m.p.pA m.p.pn m.p.pc (cellsL pec x.peers),row 65 12 m.sA m.S.length m.sc (cellsL sgc m.S)] w'→St w (owns (mP g x m)) ([zN,pt g 89 (mcc x1 m1),row 3 1 m1.p.vA m1.p.vn m1.p.vc (x1.votes.map zv),row 112 3 m1.p.pA m1.p.pn m1.p.pc (cellsL pec x1.peers),row 65 12 m1.sA m1.S.length m1.sc (cellsL sgc m1.S),pt b1 87 [.pointer (some ⟨g,0,none⟩)]]) w':=fun b1 w' hS=>zN_in (by
  have h9:=sub_st (H':=[pt g 89 (mcc x1 m1),row 3 1 m.p.vA m.p.vn m.p.vc (x.votes.map zv),row 112 3 m.p.pA m.p.pn m.p.pc (cellsL pec x.peers),row 65 12 m.sA m.S.length m.sc (cellsL sgc m.S),pt b1 87 [.pointer (some ⟨g,0,none⟩)]]) w' hS
  rw[hx1,hm1] at h9 ⊢
  exact h9)
 have hcm: ∀ (w1:World),St w1 (owns (mP g x1 m1)) (mP g x1 m1) w1→Kd (K2 D zN) (mP g x1 m1) w1→Gives Tryz.prog 56 [.pointer (some ⟨g,0,none⟩)] (mP g x1 m1) w1 (X:=Mm×Asn) (fun _=> .tuple #[]) (fun y=>y.1.S.map Prod.fst=m1.S.map Prod.fst++[]∧y.1.i=m1.i∧McL x2 y.1∧ ∀ w',K2 (K2 D zN) y.2 w'→McR w' x2 y.1) (fun y=>mP g x2 y.1++[y.2]):=fun w1 hS1 hk=>by
  have h9:=mcommit_any w1 g x1 m1 hS1 (K2 D zN) hk (fun w2 h2=>hM1 w2 h2.1) hL1 h5 hp1
  unfold Mth at h9
  rw[← hx2] at h9
  exact h9
 focus (refine qs ?_;(refine qe (E_box1 (v:= .pointer (some ⟨g,0,none⟩)) O O) ?_;rintro _ _ ⟨b1,rfl,rfl⟩);refine qn ?_;refine qt (T_load O O O O) ?_;refine qt (T_ldqs (m:=3) (xs:=lgc b A n c) (ds:=lgc b A n c) O O O (fun w1 hS1=>hbl w1 (hD.at_ hS1)) O (by decide) O) ?_;refine qt (T_nilCheck O) ?_;refine qp ?_;refine qp ?_;(refine qw (E_storeA (gb:=g) (t:=89) (cs:=mcc x m) (ds:=lgc b A n c) (cs':=mcc x1 m1) O O O O (lgc_one _ _ _ _) (by rw[hx1,hm1];rfl) (by show 3+3≤16;omega)) ?_;rintro _ _ rfl);refine qn ?_;refine qt (T_load O O O O) ?_;(refine qe (Ef.pre (hcv b1) (E_mthL (f:=56) (D:=D) (Z:=zN) (mP g x1 m1) (fun z:Mm×Asn=>mP g x2 z.1) hD F56 (fun w1 _ hk hS1=>hcm w1 hS1 hk) O O)) ?_;rintro _ _ ⟨⟨m2,C2⟩,Z0,rfl,⟨hm2S,hm2i,hl2,hm2R⟩,hold0,hnew0,rfl⟩;dsimp only[List.cons_append,List.nil_append] at hm2S hm2i hl2 hm2R ⊢);refine qn ?_;refine qt (T_load O O O O) ?_;(refine qe (E_hv1 (f:=57) F57 (fun w1 hS1=>fellows_any w1 g) O O (fun _=>O)) ?_;rintro _ _ ⟨b2,rfl,_,rfl⟩);refine qz ?_;refine qb ?_)
 have hm2S:m2.S.map Prod.fst=m.S.map Prod.fst:=by rw[hm2S,List.append_nil,hm1];rfl
 have hm2i:m2.i=m.i:=by rw[hm2i,hm1];rfl
 have hSm2:m2.S.length≤800:=by
  have:=congrArg List.length hm2S
  rw[List.length_map,List.length_map] at this
  omega
 have hpn2:m2.p.pn≤900:=by
  have h7:=comR_peers x1
  rw[← hx2,hl2.hpn] at h7
  omega
 have h1: ∀ w',KL D [Z0] w'→McR w' x2 m2:=fun w' h'=>hm2R w' (hnew0 w' ⟨h'.1,h'.2 Z0 (by simp)⟩)
 have huA:=hu2
 have hfl:(felL x2).length≤5:=Nat.le_trans (List.length_filter_le _ _) h52
 have hnl:(nowL x2).length≤5:=h52
 refine RS_zN ?_
 refine S_rangeR (D0:=KL D [pt b2 87 [.pointer (some ⟨g,0,none⟩)],Z0]) (R0:=fun w'=>McB w' g x2 (appM m2 ([],m2.sA,m2.sc))) (R:=fun w'=>w'.cell? ⟨g,0,none⟩=some (.int .i64 x2.me)) (es:=(felL x2).map fun n=>[zv n]) (ps:=[14]) (X:=(List (Ms×Mp)×Option Addr×Nat)×Asn) (fun y=>y.2::mP g x2 (appM m2 y.1)) (fun i y=>y.1.1.map Prod.fst=((felL x2).take i).flatMap (lackM x2)∧ ∀ w',K2 (KL D [Z0]) y.2 w'→ ∀ s∈y.1.1,MsR w' s.1 s.2) (fun i y=>False) (([],m2.sA,m2.sc),zN) [pt b2 87 [.pointer (some ⟨g,0,none⟩)],pt b1 87 [.pointer (some ⟨g,0,none⟩)],Z0] O O F132 (by kernel_rfl) (fun e he=>?_) ⟨O,fun _ _ s hs=>absurd hs (by simp)⟩ (fun w' hS=>?_) (fun w' hS=>?_) (fun w' hS=>hD.subL hS (by simp)) (fun w' hw=>mcB_of (hw (pt g 89 (mcc x2 (appM m2 ([],m2.sA,m2.sc)))) (by simp))) (fun i y w' _ hw=>mc_me (x:=x2) (hw (pt g 89 (mcc x2 (appM m2 y.1))) (by simp))) (fun j y w' hx hj hS=>?_) (fun y Dd hy=>?_) (fun y Dd j hj hy=>absurd hy id)
 ·obtain⟨n,_,rfl⟩:=List.mem_map.1 he
  rfl
 ·rw[appM_nil]
  exact sub_st (H':=[zN,pt g 89 (mcc x2 m2),row 3 1 m2.p.vA m2.p.vn m2.p.vc (x2.votes.map zv),row 112 3 m2.p.pA m2.p.pn m2.p.pc (cellsL pec x2.peers),row 65 12 m2.sA m2.S.length m2.sc (cellsL sgc m2.S),pt b2 87 [.pointer (some ⟨g,0,none⟩)],pt b1 87 [.pointer (some ⟨g,0,none⟩)],Z0]) w' hS
 ·exact fellows_iter w' g b2 x2 (appM m2 ([],m2.sA,m2.sc)) _ (fun w2 h2=>(h1 w2 ⟨h2.1,fun A hA=>h2.2 A (List.mem_cons_of_mem _ hA)⟩).lg) (fun w2 h2=>pt_cell (t:=87) (h2.2 (pt b2 87 [.pointer (some ⟨g,0,none⟩)]) (by simp))) (nowL x2) O (by omega)
 ·rw[List.length_map] at hj
  obtain⟨n,hn⟩: ∃ n,(felL x2).getD j 0=n:=⟨_,O⟩
  have htk:(felL x2).take (j+1)=(felL x2).take j++[n]:=by rw[List.take_succ_eq_append_getElem hj];simp[List.getD,hj, ← hn]
  have hge:((felL x2).map fun n=>[zv n]).getD j []=[zv n]:=by rw[← hn];simp[List.getD,hj]
  rw[hge]
  obtain⟨⟨N,AN,cN⟩,Zy⟩:=y
  obtain⟨hx1,hx2⟩:=hx
  dsimp only at hx1 hx2
  have hNl:N.length≤5:=by
   have e1:N.length=(((felL x2).take j).flatMap (lackM x2)).length:=by rw[← hx1,List.length_map]
   rw[e1]
   refine Nat.le_trans (flat_len (fun a=>?_) _) ?_
   ·exact lackM_le x2 a
   ·rw[List.length_take]
    omega
  intro l2 rA rB Ba Bb J hfull hbeg hend hret
  have hC1:=rd_kept (b:=b1) (As:=rA::Zy::mP g x2 (appM m2 (N,AN,cN))) hfull O
  have hDr:Kd (KL D [Z0]) (rA::Zy::mP g x2 (appM m2 (N,AN,cN))) w':=hD.subL hfull (by simp)
  have hms: ∀ w2,K2 (KL D [Z0]) Zy w2→McR w2 x2 (appM m2 (N,AN,cN)):=fun w2 h2=>⟨(h1 w2 h2.1).lg,fun s hs=>by
   rcases List.mem_append.1 hs with hs|hs
   ·exact(h1 w2 h2.1).ms s hs
   ·exact hx2 w2 h2 s hs⟩
  have hSl:(appM m2 (N,AN,cN)).S.length≤900:=by
   show (m2.S++N).length≤900
   rw[List.length_append]
   have:m2.S.length≤800:=hSm2
   omega
  focus (refine qr ?_;refine qp ?_;refine qz ?_)
  refine hbeg _ (Zy::mP g x2 (appM m2 (N,AN,cN))) _ ?_ sub_st
  have hlA:McL x2 (appM m2 (N,AN,cN)):=⟨hl2.hvn,hl2.hpn⟩
  have hpnA:(appM m2 (N,AN,cN)).p.pn≤900:=hpn2
  have hlpA:x2.peers.length=(appM m2 (N,AN,cN)).p.pn:=hl2.hpn
  obtain⟨P,hP⟩: ∃ P,peP x2 (appM m2 (N,AN,cN)) n=P:=⟨_,O⟩
  have hnm:lackM x2 n=match x2.peers.find? (fun p=>decide (p.1=n)) with
   |none=>[]
   |some p=>if p.2.1≤(lastP x2).1 then nextM x2 n else []:=rfl
  have hw2:=(h1 w' hDr.now).lg
  cases hf:x2.peers.find? (fun p=>decide (p.1=n)) with
  |none=>
   rw[hf] at hnm
   dsimp only at hnm
   obtain rfl:P=none:=by rw[← hP,peP,find_none hf];rfl
   focus (refine qb ?_;refine qs ?_;refine qt (T_loadg (v:= .pointer (some ⟨g,0,none⟩)) O O O hC1 (fun k hk=>hk) O) ?_;refine qp ?_;refine qh F58 (fun w1 hS1=>peer_k w1 g x2 (appM m2 (N,AN,cN)) (mcB_st hS1 (by simp)) ((Srd.row (n:=(appM m2 (N,AN,cN)).p.pn) (c:=(appM m2 (N,AN,cN)).p.pc)).rd w1 hS1) hlpA hpnA n _ hP) ?_;refine qp ?_;refine qz ?_;refine qq ?_)
   refine S_drawR ([pt g 89 (mcc x2 (appM m2 (N,AN,cN))),row 112 3 (appM m2 (N,AN,cN)).p.pA (appM m2 (N,AN,cN)).p.pn (appM m2 (N,AN,cN)).p.pc (cellsL pec x2.peers)]) sub_st (by kernel_rfl) O (by kernel_rfl) (by kernel_rfl) (by kernel_rfl:_=12) ?_
   refine dp 0 ?_
   refine dt 1 O (T_nePN (r:=false) O O O O O) ?_
   refine dp 2 ?_
   refine dk 3 ?_
   refine dk 4 ?_
   refine dk 5 ?_
   refine dk 6 ?_
   refine dk 7 ?_
   refine dk 8 ?_
   refine dk 9 ?_
   refine dk 10 ?_
   refine dp 11 ?_
   refine dn ?_
   skip
   focus (refine qF ?_;refine qx ?_;refine RS_blk ?_)
   refine hend ((N,AN,cN),Zy) _ _ ⟨?_,hx2⟩ sub_st
   dsimp only
   rw[htk,List.flatMap_append,hx1,List.flatMap_cons,List.flatMap_nil,hnm]
   simp
  |some q=>
   rw[hf] at hnm
   obtain⟨i,hil,hix,hgi,_⟩:=find_some hf
   obtain rfl:P=pa (appM m2 (N,AN,cN)).p.pA (i*3):=by rw[← hP,peP,hix,if_pos (by omega)];rfl
   obtain⟨kqw,kqn,kqm⟩:=q
   dsimp only at hnm
   have hat:=cellsL_at (f:=pec) pec_len x2.peers default i hil
   rw[hgi] at hat
   have hat1:(cellsL pec x2.peers)[i*3+1]? =some (.int .u64 (kqn:Int)):=hat 1 _ O
   refine RS_row (appM m2 (N,AN,cN)).p.pA (appM m2 (N,AN,cN)).p.pn (appM m2 (N,AN,cN)).p.pc fun _ _ hneR _=>?_
   have hne:(appM m2 (N,AN,cN)).p.pA≠none:=hneR (by omega)
   obtain⟨AP,hAP⟩: ∃ A,pa (appM m2 (N,AN,cN)).p.pA (i*3)=some A:=by
    cases hpA:(appM m2 (N,AN,cN)).p.pA with
    |none=>exact absurd hpA hne
    |some ad=>exact⟨_,O⟩
   focus (refine qb ?_;refine qs ?_;refine qt (T_loadg (v:= .pointer (some ⟨g,0,none⟩)) O O O hC1 (fun k hk=>hk) O) ?_;refine qp ?_;refine qh F58 (fun w1 hS1=>peer_k w1 g x2 (appM m2 (N,AN,cN)) (mcB_st hS1 (by simp)) ((Srd.row (n:=(appM m2 (N,AN,cN)).p.pn) (c:=(appM m2 (N,AN,cN)).p.pc)).rd w1 hS1) hlpA hpnA n _ hP) ?_;refine qp ?_;refine qz ?_;refine qq ?_)
   by_cases hle:kqn≤(lastP x2).1
   ·rw[if_pos hle] at hnm
    refine S_drawR ([pt g 89 (mcc x2 (appM m2 (N,AN,cN))),row 112 3 (appM m2 (N,AN,cN)).p.pA (appM m2 (N,AN,cN)).p.pn (appM m2 (N,AN,cN)).p.pc (cellsL pec x2.peers)]) sub_st (by kernel_rfl) O (by kernel_rfl) (by kernel_rfl) (by kernel_rfl:_=12) ?_
    refine dp 0 ?_
    (refine dt 1 O (T_nePN (r:=true) O O O O (by rw[hAP];rfl)) ?_)
    refine dp 2 ?_
    refine dp 3 ?_
    refine dt 4 O (T_nilP O hne) ?_
    refine dt 5 O (T_fap O O O O O hne) ?_
    refine dt 6 O (T_ldr (v:= .int .u64 (kqn:Int)) O O O (Srd.row (n:=(appM m2 (N,AN,cN)).p.pn) (c:=(appM m2 (N,AN,cN)).p.pc)) (by omega) hat1) ?_
    refine dt 7 O (T_loadg (v:= .pointer (some ⟨g,0,none⟩)) O O O hC1 (fun k hk=>hk) O) ?_
    refine D_one 8 O (E_hv0 (f:=59) F59 (fun w1 hS1=>mlast_k w1 g x2 (appM m2 (N,AN,cN)) (mcB_st hS1 (by simp)) (h1 w1 (hDr.at_ hS1)).lg) O O (fun _=>O)) ?_ O O (by kernel_rfl)
    rintro _ _ ⟨_,rfl,_,rfl⟩
    refine nx ?_
    refine dt 9 O (T_fldv (xs:=atc (lastP x2)) O O O O O O) ?_
    refine dqT 10 ?_
    refine dqT 11 ?_
    refine dn ?_
    skip
    focus (refine qT ?_;refine qr ?_;refine qt (T_loadg (v:= .pointer (some ⟨g,0,none⟩)) O O O hC1 (fun k hk=>hk) O) ?_;refine qp ?_;(refine qe (E_mthL (f:=60) (D:=(KL D [Z0])) (Z:=Zy) (mP g x2 (appM m2 (N,AN,cN))) (fun z:(List (Ms×Mp)×Option Addr×Nat)×Asn=>mP g x2 (appM (appM m2 (N,AN,cN)) z.1)) hDr F60 (fun w1 _ hk hS1=>next_any w1 g x2 (appM m2 (N,AN,cN)) hS1 (K2 (KL D [Z0]) Zy) hk (fun w2 h2=>hms w2 h2) hlA hpnA huA hSl n) O O) ?_;rintro _ _ ⟨⟨⟨N2,A2,c2⟩,C2⟩,Z',rfl,⟨hI1,hI2⟩,hold,hnew,rfl⟩;dsimp only[List.cons_append,List.nil_append] at hI1 hI2 ⊢);refine qz ?_;refine RS_blk ?_)
    refine hend ((N++N2,A2,c2),Z') _ _ ⟨?_,fun w2 h2 s hs=>?_⟩ ?_
    ·dsimp only
     rw[htk,List.flatMap_append,List.map_append,hx1,hI1,List.flatMap_cons,List.flatMap_nil,hnm,List.append_nil]
    ·rcases List.mem_append.1 hs with hs|hs
     ·exact hx2 w2 (hold w2 h2) s hs
     ·exact hI2 w2 (hnew w2 h2) s hs
    ·have e:appM (appM m2 (N,AN,cN)) (N2,A2,c2)=appM m2 (N++N2,A2,c2):=by simp[appM,List.append_assoc]
     dsimp only
     rw[← e]
     exact sub_st
   ·rw[if_neg hle] at hnm
    refine S_drawR ([pt g 89 (mcc x2 (appM m2 (N,AN,cN))),row 112 3 (appM m2 (N,AN,cN)).p.pA (appM m2 (N,AN,cN)).p.pn (appM m2 (N,AN,cN)).p.pc (cellsL pec x2.peers)]) sub_st (by kernel_rfl) O (by kernel_rfl) (by kernel_rfl) (by kernel_rfl:_=12) ?_
    refine dp 0 ?_
    (refine dt 1 O (T_nePN (r:=true) O O O O (by rw[hAP];rfl)) ?_)
    refine dp 2 ?_
    refine dp 3 ?_
    refine dt 4 O (T_nilP O hne) ?_
    refine dt 5 O (T_fap O O O O O hne) ?_
    refine dt 6 O (T_ldr (v:= .int .u64 (kqn:Int)) O O O (Srd.row (n:=(appM m2 (N,AN,cN)).p.pn) (c:=(appM m2 (N,AN,cN)).p.pc)) (by omega) hat1) ?_
    refine dt 7 O (T_loadg (v:= .pointer (some ⟨g,0,none⟩)) O O O hC1 (fun k hk=>hk) O) ?_
    refine D_one 8 O (E_hv0 (f:=59) F59 (fun w1 hS1=>mlast_k w1 g x2 (appM m2 (N,AN,cN)) (mcB_st hS1 (by simp)) (h1 w1 (hDr.at_ hS1)).lg) O O (fun _=>O)) ?_ O O (by kernel_rfl)
    rintro _ _ ⟨_,rfl,_,rfl⟩
    refine nx ?_
    refine dt 9 O (T_fldv (xs:=atc (lastP x2)) O O O O O O) ?_
    refine dqF 10 ?_
    refine dp 11 ?_
    refine dn ?_
    skip
    focus (refine qF ?_;refine qx ?_;refine RS_blk ?_)
    refine hend ((N,AN,cN),Zy) _ _ ⟨?_,hx2⟩ sub_st
    dsimp only
    rw[htk,List.flatMap_append,hx1,List.flatMap_cons,List.flatMap_nil,hnm]
    simp
 ·simp only[List.cons_append,List.nil_append]
  focus (refine RS_blk ?_)
  refine hEM _ _ _ _ inferInstance fun w' hS=>⟨(appM m2 y.1,zA Z0 y.2),?_,?_⟩
  ·rw[List.length_map,List.take_length] at hy
   refine⟨?_,hm2i,⟨hl2.hvn,hl2.hpn⟩,fun w2 h2=>?_⟩
   ·show (m2.S++y.1.1).map Prod.fst=_
    rw[List.map_append,hm2S,hy.1]
   ·have h3:KL D [Z0] w2:=⟨h2.1,fun A hA=>by
     obtain rfl:A=Z0:=by simpa using hA
     exact zA_l h2.2⟩
    refine⟨(h1 w2 h3).lg,fun s hs=>?_⟩
    rcases List.mem_append.1 hs with hs|hs
    ·exact(h1 w2 h3).ms s hs
    ·exact hy.2 w2 ⟨h3,zA_r h2.2⟩ s hs
  ·exact(zA_in (sub_st (H':=Z0::y.2::mP g x2 (appM m2 y.1)) w' hS)).perm (List.perm_append_comm (l₁:=[zA Z0 y.2]))
def chgB (x:Rs) (d:List UInt8):Bool:=((confR x.base x.es (lastP x).1).2.2&&decide (x.commit<(confR x.base x.es (lastP x).1).1))|| !decide ((termR x.base x.es x.commit).1=x.term)|| !decide (C.stpE (nowL x) (C.decL d)=0)
def prA (x:Rs) (k:Int) (d:List UInt8):Int×At×At×List En:=app x.base x.es (x.term,k,d)
def prpC (x:Rs) (k:Int) (d:List UInt8):Int:=
 if (¬ k=2∧ ¬ k=3)∨1024<d.length∨(k=3∧saysB d=false) then 2 else if ¬ x.role=4 then 251 else if k=3∧chgB x d=true then 252 else (prA x k d).1
def prpR (x:Rs) (k:Int) (d:List UInt8):Rs:=if prpC x k d=0 then comR (logX x (prA x k d).2.2.1 (prA x k d).2.2.2) else rs0
def prpM (x:Rs) (k:Int) (d:List UInt8):List Ms:=if prpC x k d=0 then (felL (prpR x k d)).flatMap (lackM (prpR x k d)) else []
def prpA (x:Rs) (k:Int) (d:List UInt8):At:=if prpC x k d=0 then (prA x k d).2.1 else (0,0)
theorem prp_no {x:Rs} {k:Int} {d:List UInt8} {e:Int} (h:prpC x k d=e) (h0:e≠0):prpR x k d=rs0∧prpM x k d=[]∧prpA x k d=(0,0):=
 ⟨if_neg (h▸h0),if_neg (h▸h0),if_neg (h▸h0)⟩
theorem lg_rd {b:Nat} {a:At} {A:Option Addr} {n c:Nat} {w:World} (h:(pt b 39 (lgc a A n c)).holds w):Rd w All 1 (some ⟨b,0,none⟩) 3 (lgc a A n c):=
 (Srd.pt (w0:=w) (M:=fun k=>k=b) (H:=[pt b 39 (lgc a A n c)]) (g:=b) (t:=39) (n:=3) (size:=1) (off:=0) (cs:=lgc a A n c) (ds:=lgc a A n c) O (fun j u hj=>by rw[Nat.zero_add];exact hj)).rd w ⟨Kp.refl _ _,fun A' hA=>by
  obtain rfl:A'=pt b 39 (lgc a A n c):=by simpa using hA
  refine⟨h,fun k hk=>?_⟩
  obtain rfl:k=b:=hk
  exact⟨.inl O,(Array.getElem?_eq_some_iff.1 h).1⟩,List.pairwise_singleton _ _⟩
theorem comR_cf (x:Rs):(comR x).cf=x.cf:=by
 unfold comR
 split<;>rfl
theorem comR_votes (x:Rs):(comR x).votes.length≤x.votes.length:=by
 unfold comR
 split
 ·exact Nat.zero_le _
 ·exact Nat.le_refl _
theorem chk_peers {x:Rs} (h:checkB x=true):x.peers.length≤5:=by
 have h1:roleB x (lastP x).1=true:=by
  simp only[checkB,Bool.and_eq_true] at h
  exact h.2
 by_cases h4:x.role=4
 ·rw[roleB_4 _ _ h4,Bool.and_eq_true] at h1
  rw[prs_len _ _ _ h1.2]
  exact oth_len _
 ·simp only[roleB,Bool.and_eq_true,if_neg h4,decide_eq_true_eq] at h1
  omega
theorem prp_out {a:At} {l:List En} {y:En} {e:Int} {p b:At} {r:List En} (hd1: ∀ e∈l,e.2.2.length≤100000) (hd2:y.2.2.length≤100000) (h:app a l y=(e,p,b,r)) (he:e=0):r.length≤17∧ ∀ e∈r,e.2.2.length≤100000:=by
 subst he
 unfold app at h
 split at h
 ·rename_i hr
  split at h
  ·split at h
   ·simp at h
   ·simp only[Prod.mk.injEq,true_and] at h
    obtain⟨_,_,rfl⟩:=h
    have:l.length≤16:=by
     simp only[rightB,Bool.and_eq_true,decide_eq_true_eq] at hr
     exact hr.1.1.2
    refine⟨by rw[List.length_append,List.length_singleton];omega,fun e he=>?_⟩
    rcases List.mem_append.1 he with he|he
    ·exact hd1 e he
    ·rw[List.mem_singleton.1 he]
     exact hd2
  ·simp at h
 ·simp at h
theorem srv0 (w:World):SrvR w rs0 ⟨rp0,[],none,0,false⟩:=⟨rf0 w,Rd.none_,fun s hs=>absurd hs (by simp)⟩
theorem step_k (w:World) (A A2:Option Addr) (n c n2 c2:Nat) (ms ks:List Int) (h:Rd w All 1 A n (ms.map zv)) (h2:Rd w All 1 A2 n2 (ks.map zv)) (hn:n≤1000) (hn2:n2≤1000) (r:Int) (hr:C.stpE ms ks=r):
  Gives Tryz.prog 52 [C.cfv A n c,C.cfv A2 n2 c2] [] w (X:=Unit) (fun _=> .int .i64 r) (fun _=>True) (fun _=>[]):=hr▸C.step_any w A A2 n c n2 c2 ms ks h h2 hn hn2
theorem prop1_any (w:World) (e:Int):
  Gives Tryz.prog 46 [.int .i64 e] [] w (X:=Unit) (fun _=> .tuple #[.agg (rfc rs0 rp0).toArray,.slice none 0 0,.agg (atc (0,0)).toArray,.int .i64 e]) (fun _=>True) (fun _=>[]):=by
 refine gives_C Tryz.func46 O Tryz.ntmps46 Tryz.results46 (by simp) (St.enter w) (fun B hB=>?_)
 focus (refine qs ?_;(refine qe (E_alloca O rf_zero) ?_;rintro _ _ ⟨b2,rfl,rfl⟩);refine qp ?_;(refine qe (E_alloca O at_zero) ?_;rintro _ _ ⟨b4,rfl,rfl⟩);refine qp ?_;refine qn ?_;refine qt (T_build0 rf_built0) ?_;refine qt (T_build0 at_built0) ?_;refine qp ?_;(refine qw (E_storew (cs:=rfc rs0 rp0) (ds:=rfc rs0 rp0) O O O O (rfc_one _ _) O) ?_;rintro _ _ rfl);refine qp ?_;(refine qw (E_storew (cs:=atc (0,0)) (ds:=atc (0,0)) O O O O (atc_one _) O) ?_;rintro _ _ rfl);refine qp ?_;refine qz ?_)
 refine hB _ _ _ _ _ O (.cell O O O inferInstance O (.tmp O (.cell O O O inferInstance O (.tmp O .nil)))) fun w' hS=>⟨(),O,trivial,hS.sublist (List.nil_sublist _)⟩
theorem propose_ck (w:World) (x:Rs) (p:Rp) (h:RfR w x p) (k:Int) (dA:Option Addr) (dn dc:Nat) (hck:checkB x=false):
  Gives Tryz.prog 16 [.agg (rfc x p).toArray,.int .i64 k,.slice dA dn dc] [] w (X:=Unit) (fun _=> .tuple #[.agg (rfc rs0 rp0).toArray,.slice none 0 0,.agg (atc (0,0)).toArray,.int .i64 250]) (fun _=>True) (fun _=>[]):=by
 refine gives_C Tryz.func16 O Tryz.ntmps16 Tryz.results16 (by simp) (St.enter w) (fun B hB=>?_)
 focus (refine qs ?_;(refine qe (E_boxa (cs:=rfc x p) O) ?_;rintro _ _ ⟨b3,rfl,rfl⟩);(refine qe (E_alloca O rf_zero) ?_;rintro _ _ ⟨b6,rfl,rfl⟩);refine qp ?_;(refine qe (E_alloca O at_zero) ?_;rintro _ _ ⟨b8,rfl,rfl⟩);refine qp ?_;refine qn ?_;refine qp ?_;refine qz ?_;refine qq ?_;refine qs ?_;refine qt (T_loads (ds:=rfc x p) O O O O O) ?_;refine qh F30 (fun w1 hS1=>rcheck_any w1 x p (h.keep hS1.kpO) false hck) ?_;refine qp ?_;refine qz ?_;refine qT ?_;refine qs ?_;refine qp ?_;(refine qe (E_clo1 (pre:=[]) O (E_hv0 (f:=46) F46 (fun w1 _=>prop1_any w1 250) O O (fun _=>O))) ?_;rintro _ _ ⟨_,rfl,_,rfl⟩);(iterate 4 refine qp ?_);(refine qw (E_storew (cs:=rfc rs0 rp0) (ds:=rfc rs0 rp0) O O O O (rfc_one _ _) O) ?_;rintro _ _ rfl);refine qp ?_;(refine qw (E_storew (cs:=atc (0,0)) (ds:=atc (0,0)) O O O O (atc_one _) O) ?_;rintro _ _ rfl);refine qp ?_;refine qz ?_)
 refine hB _ _ _ _ _ O (.cell O O O inferInstance O (.tmp O (.cell O O O inferInstance O (.tmp O .nil)))) fun w' hS=>⟨(),O,trivial,hS.sublist (List.nil_sublist _)⟩
theorem propose_any (w:World) (x:Rs) (p:Rp) (h:RfR w x p) (k:Int) (dA:Option Addr) (dn dc:Nat) (d:List UInt8) (hd:Bs w All dA dn dc d) (hdn:dn≤90000) (hck:checkB x=true) (hu2:RsU (prpR x k d)):
  Gives Tryz.prog 16 [.agg (rfc x p).toArray,.int .i64 k,.slice dA dn dc] [] w (X:=Mm×Asn) (fun y=> .tuple #[.agg (rfc (prpR x k d) y.1.p).toArray,.slice y.1.sA y.1.S.length y.1.sc,.agg (atc (prpA x k d)).toArray,.int .i64 (prpC x k d)]) (fun y=>y.1.S.map Prod.fst=prpM x k d∧ ∀ w',y.2.holds w'→SrvR w' (prpR x k d) y.1) (fun y=>[y.2]):=by
 refine gives_C Tryz.func16 O Tryz.ntmps16 Tryz.results16 (by simp) (St.enter w) (fun B hB=>?_)
 have hdl:d.length=dn:=by have:=hd.rd.1;simpa using this
 subst hdl
 have hcf:=chk_conf hck
 have hn5:(nowL x).length≤1000:=Nat.le_trans (now_le hck) (by decide)
 have hd5:(C.decL d).length≤1000:=Nat.le_trans (decL_le d) (by decide)
 obtain⟨q,hq⟩: ∃ q,saysB d=q:=⟨_,O⟩
 focus (refine qs ?_;(refine qe (E_boxa (cs:=rfc x p) O) ?_;rintro _ _ ⟨b3,rfl,rfl⟩);(refine qe (E_alloca O rf_zero) ?_;rintro _ _ ⟨b6,rfl,rfl⟩);refine qp ?_;(refine qe (E_alloca O at_zero) ?_;rintro _ _ ⟨b8,rfl,rfl⟩);refine qp ?_;refine qn ?_;refine qp ?_;refine qz ?_;refine qq ?_;refine qs ?_;refine qt (T_loads (ds:=rfc x p) O O O O O) ?_;refine qh F30 (fun w1 hS1=>rcheck_any w1 x p (h.keep hS1.kpO) true hck) ?_;refine qp ?_;refine qz ?_;refine qF ?_;refine qx ?_;refine qq ?_)
 refine S_cut (X:=Nat×Option Addr×Nat) (fun y=>[(1,.int .i64 k),(2,.slice dA d.length dc),(3,.pointer (some ⟨b3,0,none⟩)),(6,.pointer (some ⟨b6,0,none⟩)),(8,.pointer (some ⟨b8,0,none⟩)),(10,.func (.func 46) #[] #[]),(11,.pointer (some ⟨y.1,0,none⟩))]) (fun y=>[pt y.1 59 (emc (x.term,k,y.2.1,y.2.2,d)),row 5 1 y.2.1 d.length y.2.2 (d.map bv),pt b3 42 (rfc x p),pt b6 42 (rfc rs0 rp0),pt b8 36 (atc (0,0))]) (fun _=>True) (fun J2 hJ2=>?_) (fun y _=>?_)
 ·skip
  refine S_draw ([pt b3 42 (rfc x p)]) sub_st (by kernel_rfl) O (by kernel_rfl) (by kernel_rfl:_=8) ?_
  refine dp 0 ?_
  refine dl 1 ?_
  refine dp 2 ?_
  refine dp 3 ?_
  refine D_two 4 6 (by decide) O O (E_hv1 (f:=47) F47 (fun w1 hS1=>bclone2_any w1 dA d.length dc (d.map bv) (hd.keep hS1.kpO).rd (bv_ones _) (by omega)) O O (fun _=>O)) (E_alloca O em_zero) ?_ ?_ O O O O (by kernel_rfl)
  ·rintro _ _ ⟨⟨A4,c4⟩,rfl,_,rfl⟩
   refine nx ?_
   refine dt 5 O (T_build3 O O O (em_built3 _ _ _ _ _)) ?_
   refine D_one 6 O (E_alloca O em_zero) ?_ O O (by kernel_rfl)
   rintro _ _ ⟨b11,rfl,rfl⟩
   refine nx ?_
   refine D_one 7 O (E_storew (cs:=emc (0,0,none,0,[])) (ds:=emc (x.term,k,A4,c4,d)) O O O O (emc_one _) O) ?_ O O (by kernel_rfl)
   rintro _ _ rfl
   refine nx ?_
   refine dn ?_
   exact hJ2 (b11,A4,c4) _ _ trivial (Sub.cons O (Sub.cons O (Sub.cons O (Sub.cons O (Sub.cons O (Sub.cons O (Sub.cons O Sub.nil))))))) sub_st
  ·rintro _ _ ⟨b11,rfl,rfl⟩
   refine nx ?_
   refine D_one 4 O (E_hv1 (f:=47) F47 (fun w1 hS1=>bclone2_any w1 dA d.length dc (d.map bv) (hd.keep hS1.kpO).rd (bv_ones _) (by omega)) O O (fun _=>O)) ?_ O O (by kernel_rfl)
   rintro _ _ ⟨⟨A4,c4⟩,rfl,_,rfl⟩
   refine nx ?_
   refine dt 5 O (T_build3 O O O (em_built3 _ _ _ _ _)) ?_
   refine D_one 7 O (E_storew (cs:=emc (0,0,none,0,[])) (ds:=emc (x.term,k,A4,c4,d)) O O O O (emc_one _) O) ?_ O O (by kernel_rfl)
   rintro _ _ rfl
   refine nx ?_
   refine dn ?_
   exact hJ2 (b11,A4,c4) _ _ trivial (Sub.cons O (Sub.cons O (Sub.cons O (Sub.cons O (Sub.cons O (Sub.cons O (Sub.cons O Sub.nil))))))) sub_st
 obtain⟨b11,A4,c4⟩:=y
 dsimp only
 refine S_seq O ?_
 refine S_cut (X:=Nat×Option Addr×Nat) (fun z=>[(1,.int .i64 k),(2,.slice dA d.length dc),(3,.pointer (some ⟨b3,0,none⟩)),(6,.pointer (some ⟨b6,0,none⟩)),(8,.pointer (some ⟨b8,0,none⟩)),(10,.func (.func 46) #[] #[]),(11,.pointer (some ⟨b11,0,none⟩)),(12,.pointer (some ⟨z.1,0,none⟩)),(13,.bool q)]) (fun z=>[pt b11 59 (emc (x.term,k,A4,c4,d)),row 5 1 A4 d.length c4 (d.map bv),pt z.1 33 [.slice z.2.1 (C.decL d).length z.2.2],row 3 1 z.2.1 (C.decL d).length z.2.2 ((C.decL d).map zv),pt b3 42 (rfc x p),pt b6 42 (rfc rs0 rp0),pt b8 36 (atc (0,0))]) (fun _=>True) (fun J3 hJ3=>?_) (fun z _=>?_)
 ·skip
  focus (refine qr ?_;refine qt (T_loads (ds:=emc (x.term,k,A4,c4,d)) O O O O O) ?_;(refine qe (E_hv1 (f:=48) F48 (fun w1 hS1=>rsays_any w1 (x.term,k,A4,c4,d) (row_bs (e:=5) hS1 (by simp) O) (by show d.length≤_;omega) q hq _ O _ O) O O (fun _=>O)) ?_;rintro _ _ ⟨⟨A5,c5⟩,rfl,_,rfl⟩);(iterate 3 refine qp ?_);(refine qe (E_alloca O C.cf_alloc) ?_;rintro _ _ ⟨b12,rfl,rfl⟩);(refine qw (E_storew (cs:=[.slice none 0 0]) (ds:=[.slice A5 (C.decL d).length c5]) O O O O (C.sl_one _ _ _) O) ?_;rintro _ _ rfl);refine qp ?_;refine qz ?_)
  exact hJ3 (b12,A5,c5) _ _ trivial (Sub.cons O (Sub.cons O (Sub.cons O (Sub.cons O (Sub.cons O (Sub.cons O (Sub.cons O (Sub.cons O (Sub.cons O Sub.nil))))))))) sub_st
 obtain⟨b12,A5,c5⟩:=z
 dsimp only
 refine S_seq O ?_
 refine S_cut (X:=Unit) (fun _=>[(1,.int .i64 k),(3,.pointer (some ⟨b3,0,none⟩)),(6,.pointer (some ⟨b6,0,none⟩)),(8,.pointer (some ⟨b8,0,none⟩)),(10,.func (.func 46) #[] #[]),(11,.pointer (some ⟨b11,0,none⟩)),(12,.pointer (some ⟨b12,0,none⟩))]) (fun _=>[pt b11 59 (emc (x.term,k,A4,c4,d)),row 5 1 A4 d.length c4 (d.map bv),pt b12 33 [.slice A5 (C.decL d).length c5],row 3 1 A5 (C.decL d).length c5 ((C.decL d).map zv),pt b3 42 (rfc x p),pt b6 42 (rfc rs0 rp0),pt b8 36 (atc (0,0))]) (fun _=>(k=2∨k=3)∧ ¬ ((¬ k=2∧ ¬ k=3)∨1024<d.length∨(k=3∧saysB d=false))∧x.role=4) (fun J4 hJ4=>?_) (fun _ hI=>?_)
 ·by_cases hk:k=2∨k=3
  rotate_left
  ·have hk2: ¬ k=2:=fun e=>hk (Or.inl e)
   have hk3: ¬ k=3:=fun e=>hk (Or.inr e)
   have hC:prpC x k d=2:=if_pos (Or.inl ⟨hk2,hk3⟩)
   obtain⟨e1,e2,e3⟩:=prp_no hC (by decide)
   rw[e1,e2,e3,hC] at hB
   focus (refine qb ?_;refine qq ?_;refine qs ?_;(iterate 2 refine qp ?_;refine qd ?_;refine qp ?_);refine qp ?_;refine qz ?_;refine qT ?_;refine qx ?_;refine qT ?_;refine qs ?_;refine qp ?_;(refine qe (E_clo1 (pre:=[]) O (E_hv0 (f:=46) F46 (fun w1 _=>prop1_any w1 2) O O (fun _=>O))) ?_;rintro _ _ ⟨_,rfl,_,rfl⟩);(iterate 4 refine qp ?_);(refine qw (E_storew (cs:=rfc rs0 rp0) (ds:=rfc rs0 rp0) O O O O (rfc_one _ _) O) ?_;rintro _ _ rfl);refine qp ?_;(refine qw (E_storew (cs:=atc (0,0)) (ds:=atc (0,0)) O O O O (atc_one _) O) ?_;rintro _ _ rfl);refine qp ?_;refine qz ?_)
   refine hB _ _ _ _ _ O (.cell O O O inferInstance O (.tmp O (.cell O O O inferInstance O (.tmp O .nil)))) fun w' hS=>⟨(⟨rp0,[],none,0,false⟩,zN),O,⟨O,fun w2 _=>srv0 w2⟩,zN_in (hS.sublist (List.nil_sublist _))⟩
  by_cases hdm:1024<d.length
  ·have hC:prpC x k d=2:=if_pos (Or.inr (Or.inl hdm))
   obtain⟨e1,e2,e3⟩:=prp_no hC (by decide)
   rw[e1,e2,e3,hC] at hB
   rcases hk with rfl|rfl
   ·skip
    focus (refine qb ?_;refine qq ?_;refine qs ?_;refine qp ?_;refine qf ?_;refine qp ?_;refine qk ?_;refine qk ?_;refine qp ?_;refine qp ?_;refine qz ?_;refine qF ?_;refine qs ?_;refine qp ?_;refine qp ?_;refine qd ?_;refine qp ?_;refine qz ?_;refine qT ?_;refine qx ?_;refine qT ?_;refine qs ?_;refine qp ?_;(refine qe (E_clo1 (pre:=[]) O (E_hv0 (f:=46) F46 (fun w1 _=>prop1_any w1 2) O O (fun _=>O))) ?_;rintro _ _ ⟨_,rfl,_,rfl⟩);(iterate 4 refine qp ?_);(refine qw (E_storew (cs:=rfc rs0 rp0) (ds:=rfc rs0 rp0) O O O O (rfc_one _ _) O) ?_;rintro _ _ rfl);refine qp ?_;(refine qw (E_storew (cs:=atc (0,0)) (ds:=atc (0,0)) O O O O (atc_one _) O) ?_;rintro _ _ rfl);refine qp ?_;refine qz ?_)
    refine hB _ _ _ _ _ O (.cell O O O inferInstance O (.tmp O (.cell O O O inferInstance O (.tmp O .nil)))) fun w' hS=>⟨(⟨rp0,[],none,0,false⟩,zN),O,⟨O,fun w2 _=>srv0 w2⟩,zN_in (hS.sublist (List.nil_sublist _))⟩
   ·skip
    repeat' (first|refine R_take (T_decT O (by omega)) ?_ O O|refine R_take (T_decF O (by omega)) ?_ O O|refine R_p O ?_ O O|refine R_nil ?_|refine S_seq O ?_|refine S_region O O ?_|refine S_true O O ?_|refine S_false O O ?_|refine S_block O ?_|refine S_skip O ?_|(refine R_eff (E_clo1 (pre:=[]) O (E_hv0 (f:=46) F46 (fun w1 _=>prop1_any w1 2) O O (fun _=>O))) ?_ O O;rintro _ _ ⟨_,rfl,_,rfl⟩)|(refine R_eff0 (E_storew (cs:=rfc rs0 rp0) (ds:=rfc rs0 rp0) O O O O (rfc_one _ _) O) ?_ O;rintro _ _ rfl)|(refine R_eff0 (E_storew (cs:=atc (0,0)) (ds:=atc (0,0)) O O O O (atc_one _) O) ?_ O;rintro _ _ rfl))
    refine hB _ _ _ _ _ O (.cell O O O inferInstance O (.tmp O (.cell O O O inferInstance O (.tmp O .nil)))) fun w' hS=>⟨(⟨rp0,[],none,0,false⟩,zN),O,⟨O,fun w2 _=>srv0 w2⟩,zN_in (hS.sublist (List.nil_sublist _))⟩
  by_cases hkq:k=3∧q=false
  ·have hC:prpC x k d=2:=if_pos (Or.inr (Or.inr ⟨hkq.1,by rw[hq];exact hkq.2⟩))
   obtain⟨e1,e2,e3⟩:=prp_no hC (by decide)
   rw[e1,e2,e3,hC] at hB
   obtain⟨rfl,rfl⟩:=hkq
   repeat' (first|refine R_take (T_decT O (by omega)) ?_ O O|refine R_take (T_decF O (by omega)) ?_ O O|refine R_p O ?_ O O|refine R_nil ?_|refine R_take (T_not O) ?_ O O|refine S_seq O ?_|refine S_region O O ?_|refine S_true O O ?_|refine S_false O O ?_|refine S_block O ?_|(refine R_eff (E_clo1 (pre:=[]) O (E_hv0 (f:=46) F46 (fun w1 _=>prop1_any w1 2) O O (fun _=>O))) ?_ O O;rintro _ _ ⟨_,rfl,_,rfl⟩)|(refine R_eff0 (E_storew (cs:=rfc rs0 rp0) (ds:=rfc rs0 rp0) O O O O (rfc_one _ _) O) ?_ O;rintro _ _ rfl)|(refine R_eff0 (E_storew (cs:=atc (0,0)) (ds:=atc (0,0)) O O O O (atc_one _) O) ?_ O;rintro _ _ rfl))
   refine hB _ _ _ _ _ O (.cell O O O inferInstance O (.tmp O (.cell O O O inferInstance O (.tmp O .nil)))) fun w' hS=>⟨(⟨rp0,[],none,0,false⟩,zN),O,⟨O,fun w2 _=>srv0 w2⟩,zN_in (hS.sublist (List.nil_sublist _))⟩
  have hok: ¬ ((¬ k=2∧ ¬ k=3)∨1024<d.length∨(k=3∧saysB d=false)):=by
   rw[hq]
   rintro(e|e|e)
   ·omega
   ·exact hdm e
   ·exact hkq e
  by_cases hr4:x.role=4
  rotate_left
  ·have hC:prpC x k d=251:=by unfold prpC;rw[if_neg hok,if_pos hr4]
   obtain⟨e1,e2,e3⟩:=prp_no hC (by decide)
   rw[e1,e2,e3,hC] at hB
   rcases hk with rfl|rfl
   ·skip
    repeat' (first|refine R_take (T_decT O (by omega)) ?_ O O|refine R_take (T_decF O (by omega)) ?_ O O|refine R_p O ?_ O O|refine R_nil ?_|refine R_skip ?_ O O|refine R_take (T_load O O O O) ?_ O O|refine S_seq O ?_|refine S_region O O ?_|refine S_true O O ?_|refine S_false O O ?_|refine S_block O ?_|(refine R_eff (E_clo1 (pre:=[]) O (E_hv0 (f:=46) F46 (fun w1 _=>prop1_any w1 251) O O (fun _=>O))) ?_ O O;rintro _ _ ⟨_,rfl,_,rfl⟩)|(refine R_eff0 (E_storew (cs:=rfc rs0 rp0) (ds:=rfc rs0 rp0) O O O O (rfc_one _ _) O) ?_ O;rintro _ _ rfl)|(refine R_eff0 (E_storew (cs:=atc (0,0)) (ds:=atc (0,0)) O O O O (atc_one _) O) ?_ O;rintro _ _ rfl))
    refine hB _ _ _ _ _ O (.cell O O O inferInstance O (.tmp O (.cell O O O inferInstance O (.tmp O .nil)))) fun w' hS=>⟨(⟨rp0,[],none,0,false⟩,zN),O,⟨O,fun w2 _=>srv0 w2⟩,zN_in (hS.sublist (List.nil_sublist _))⟩
   ·obtain rfl:q=true:=by
     cases q
     ·exact absurd ⟨O,O⟩ hkq
     ·rfl
    repeat' (first|refine R_take (T_decT O (by omega)) ?_ O O|refine R_take (T_decF O (by omega)) ?_ O O|refine R_p O ?_ O O|refine R_nil ?_|refine R_take (T_load O O O O) ?_ O O|refine R_take (T_not O) ?_ O O|refine S_seq O ?_|refine S_region O O ?_|refine S_true O O ?_|refine S_false O O ?_|refine S_block O ?_|(refine R_eff (E_clo1 (pre:=[]) O (E_hv0 (f:=46) F46 (fun w1 _=>prop1_any w1 251) O O (fun _=>O))) ?_ O O;rintro _ _ ⟨_,rfl,_,rfl⟩)|(refine R_eff0 (E_storew (cs:=rfc rs0 rp0) (ds:=rfc rs0 rp0) O O O O (rfc_one _ _) O) ?_ O;rintro _ _ rfl)|(refine R_eff0 (E_storew (cs:=atc (0,0)) (ds:=atc (0,0)) O O O O (atc_one _) O) ?_ O;rintro _ _ rfl))
    refine hB _ _ _ _ _ O (.cell O O O inferInstance O (.tmp O (.cell O O O inferInstance O (.tmp O .nil)))) fun w' hS=>⟨(⟨rp0,[],none,0,false⟩,zN),O,⟨O,fun w2 _=>srv0 w2⟩,zN_in (hS.sublist (List.nil_sublist _))⟩
  rcases hk with rfl|rfl
  ·skip
   repeat' (first|refine R_take (T_decF O (by omega)) ?_ O O|refine R_p O ?_ O O|refine R_nil ?_|refine R_skip ?_ O O|refine R_take (T_load O O O O) ?_ O O|refine S_seq O ?_|refine S_region O O ?_|refine S_false O O ?_|refine S_block O ?_|refine RS_blk ?_|refine S_skip O ?_)
   exact hJ4 () _ _ ⟨Or.inl O,hok,hr4⟩ (Sub.cons O (Sub.cons O (Sub.cons O (Sub.cons O (Sub.cons O (Sub.cons O (Sub.cons O Sub.nil))))))) sub_st
  ·obtain rfl:q=true:=by
    cases q
    ·exact absurd ⟨O,O⟩ hkq
    ·rfl
   repeat' (first|refine R_take (T_decT O (by omega)) ?_ O O|refine R_take (T_decF O (by omega)) ?_ O O|refine R_p O ?_ O O|refine R_nil ?_|refine R_take (T_load O O O O) ?_ O O|refine R_take (T_not O) ?_ O O|refine S_seq O ?_|refine S_region O O ?_|refine S_false O O ?_|refine S_block O ?_|refine RS_blk ?_|refine S_skip O ?_)
   exact hJ4 () _ _ ⟨Or.inr O,hok,hr4⟩ (Sub.cons O (Sub.cons O (Sub.cons O (Sub.cons O (Sub.cons O (Sub.cons O (Sub.cons O Sub.nil))))))) sub_st
 obtain⟨hk,hok,hr4⟩:=hI
 refine S_seq O ?_
 refine S_cut (X:=Unit) (fun _=>[(3,.pointer (some ⟨b3,0,none⟩)),(6,.pointer (some ⟨b6,0,none⟩)),(8,.pointer (some ⟨b8,0,none⟩)),(10,.func (.func 46) #[] #[]),(11,.pointer (some ⟨b11,0,none⟩))]) (fun _=>[pt b11 59 (emc (x.term,k,A4,c4,d)),row 5 1 A4 d.length c4 (d.map bv),pt b3 42 (rfc x p),pt b6 42 (rfc rs0 rp0),pt b8 36 (atc (0,0))]) (fun _=> ¬ (k=3∧chgB x d=true)) (fun J5 hJ5=>?_) (fun _ hch=>?_)
 ·by_cases hk3:k=3
  rotate_left
  ·skip
   focus (refine qs ?_;refine qp ?_;refine qf ?_;refine qz ?_;refine qF ?_;refine qx ?_)
   exact hJ5 () _ _ (fun e=>hk3 e.1) (Sub.cons O (Sub.cons O (Sub.cons O (Sub.cons O (Sub.cons O Sub.nil))))) sub_st
  subst hk3
  obtain⟨⟨ri,rbs,rq⟩,hCf⟩: ∃ z,confR x.base x.es (lastP x).1=z:=⟨_,O⟩
  obtain⟨⟨t,tq⟩,hT⟩: ∃ z,termR x.base x.es x.commit=z:=⟨_,O⟩
  obtain⟨st,hst⟩: ∃ z,C.stpE (nowL x) (C.decL d)=z:=⟨_,O⟩
  have hcg:chgB x d=((rq&&decide (x.commit<ri))|| !decide (t=x.term)|| !decide (st=0)):=by unfold chgB;rw[hCf,hT,hst]
  focus (refine qs ?_;refine qp ?_;refine qd ?_;refine qz ?_;refine qT ?_;refine qq ?_)
  refine S_draw ([pt b3 42 (rfc x p)]) sub_st (by kernel_rfl) O (by kernel_rfl) (by kernel_rfl:_=14) ?_
  refine dp 0 ?_
  refine dt 1 O (T_loads (ds:=lgc x.base p.A p.n p.c) O O O O O) ?_
  refine dp 2 ?_
  refine dt 3 O (T_loads (ds:=lgc x.base p.A p.n p.c) O O O O O) ?_
  refine D_one 4 O (E_hv0 (f:=50) F50 (fun w1 hS1=>lastP_k2 w1 x p (h.keep hS1.kpO).lg) O O (fun _=>O)) ?_ O O (by kernel_rfl)
  rintro _ _ ⟨_,rfl,_,rfl⟩
  refine nx ?_
  refine dt 5 O (T_fldv (xs:=atc (lastP x)) O O O O O O) ?_
  refine D_one 6 O (E_hv1 (f:=49) F49 (fun w1 hS1=>conf_k w1 x.base p.A p.c p.n p.Q x.es h.lg.hn h.lg.hQ (h.keep hS1.kpO).lg.rq (h.keep hS1.kpO).lg.dt h.lg.hm h.lg.hd (lastP x).1 ri rbs _ _ O hCf) O O (fun _=>O)) ?_ O O (by kernel_rfl)
  rintro _ _ ⟨⟨Ab,cb⟩,rfl,_,rfl⟩
  refine nx ?_
  refine dp 7 ?_
  refine dp 8 ?_
  refine dp 9 ?_
  refine dp 10 ?_
  refine dp 11 ?_
  refine dp 12 ?_
  refine dp 13 ?_
  refine dn ?_
  skip
  focus (refine qs ?_;refine qp ?_;refine qt (T_loads (ds:=lgc x.base p.A p.n p.c) O O O O O) ?_;refine qp ?_;refine qt (T_load O O O O) ?_;(refine qe (E_hv0 (f:=51) F51 (fun w1 hS1=>term_k w1 x.base p.A p.c p.n p.Q x.es h.lg.hn h.lg.hQ (h.keep hS1.kpO).lg.rq h.lg.hm x.commit _ hT) O O (fun _=>O)) ?_;rintro _ _ ⟨_,rfl,_,rfl⟩;dsimp only);(iterate 5 refine qp ?_);refine qz ?_;refine qq ?_)
  cases rq
  ·skip
   by_cases htt:t=x.term
   rotate_left
   ·have hv:chgB x d=true:=by rw[hcg];simp[htt]
    have hC:prpC x 3 d=252:=by unfold prpC;rw[if_neg hok,if_neg (fun e=>e hr4),if_pos ⟨O,hv⟩]
    obtain⟨e1,e2,e3⟩:=prp_no hC (by decide)
    rw[e1,e2,e3,hC] at hB
    refine S_draw ([pt b3 42 (rfc x p),pt b12 33 [.slice A5 (C.decL d).length c5]]) sub_st (by kernel_rfl) O (by kernel_rfl) (by kernel_rfl:_=24) ?_
    refine dp 0 ?_
    refine dp 1 ?_
    refine dk 2 ?_
    refine dk 3 ?_
    refine dk 4 ?_
    refine dk 5 ?_
    refine dp 6 ?_
    refine dp 7 ?_
    refine dp 8 ?_
    refine dp 9 ?_
    refine dl 10 ?_
    refine dqT 11 ?_
    refine dp 12 ?_
    refine dp 13 ?_
    refine dk 14 ?_
    refine dk 15 ?_
    refine dk 16 ?_
    refine dk 17 ?_
    refine dk 18 ?_
    refine dk 19 ?_
    refine dk 20 ?_
    refine dk 21 ?_
    refine dk 22 ?_
    refine dp 23 ?_
    refine dn ?_
    skip
    focus (refine qT ?_;refine qs ?_;refine qp ?_;(refine qe (E_clo1 (pre:=[]) O (E_hv0 (f:=46) F46 (fun w1 _=>prop1_any w1 252) O O (fun _=>O))) ?_;rintro _ _ ⟨_,rfl,_,rfl⟩);(iterate 4 refine qp ?_);(refine qw (E_storew (cs:=rfc rs0 rp0) (ds:=rfc rs0 rp0) O O O O (rfc_one _ _) O) ?_;rintro _ _ rfl);refine qp ?_;(refine qw (E_storew (cs:=atc (0,0)) (ds:=atc (0,0)) O O O O (atc_one _) O) ?_;rintro _ _ rfl);refine qp ?_;refine qz ?_)
    refine hB _ _ _ _ _ O (.cell O O O inferInstance O (.tmp O (.cell O O O inferInstance O (.tmp O .nil)))) fun w' hS=>⟨(⟨rp0,[],none,0,false⟩,zN),O,⟨O,fun w2 _=>srv0 w2⟩,zN_in (hS.sublist (List.nil_sublist _))⟩
   by_cases hs0:st=0
   rotate_left
   ·have hv:chgB x d=true:=by rw[hcg];simp[hs0]
    have hC:prpC x 3 d=252:=by unfold prpC;rw[if_neg hok,if_neg (fun e=>e hr4),if_pos ⟨O,hv⟩]
    obtain⟨e1,e2,e3⟩:=prp_no hC (by decide)
    rw[e1,e2,e3,hC] at hB
    refine S_draw ([pt b3 42 (rfc x p),pt b12 33 [.slice A5 (C.decL d).length c5]]) sub_st (by kernel_rfl) O (by kernel_rfl) (by kernel_rfl:_=24) ?_
    refine dp 0 ?_
    refine dp 1 ?_
    refine dk 2 ?_
    refine dk 3 ?_
    refine dk 4 ?_
    refine dk 5 ?_
    refine dp 6 ?_
    refine dp 7 ?_
    refine dp 8 ?_
    refine dp 9 ?_
    refine dl 10 ?_
    refine dqF 11 ?_
    refine dp 12 ?_
    refine dp 13 ?_
    refine dt 14 O (T_loads (ds:=rfc x p) O O O O O) ?_
    refine dp 15 ?_
    refine dt 16 O (T_loads (ds:=lgc x.base p.A p.n p.c) O O O O O) ?_
    refine dt 20 O (T_loads (ds:=[.slice A5 (C.decL d).length c5]) O O O O O) ?_
    refine D_one 17 O (E_hv0 (f:=50) F50 (fun w1 hS1=>lastP_k2 w1 x p (h.keep hS1.kpO).lg) O O (fun _=>O)) ?_ O O (by kernel_rfl)
    rintro _ _ ⟨_,rfl,_,rfl⟩
    refine nx ?_
    refine dt 18 O (T_fldv (xs:=atc (lastP x)) O O O O O O) ?_
    refine D_one 19 O (E_hv1 (f:=53) F53 (fun w1 hS1=>rforce_k w1 x p (fun w'=>LgR w' x p) (rf_lg (h.keep hS1.kpO).lg) (fun _ h=>h) _ (nowL x) O) O O (fun _=>O)) ?_ O O (by kernel_rfl)
    rintro _ _ ⟨⟨⟨A6,K6,c6⟩,Z6⟩,rfl,hI6,rfl⟩;dsimp only at hI6
    refine nx ?_
    refine D_one 21 O (E_hv0 (f:=52) F52 (fun w1 hS1=>step_k w1 A6 A5 (nowL x).length c6 (C.decL d).length c5 (nowL x) (C.decL d) (hI6 w1 ⟨(h.keep hS1.kpO).lg,hS1.at_ (A:=Z6) (by simp)⟩) (row_rd (hS1.at_ (A:=row 3 1 A5 (C.decL d).length c5 ((C.decL d).map zv)) (by simp))) hn5 hd5 _ hst) O O (fun _=>O)) ?_ O O (by kernel_rfl)
    rintro _ _ ⟨_,rfl,_,rfl⟩
    refine nx ?_
    refine dqT 22 ?_
    refine dqT 23 ?_
    refine dn ?_
    skip
    focus (refine qT ?_;refine qs ?_;refine qp ?_;(refine qe (E_clo1 (pre:=[]) O (E_hv0 (f:=46) F46 (fun w1 _=>prop1_any w1 252) O O (fun _=>O))) ?_;rintro _ _ ⟨_,rfl,_,rfl⟩);(iterate 4 refine qp ?_);(refine qw (E_storew (cs:=rfc rs0 rp0) (ds:=rfc rs0 rp0) O O O O (rfc_one _ _) O) ?_;rintro _ _ rfl);refine qp ?_;(refine qw (E_storew (cs:=atc (0,0)) (ds:=atc (0,0)) O O O O (atc_one _) O) ?_;rintro _ _ rfl);refine qp ?_;refine qz ?_)
    refine hB _ _ _ _ _ O (.cell O O O inferInstance O (.tmp O (.cell O O O inferInstance O (.tmp O .nil)))) fun w' hS=>⟨(⟨rp0,[],none,0,false⟩,zN),O,⟨O,fun w2 _=>srv0 w2⟩,zN_in (hS.sublist (List.nil_sublist _))⟩
   have hv: ¬ ((3:Int)=3∧chgB x d=true):=by rw[hcg];simp[htt,hs0]
   refine S_draw ([pt b3 42 (rfc x p),pt b12 33 [.slice A5 (C.decL d).length c5]]) sub_st (by kernel_rfl) O (by kernel_rfl) (by kernel_rfl:_=24) ?_
   refine dp 0 ?_
   refine dp 1 ?_
   refine dk 2 ?_
   refine dk 3 ?_
   refine dk 4 ?_
   refine dk 5 ?_
   refine dp 6 ?_
   refine dp 7 ?_
   refine dp 8 ?_
   refine dp 9 ?_
   refine dl 10 ?_
   refine dqF 11 ?_
   refine dp 12 ?_
   refine dp 13 ?_
   refine dt 14 O (T_loads (ds:=rfc x p) O O O O O) ?_
   refine dp 15 ?_
   refine dt 16 O (T_loads (ds:=lgc x.base p.A p.n p.c) O O O O O) ?_
   refine dt 20 O (T_loads (ds:=[.slice A5 (C.decL d).length c5]) O O O O O) ?_
   refine D_one 17 O (E_hv0 (f:=50) F50 (fun w1 hS1=>lastP_k2 w1 x p (h.keep hS1.kpO).lg) O O (fun _=>O)) ?_ O O (by kernel_rfl)
   rintro _ _ ⟨_,rfl,_,rfl⟩
   refine nx ?_
   refine dt 18 O (T_fldv (xs:=atc (lastP x)) O O O O O O) ?_
   refine D_one 19 O (E_hv1 (f:=53) F53 (fun w1 hS1=>rforce_k w1 x p (fun w'=>LgR w' x p) (rf_lg (h.keep hS1.kpO).lg) (fun _ h=>h) _ (nowL x) O) O O (fun _=>O)) ?_ O O (by kernel_rfl)
   rintro _ _ ⟨⟨⟨A6,K6,c6⟩,Z6⟩,rfl,hI6,rfl⟩;dsimp only at hI6
   refine nx ?_
   refine D_one 21 O (E_hv0 (f:=52) F52 (fun w1 hS1=>step_k w1 A6 A5 (nowL x).length c6 (C.decL d).length c5 (nowL x) (C.decL d) (hI6 w1 ⟨(h.keep hS1.kpO).lg,hS1.at_ (A:=Z6) (by simp)⟩) (row_rd (hS1.at_ (A:=row 3 1 A5 (C.decL d).length c5 ((C.decL d).map zv)) (by simp))) hn5 hd5 _ hst) O O (fun _=>O)) ?_ O O (by kernel_rfl)
   rintro _ _ ⟨_,rfl,_,rfl⟩
   refine nx ?_
   refine dqF 22 ?_
   refine dp 23 ?_
   refine dn ?_
   skip
   focus (refine qF ?_;refine qx ?_)
   exact hJ5 () _ _ hv (Sub.cons O (Sub.cons O (Sub.cons O (Sub.cons O (Sub.cons O Sub.nil))))) sub_st
  ·by_cases hri:x.commit<ri
   ·have hv:chgB x d=true:=by rw[hcg];simp[hri]
    have hC:prpC x 3 d=252:=by unfold prpC;rw[if_neg hok,if_neg (fun e=>e hr4),if_pos ⟨O,hv⟩]
    obtain⟨e1,e2,e3⟩:=prp_no hC (by decide)
    rw[e1,e2,e3,hC] at hB
    refine S_draw ([pt b3 42 (rfc x p),pt b12 33 [.slice A5 (C.decL d).length c5]]) sub_st (by kernel_rfl) O (by kernel_rfl) (by kernel_rfl:_=24) ?_
    refine dp 0 ?_
    refine dp 1 ?_
    refine dp 2 ?_
    refine dp 3 ?_
    refine dl 4 ?_
    refine dqT 5 ?_
    refine dp 6 ?_
    refine dp 7 ?_
    refine dk 8 ?_
    refine dk 9 ?_
    refine dk 10 ?_
    refine dk 11 ?_
    refine dp 12 ?_
    refine dp 13 ?_
    refine dk 14 ?_
    refine dk 15 ?_
    refine dk 16 ?_
    refine dk 17 ?_
    refine dk 18 ?_
    refine dk 19 ?_
    refine dk 20 ?_
    refine dk 21 ?_
    refine dk 22 ?_
    refine dp 23 ?_
    refine dn ?_
    skip
    focus (refine qT ?_;refine qs ?_;refine qp ?_;(refine qe (E_clo1 (pre:=[]) O (E_hv0 (f:=46) F46 (fun w1 _=>prop1_any w1 252) O O (fun _=>O))) ?_;rintro _ _ ⟨_,rfl,_,rfl⟩);(iterate 4 refine qp ?_);(refine qw (E_storew (cs:=rfc rs0 rp0) (ds:=rfc rs0 rp0) O O O O (rfc_one _ _) O) ?_;rintro _ _ rfl);refine qp ?_;(refine qw (E_storew (cs:=atc (0,0)) (ds:=atc (0,0)) O O O O (atc_one _) O) ?_;rintro _ _ rfl);refine qp ?_;refine qz ?_)
    refine hB _ _ _ _ _ O (.cell O O O inferInstance O (.tmp O (.cell O O O inferInstance O (.tmp O .nil)))) fun w' hS=>⟨(⟨rp0,[],none,0,false⟩,zN),O,⟨O,fun w2 _=>srv0 w2⟩,zN_in (hS.sublist (List.nil_sublist _))⟩
   by_cases htt:t=x.term
   rotate_left
   ·have hv:chgB x d=true:=by rw[hcg];simp[htt]
    have hC:prpC x 3 d=252:=by unfold prpC;rw[if_neg hok,if_neg (fun e=>e hr4),if_pos ⟨O,hv⟩]
    obtain⟨e1,e2,e3⟩:=prp_no hC (by decide)
    rw[e1,e2,e3,hC] at hB
    refine S_draw ([pt b3 42 (rfc x p),pt b12 33 [.slice A5 (C.decL d).length c5]]) sub_st (by kernel_rfl) O (by kernel_rfl) (by kernel_rfl:_=24) ?_
    refine dp 0 ?_
    refine dp 1 ?_
    refine dp 2 ?_
    refine dp 3 ?_
    refine dl 4 ?_
    refine dqF 5 ?_
    refine dp 6 ?_
    refine dp 7 ?_
    refine dp 8 ?_
    refine dp 9 ?_
    refine dl 10 ?_
    refine dqT 11 ?_
    refine dp 12 ?_
    refine dp 13 ?_
    refine dk 14 ?_
    refine dk 15 ?_
    refine dk 16 ?_
    refine dk 17 ?_
    refine dk 18 ?_
    refine dk 19 ?_
    refine dk 20 ?_
    refine dk 21 ?_
    refine dk 22 ?_
    refine dp 23 ?_
    refine dn ?_
    skip
    focus (refine qT ?_;refine qs ?_;refine qp ?_;(refine qe (E_clo1 (pre:=[]) O (E_hv0 (f:=46) F46 (fun w1 _=>prop1_any w1 252) O O (fun _=>O))) ?_;rintro _ _ ⟨_,rfl,_,rfl⟩);(iterate 4 refine qp ?_);(refine qw (E_storew (cs:=rfc rs0 rp0) (ds:=rfc rs0 rp0) O O O O (rfc_one _ _) O) ?_;rintro _ _ rfl);refine qp ?_;(refine qw (E_storew (cs:=atc (0,0)) (ds:=atc (0,0)) O O O O (atc_one _) O) ?_;rintro _ _ rfl);refine qp ?_;refine qz ?_)
    refine hB _ _ _ _ _ O (.cell O O O inferInstance O (.tmp O (.cell O O O inferInstance O (.tmp O .nil)))) fun w' hS=>⟨(⟨rp0,[],none,0,false⟩,zN),O,⟨O,fun w2 _=>srv0 w2⟩,zN_in (hS.sublist (List.nil_sublist _))⟩
   by_cases hs0:st=0
   rotate_left
   ·have hv:chgB x d=true:=by rw[hcg];simp[hs0]
    have hC:prpC x 3 d=252:=by unfold prpC;rw[if_neg hok,if_neg (fun e=>e hr4),if_pos ⟨O,hv⟩]
    obtain⟨e1,e2,e3⟩:=prp_no hC (by decide)
    rw[e1,e2,e3,hC] at hB
    refine S_draw ([pt b3 42 (rfc x p),pt b12 33 [.slice A5 (C.decL d).length c5]]) sub_st (by kernel_rfl) O (by kernel_rfl) (by kernel_rfl:_=24) ?_
    refine dp 0 ?_
    refine dp 1 ?_
    refine dp 2 ?_
    refine dp 3 ?_
    refine dl 4 ?_
    refine dqF 5 ?_
    refine dp 6 ?_
    refine dp 7 ?_
    refine dp 8 ?_
    refine dp 9 ?_
    refine dl 10 ?_
    refine dqF 11 ?_
    refine dp 12 ?_
    refine dp 13 ?_
    refine dt 14 O (T_loads (ds:=rfc x p) O O O O O) ?_
    refine dp 15 ?_
    refine dt 16 O (T_loads (ds:=lgc x.base p.A p.n p.c) O O O O O) ?_
    refine dt 20 O (T_loads (ds:=[.slice A5 (C.decL d).length c5]) O O O O O) ?_
    refine D_one 17 O (E_hv0 (f:=50) F50 (fun w1 hS1=>lastP_k2 w1 x p (h.keep hS1.kpO).lg) O O (fun _=>O)) ?_ O O (by kernel_rfl)
    rintro _ _ ⟨_,rfl,_,rfl⟩
    refine nx ?_
    refine dt 18 O (T_fldv (xs:=atc (lastP x)) O O O O O O) ?_
    refine D_one 19 O (E_hv1 (f:=53) F53 (fun w1 hS1=>rforce_k w1 x p (fun w'=>LgR w' x p) (rf_lg (h.keep hS1.kpO).lg) (fun _ h=>h) _ (nowL x) O) O O (fun _=>O)) ?_ O O (by kernel_rfl)
    rintro _ _ ⟨⟨⟨A6,K6,c6⟩,Z6⟩,rfl,hI6,rfl⟩;dsimp only at hI6
    refine nx ?_
    refine D_one 21 O (E_hv0 (f:=52) F52 (fun w1 hS1=>step_k w1 A6 A5 (nowL x).length c6 (C.decL d).length c5 (nowL x) (C.decL d) (hI6 w1 ⟨(h.keep hS1.kpO).lg,hS1.at_ (A:=Z6) (by simp)⟩) (row_rd (hS1.at_ (A:=row 3 1 A5 (C.decL d).length c5 ((C.decL d).map zv)) (by simp))) hn5 hd5 _ hst) O O (fun _=>O)) ?_ O O (by kernel_rfl)
    rintro _ _ ⟨_,rfl,_,rfl⟩
    refine nx ?_
    refine dqT 22 ?_
    refine dqT 23 ?_
    refine dn ?_
    skip
    focus (refine qT ?_;refine qs ?_;refine qp ?_;(refine qe (E_clo1 (pre:=[]) O (E_hv0 (f:=46) F46 (fun w1 _=>prop1_any w1 252) O O (fun _=>O))) ?_;rintro _ _ ⟨_,rfl,_,rfl⟩);(iterate 4 refine qp ?_);(refine qw (E_storew (cs:=rfc rs0 rp0) (ds:=rfc rs0 rp0) O O O O (rfc_one _ _) O) ?_;rintro _ _ rfl);refine qp ?_;(refine qw (E_storew (cs:=atc (0,0)) (ds:=atc (0,0)) O O O O (atc_one _) O) ?_;rintro _ _ rfl);refine qp ?_;refine qz ?_)
    refine hB _ _ _ _ _ O (.cell O O O inferInstance O (.tmp O (.cell O O O inferInstance O (.tmp O .nil)))) fun w' hS=>⟨(⟨rp0,[],none,0,false⟩,zN),O,⟨O,fun w2 _=>srv0 w2⟩,zN_in (hS.sublist (List.nil_sublist _))⟩
   have hv: ¬ ((3:Int)=3∧chgB x d=true):=by rw[hcg];simp[htt,hs0];omega
   refine S_draw ([pt b3 42 (rfc x p),pt b12 33 [.slice A5 (C.decL d).length c5]]) sub_st (by kernel_rfl) O (by kernel_rfl) (by kernel_rfl:_=24) ?_
   refine dp 0 ?_
   refine dp 1 ?_
   refine dp 2 ?_
   refine dp 3 ?_
   refine dl 4 ?_
   refine dqF 5 ?_
   refine dp 6 ?_
   refine dp 7 ?_
   refine dp 8 ?_
   refine dp 9 ?_
   refine dl 10 ?_
   refine dqF 11 ?_
   refine dp 12 ?_
   refine dp 13 ?_
   refine dt 14 O (T_loads (ds:=rfc x p) O O O O O) ?_
   refine dp 15 ?_
   refine dt 16 O (T_loads (ds:=lgc x.base p.A p.n p.c) O O O O O) ?_
   refine dt 20 O (T_loads (ds:=[.slice A5 (C.decL d).length c5]) O O O O O) ?_
   refine D_one 17 O (E_hv0 (f:=50) F50 (fun w1 hS1=>lastP_k2 w1 x p (h.keep hS1.kpO).lg) O O (fun _=>O)) ?_ O O (by kernel_rfl)
   rintro _ _ ⟨_,rfl,_,rfl⟩
   refine nx ?_
   refine dt 18 O (T_fldv (xs:=atc (lastP x)) O O O O O O) ?_
   refine D_one 19 O (E_hv1 (f:=53) F53 (fun w1 hS1=>rforce_k w1 x p (fun w'=>LgR w' x p) (rf_lg (h.keep hS1.kpO).lg) (fun _ h=>h) _ (nowL x) O) O O (fun _=>O)) ?_ O O (by kernel_rfl)
   rintro _ _ ⟨⟨⟨A6,K6,c6⟩,Z6⟩,rfl,hI6,rfl⟩;dsimp only at hI6
   refine nx ?_
   refine D_one 21 O (E_hv0 (f:=52) F52 (fun w1 hS1=>step_k w1 A6 A5 (nowL x).length c6 (C.decL d).length c5 (nowL x) (C.decL d) (hI6 w1 ⟨(h.keep hS1.kpO).lg,hS1.at_ (A:=Z6) (by simp)⟩) (row_rd (hS1.at_ (A:=row 3 1 A5 (C.decL d).length c5 ((C.decL d).map zv)) (by simp))) hn5 hd5 _ hst) O O (fun _=>O)) ?_ O O (by kernel_rfl)
   rintro _ _ ⟨_,rfl,_,rfl⟩
   refine nx ?_
   refine dqF 22 ?_
   refine dp 23 ?_
   refine dn ?_
   skip
   focus (refine qF ?_;refine qx ?_)
   exact hJ5 () _ _ hv (Sub.cons O (Sub.cons O (Sub.cons O (Sub.cons O (Sub.cons O Sub.nil))))) sub_st
 obtain⟨⟨e,pa_,bb_,r⟩,hap⟩: ∃ z,prA x k d=z:=⟨_,O⟩
 obtain⟨K,hK⟩: ∃ K,r.length=K:=⟨_,O⟩
 have hap2:app x.base x.es (emv (x.term,k,A4,c4,d))=(e,pa_,bb_,r):=hap
 have hCe:prpC x k d=e:=by unfold prpC;rw[if_neg hok,if_neg (fun e=>e hr4),if_neg hch,hap]
 by_cases hne:e=0
 rotate_left
 ·have hC:=hCe
  obtain⟨e1,e2,e3⟩:=prp_no hC (by exact hne)
  rw[e1,e2,e3,hC] at hB
  focus (refine qs ?_;refine qp ?_;refine qt (T_loads (ds:=lgc x.base p.A p.n p.c) O O O O O) ?_;refine qt (T_loads (ds:=emc (x.term,k,A4,c4,d)) O O O O O) ?_;(refine qe (E_hvG (f:=54) F54 (fun w1 hS1=>apA_any w1 x.base p.A p.c p.n p.Q x.es h.lg.hn h.lg.hQ (h.keep hS1.kpO).lg.rq (h.keep hS1.kpO).lg.dt h.lg.hm h.lg.hd (x.term,k,A4,c4,d) (row_rd (hS1.at_ (A:=row 5 1 A4 d.length c4 (d.map bv)) (by simp))) (by show d.length≤_;omega) e pa_ bb_ r K hK hap2) O O) ?_;rintro _ _ ⟨⟨⟨A12,c12⟩,P12⟩,rfl,_,rfl⟩;dsimp only[List.cons_append,List.nil_append]);(iterate 4 refine qp ?_);(refine qe (E_alloca O lg_zero) ?_;rintro _ _ ⟨b19,rfl,rfl⟩);(refine qe (E_alloca O at_zero) ?_;rintro _ _ ⟨b20,rfl,rfl⟩);(refine qw (E_storew (cs:=lgc (0,0) none 0 0) (ds:=lgc bb_ A12 K c12) O O O O (lgc_one _ _ _ _) O) ?_;rintro _ _ rfl);(refine qw (E_storew (cs:=atc (0,0)) (ds:=atc pa_) O O O O (atc_one _) O) ?_;rintro _ _ rfl);refine qp ?_;refine qz ?_;refine qq ?_;refine qs ?_;refine qp ?_;refine qd ?_;refine qz ?_;refine qT ?_;refine qs ?_;refine qp ?_;refine qp ?_;(refine qe (E_clo1 (pre:=[]) O (E_hv0 (f:=46) F46 (fun w1 _=>prop1_any w1 e) O O (fun _=>O))) ?_;rintro _ _ ⟨_,rfl,_,rfl⟩);(iterate 4 refine qp ?_);(refine qw (E_storew (cs:=rfc rs0 rp0) (ds:=rfc rs0 rp0) O O O O (rfc_one _ _) O) ?_;rintro _ _ rfl);refine qp ?_;(refine qw (E_storew (cs:=atc (0,0)) (ds:=atc (0,0)) O O O O (atc_one _) O) ?_;rintro _ _ rfl);refine qp ?_;refine qz ?_)
  refine hB _ _ _ _ _ O (.cell O O O inferInstance O (.tmp O (.cell O O O inferInstance O (.tmp O .nil)))) fun w' hS=>⟨(⟨rp0,[],none,0,false⟩,zN),O,⟨O,fun w2 _=>srv0 w2⟩,zN_in (hS.sublist (List.nil_sublist _))⟩
 subst hne
 obtain⟨hr0,hrd⟩:=prp_out (hd1:=fun e he=>h.lg.ed e he) (hd2:=by show d.length≤100000;omega) hap2 O
 have hRR:prpR x k d=comR (logX x bb_ r):=by unfold prpR;rw[if_pos hCe,hap]
 have hMM:prpM x k d=(felL (comR (logX x bb_ r))).flatMap (lackM (comR (logX x bb_ r))):=by unfold prpM;rw[if_pos hCe,hRR]
 have hAA:prpA x k d=pa_:=by unfold prpA;rw[if_pos hCe,hap]
 rw[hRR] at hu2
 rw[hRR,hMM,hAA,hCe] at hB
 obtain⟨x2,hx2⟩: ∃ y,y=comR (logX x bb_ r):=⟨_,O⟩
 have hcf2:C.right x2.cf=true:=by rw[hx2,comR_cf];exact hcf
 have h52:(nowL x2).length≤5:=force_le hcf2 _
 have hp2:x2.peers.length≤900:=by rw[hx2];exact Nat.le_trans (comR_peers _) (Nat.le_trans (show (logX x bb_ r).peers.length≤5 from chk_peers (x:=x) hck) (by decide))
 have hv2:x2.votes.length≤900:=by rw[hx2];exact Nat.le_trans (comR_votes _) (h.hvn▸h.hvm)
 rw[← hx2] at hB hu2
 have hpr:=fun(w2:World) (g:Nat) (m:Mm) (D:Kw) hS2 hk h hl bl A n c Q hbl hlg hpn h5 hSm hu2 h52=>prop2_any w2 g x m hS2 D hk h hl bl bb_ r A n c Q hbl hlg hpn h5 hSm hu2 h52
 rw[← hx2] at hpr
 focus (refine qs ?_;refine qp ?_;refine qt (T_loads (ds:=lgc x.base p.A p.n p.c) O O O O O) ?_;refine qt (T_loads (ds:=emc (x.term,k,A4,c4,d)) O O O O O) ?_;(refine qe (E_hvG (f:=54) F54 (fun w1 hS1=>apA_any w1 x.base p.A p.c p.n p.Q x.es h.lg.hn h.lg.hQ (h.keep hS1.kpO).lg.rq (h.keep hS1.kpO).lg.dt h.lg.hm h.lg.hd (x.term,k,A4,c4,d) (row_rd (hS1.at_ (A:=row 5 1 A4 d.length c4 (d.map bv)) (by simp))) (by show d.length≤_;omega) 0 pa_ bb_ r K hK hap2) O O) ?_;rintro _ _ ⟨⟨⟨A12,c12⟩,P12⟩,rfl,_,rfl⟩;dsimp only[List.cons_append,List.nil_append]);(iterate 4 refine qp ?_);(refine qe (E_alloca O lg_zero) ?_;rintro _ _ ⟨b19,rfl,rfl⟩);(refine qe (E_alloca O at_zero) ?_;rintro _ _ ⟨b20,rfl,rfl⟩);(refine qw (E_storew (cs:=lgc (0,0) none 0 0) (ds:=lgc bb_ A12 K c12) O O O O (lgc_one _ _ _ _) O) ?_;rintro _ _ rfl);(refine qw (E_storew (cs:=atc (0,0)) (ds:=atc pa_) O O O O (atc_one _) O) ?_;rintro _ _ rfl);refine qp ?_;refine qz ?_;refine qq ?_;refine qs ?_;refine qp ?_;refine qf ?_;refine qz ?_;refine qF ?_;refine qx ?_;refine qs ?_;refine qt (T_loads (ds:=rfc x p) O O O O O) ?_;refine qt (T_func O O) ?_)
 (refine qe (E_hv1 (f:=39) F39 (fun w1 hS1=>turn_any w1 x p (h.keep hS1.kpO) (KL (fun _=>True) [pt b19 39 (lgc bb_ A12 K c12),row 59 3 A12 K c12 (cellsL emc P12.1),dtB 5 (P12.1.map emd)]) (Kd.subL (As':=[]) (fun _ _=>trivial) hS1 (by simp)) 55 [.pointer (some ⟨b19,0,none⟩)] F55 x2 ((felL x2).flatMap (lackM x2)) false hu2 hv2 hp2 (fun w2 g m D hS2 hk hd hml hms hmi=>mth_hc hms hmi (hpr w2 g m D hS2 hk (fun w3 h3=>(hd w3 h3).2) hml b19 A12 K c12 P12.1 (fun w3 h3=>lg_rd ((hd w3 h3).1.2 (pt b19 39 (lgc bb_ A12 K c12)) (by simp))) (fun w3 h3=>lgO_lg (x:=logX x bb_ r) (p:=(logM m A12 K c12 P12.1).p) ((hd w3 h3).1.2 (row 59 3 A12 K c12 (cellsL emc P12.1)) (by simp)) ((hd w3 h3).1.2 (dtB 5 (P12.1.map emd)) (by simp)) (hd w3 h3).2.lg.rc P12.2.1 ((em_len P12.2.1).trans hK) (hd w3 h3).2.lg.hcn (by show K≤1000;omega) (hd w3 h3).2.lg.hcm hrd) (by rw[← hml.hpn];exact Nat.le_trans (chk_peers hck) (by decide)) (force_le (x:=logX x bb_ r) hcf _) (by rw[hms];decide) hu2 h52))) O O (fun _=>O)) ?_;rintro _ _ ⟨⟨m2,Z2⟩,rfl,⟨hI1,hI2⟩,rfl⟩;dsimp only at hI1 hI2)
 focus ((iterate 4 refine qp ?_);(refine qw (E_storew (cs:=rfc x p) (ds:=rfc x2 m2.p) O O O O (rfc_one _ _) O) ?_;rintro _ _ rfl);refine qp ?_;refine qp ?_;refine qz ?_;refine qq ?_)
 refine S_draw ([pt b3 42 (rfc x2 m2.p),pt b20 36 (atc pa_)]) sub_st (by kernel_rfl) O (by kernel_rfl) (by kernel_rfl:_=7) ?_
 refine dt 0 O (T_loads (ds:=rfc x2 m2.p) O O O O O) ?_
 refine dp 1 ?_
 refine dt 2 O (T_loads (ds:=atc pa_) O O O O O) ?_
 refine D_one 3 O (E_storew (cs:=rfc rs0 rp0) (ds:=rfc x2 m2.p) O O O O (rfc_one _ _) O) ?_ O O (by kernel_rfl)
 rintro _ _ rfl
 refine nx ?_
 refine dp 4 ?_
 refine D_one 5 O (E_storew (cs:=atc (0,0)) (ds:=atc pa_) O O O O (atc_one _) O) ?_ O O (by kernel_rfl)
 rintro _ _ rfl
 refine nx ?_
 refine dp 6 ?_
 refine dn ?_
 skip
 skip
 refine hB _ _ _ _ _ O (.cell O O O inferInstance O (.tmp O (.cell O O O inferInstance O (.tmp O .nil)))) fun w' hS=>⟨(m2,zA (pt b19 39 (lgc bb_ A12 K c12)) (zA (row 59 3 A12 K c12 (cellsL emc P12.1)) (zA (dtB 5 (P12.1.map emd)) Z2))),O,⟨hI1,fun w3 h3=>hI2 w3 ⟨⟨trivial,fun A hA=>by
  rcases List.mem_cons.1 hA with rfl|hA
  ·exact zA_l h3
  rcases List.mem_cons.1 hA with rfl|hA
  ·exact zA_l (zA_r h3)
  obtain rfl:A=dtB 5 (P12.1.map emd):=by simpa using hA
  exact zA_l (zA_r (zA_r h3))⟩,zA_r (zA_r (zA_r h3))⟩⟩,zA_in ((zA_in ((zA_in (sub_st (H':=[dtB 5 (P12.1.map emd),Z2,row 59 3 A12 K c12 (cellsL emc P12.1),pt b19 39 (lgc bb_ A12 K c12)]) w' hS)).perm (List.Perm.swap _ _ _))).perm (List.Perm.swap _ _ _))⟩
def cmpX (x:Rs) (idx:Nat):Rs:={x with base:=(cmp x.base x.es idx).2.1,es:=(cmp x.base x.es idx).2.2,cf:=forceL x idx}
theorem cpx_out {a:At} {l:List En} {idx:Nat} {e:Int} {b:At} {r:List En} (hr:rightB a l=true) (h1:a.1≤idx) (h2:idx≤a.1+l.length) (h:cmp a l idx=(e,b,r)):e=0∧r.length≤l.length∧ ∀ y∈r,y∈l:=by
 unfold cmp at h
 rw[if_pos hr] at h
 have hf:findR a l idx=(((idx-a.1:Nat):Int),placeN a l (idx-a.1)):=if_pos ⟨h1,h2⟩
 rw[hf,if_neg (by omega)] at h
 simp only[Prod.mk.injEq] at h
 obtain⟨rfl,_,rfl⟩:=h
 exact⟨O,by rw[List.length_drop];omega,fun y hy=>List.mem_of_mem_drop hy⟩
theorem compact_ck (w:World) (x:Rs) (p:Rp) (h:RfR w x p) (idx:Nat) (hck:checkB x=false):
  Gives Tryz.prog 33 [.agg (rfc x p).toArray,.int .u64 (idx:Int)] [] w (X:=Unit) (fun _=> .tuple #[.agg (rfc rs0 rp0).toArray,zi 250]) (fun _=>True) (fun _=>[]):=by
 refine gives_C Tryz.func33 O Tryz.ntmps33 Tryz.results33 (by simp) (St.enter w) (fun B hB=>?_)
 focus (refine qs ?_;(refine qe (E_boxa (cs:=rfc x p) O) ?_;rintro _ _ ⟨b2,rfl,rfl⟩);(refine qe (E_alloca O rf_zero) ?_;rintro _ _ ⟨b4,rfl,rfl⟩);refine qp ?_;refine qz ?_;refine qq ?_;refine qb ?_;refine qs ?_;refine qt (T_loads (ds:=rfc x p) O O O O O) ?_;refine qh F30 (fun w1 hS1=>rcheck_any w1 x p (h.keep hS1.kpO) false hck) ?_;refine qp ?_;refine qp ?_;refine qz ?_;refine qT ?_;refine qs ?_;refine qt (T_build0 rf_built0) ?_;(refine qw (E_storew (cs:=rfc rs0 rp0) (ds:=rfc rs0 rp0) O O O O (rfc_one _ _) O) ?_;rintro _ _ rfl);refine qp ?_;refine qz ?_)
 refine hB _ _ _ _ _ O (.cell O O O inferInstance O (.tmp O .nil)) fun w' hS=>⟨(),O,trivial,hS.sublist (List.nil_sublist _)⟩
theorem compact_arg (w:World) (x:Rs) (p:Rp) (h:RfR w x p) (idx:Nat) (hck:checkB x=true) (hlm:idx<x.base.1∨x.commit<idx):
  Gives Tryz.prog 33 [.agg (rfc x p).toArray,.int .u64 (idx:Int)] [] w (X:=Unit) (fun _=> .tuple #[.agg (rfc rs0 rp0).toArray,zi 2]) (fun _=>True) (fun _=>[]):=by
 refine gives_C Tryz.func33 O Tryz.ntmps33 Tryz.results33 (by simp) (St.enter w) (fun B hB=>?_)
 by_cases hl4:idx<x.base.1
 ·focus (refine qs ?_;(refine qe (E_boxa (cs:=rfc x p) O) ?_;rintro _ _ ⟨b2,rfl,rfl⟩);(refine qe (E_alloca O rf_zero) ?_;rintro _ _ ⟨b4,rfl,rfl⟩);refine qp ?_;refine qz ?_;refine qq ?_;refine qb ?_;refine qs ?_;refine qt (T_loads (ds:=rfc x p) O O O O O) ?_;refine qh F30 (fun w1 hS1=>rcheck_any w1 x p (h.keep hS1.kpO) true hck) ?_;refine qp ?_;refine qp ?_;refine qz ?_;refine qF ?_;refine qs ?_;(iterate 4 refine qp ?_);refine qt (T_load O O O O) ?_;refine qd ?_;refine qd ?_;(iterate 4 refine qk ?_);refine qd ?_;refine qd ?_;refine qz ?_;refine qT ?_;refine qs ?_;refine qt (T_build0 rf_built0) ?_;(refine qw (E_storew (cs:=rfc rs0 rp0) (ds:=rfc rs0 rp0) O O O O (rfc_one _ _) O) ?_;rintro _ _ rfl);refine qp ?_;refine qz ?_)
  refine hB _ _ _ _ _ O (.cell O O O inferInstance O (.tmp O .nil)) fun w' hS=>⟨(),O,trivial,hS.sublist (List.nil_sublist _)⟩
 ·focus (refine qs ?_;(refine qe (E_boxa (cs:=rfc x p) O) ?_;rintro _ _ ⟨b2,rfl,rfl⟩);(refine qe (E_alloca O rf_zero) ?_;rintro _ _ ⟨b4,rfl,rfl⟩);refine qp ?_;refine qz ?_;refine qq ?_;refine qb ?_;refine qs ?_;refine qt (T_loads (ds:=rfc x p) O O O O O) ?_;refine qh F30 (fun w1 hS1=>rcheck_any w1 x p (h.keep hS1.kpO) true hck) ?_;refine qp ?_;refine qp ?_;refine qz ?_;refine qF ?_;refine qs ?_;(iterate 4 refine qp ?_);refine qt (T_load O O O O) ?_;refine qf ?_;(iterate 3 refine qp ?_);refine qt (T_load O O O O) ?_;(iterate 3 refine qd ?_);refine qz ?_;refine qT ?_;refine qs ?_;refine qt (T_build0 rf_built0) ?_;(refine qw (E_storew (cs:=rfc rs0 rp0) (ds:=rfc rs0 rp0) O O O O (rfc_one _ _) O) ?_;rintro _ _ rfl);refine qp ?_;refine qz ?_)
  refine hB _ _ _ _ _ O (.cell O O O inferInstance O (.tmp O .nil)) fun w' hS=>⟨(),O,trivial,hS.sublist (List.nil_sublist _)⟩
theorem compact_ok (w:World) (x:Rs) (p:Rp) (h:RfR w x p) (idx:Nat) (hck:checkB x=true) (hl1:x.base.1≤idx) (hl2:idx≤x.commit) (hu2:RsU (cmpX x idx)):
  Gives Tryz.prog 33 [.agg (rfc x p).toArray,.int .u64 (idx:Int)] [] w (X:=Rp×Asn) (fun y=> .tuple #[.agg (rfc (cmpX x idx) y.1).toArray,zi 0]) (fun y=> ∀ w',y.2.holds w'→RfR w' (cmpX x idx) y.1) (fun y=>[y.2]):=by
 refine gives_C Tryz.func33 O Tryz.ntmps33 Tryz.results33 (by simp) (St.enter w) (fun B hB=>?_)
 have n1:=h.lg.hm
 have n2:=h.lg.hcm
 have n3:=h.hvm
 have n4:=h.hpm
 have hdd:=h.lg.ed
 obtain⟨ms,hms⟩: ∃ ms,forceL x idx=ms:=⟨_,O⟩
 have hm5:ms.length≤5:=by rw[← hms];exact force_le (chk_conf hck) _
 obtain⟨⟨e,bb,rr⟩,hcp⟩: ∃ z,cmp x.base x.es idx=z:=⟨_,O⟩
 have hlast:idx≤x.base.1+x.es.length:=by
  have h1:x.commit≤(lastP x).1:=by
   simp only[checkB,Bool.and_eq_true,decide_eq_true_eq] at hck
   exact hck.1.1.1.1.1.2
  rw[lastP,if_pos (chk_right hck)] at h1
  exact Nat.le_trans hl2 h1
 obtain⟨he0,hrl,hrm⟩:=cpx_out (chk_right hck) hl1 hlast hcp
 subst he0
 have hX:cmpX x idx={x with base:=bb,es:=rr,cf:=ms}:=by unfold cmpX;rw[hcp,hms]
 rw[hX] at hB hu2
 have hrd: ∀ y∈rr,y.2.2.length≤100000:=fun y hy=>hdd y (hrm y hy)
 have hln:=h.lg.ln
 focus (refine qs ?_;(refine qe (E_boxa (cs:=rfc x p) O) ?_;rintro _ _ ⟨b2,rfl,rfl⟩);(refine qe (E_alloca O rf_zero) ?_;rintro _ _ ⟨b4,rfl,rfl⟩);refine qp ?_;refine qz ?_;refine qq ?_;refine qb ?_;refine qs ?_;refine qt (T_loads (ds:=rfc x p) O O O O O) ?_;refine qh F30 (fun w1 hS1=>rcheck_any w1 x p (h.keep hS1.kpO) true hck) ?_;refine qp ?_;refine qp ?_;refine qz ?_;refine qF ?_;refine qs ?_;(iterate 4 refine qp ?_);refine qt (T_load O O O O) ?_;refine qf ?_;(iterate 3 refine qp ?_);refine qt (T_load O O O O) ?_;refine qf ?_;refine qp ?_;refine qp ?_;refine qz ?_;refine qF ?_;refine qx ?_;refine RS_blk ?_;refine qs ?_;refine qt (T_loads (ds:=rfc x p) O O O O O) ?_;(refine qe (E_hvG (f:=37) F37 (fun w hS=>rcopied_any w x p (h.keep hS.kpO)) O O) ?_;rintro _ _ ⟨q,rfl,⟨hq,hqn,hqc,hqv,hqp⟩,rfl⟩;dsimp only[List.cons_append,List.nil_append]);(refine qw (E_storew (cs:=rfc x p) (ds:=rfc x q) O O O O (rfc_one _ _) O) ?_;rintro _ _ rfl);refine qn ?_)
 have hlq: ∀ w3,KL (fun _=>True) [row 59 3 q.A q.n q.c (cellsL emc q.Q),dtB 5 (q.Q.map emd),row 3 1 q.cA q.cn q.cc (x.cf.map zv)] w3→LgR w3 x q:=fun w3 h3=>lgO_lg (h3.2 (row 59 3 q.A q.n q.c (cellsL emc q.Q)) (by simp)) (h3.2 (dtB 5 (q.Q.map emd)) (by simp)) (row_rd (h3.2 (row 3 1 q.cA q.cn q.cc (x.cf.map zv)) (by simp))) hq.hQ hq.hn hq.hcn (by omega) (by omega) hdd
 focus (refine qt (T_loads (ds:=rfc x q) O O O O O) ?_;refine qp ?_;(refine qe (E_hv1 (f:=53) F53 (fun w1 hS1=>rforce_k w1 x q (KL (fun _=>True) [row 59 3 q.A q.n q.c (cellsL emc q.Q),dtB 5 (q.Q.map emd),row 3 1 q.cA q.cn q.cc (x.cf.map zv)]) (Kd.subL (As':=[]) (fun _ _=>trivial) hS1 (by simp)) hlq idx ms hms) O O (fun _=>O)) ?_;rintro _ _ ⟨⟨⟨A6,K6,c6⟩,Z6⟩,rfl,hI6,rfl⟩;dsimp only at hI6);(refine qe (E_alloca O C.cf_alloc) ?_;rintro _ _ ⟨b6,rfl,rfl⟩);(refine qw (E_storew (cs:=[.slice none 0 0]) (ds:=[.slice A6 ms.length c6]) O O O O (C.sl_one _ _ _) O) ?_;rintro _ _ rfl);refine qn ?_;refine qp ?_;refine qt (T_loads (ds:=lgc x.base q.A q.n q.c) O O O O O) ?_;refine qp ?_)
 focus ((refine qe (E_hvG (f:=100) F100 (fun w1 hS1=>compact_k w1 x.base q.A q.c q.n q.Q x.es hq.hn hq.hQ (row_rd (hS1.at_ (A:=row 59 3 q.A q.n q.c (cellsL emc q.Q)) (by simp))) ((SDt.own (e:=5) (D:=q.Q.map emd) (by simp)).rd w1 hS1) (row_facts (hS1.at_ (A:=row 59 3 q.A q.n q.c (cellsL emc q.Q)) (by simp))).1 (by omega) (fun m hm=>hdd (emv m) (by rw[← hq.hQ];exact List.mem_map.2 ⟨m,hm,O⟩)) idx 0 bb rr hcp) O O) ?_;rintro _ _ ⟨⟨⟨A7,c7⟩,P7⟩,rfl,⟨hP7,hc7⟩,rfl⟩;dsimp only[List.cons_append,List.nil_append] at hP7 hc7 ⊢);(iterate 3 refine qp ?_);(refine qe (E_alloca O lg_zero) ?_;rintro _ _ ⟨b7,rfl,rfl⟩);(refine qw (E_storew (cs:=lgc (0,0) none 0 0) (ds:=lgc bb A7 rr.length c7) O O O O (lgc_one _ _ _ _) O) ?_;rintro _ _ rfl);refine qp ?_;refine qz ?_;refine qq ?_;refine qs ?_;refine qp ?_;refine qf ?_;refine qz ?_;refine qF ?_;refine qx ?_;refine qq ?_)
 refine S_draw ([pt b7 39 (lgc bb A7 rr.length c7),pt b6 33 [.slice A6 ms.length c6]]) sub_st (by kernel_rfl) O (by kernel_rfl) (by kernel_rfl:_=6) ?_
 refine dt 0 O (T_loads (ds:=lgc bb A7 rr.length c7) O O O O O) ?_
 refine dt 1 O (T_loads (ds:=[.slice A6 ms.length c6]) O O O O O) ?_
 refine dp 2 ?_
 refine D_one 3 O (E_storeA (gb:=b2) (t:=42) (cs:=rfc x q) (ds:=lgc bb A7 rr.length c7) (cs':=rfc {x with base:=bb,es:=rr} ⟨A7,rr.length,c7,P7,q.cA,q.cn,q.cc,q.vA,q.vn,q.vc,q.pA,q.pn,q.pc⟩) O O O O (lgc_one _ _ _ _) O (by show 3+3≤14;omega)) ?_ O O (by kernel_rfl)
 rintro _ _ rfl
 refine nx ?_
 refine dp 4 ?_
 refine D_one 5 O (E_storeA (gb:=b2) (t:=42) (cs:=rfc {x with base:=bb,es:=rr} ⟨A7,rr.length,c7,P7,q.cA,q.cn,q.cc,q.vA,q.vn,q.vc,q.pA,q.pn,q.pc⟩) (ds:=[.slice A6 ms.length c6]) (cs':=rfc {x with base:=bb,es:=rr,cf:=ms} ⟨A7,rr.length,c7,P7,A6,ms.length,c6,q.vA,q.vn,q.vc,q.pA,q.pn,q.pc⟩) O O O O (C.sl_one _ _ _) O (by show 6+1≤14;omega)) ?_ O O (by kernel_rfl)
 rintro _ _ rfl
 refine nx ?_
 refine dn ?_
 skip
 focus (refine qs ?_;refine qt (T_loads (ds:=rfc {x with base:=bb,es:=rr,cf:=ms} ⟨A7,rr.length,c7,P7,A6,ms.length,c6,q.vA,q.vn,q.vc,q.pA,q.pn,q.pc⟩) O O O O O) ?_;(refine qw (E_storew (cs:=rfc rs0 rp0) (ds:=rfc {x with base:=bb,es:=rr,cf:=ms} ⟨A7,rr.length,c7,P7,A6,ms.length,c6,q.vA,q.vn,q.vc,q.pA,q.pn,q.pc⟩) O O O O (rfc_one _ _) O) ?_;rintro _ _ rfl);refine qp ?_;refine qz ?_)
 refine hB _ _ _ _ _ O (.cell O O O inferInstance O (.tmp O .nil)) fun w' hS=>⟨(⟨A7,rr.length,c7,P7,A6,ms.length,c6,q.vA,q.vn,q.vc,q.pA,q.pn,q.pc⟩,bun ([row 59 3 A7 rr.length c7 (cellsL emc P7),dtB 5 (P7.map emd),row 59 3 q.A q.n q.c (cellsL emc q.Q),dtB 5 (q.Q.map emd),row 3 1 q.cA q.cn q.cc (x.cf.map zv),Z6,row 3 1 q.vA q.vn q.vc (x.votes.map zv),row 112 3 q.pA q.pn q.pc (cellsL pec x.peers)])),O,fun w3 h3=>?_,bun_in (L:=[row 59 3 A7 rr.length c7 (cellsL emc P7),dtB 5 (P7.map emd),row 59 3 q.A q.n q.c (cellsL emc q.Q),dtB 5 (q.Q.map emd),row 3 1 q.cA q.cn q.cc (x.cf.map zv),Z6,row 3 1 q.vA q.vn q.vc (x.votes.map zv),row 112 3 q.pA q.pn q.pc (cellsL pec x.peers)]) (H:=[]) (sub_st (H':=[row 59 3 A7 rr.length c7 (cellsL emc P7),dtB 5 (P7.map emd),row 59 3 q.A q.n q.c (cellsL emc q.Q),dtB 5 (q.Q.map emd),row 3 1 q.cA q.cn q.cc (x.cf.map zv),Z6,row 3 1 q.vA q.vn q.vc (x.votes.map zv),row 112 3 q.pA q.pn q.pc (cellsL pec x.peers)]) w' hS)⟩
 have h4:=bun_all h3
 have hlg:LgR w3 {x with base:=bb,es:=rr,cf:=ms} ⟨A7,rr.length,c7,P7,A6,ms.length,c6,q.vA,q.vn,q.vc,q.pA,q.pn,q.pc⟩:=lgO_lg (h4 (row 59 3 A7 rr.length c7 (cellsL emc P7)) (by simp)) (h4 (dtB 5 (P7.map emd)) (by simp)) (hI6 w3 ⟨⟨trivial,fun A hA=>h4 A (by simp at hA ⊢;rcases hA with rfl|rfl|rfl<;>simp)⟩,h4 Z6 (by simp)⟩) hP7 (by rw[← hP7,List.length_map]) O (by show rr.length≤1000;omega) (by show ms.length≤900;omega) hrd
 exact⟨hlg,hq.hvn,by show q.vn≤900;omega,row_rd (h4 (row 3 1 q.vA q.vn q.vc (x.votes.map zv)) (by simp)),hq.hpn,by show q.pn≤900;omega,row_rd (h4 (row 112 3 q.pA q.pn q.pc (cellsL pec x.peers)) (by simp)),hu2⟩
theorem ms_b7 (f who:Int) (t:Nat) (b:At) (A:Option Addr) (n c:Nat):Tryz.prog.built 65 [(0,.int .i64 7),(1,.int .i64 f),(2,.int .i64 who),(3,.int .u64 (t:Int)),(4,.agg (atc b).toArray),(9,.agg [Value.slice A n c].toArray)]=some (mgc ⟨7,f,who,t,b,[],0,false,0,[],[]⟩ ⟨none,0,0,A,n,c,none,0,0,[]⟩).toArray:=by kernel_rfl
theorem ms_b5 (f who:Int) (t cm:Nat) (b:At) (A:Option Addr) (n c:Nat):Tryz.prog.built 65 [(0,.int .i64 5),(1,.int .i64 f),(2,.int .i64 who),(3,.int .u64 (t:Int)),(4,.agg (atc b).toArray),(5,.slice A n c),(6,.int .u64 (cm:Int))]=some (mgc ⟨5,f,who,t,b,[],cm,false,0,[],[]⟩ ⟨A,n,c,none,0,0,none,0,0,[]⟩).toArray:=by kernel_rfl
instance:Inhabited Ms:=⟨ms0⟩
instance:Inhabited Mp:=⟨⟨none,0,0,none,0,0,none,0,0,[]⟩⟩
theorem idx_none {l:List Pe} {who:Int} (h: ∀ q∈l,q.1≠who):idxPe (fun p=>decide (p.1=who)) l= -1:=find_none (List.find?_eq_none.2 fun q hq=>by simpa using h q hq)
theorem idx_at {l:List Pe} {who:Int} {j:Nat} (hj:j<l.length) (h1: ∀ q∈l.take j,q.1≠who) (h2:(l.getD j default).1=who):idxPe (fun p=>decide (p.1=who)) l=(j:Int):=by
 have hg:l.getD j default=l[j]:=by simp[List.getD,hj]
 rw[hg] at h2
 have hf:l.findIdx (fun p=>decide (p.1=who))=j:=by
  rw[List.findIdx_eq hj]
  refine⟨by simpa using h2,fun k hk=>?_⟩
  have:=h1 l[k] (List.mem_iff_getElem.2 ⟨k,by rw[List.length_take];omega,by simp⟩)
  simpa using this
 unfold idxPe
 rw[if_neg,hf]
 rw[List.all_eq_true]
 intro hc
 have:=hc l[j] (List.getElem_mem _)
 simp[h2] at this
theorem findD_k (w:World) (x:Rs) (p:Rp) (h:RfR w x p) (who:Int) (r:Int) (hr:idxPe (fun p=>decide (p.1=who)) x.peers=r):
  Gives Tryz.prog 153 [.agg (rfc x p).toArray,.int .i64 who] [] w (X:=Unit) (fun _=> .int .i64 r) (fun _=>True) (fun _=>[]):=by
 refine gives_S Tryz.func153 O Tryz.ntmps153 Tryz.results153 (by simp) (St.enter w) (fun B hB=>?_)
 have hpl:=h.hpn
 have hpm:=h.hpm
 have hrp:=h.rp
 have hne:0<p.pn→p.pA≠none:=fun h0=>by obtain⟨ad,e,_⟩:=h.rp.2 (by omega);rw[e];simp
 focus (refine qs ?_;(refine qe (E_boxa (cs:=rfc x p) O) ?_;rintro _ _ ⟨b2,rfl,rfl⟩);refine qp ?_;refine qz ?_;refine qq ?_;refine qs ?_;refine qp ?_;refine qz ?_;refine qb ?_)
 refine S_loop (X:=Nat) (fun j=>[(1,.int .i64 who),(2,.pointer (some ⟨b2,0,none⟩)),(5,.int .i64 (j:Int))]) (fun _=>[pt b2 42 (rfc x p)]) (fun j=>j≤p.pn∧ ∀ q∈x.peers.take j,q.1≠who) (fun j=>p.pn-j) O 0 ⟨Nat.zero_le _,by simp⟩ (Sub.cons O (Sub.cons O (Sub.cons O Sub.nil))) sub_st ?_
 rintro j ⟨hj,hok⟩ J hJ
 rcases Nat.lt_or_ge j p.pn with hjl|hjl
 ·have hne:=hne (by omega)
  have hat:=cellsL_at (f:=pec) pec_len x.peers default j (by omega)
  obtain⟨q,hq⟩: ∃ q,x.peers.getD j default=q:=⟨_,O⟩
  rw[hq] at hat
  have hat0:(cellsL pec x.peers)[j*3+0]? =some (.int .i64 q.1):=hat 0 _ O
  have htk:x.peers.take (j+1)=x.peers.take j++[q]:=by rw[List.take_succ_eq_append_getElem (by omega)];simp[← hq,List.getD,hjl,hpl]
  by_cases hxm:q.1=who
  ·obtain rfl:r=(j:Int):=by rw[← hr];exact idx_at (by omega) hok (by rw[hq];exact hxm)
   repeat' (first|refine R_take (T_decT O (by omega)) ?_ O O|refine R_p O ?_ O O|refine R_nil ?_|refine R_take (T_ixM (sz:=3) O O O O O O hne hjl) ?_ O O|refine R_take (T_fap O O O O O hne) ?_ O O|refine R_take (T_ldr (v:= .int .i64 q.1) O O O (Srd.old hrp (fun k _=>noOwns k)) (by omega) hat0) ?_ O O|refine R_take (T_load O O O O) ?_ O O|refine S_seq O ?_|refine S_region O O ?_|refine S_true O O ?_|refine S_block O ?_|refine S_skip O ?_)
   exact hB _ _ _ _ _ O O (qE O)
  ·focus (refine qq ?_;refine qs ?_;refine qp ?_;refine qp ?_;refine qt (T_load O O O O) ?_;refine qp ?_;refine qd ?_;refine qz ?_;refine qT ?_;refine qx ?_;refine qq ?_;refine qb ?_;refine qs ?_;refine qp ?_;refine qt (T_load O O O O) ?_;refine qp ?_;refine qt (T_ixM (sz:=3) O O O O O O hne hjl) ?_;refine qt (T_fap O O O O O hne) ?_;refine qt (T_ldr (v:= .int .i64 q.1) O O O (Srd.old hrp (fun k _=>noOwns k)) (by omega) hat0) ?_;refine qp ?_;refine qf ?_;refine qz ?_;refine qF ?_;refine qx ?_;refine RS_blk ?_;refine qr ?_;refine qp ?_;refine qt (T_addN O O (by unfold fits;omega)) ?_;refine qp ?_;refine qz ?_)
   exact hJ (j+1) _ _ ⟨by omega,fun z hz=>by rw[htk] at hz;rcases List.mem_append.1 hz with hz|hz;exact hok z hz;rw[List.mem_singleton.1 hz];exact hxm⟩ (Sub.cons O (Sub.cons O (Sub.cons O Sub.nil))) sub_st (by omega)
 have hjn:j=x.peers.length:=by omega
 subst hjn
 rw[List.take_length] at hok
 obtain rfl:r= -1:=by rw[← hr];exact idx_none hok
 focus (refine qq ?_;refine qs ?_;refine qp ?_;refine qp ?_;refine qt (T_load O O O O) ?_;refine qp ?_;refine qf ?_;refine qz ?_;refine qF ?_;refine S_exit O O ?_;refine qs ?_;refine qp ?_;refine qz ?_)
 exact hB _ _ _ _ _ O O (qE O)
theorem nextD_k (w:World) (x:Rs) (p:Rp) (D:Kw) (hD:Kd D [] w) (h: ∀ w',D w'→RfR w' x p) (hrb:rightB x.base x.es=true) (who:Int):
  Gives Tryz.prog 154 [.agg (rfc x p).toArray,.int .i64 who] [] w (X:=(List (Ms×Mp)×Option Addr×Nat)×Asn) (fun y=> .slice y.1.2.1 y.1.1.length y.1.2.2) (fun y=>y.1.1.map Prod.fst=nextM x who∧ ∀ w',K2 D y.2 w'→ ∀ s∈y.1.1,MsR w' s.1 s.2) (fun y=>[row 65 12 y.1.2.1 y.1.1.length y.1.2.2 (cellsL sgc y.1.1),y.2]):=by
 refine gives_S Tryz.func154 O Tryz.ntmps154 Tryz.results154 (by simp) (St.enter w) (fun B hB=>?_)
 have hw:=h w hD.now
 have z1:=hw.lg.hm
 have z2:=hw.lg.hcm
 have z3:=hw.hpm
 have z4:=hw.hpn
 have hnm:nextM x who=match x.peers.find? (fun p=>decide (p.1=who)) with
  |none=>[]
  |some p=>if p.2.1≤x.base.1 then [{ms0 with K:=7,F:=x.me,T:=who,tm:=x.term,pl:=x.base,cf:=x.cf}]
   else [{ms0 with K:=5,F:=x.me,T:=who,tm:=x.term,pl:=(frm x.base x.es p.2.1 8).2.1,es:=(frm x.base x.es p.2.1 8).2.2,cm:=x.commit}]:=rfl
 cases hf:x.peers.find? (fun p=>decide (p.1=who)) with
 |none=>
  rw[hf] at hnm
  have hix:=find_none hf
  focus (refine qs ?_;(refine qe (E_boxa (cs:=rfc x p) O) ?_;rintro _ _ ⟨b2,rfl,rfl⟩);refine qp ?_;refine qn ?_;refine qt (T_loads (ds:=rfc x p) O O O O O) ?_;refine qp ?_;refine qh F153 (fun w1 hS1=>findD_k w1 x p (h w1 (hD.at_ hS1)) who _ hix) ?_;refine qp ?_;refine qz ?_;refine qq ?_;refine qs ?_;refine qp ?_;refine qd ?_;refine qz ?_;refine qT ?_;refine qs ?_;refine qp ?_;refine qz ?_)
  exact hB _ _ _ _ _ O O fun w' hS=>⟨(([],none,0),zN),O,⟨hnm.symm,fun _ _ s hs=>absurd hs (by simp)⟩,sub_st (H':=[row 65 12 none 0 0 [],zN]) w' ((zN_in (hS.sublist (List.nil_sublist _))).nilrow 65 12)⟩
 |some q=>
  rw[hf] at hnm
  obtain⟨i,hil,hix,hgi,_⟩:=find_some hf
  obtain⟨kqw,kqn,kqm⟩:=q
  dsimp only at hnm
  have hat:=cellsL_at (f:=pec) pec_len x.peers default i hil
  rw[hgi] at hat
  have hat1:(cellsL pec x.peers)[i*3+1]? =some (.int .u64 (kqn:Int)):=hat 1 _ O
  have hqu:=(hw.hu.pe _ (List.mem_of_find?_eq_some hf)).1
  dsimp only at hqu
  have hne:p.pA≠none:=by obtain⟨ad,e,_⟩:=hw.rp.2 (by omega);rw[e];simp
  have hip:i<p.pn:=by omega
  by_cases hle:kqn≤x.base.1
  ·rw[if_pos hle] at hnm
   focus (refine qs ?_;(refine qe (E_boxa (cs:=rfc x p) O) ?_;rintro _ _ ⟨b2,rfl,rfl⟩);refine qp ?_;refine qn ?_;refine qt (T_loads (ds:=rfc x p) O O O O O) ?_;refine qp ?_;refine qh F153 (fun w1 hS1=>findD_k w1 x p (h w1 (hD.at_ hS1)) who _ hix) ?_;refine qp ?_;refine qz ?_;refine qq ?_;refine qs ?_;refine qp ?_;refine qf ?_;refine qz ?_;refine qF ?_;refine qx ?_;refine qs ?_;refine qp ?_;refine qt (T_load O O O O) ?_;refine qp ?_;refine qt (T_ixM (sz:=3) O O O O O O hne hip) ?_;refine qt (T_fap O O O O O hne) ?_;refine qt (T_ldr (v:= .int .u64 (kqn:Int)) O O O (Srd.old hw.rp (fun k _=>noOwns k)) (by omega) hat1) ?_;refine qp ?_;refine qz ?_;refine qq ?_;refine qs ?_;(iterate 4 refine qp ?_);refine qt (T_load O O O O) ?_;refine qd ?_;refine qz ?_;refine qT ?_;refine qs ?_;(iterate 2 refine qp ?_;refine qt (T_load O O O O) ?_;refine qp ?_);refine qp ?_;refine qt (T_loads (ds:=atc x.base) O O O O O) ?_;refine qp ?_;refine qt (T_loads (ds:=[.slice p.cA p.cn p.cc]) O O O O O) ?_;refine qt (T_build6 O O O O O O (ms_b7 x.me who x.term x.base p.cA p.cn p.cc)) ?_;(refine qe (E_litS (vs:=[.agg (mgc (⟨7,x.me,who,x.term,x.base,[],0,false,0,x.cf,[]⟩:Ms) (⟨none,0,0,p.cA,p.cn,p.cc,none,0,0,[]⟩:Mp)).toArray]) (size:=12) (ds:=mgc (⟨7,x.me,who,x.term,x.base,[],0,false,0,x.cf,[]⟩:Ms) (⟨none,0,0,p.cA,p.cn,p.cc,none,0,0,[]⟩:Mp)) O O O O O O (by simp[vcells,mgc_len]) O (by omega)) ?_;rintro _ _ ⟨vb,rfl,rfl⟩);refine qp ?_;refine qz ?_)
   refine hB _ _ _ _ _ O O fun w' hS=>⟨(([((⟨7,x.me,who,x.term,x.base,[],0,false,0,x.cf,[]⟩:Ms),(⟨none,0,0,p.cA,p.cn,p.cc,none,0,0,[]⟩:Mp))],some ⟨vb,0,none⟩,1),zN),O,⟨hnm.symm,fun w2 h2 s hs=>by
    obtain rfl:s=((⟨7,x.me,who,x.term,x.base,[],0,false,0,x.cf,[]⟩:Ms),(⟨none,0,0,p.cA,p.cn,p.cc,none,0,0,[]⟩:Mp)):=by simpa using hs
    exact⟨O,Nat.zero_le _,O,Rd.none_,fun m hm=>absurd hm (by simp),(h w2 h2.1).lg.hcn,by unfold maxLen;show p.cn≤_;omega,(h w2 h2.1).lg.rc,Bs.nil _ _⟩⟩,?_⟩
   have h1:=zN_in (sub_st (H':=[pt vb 65 (mgc (⟨7,x.me,who,x.term,x.base,[],0,false,0,x.cf,[]⟩:Ms) (⟨none,0,0,p.cA,p.cn,p.cc,none,0,0,[]⟩:Mp))]) w' hS)
   have h2:=h1.perm (List.Perm.swap _ _ _)
   exact St.rowOf (e:=65) (size:=12) (g:=vb) (n:=1) (m:=1) h2 Upd.here (Nat.le_refl _) (by unfold maxLen;omega) (by simp[cellsL,sgc,mgc_len])
  ·rw[if_neg hle] at hnm
   obtain⟨⟨fe,pp,es⟩,hfr⟩: ∃ z,frm x.base x.es kqn 8=z:=⟨_,O⟩
   obtain⟨K,hK⟩: ∃ K,es.length=K:=⟨_,O⟩
   rw[hfr] at hnm
   dsimp only at hnm
   have hes: ∀ e∈es,e∈x.es:=(frm_outs hfr).2
   have hKl:K≤1000:=by
    have:=(frm_outs hfr).1
    have:=hw.lg.ln
    omega
   have hidx:kqn≤18446744073709551615:=by omega
   focus (refine qs ?_;(refine qe (E_boxa (cs:=rfc x p) O) ?_;rintro _ _ ⟨b2,rfl,rfl⟩);refine qp ?_;refine qn ?_;refine qt (T_loads (ds:=rfc x p) O O O O O) ?_;refine qp ?_;refine qh F153 (fun w1 hS1=>findD_k w1 x p (h w1 (hD.at_ hS1)) who _ hix) ?_;refine qp ?_;refine qz ?_;refine qq ?_;refine qs ?_;refine qp ?_;refine qf ?_;refine qz ?_;refine qF ?_;refine qx ?_;refine qs ?_;refine qp ?_;refine qt (T_load O O O O) ?_;refine qp ?_;refine qt (T_ixM (sz:=3) O O O O O O hne hip) ?_;refine qt (T_fap O O O O O hne) ?_;refine qt (T_ldr (v:= .int .u64 (kqn:Int)) O O O (Srd.old hw.rp (fun k _=>noOwns k)) (by omega) hat1) ?_;refine qp ?_;refine qz ?_;refine qq ?_;refine qs ?_;(iterate 4 refine qp ?_);refine qt (T_load O O O O) ?_;refine qf ?_;refine qz ?_;refine qF ?_;refine qx ?_;refine qs ?_;refine qp ?_;refine qt (T_loads (ds:=lgc x.base p.A p.n p.c) O O O O O) ?_;refine qp ?_;(refine qe (E_hvG (f:=176) F176 (fun w1 hS1=>fromD_any w1 x.base p.A p.c p.n p.Q x.es hw.lg.hn hw.lg.hQ (h w1 (hD.at_ hS1)).lg.rq (h w1 (hD.at_ hS1)).lg.dt hw.lg.hc hw.lg.hm hw.lg.hd hrb kqn hidx 8 fe pp es K hK hfr) O O) ?_;rintro _ _ ⟨⟨⟨A5,c5⟩,P5⟩,rfl,hc5,rfl⟩;dsimp only[List.cons_append,List.nil_append]);(iterate 4 refine qp ?_);(refine qe (E_alloca O at_zero) ?_;rintro _ _ ⟨b7,rfl,rfl⟩);(refine qw (E_storew (cs:=atc (0,0)) (ds:=atc pp) O O O O (atc_one _) O) ?_;rintro _ _ rfl);refine qp ?_;refine qp ?_;refine qn ?_;refine qp ?_;refine qt (T_load O O O O) ?_;refine qp ?_;refine qp ?_;refine qt (T_load O O O O) ?_;refine qt (T_loads (ds:=atc pp) O O O O O) ?_;refine qp ?_;refine qp ?_;refine qt (T_load O O O O) ?_;refine qt (T_build7 O O O O O O O (ms_b5 x.me who x.term x.commit pp A5 K c5)) ?_;(refine qe (E_litS (vs:=[.agg (mgc (⟨5,x.me,who,x.term,pp,es,x.commit,false,0,[],[]⟩:Ms) (⟨A5,K,c5,none,0,0,none,0,0,P5.1⟩:Mp)).toArray]) (size:=12) (ds:=mgc (⟨5,x.me,who,x.term,pp,es,x.commit,false,0,[],[]⟩:Ms) (⟨A5,K,c5,none,0,0,none,0,0,P5.1⟩:Mp)) O O O O O O (by simp[vcells,mgc_len]) O (by omega)) ?_;rintro _ _ ⟨vb,rfl,rfl⟩);refine qp ?_;refine qz ?_)
   have hl5:P5.1.length=K:=by have:=congrArg List.length P5.2.1;rw[List.length_map] at this;omega
   refine hB _ _ _ _ _ O O fun w' hS=>⟨(([((⟨5,x.me,who,x.term,pp,es,x.commit,false,0,[],[]⟩:Ms),(⟨A5,K,c5,none,0,0,none,0,0,P5.1⟩:Mp))],some ⟨vb,0,none⟩,1),zA (row 59 3 A5 K c5 (cellsL emc P5.1)) (dtB 5 (P5.1.map emd))),O,⟨hnm.symm,fun w2 h2 s hs=>by
    obtain rfl:s=((⟨5,x.me,who,x.term,pp,es,x.commit,false,0,[],[]⟩:Ms),(⟨A5,K,c5,none,0,0,none,0,0,P5.1⟩:Mp)):=by simpa using hs
    exact⟨hl5,(by unfold maxLen;show K≤_;omega),P5.2.1,row_rd (zA_l h2.2),fun m hm=>dtB_bsW (zA_r h2.2) (emd m) (List.mem_map.2 ⟨m,hm,O⟩),O,Nat.zero_le _,Rd.none_,Bs.nil _ _⟩⟩,?_⟩
   have h1:=zA_in (sub_st (H':=[row 59 3 A5 K c5 (cellsL emc P5.1),dtB 5 (P5.1.map emd),pt vb 65 (mgc (⟨5,x.me,who,x.term,pp,es,x.commit,false,0,[],[]⟩:Ms) (⟨A5,K,c5,none,0,0,none,0,0,P5.1⟩:Mp))]) w' hS)
   have h2:=h1.perm (List.Perm.swap _ _ _)
   exact St.rowOf (e:=65) (size:=12) (g:=vb) (n:=1) (m:=1) h2 Upd.here (Nat.le_refl _) (by unfold maxLen;omega) (by simp[cellsL,sgc,mgc_len])
theorem bothD_k (w:World) (A1 A2:Option Addr) (cA cB:Nat) (L M:List (Ms×Mp)) (h1:Rd w All 12 A1 L.length (cellsL sgc L)) (h2:Rd w All 12 A2 M.length (cellsL sgc M)) (hl:L.length≤1000) (hm:M.length≤1000):
  Gives Tryz.prog 161 [.slice A1 L.length cA,.slice A2 M.length cB] [] w (X:=Option Addr×Nat) (fun y=> .slice y.1 (L++M).length y.2) (fun _=>True) (fun y=>[row 65 12 y.1 (L++M).length y.2 (cellsL sgc (L++M))]):=by
 refine gives_S Tryz.func161 O Tryz.ntmps161 Tryz.results161 (by simp) (St.enter w) (fun B hB=>?_)
 have hne1:0<L.length→A1≠none:=fun h0=>by obtain⟨ad,e,_⟩:=h1.2 (by omega);rw[e];simp
 have hne2:0<M.length→A2≠none:=fun h0=>by obtain⟨ad,e,_⟩:=h2.2 (by omega);rw[e];simp
 repeat' (first|refine R_p O ?_ O O|refine R_nil ?_|refine S_seq O ?_|refine S_region O O ?_|refine S_block O ?_)
 refine S_loop (X:=Nat×Option Addr×Nat) (fun z=>[(0,.slice A1 L.length cA),(1,.slice A2 M.length cB),(5,.slice z.2.1 z.1 z.2.2),(6,.int .i64 (z.1:Int))]) (fun z=>[row 65 12 z.2.1 z.1 z.2.2 (cellsL sgc (L.take z.1))]) (fun z=>z.1≤L.length) (fun z=>L.length-z.1) O (0,none,0) (Nat.zero_le _) (Sub.cons O (Sub.cons O (Sub.cons O (Sub.cons O Sub.nil)))) (fun w' hS=>?_) ?_
 ·exact sub_st (H':=[row 65 12 none 0 0 []]) w' ((hS.sublist (List.nil_sublist _)).nilrow 65 12)
 rintro⟨j,A6,c6⟩ hj J hJ
 dsimp only at hj ⊢
 rcases Nat.lt_or_ge j L.length with hjl|hjl
 ·have hne:=hne1 (by omega)
  have hat:=cellsL_at (f:=sgc) sgc_len L default j hjl
  obtain⟨q,hq⟩: ∃ q,L.getD j default=q:=⟨_,O⟩
  rw[hq] at hat
  have htk:L.take (j+1)=L.take j++[q]:=by rw[List.take_succ_eq_append_getElem hjl];simp[← hq,List.getD,hjl]
  have hcl:cellsL sgc (L.take (j+1))=cellsL sgc (L.take j)++sgc q:=by rw[htk];simp[cellsL]
  obtain⟨G,hG⟩: ∃ G,L.take j=G:=⟨_,O⟩
  rw[hG] at hcl ⊢
  focus (refine qq ?_;refine qs ?_;(iterate 3 refine qp ?_);refine qd ?_;refine qz ?_;refine qT ?_;refine qx ?_;refine qq ?_;refine qb ?_;refine qr ?_;(iterate 3 refine qp ?_);refine qt (T_ixM (sz:=12) O O O O O O hne hjl) ?_;refine qt (T_lda (ds:=sgc q) O O O (Srd.old h1 (fun k _=>noOwns k)) O (by omega) hat) ?_;(refine qe (E_litS (vs:=[.agg (sgc q).toArray]) (size:=12) (ds:=sgc q) O O O O O O (by simp[vcells,sgc_len]) O (by omega)) ?_;rintro _ _ ⟨vq,rfl,rfl⟩);(refine qe (E_appS (sz:=12) (m:=j) (c:=c6) (A:=A6) O O O O O O O (by decide) (Srd.pt (n:=1) (g:=vq) (ds:=sgc q) O (fun j u hj=>by rw[Nat.zero_add];exact hj)) (sgc_one q) (by show (j+1)*144≤_;omega) (by unfold maxLen;omega)) ?_;rintro _ _ ⟨A7,c7,rfl,rfl⟩);refine qp ?_;refine qz ?_;refine RS_blk ?_;refine qr ?_;refine qp ?_;refine qt (T_addN O O (by unfold fits;omega)) ?_;refine qp ?_;refine qz ?_)
  refine hJ (j+1,A7,c7) _ _ (by show j+1≤_;omega) (Sub.cons O (Sub.cons O (Sub.cons O (Sub.cons O Sub.nil)))) (fun w' hS=>?_) (by show L.length-(j+1)<_;omega)
  dsimp only
  rw[hcl]
  exact sub_st (H':=[row 65 12 A7 (j+1) c7 (cellsL sgc G++sgc q)]) w' hS
 obtain rfl:j=L.length:=by omega
 repeat' (first|refine R_take (T_decF O (by omega)) ?_ O O|refine R_p O ?_ O O|refine R_nil ?_|refine S_seq O ?_|refine S_region O O ?_|refine S_false O O ?_|refine S_block O ?_|refine S_exit O O ?_)
 rw[List.take_length]
 refine S_loop (X:=Nat×Option Addr×Nat) (fun z=>[(1,.slice A2 M.length cB),(5,.slice z.2.1 (L.length+z.1) z.2.2),(7,.int .i64 (z.1:Int))]) (fun z=>[row 65 12 z.2.1 (L.length+z.1) z.2.2 (cellsL sgc (L++M.take z.1))]) (fun z=>z.1≤M.length) (fun z=>M.length-z.1) O (0,A6,c6) (Nat.zero_le _) (Sub.cons O (Sub.cons O (Sub.cons O Sub.nil))) (fun w' hS=>?_) ?_
 ·dsimp only
  rw[List.take_zero,List.append_nil]
  exact sub_st (H':=[row 65 12 A6 L.length c6 (cellsL sgc L)]) w' hS
 rintro⟨j,A6,c6⟩ hj J hJ
 dsimp only at hj ⊢
 rcases Nat.lt_or_ge j M.length with hjl|hjl
 ·have hne:=hne2 (by omega)
  have hat:=cellsL_at (f:=sgc) sgc_len M default j hjl
  obtain⟨q,hq⟩: ∃ q,M.getD j default=q:=⟨_,O⟩
  rw[hq] at hat
  have htk:M.take (j+1)=M.take j++[q]:=by rw[List.take_succ_eq_append_getElem hjl];simp[← hq,List.getD,hjl]
  have hcl:cellsL sgc (L++M.take (j+1))=cellsL sgc (L++M.take j)++sgc q:=by rw[htk];simp[cellsL]
  obtain⟨G,hG⟩: ∃ G,L++M.take j=G:=⟨_,O⟩
  rw[hG] at hcl ⊢
  focus (refine qq ?_;refine qs ?_;(iterate 3 refine qp ?_);refine qd ?_;refine qz ?_;refine qT ?_;refine qx ?_;refine qq ?_;refine qb ?_;refine qr ?_;(iterate 3 refine qp ?_);refine qt (T_ixM (sz:=12) O O O O O O hne hjl) ?_;refine qt (T_lda (ds:=sgc q) O O O (Srd.old h2 (fun k _=>noOwns k)) O (by omega) hat) ?_;(refine qe (E_litS (vs:=[.agg (sgc q).toArray]) (size:=12) (ds:=sgc q) O O O O O O (by simp[vcells,sgc_len]) O (by omega)) ?_;rintro _ _ ⟨vq,rfl,rfl⟩);(refine qe (E_appS (sz:=12) (m:=(L.length+j)) (c:=c6) (A:=A6) O O O O O O O (by decide) (Srd.pt (n:=1) (g:=vq) (ds:=sgc q) O (fun j u hj=>by rw[Nat.zero_add];exact hj)) (sgc_one q) (by show ((L.length+j)+1)*144≤_;omega) (by unfold maxLen;omega)) ?_;rintro _ _ ⟨A7,c7,rfl,rfl⟩);refine qp ?_;refine qz ?_;refine RS_blk ?_;refine qr ?_;refine qp ?_;refine qt (T_addN O O (by unfold fits;omega)) ?_;refine qp ?_;refine qz ?_)
  refine hJ (j+1,A7,c7) _ _ (by show j+1≤_;omega) (Sub.cons O (Sub.cons O (Sub.cons O Sub.nil))) (fun w' hS=>?_) (by show M.length-(j+1)<_;omega)
  dsimp only
  rw[hcl]
  exact sub_st (H':=[row 65 12 A7 ((L.length+j)+1) c7 (cellsL sgc G++sgc q)]) w' hS
 obtain rfl:j=M.length:=by omega
 rw[List.take_length]
 repeat' (first|refine R_take (T_decF O (by omega)) ?_ O O|refine R_p O ?_ O O|refine R_nil ?_|refine S_seq O ?_|refine S_region O O ?_|refine S_false O O ?_|refine S_exit O O ?_)
 refine hB _ _ _ _ _ O O fun w' hS=>⟨(A6,c6),?_,trivial,?_⟩
 ·dsimp only[retv]
  rw[List.length_append]
 ·rw[List.length_append]
  exact sub_st (H':=[row 65 12 A6 (L.length+M.length) c6 (cellsL sgc (L++M))]) w' hS
def folP (p:Rp):Rp:=⟨p.A,p.n,p.c,p.Q,p.cA,p.cn,p.cc,none,0,0,none,0,0⟩
theorem fol_rf {w:World} {x:Rs} {p:Rp} (h:RfR w x p):RfR w (folR x) (folP p):=⟨h.lg.like O O O O O O O O,O,Nat.zero_le _,Rd.none_,O,Nat.zero_le _,Rd.none_,⟨h.hu.tm,h.hu.b1,h.hu.b2,h.hu.cm,fun p hp=>absurd hp (by simp[folR])⟩⟩
theorem agr_lt {ms:List Int} {L:List (Int×Nat)} {n b:Nat} (h:agrN ms L=n) (hb: ∀ q∈L,q.2<b) (h0:0<b:=by decide):n<b:=by
 have hi: ∀ m,C.idxN L m<b:=fun m=>by
  rcases Nat.lt_or_ge (C.idxN L m) b with h1|h1
  ·exact h1
  ·rcases(C.idx_le m b L 0).1 h1 with h2|⟨q,hq,_,h3⟩
   ·omega
   ·have:=hb q hq;omega
 rw[← h]
 unfold agrN
 split
 ·unfold C.ragN
  have key: ∀ (k:List Int) (c:Nat),c<b→k.foldl (fun b m=>if ms.length<2*ms.countP (fun x=>decide (C.idxN L m≤C.idxN L x)) then max b (C.idxN L m) else b) c<b:=by
   intro k
   induction k with
   |nil=>exact fun c hc=>hc
   |cons m k ih=>
    intro c hc
    rw[List.foldl_cons]
    refine ih _ ?_
    split
    ·have:=hi m;omega
    ·exact hc
  exact key _ 0 h0
 ·exact h0
theorem has_k15 (w:World) (A:Option Addr) (n c:Nat) (ms:List Int) (m:Int) (h:Rd w All 1 A n (ms.map zv)) (hn:n≤5) (r:Bool) (hr:decide (m∈ms)=r):
  Gives Tryz.prog 151 [C.cfv A n c,.int .i64 m] [] w (X:=Unit) (fun _=> .bool r) (fun _=>True) (fun _=>[]):=hr▸C.rhas_any w A n c ms m h (by omega)
theorem agr_k15 (w:World) (A A2:Option Addr) (n c n2 c2:Nat) (ms:List Int) (l:List (Int×Nat)) (h:Rd w All 1 A n (ms.map zv)) (h2:Rd w All 2 A2 n2 (C.mtc l)) (hn:n≤900) (hn2:n2≤900) (hri:C.right ms=true) (r:Nat) (hr:agrN ms l=r):
  Gives Tryz.prog 160 [C.cfv A n c,.slice A2 n2 c2] [] w (X:=Unit) (fun _=> .int .u64 (r:Int)) (fun _=>True) (fun _=>[]):=by
 rw[← hr,agrN,if_pos hri]
 exact C.ragr_any w A A2 n c n2 c2 ms l h h2 hn hn2
theorem followD_any (w:World) (x:Rs) (p:Rp):
  Gives Tryz.prog 75 [.agg (rfc x p).toArray] [] w (X:=Unit) (fun _=> .agg (rfc (folR x) (folP p)).toArray) (fun _=>True) (fun _=>[]):=by
 refine gives_C Tryz.func75 O Tryz.ntmps75 Tryz.results75 (by simp) (St.enter w) (fun B hB=>?_)
 repeat' (first|refine R_p O ?_ O O|refine R_nil ?_|refine R_take (T_loads (ds:=rfc (folR x) (folP p)) O O O O O) ?_ O O|refine S_seq O ?_|refine S_region O O ?_|(refine R_eff (E_boxa (cs:=rfc x p) O) ?_ O O;rintro _ _ ⟨b1,rfl,rfl⟩)|(refine R_eff (E_alloca O rf_zero) ?_ O O;rintro _ _ ⟨b2,rfl,rfl⟩)|(refine R_eff0 (E_store1 O O O O O O (by show _<14;omega)) ?_ O;rintro _ _ rfl)|(refine R_eff0 (E_storew (cs:=rfc rs0 rp0) (ds:=rfc (folR x) (folP p)) O O O O (rfc_one _ _) O) ?_ O;rintro _ _ rfl))
 refine hB _ _ _ _ _ O (.cell O O O inferInstance O .nil) fun w' hS=>⟨(),O,trivial,hS.sublist (List.nil_sublist _)⟩
theorem comesD_k (w:World) (x:Rs) (p:Rp) (D:Kw) (hD:Kd D [] w) (h: ∀ w',D w'→RfR w' x p) (hrb:rightB x.base x.es=true) (ms:List Int) (hms:nowL x=ms) (hm5:ms.length≤5):
  Gives Tryz.prog 107 [.agg (rfc x p).toArray,.bool true] [] w (X:=(List (Ms×Mp)×Option Addr×Nat)×Asn) (fun y=> .slice y.1.2.1 y.1.1.length y.1.2.2) (fun y=>y.1.1.map Prod.fst=ms.flatMap (lackM x)∧ ∀ w',K2 D y.2 w'→ ∀ s∈y.1.1,MsR w' s.1 s.2) (fun y=>[row 65 12 y.1.2.1 y.1.1.length y.1.2.2 (cellsL sgc y.1.1),y.2]):=by
 refine gives_S Tryz.func107 O Tryz.ntmps107 Tryz.results107 (by simp) (St.enter w) (fun B hB=>?_)
 have hw:=h w hD.now
 have hl2:=hw.hpn
 have hm2:=hw.hpm
 focus (refine qs ?_;(refine qe (E_boxa (cs:=rfc x p) O) ?_;rintro _ _ ⟨b2,rfl,rfl⟩);(iterate 2 refine qp ?_;refine qn ?_);refine qt (T_loads (ds:=rfc x p) O O O O O) ?_;(refine qe (E_hv1 (f:=32) F32 (fun w1 hS1=>nowD_k w1 x p D (hD.call0 hS1) (fun w2 h2=>(h w2 h2).lg) hrb ms hms) O O (fun _=>O)) ?_;rintro _ _ ⟨⟨⟨A6,K6,c6⟩,Z6⟩,rfl,hI6,rfl⟩;dsimp only at hI6);(refine qe (E_alloca O C.cf_alloc) ?_;rintro _ _ ⟨b6,rfl,rfl⟩);(refine qw (E_storew (cs:=[.slice none 0 0]) (ds:=[.slice A6 ms.length c6]) O O O O (C.sl_one _ _ _) O) ?_;rintro _ _ rfl);refine qz ?_;refine qq ?_;refine qs ?_;refine qp ?_;refine qz ?_;refine qb ?_)
 refine RS_fact (p:=0<ms.length→A6≠none) (fun w1 hS1=>fun h3=>by obtain⟨ad,e,_⟩:=(hI6 w1 ⟨hD.at_ hS1,hS1.at_ (A:=Z6) (by simp)⟩).2 h3;rw[e];simp) fun hne=>?_
 refine RS_zN ?_
 refine S_loop (X:=Nat×(List (Ms×Mp)×Option Addr×Nat)×Asn) (fun z=>[(1,.bool true),(2,.pointer (some ⟨b2,0,none⟩)),(5,.slice z.2.1.2.1 z.2.1.1.length z.2.1.2.2),(6,.pointer (some ⟨b6,0,none⟩)),(7,.int .i64 (z.1:Int))]) (fun z=>[row 65 12 z.2.1.2.1 z.2.1.1.length z.2.1.2.2 (cellsL sgc z.2.1.1),z.2.2,Z6,pt b6 33 [.slice A6 ms.length c6],pt b2 42 (rfc x p)]) (fun z=>z.1≤ms.length∧z.2.1.1.map Prod.fst=(ms.take z.1).flatMap (lackM x)∧ ∀ w',K2 D z.2.2 w'→ ∀ s∈z.2.1.1,MsR w' s.1 s.2) (fun z=>ms.length-z.1) O (0,([],none,0),zN) ⟨Nat.zero_le _,by simp,fun _ _ s hs=>absurd hs (by simp)⟩ (Sub.cons O (Sub.cons O (Sub.cons O (Sub.cons O (Sub.cons O Sub.nil))))) (fun w' hS=>sub_st (H':=[row 65 12 none 0 0 [],zN,Z6,pt b6 33 [.slice A6 ms.length c6],pt b2 42 (rfc x p)]) w' (hS.nilrow 65 12)) ?_
 rintro⟨j,⟨L,A5,c5⟩,Z⟩ ⟨hj,hL1,hL2⟩ J hJ
 dsimp only at hj hL1 hL2 ⊢
 have hLl:L.length≤5:=by
  rw[← List.length_map (f:=Prod.fst),hL1]
  exact Nat.le_trans (flat_len (fun a=>lackM_le x a) _) (by rw[List.length_take];omega)
 rcases Nat.lt_or_ge j ms.length with hjl|hjl
 ·have hne:=hne (by omega)
  have hat:=zv_at (l:=ms) (j:=j) hjl
  obtain⟨u,hu⟩: ∃ u,ms.getD j 0=u:=⟨_,O⟩
  rw[hu] at hat
  have htk:ms.take (j+1)=ms.take j++[u]:=by rw[List.take_succ_eq_append_getElem hjl];simp[← hu,List.getD,hjl]
  have hnm:lackM x u=match x.peers.find? (fun p=>decide (p.1=u)) with
   |none=>[]
   |some p=>if p.2.1≤(lastP x).1 then nextM x u else []:=rfl
  focus (refine qq ?_;refine qs ?_;refine qp ?_;refine qp ?_;refine qt (T_load O O O O) ?_;refine qp ?_;refine qd ?_;refine qz ?_;refine qT ?_;refine qx ?_;refine qq ?_;refine qb ?_;refine qq ?_)
  cases hf:x.peers.find? (fun p=>decide (p.1=u)) with
  |none=>
   rw[hf] at hnm
   have hix:=find_none hf
   refine S_draw ([pt b2 42 (rfc x p),pt b6 33 [.slice A6 ms.length c6],Z6]) sub_st (by kernel_rfl) O (by kernel_rfl) (by kernel_rfl:_=8) ?_
   refine dt 0 O (T_loads (ds:=rfc x p) O O O O O) ?_
   refine dp 1 ?_
   refine dl 2 ?_
   refine dp 3 ?_
   refine dt 4 O (T_ix1 O O O O O O hne hjl) ?_
   refine dt 5 O (T_ldr (v:=zv u) O O O (Srd.kn (Z:=Z6) hD hI6) (by omega) hat) ?_
   refine D_one 6 O (E_hv0 (f:=153) F153 (fun w1 hS1=>findD_k w1 x p (h w1 (hD.at_ hS1)) u _ hix) O O (fun _=>O)) ?_ O O (by kernel_rfl)
   rintro _ _ ⟨_,rfl,_,rfl⟩
   refine nx ?_
   refine dp 7 ?_
   refine dn ?_
   skip
   focus (refine qq ?_)
   refine S_draw ([pt b2 42 (rfc x p)]) sub_st (by kernel_rfl) O (by kernel_rfl) (by kernel_rfl:_=17) ?_
   refine dp 0 ?_
   refine dqF 1 ?_
   refine dp 2 ?_
   refine dk 3 ?_
   refine dk 4 ?_
   refine dk 5 ?_
   refine dk 6 ?_
   refine dk 7 ?_
   refine dk 8 ?_
   refine dk 9 ?_
   refine dk 10 ?_
   refine dk 11 ?_
   refine dk 12 ?_
   refine dk 13 ?_
   refine dk 14 ?_
   refine dk 15 ?_
   refine dp 16 ?_
   refine dn ?_
   skip
   focus (refine qF ?_;refine qx ?_;refine RS_blk ?_;refine qr ?_;refine qp ?_;refine qt (T_addN O O (by unfold fits;omega)) ?_;refine qp ?_;refine qz ?_)
   exact hJ (j+1,(L,A5,c5),Z) _ _ ⟨by show j+1≤_;omega,by dsimp only;rw[htk,List.flatMap_append,hL1,List.flatMap_cons,List.flatMap_nil,hnm];simp,hL2⟩ (Sub.cons O (Sub.cons O (Sub.cons O (Sub.cons O (Sub.cons O Sub.nil))))) sub_st (by show ms.length-(j+1)<_;omega)
  |some q=>
   rw[hf] at hnm
   obtain⟨i,hil,hix,hgi,_⟩:=find_some hf
   obtain⟨kqw,kqn,kqm⟩:=q
   dsimp only at hnm
   have hat':=cellsL_at (f:=pec) pec_len x.peers default i hil
   rw[hgi] at hat'
   have hat1:(cellsL pec x.peers)[i*3+1]? =some (.int .u64 (kqn:Int)):=hat' 1 _ O
   have hnp:p.pA≠none:=by obtain⟨ad,e,_⟩:=hw.rp.2 (by omega);rw[e];simp
   have hip:i<p.pn:=by omega
   refine S_draw ([pt b2 42 (rfc x p),pt b6 33 [.slice A6 ms.length c6],Z6]) sub_st (by kernel_rfl) O (by kernel_rfl) (by kernel_rfl:_=8) ?_
   refine dt 0 O (T_loads (ds:=rfc x p) O O O O O) ?_
   refine dp 1 ?_
   refine dl 2 ?_
   refine dp 3 ?_
   refine dt 4 O (T_ix1 O O O O O O hne hjl) ?_
   refine dt 5 O (T_ldr (v:=zv u) O O O (Srd.kn (Z:=Z6) hD hI6) (by omega) hat) ?_
   refine D_one 6 O (E_hv0 (f:=153) F153 (fun w1 hS1=>findD_k w1 x p (h w1 (hD.at_ hS1)) u _ hix) O O (fun _=>O)) ?_ O O (by kernel_rfl)
   rintro _ _ ⟨_,rfl,_,rfl⟩
   refine nx ?_
   refine dp 7 ?_
   refine dn ?_
   skip
   focus (refine qq ?_)
   by_cases hle:kqn≤(lastP x).1
   ·rw[if_pos hle] at hnm
    refine S_draw ([pt b2 42 (rfc x p)]) sub_st (by kernel_rfl) O (by kernel_rfl) (by kernel_rfl:_=17) ?_
    refine dp 0 ?_
    refine dqT 1 ?_
    refine dp 2 ?_
    refine dp 3 ?_
    refine dt 4 O (T_not O) ?_
    refine dp 5 ?_
    refine dp 6 ?_
    refine dl 7 ?_
    refine dp 8 ?_
    refine dt 9 O (T_ixM (sz:=3) O O O O O O hnp hip) ?_
    refine dt 10 O (T_fap O O O O O hnp) ?_
    refine dt 11 O (T_ldr (v:= .int .u64 (kqn:Int)) O O O (Srd.old hw.rp (fun k _=>noOwns k)) (by omega) hat1) ?_
    refine dt 12 O (T_loads (ds:=rfc x p) O O O O O) ?_
    refine D_one 13 O (E_hv0 (f:=99) F99 (fun w1 hS1=>allD_k w1 x p (h w1 (hD.at_ hS1)).lg hrb _ O) O O (fun _=>O)) ?_ O O (by kernel_rfl)
    rintro _ _ ⟨_,rfl,_,rfl⟩
    refine nx ?_
    refine dqT 14 ?_
    refine dqT 15 ?_
    refine dqT 16 ?_
    refine dn ?_
    skip
    focus (refine qT ?_)
    refine S_draw ([pt b2 42 (rfc x p),pt b6 33 [.slice A6 ms.length c6],Z6]) sub_st (by kernel_rfl) O (by kernel_rfl) (by kernel_rfl:_=10) ?_
    refine dp 0 ?_
    refine dt 1 O (T_loads (ds:=rfc x p) O O O O O) ?_
    refine dp 2 ?_
    refine dl 3 ?_
    refine dp 4 ?_
    refine dt 5 O (T_ix1 O O O O O O hne hjl) ?_
    refine dt 6 O (T_ldr (v:=zv u) O O O (Srd.kn (Z:=Z6) hD hI6) (by omega) hat) ?_
    refine D_one 7 O (E_hvG (f:=154) F154 (fun w1 hS1=>nextD_k w1 x p D (hD.call0 hS1) h hrb u) O O) ?_ O O (by kernel_rfl)
    rintro _ _ ⟨⟨⟨N2,A2,c2⟩,Z2⟩,rfl,⟨hN1,hN2⟩,rfl⟩;dsimp only[List.cons_append,List.nil_append] at hN1 hN2 ⊢;have hNl:N2.length≤1:=by rw[← List.length_map (f:=Prod.fst),hN1];exact nextM_le x u
    refine nx ?_
    refine D_one 8 O (E_hv1 (f:=161) F161 (fun w1 hS1=>bothD_k w1 A5 A2 c5 c2 L N2 (row_rd (hS1.at_ (A:=row 65 12 A5 L.length c5 (cellsL sgc L)) (by simp))) (row_rd (hS1.at_ (A:=row 65 12 A2 N2.length c2 (cellsL sgc N2)) (by simp))) (by omega) (by omega)) O O (fun _=>O)) ?_ O O (by kernel_rfl)
    rintro _ _ ⟨⟨A8,c8⟩,rfl,_,rfl⟩
    refine nx ?_
    refine dp 9 ?_
    refine dn ?_
    skip
    focus (refine RS_blk ?_;refine qr ?_;refine qp ?_;refine qt (T_addN O O (by unfold fits;omega)) ?_;refine qp ?_;refine qz ?_)
    exact hJ (j+1,(L++N2,A8,c8),zA Z Z2) _ _ ⟨by show j+1≤_;omega,by dsimp only;rw[htk,List.flatMap_append,List.map_append,hL1,hN1,List.flatMap_cons,List.flatMap_nil,hnm,List.append_nil],fun w2 h2 s hs=>by
     rcases List.mem_append.1 hs with hs|hs
     ·exact hL2 w2 ⟨h2.1,zA_l h2.2⟩ s hs
     ·exact hN2 w2 ⟨h2.1,zA_r h2.2⟩ s hs⟩ (Sub.cons O (Sub.cons O (Sub.cons O (Sub.cons O (Sub.cons O Sub.nil))))) (fun w' hS=>by
     have h1:=zA_in (sub_st (H':=[Z,Z2,row 65 12 A8 (L++N2).length c8 (cellsL sgc (L++N2)),Z6,pt b6 33 [.slice A6 ms.length c6],pt b2 42 (rfc x p)]) w' hS)
     exact h1.perm (List.Perm.swap _ _ _)) (by show ms.length-(j+1)<_;omega)
   ·rw[if_neg hle] at hnm
    refine S_draw ([pt b2 42 (rfc x p)]) sub_st (by kernel_rfl) O (by kernel_rfl) (by kernel_rfl:_=17) ?_
    refine dp 0 ?_
    refine dqT 1 ?_
    refine dp 2 ?_
    refine dp 3 ?_
    refine dt 4 O (T_not O) ?_
    refine dp 5 ?_
    refine dp 6 ?_
    refine dl 7 ?_
    refine dp 8 ?_
    refine dt 9 O (T_ixM (sz:=3) O O O O O O hnp hip) ?_
    refine dt 10 O (T_fap O O O O O hnp) ?_
    refine dt 11 O (T_ldr (v:= .int .u64 (kqn:Int)) O O O (Srd.old hw.rp (fun k _=>noOwns k)) (by omega) hat1) ?_
    refine dt 12 O (T_loads (ds:=rfc x p) O O O O O) ?_
    refine D_one 13 O (E_hv0 (f:=99) F99 (fun w1 hS1=>allD_k w1 x p (h w1 (hD.at_ hS1)).lg hrb _ O) O O (fun _=>O)) ?_ O O (by kernel_rfl)
    rintro _ _ ⟨_,rfl,_,rfl⟩
    refine nx ?_
    refine dqF 14 ?_
    refine dp 15 ?_
    refine dp 16 ?_
    refine dn ?_
    skip
    focus (refine qF ?_;refine qx ?_;refine RS_blk ?_;refine qr ?_;refine qp ?_;refine qt (T_addN O O (by unfold fits;omega)) ?_;refine qp ?_;refine qz ?_)
    exact hJ (j+1,(L,A5,c5),Z) _ _ ⟨by show j+1≤_;omega,by dsimp only;rw[htk,List.flatMap_append,hL1,List.flatMap_cons,List.flatMap_nil,hnm];simp,hL2⟩ (Sub.cons O (Sub.cons O (Sub.cons O (Sub.cons O (Sub.cons O Sub.nil))))) sub_st (by show ms.length-(j+1)<_;omega)
 have hjn:j=ms.length:=by omega
 subst hjn
 rw[List.take_length] at hL1
 focus (refine qq ?_;refine qs ?_;refine qp ?_;refine qp ?_;refine qt (T_load O O O O) ?_;refine qp ?_;refine qf ?_;refine qz ?_;refine qF ?_;refine S_exit O O ?_;refine qs ?_;refine qp ?_;refine qp ?_;refine qz ?_)
 exact hB _ _ _ _ _ O O fun w' hS=>⟨((L,A5,c5),Z),O,⟨hL1,hL2⟩,sub_st (H':=[row 65 12 A5 L.length c5 (cellsL sgc L),Z]) w' hS⟩
theorem commitD_k (w:World) (x:Rs) (p:Rp) (h:RfR w x p) (hrb:rightB x.base x.es=true) (hri:C.right (nowL x)=true) (h5:(nowL x).length≤5) (ht0:x.term≠0) (hp8:x.peers.length≤800):
  Gives Tryz.prog 106 [.agg (rfc x p).toArray] [] w (X:=Rp) (fun q=> .agg (rfc (comR x) q).toArray) (fun q=> ∀ w',RfR w' x p→RfR w' (comR x) q) (fun _=>[]):=by
 refine gives_C Tryz.func106 O Tryz.ntmps106 Tryz.results106 (by simp) (St.enter w) (fun B hB=>?_)
 have hpl:=h.hpn
 have hpm:p.pn≤800:=by rw[← h.hpn];exact hp8
 have hrp:=h.rp
 have hlm:=h.lg.hm
 have hbs:x.base.1+p.n≤18446744073709551614:=by
  have h1:=lastP_le x
  rw[lastP,if_pos hrb] at h1
  have h2:(lastA x.base x.es).1=x.base.1+x.es.length:=rfl
  rw[h2,h.lg.ln] at h1
  exact h1
 obtain⟨n,hn⟩: ∃ n,agrN (nowL x) (mtcL x)=n:=⟨_,O⟩
 obtain⟨⟨t,tq⟩,ht⟩: ∃ z,termR x.base x.es n=z:=⟨_,O⟩
 have ht2:fndT x.base x.es n=(t,tq):=by rw[← ht,termR,if_pos hrb];rfl
 have htq:tq=false→t=0:=fun e=>by
  subst e
  have h1:=congrArg Prod.fst ht2
  have h2:=congrArg Prod.snd ht2
  simp only[fndT,decide_eq_false_iff_not] at h1 h2
  unfold findR at h1 h2
  split at h2
  ·simp at h2
  ·rename_i h3
   rw[if_neg h3] at h1
   exact h1.symm
 obtain⟨y1,hy1⟩: ∃ y,y=({x with commit:=comN x}:Rs):=⟨_,O⟩
 have hcr:=comR_of x y1 hy1
 rw[hcr] at hB
 have hnu:n<18446744073709551616:=agr_lt hn (fun q hq=>by
  unfold mtcL at hq
  rcases List.mem_cons.1 hq with rfl|hq
  ·have:=lastP_le x;exact Nat.lt_of_le_of_lt this (by decide)
  ·obtain⟨z,hz,rfl⟩:=List.mem_map.1 hq
   exact(h.hu.pe z hz).2)
 have hcu:comN x<18446744073709551616:=by
  unfold comN
  split
  ·rw[hn];exact hnu
  ·exact h.hu.cm
 have hyR: ∀ w',RfR w' x p→RfR w' y1 p:=fun w' h'=>by
  rw[hy1]
  exact⟨h'.lg.like O O O O O O O O,h'.hvn,h'.hvm,h'.rv,h'.hpn,h'.hpm,h'.rp,⟨h'.hu.tm,h'.hu.b1,h'.hu.b2,hcu,h'.hu.pe⟩⟩
 have hne:0<p.pn→p.pA≠none:=fun h0=>by obtain⟨ad,e,_⟩:=h.rp.2 (by omega);rw[e];simp
 focus (refine qs ?_;(refine qe (E_boxa (cs:=rfc x p) O) ?_;rintro _ _ ⟨b1,rfl,rfl⟩);(refine qe (E_alloca O rf_zero) ?_;rintro _ _ ⟨b2,rfl,rfl⟩);refine qz ?_;refine qq ?_)
 refine S_draw ([pt b1 42 (rfc x p)]) sub_st (by kernel_rfl) O (by kernel_rfl) (by kernel_rfl:_=7) ?_
 refine dp 0 ?_
 refine dl 1 ?_
 refine dt 2 O (T_loads (ds:=rfc x p) O O O O O) ?_
 refine D_one 3 O (E_hv0 (f:=99) F99 (fun w1 hS1=>allD_k w1 x p (h.keep hS1.kpO).lg hrb _ O) O O (fun _=>O)) ?_ O O (by kernel_rfl)
 rintro _ _ ⟨_,rfl,_,rfl⟩
 refine nx ?_
 refine dt 4 O (T_build2 O O (mt_built _ _)) ?_
 refine D_one 5 O (E_litS (vs:=[.agg ([zv x.me,C.uv (lastP x).1]:List Value).toArray]) (size:=2) (ds:=[zv x.me,C.uv (lastP x).1]) O O O O O O (by simp[vcells]) O (by omega)) ?_ O O (by kernel_rfl)
 rintro _ _ ⟨vb,rfl,rfl⟩
 refine nx ?_
 refine dp 6 ?_
 refine dn ?_
 skip
 focus (refine qq ?_;refine qs ?_;refine qp ?_;refine qz ?_;refine qb ?_)
 refine S_loop (X:=Nat×Option Addr×Nat) (fun z=>[(1,.pointer (some ⟨b1,0,none⟩)),(2,.pointer (some ⟨b2,0,none⟩)),(3,.slice z.2.1 (z.1+1) z.2.2),(4,.int .i64 (z.1:Int))]) (fun z=>[row 168 2 z.2.1 (z.1+1) z.2.2 (C.mtc (mtcJ x z.1)),pt b1 42 (rfc x p),pt b2 42 (rfc rs0 rp0)]) (fun z=>z.1≤p.pn) (fun z=>p.pn-z.1) O (0,some ⟨vb,0,none⟩,1) (Nat.zero_le _) (Sub.cons O (Sub.cons O (Sub.cons O (Sub.cons O Sub.nil)))) (fun w' hS=>?_) ?_
 ·have h1:=sub_st (H':=[pt vb 168 [zv x.me,C.uv (lastP x).1],pt b1 42 (rfc x p),pt b2 42 (rfc rs0 rp0)]) w' hS
  exact St.rowOf (e:=168) (size:=2) (g:=vb) (n:=1) (m:=1) h1 Upd.here (Nat.le_refl _) (by unfold maxLen;omega) (by simp)
 rintro⟨j,A5,c5⟩ hj J hJ
 dsimp only at hj ⊢
 rcases Nat.lt_or_ge j p.pn with hjl|hjl
 ·have hne':=hne (by omega)
  have hat:=cellsL_at (f:=pec) pec_len x.peers default j (by omega)
  obtain⟨q,hq⟩: ∃ q,x.peers.getD j default=q:=⟨_,O⟩
  rw[hq] at hat
  have hat0:(cellsL pec x.peers)[j*3+0]? =some (.int .i64 q.1):=hat 0 _ O
  have hat2:(cellsL pec x.peers)[j*3+2]? =some (.int .u64 (q.2.2:Int)):=hat 2 _ O
  have hnx:=mtcJ_next x j (by omega) q hq
  focus (refine qq ?_;refine qs ?_;refine qp ?_;refine qp ?_;refine qt (T_load O O O O) ?_;refine qp ?_;refine qd ?_;refine qz ?_;refine qT ?_;refine qx ?_;refine qq ?_;refine qb ?_)
  refine S_draw ([pt b1 42 (rfc x p)]) sub_st (by kernel_rfl) O (by kernel_rfl) (by kernel_rfl:_=17) ?_
  refine dp 0 ?_
  refine dp 1 ?_
  refine dl 2 ?_
  refine dp 3 ?_
  refine dt 4 O (T_ixM (sz:=3) O O O O O O hne' hjl) ?_
  refine dt 5 O (T_fap O O O O O hne') ?_
  refine dt 6 O (T_ldr (v:= .int .i64 q.1) O O O (Srd.old hrp (fun k _=>noOwns k)) (by omega) hat0) ?_
  refine dp 7 ?_
  refine dl 8 ?_
  refine dp 9 ?_
  refine dt 10 O (T_ixM (sz:=3) O O O O O O hne' hjl) ?_
  refine dt 11 O (T_fap O O O O O hne') ?_
  refine dt 12 O (T_ldr (v:= .int .u64 (q.2.2:Int)) O O O (Srd.old hrp (fun k _=>noOwns k)) (by omega) hat2) ?_
  refine dt 13 O (T_build2 O O (mt_built _ _)) ?_
  refine D_one 14 O (E_litS (vs:=[.agg ([zv q.1,C.uv q.2.2]:List Value).toArray]) (size:=2) (ds:=[zv q.1,C.uv q.2.2]) O O O O O O (by simp[vcells]) O (by omega)) ?_ O O (by kernel_rfl)
  rintro _ _ ⟨vq,rfl,rfl⟩
  refine nx ?_
  refine D_one 15 O (E_appS (sz:=2) (m:=j+1) (c:=c5) (A:=A5) O O O O O O O (by decide) (Srd.pt (n:=1) (g:=vq) (ds:=[zv q.1,C.uv q.2.2]) O (fun j u hj=>by rw[Nat.zero_add];exact hj)) (by simp[zv,C.uv,Value.oneCell']) (by show (j+1+1)*16≤_;omega) (by unfold maxLen;omega)) ?_ O O (by kernel_rfl)
  rintro _ _ ⟨A7,c7,rfl,rfl⟩
  refine nx ?_
  refine dp 16 ?_
  refine dn ?_
  skip
  focus (refine RS_blk ?_;refine qr ?_;refine qp ?_;refine qt (T_addN O O (by unfold fits;omega)) ?_;refine qp ?_;refine qz ?_)
  refine hJ (j+1,A7,c7) _ _ (by show j+1≤_;omega) (Sub.cons O (Sub.cons O (Sub.cons O (Sub.cons O Sub.nil)))) (fun w' hS=>?_) (by show p.pn-(j+1)<_;omega)
  dsimp only
  rw[hnx]
  exact sub_st (H':=[row 168 2 A7 (j+1+1) c7 (C.mtc (mtcJ x j)++[zv q.1,C.uv q.2.2]),pt b1 42 (rfc x p),pt b2 42 (rfc rs0 rp0)]) w' hS
 obtain rfl:j=p.pn:=by omega
 rw[show mtcJ x p.pn=mtcL x by rw[← hpl];exact mtcJ_all x]
 focus (refine qq ?_;refine qs ?_;refine qp ?_;refine qp ?_;refine qt (T_load O O O O) ?_;refine qp ?_;refine qf ?_;refine qz ?_;refine qF ?_;refine S_exit O O ?_;refine qs ?_;refine qt (T_loads (ds:=rfc x p) O O O O O) ?_;(refine qe (E_hv1 (f:=32) F32 (fun w1 hS1=>nowD_k w1 x p (fun w'=>LgR w' x p) (rf_lg (h.keep hS1.kpO).lg) (fun _ h=>h) hrb (nowL x) O) O O (fun _=>O)) ?_;rintro _ _ ⟨⟨⟨A6,K6,c6⟩,Z6⟩,rfl,hI6,rfl⟩;dsimp only at hI6);refine qp ?_)
 (refine qe (E_hv0 (f:=160) F160 (fun w1 hS1=>agr_k15 w1 A6 A5 (nowL x).length c6 (p.pn+1) c5 (nowL x) (mtcL x) (hI6 w1 ⟨(h.keep hS1.kpO).lg,hS1.at_ (A:=Z6) (by simp)⟩) (row_rd (hS1.at_ (A:=row 168 2 A5 (p.pn+1) c5 (C.mtc (mtcL x))) (by simp))) (by omega) (by omega) hri n hn) O O (fun _=>O)) ?_;rintro _ _ ⟨_,rfl,_,rfl⟩)
 have htail:RS Tryz.prog B 93 w (owns []) [.code (c1 (c2 (c2 (c2 (c2 (c2 (c2 (cbody Tryz.f106)))))))),.code (c2 (c2 (c2 (c2 (c2 (c2 (c2 (cbody Tryz.f106))))))))] [(1,.pointer (some ⟨b1,0,none⟩)),(2,.pointer (some ⟨b2,0,none⟩))] [pt b1 42 (rfc y1 p),pt b2 42 (rfc rs0 rp0)]:=by
  have hk: ∀ w1,Kp All w w1→RfR w1 y1 p:=fun w1 hk1=>hyR w1 (h.keep hk1)
  have hyb:rightB y1.base y1.es=true:=by rw[hy1];exact hrb
  have hy5:(nowL y1).length≤5:=by rw[hy1];exact h5
  have hyri:C.right (nowL y1)=true:=by rw[hy1];exact hri
  obtain⟨⟨ri,rbs,rq⟩,hs⟩: ∃ z,confR y1.base y1.es (lastP y1).1=z:=⟨_,O⟩
  obtain⟨N,hN⟩: ∃ N,rbs.length=N:=⟨_,O⟩
  have hw1:=(hk w (Kp.refl _ _)).lg
  rw[hs,hyri] at hB
  refine S_draw ([pt b1 42 (rfc y1 p)]) sub_st (by kernel_rfl) O (by kernel_rfl) (by kernel_rfl:_=12) ?_
  refine dp 0 ?_
  refine dt 1 O (T_loads (ds:=lgc y1.base p.A p.n p.c) O O O O O) ?_
  refine dt 2 O (T_loads (ds:=rfc y1 p) O O O O O) ?_
  refine D_one 3 O (E_hv0 (f:=99) F99 (fun w1 hS1=>allD_k w1 y1 p (hk w1 hS1.kpO).lg hyb _ O) O O (fun _=>O)) ?_ O O (by kernel_rfl)
  rintro _ _ ⟨_,rfl,_,rfl⟩
  refine nx ?_
  refine D_one 4 O (E_hv1 (f:=102) F102 (fun w1 hS1=>confDk w1 y1.base p.A p.c p.n p.Q y1.es hw1.hn hw1.hQ (hk w1 hS1.kpO).lg.rq (hk w1 hS1.kpO).lg.dt hw1.hm hw1.hd hyb (lastP y1).1 ri rbs _ N hN hs) O O (fun _=>O)) ?_ O O (by kernel_rfl)
  rintro _ _ ⟨⟨Ab,cb⟩,rfl,_,rfl⟩
  refine nx ?_
  refine dp 5 ?_
  refine dp 6 ?_
  refine dp 7 ?_
  refine dp 8 ?_
  refine dp 9 ?_
  refine dp 10 ?_
  refine dp 11 ?_
  refine dn ?_
  skip
  focus (refine qq ?_;refine qq ?_)
  cases rq
  ·rw[if_neg (fun e=>by cases e.1)] at hB
   refine S_draw ([pt b1 42 (rfc y1 p)]) sub_st (by kernel_rfl) O (by kernel_rfl) (by kernel_rfl:_=15) ?_
   refine dp 0 ?_
   refine dp 1 ?_
   refine dk 2 ?_
   refine dk 3 ?_
   refine dk 4 ?_
   refine dk 5 ?_
   refine dp 6 ?_
   refine dp 7 ?_
   refine dk 8 ?_
   refine dk 9 ?_
   refine dk 10 ?_
   refine dk 11 ?_
   refine dk 12 ?_
   refine dk 13 ?_
   refine dp 14 ?_
   refine dn ?_
   skip
   focus (refine qF ?_;refine qx ?_;refine qs ?_;refine qt (T_loads (ds:=rfc y1 p) O O O O O) ?_;(refine qw (E_storew (cs:=rfc rs0 rp0) (ds:=rfc y1 p) O O O O (rfc_one _ _) O) ?_;rintro _ _ rfl);refine qz ?_)
   refine hB _ _ _ _ _ O (.cell O O O inferInstance O .nil) fun w' hS=>⟨p,O,fun w3 h3=>hyR w3 h3,hS.sublist (List.nil_sublist _)⟩
  by_cases hat:ri≤y1.commit
  rotate_left
  ·rw[if_neg (fun e=>hat e.2.1)] at hB
   refine S_draw ([pt b1 42 (rfc y1 p)]) sub_st (by kernel_rfl) O (by kernel_rfl) (by kernel_rfl:_=15) ?_
   refine dp 0 ?_
   refine dp 1 ?_
   refine dp 2 ?_
   refine dp 3 ?_
   refine dl 4 ?_
   refine dqF 5 ?_
   refine dp 6 ?_
   refine dp 7 ?_
   refine dk 8 ?_
   refine dk 9 ?_
   refine dk 10 ?_
   refine dk 11 ?_
   refine dk 12 ?_
   refine dk 13 ?_
   refine dp 14 ?_
   refine dn ?_
   skip
   focus (refine qF ?_;refine qx ?_;refine qs ?_;refine qt (T_loads (ds:=rfc y1 p) O O O O O) ?_;(refine qw (E_storew (cs:=rfc rs0 rp0) (ds:=rfc y1 p) O O O O (rfc_one _ _) O) ?_;rintro _ _ rfl);refine qz ?_)
   refine hB _ _ _ _ _ O (.cell O O O inferInstance O .nil) fun w' hS=>⟨p,O,fun w3 h3=>hyR w3 h3,hS.sublist (List.nil_sublist _)⟩
  cases hq:decide (y1.me∈nowL y1)
  rotate_left
  ·rw[hq,if_neg (fun e=>by cases e.2.2)] at hB
   refine S_draw ([pt b1 42 (rfc y1 p)]) sub_st (by kernel_rfl) O (by kernel_rfl) (by kernel_rfl:_=15) ?_
   refine dp 0 ?_
   refine dp 1 ?_
   refine dp 2 ?_
   refine dp 3 ?_
   refine dl 4 ?_
   refine dqT 5 ?_
   refine dp 6 ?_
   refine dp 7 ?_
   refine dt 8 O (T_loads (ds:=rfc y1 p) O O O O O) ?_
   refine dp 10 ?_
   refine dl 11 ?_
   refine D_one 9 O (E_hv1 (f:=32) F32 (fun w1 hS1=>nowD_k w1 y1 p (fun w'=>LgR w' y1 p) (rf_lg (hk w1 hS1.kpO).lg) (fun _ h=>h) hyb (nowL y1) O) O O (fun _=>O)) ?_ O O (by kernel_rfl)
   rintro _ _ ⟨⟨⟨A7,K7,c7⟩,Z7⟩,rfl,hI7,rfl⟩;dsimp only at hI7
   refine nx ?_
   refine D_one 12 O (E_hv0 (f:=151) F151 (fun w1 hS1=>has_k15 w1 A7 (nowL y1).length c7 (nowL y1) y1.me (hI7 w1 ⟨(hk w1 hS1.kpO).lg,hS1.at_ (A:=Z7) (by simp)⟩) hy5 _ hq) O O (fun _=>O)) ?_ O O (by kernel_rfl)
   rintro _ _ ⟨_,rfl,_,rfl⟩
   refine nx ?_
   refine dt 13 O (T_not O) ?_
   refine dp 14 ?_
   refine dn ?_
   skip
   focus (refine qF ?_;refine qx ?_;refine qs ?_;refine qt (T_loads (ds:=rfc y1 p) O O O O O) ?_;(refine qw (E_storew (cs:=rfc rs0 rp0) (ds:=rfc y1 p) O O O O (rfc_one _ _) O) ?_;rintro _ _ rfl);refine qz ?_)
   refine hB _ _ _ _ _ O (.cell O O O inferInstance O .nil) fun w' hS=>⟨p,O,fun w3 h3=>hyR w3 h3,hS.sublist (List.nil_sublist _)⟩
  rw[hq,if_pos ⟨O,hat,O⟩] at hB
  refine S_draw ([pt b1 42 (rfc y1 p)]) sub_st (by kernel_rfl) O (by kernel_rfl) (by kernel_rfl:_=15) ?_
  refine dp 0 ?_
  refine dp 1 ?_
  refine dp 2 ?_
  refine dp 3 ?_
  refine dl 4 ?_
  refine dqT 5 ?_
  refine dp 6 ?_
  refine dp 7 ?_
  refine dt 8 O (T_loads (ds:=rfc y1 p) O O O O O) ?_
  refine dp 10 ?_
  refine dl 11 ?_
  refine D_one 9 O (E_hv1 (f:=32) F32 (fun w1 hS1=>nowD_k w1 y1 p (fun w'=>LgR w' y1 p) (rf_lg (hk w1 hS1.kpO).lg) (fun _ h=>h) hyb (nowL y1) O) O O (fun _=>O)) ?_ O O (by kernel_rfl)
  rintro _ _ ⟨⟨⟨A7,K7,c7⟩,Z7⟩,rfl,hI7,rfl⟩;dsimp only at hI7
  refine nx ?_
  refine D_one 12 O (E_hv0 (f:=151) F151 (fun w1 hS1=>has_k15 w1 A7 (nowL y1).length c7 (nowL y1) y1.me (hI7 w1 ⟨(hk w1 hS1.kpO).lg,hS1.at_ (A:=Z7) (by simp)⟩) hy5 _ hq) O O (fun _=>O)) ?_ O O (by kernel_rfl)
  rintro _ _ ⟨_,rfl,_,rfl⟩
  refine nx ?_
  refine dt 13 O (T_not O) ?_
  refine dqT 14 ?_
  refine dn ?_
  skip
  focus (refine qT ?_;refine qr ?_;refine qt (T_loads (ds:=rfc y1 p) O O O O O) ?_;refine qh F75 (fun w1 _=>followD_any w1 y1 p) ?_;(refine qw (E_storew (cs:=rfc y1 p) (ds:=rfc (folR y1) (folP p)) O O O O (rfc_one _ _) O) ?_;rintro _ _ rfl);refine qn ?_;refine qt (T_loads (ds:=rfc (folR y1) (folP p)) O O O O O) ?_;(refine qw (E_storew (cs:=rfc rs0 rp0) (ds:=rfc (folR y1) (folP p)) O O O O (rfc_one _ _) O) ?_;rintro _ _ rfl);refine qz ?_)
  refine hB _ _ _ _ _ O (.cell O O O inferInstance O .nil) fun w' hS=>⟨(folP p),O,fun w3 h3=>fol_rf (hyR w3 h3),hS.sublist (List.nil_sublist _)⟩
 have hno:y1=x→RS Tryz.prog B 93 w (owns []) [.code (c1 (c2 (c2 (c2 (c2 (c2 (c2 (cbody Tryz.f106)))))))),.code (c2 (c2 (c2 (c2 (c2 (c2 (c2 (cbody Tryz.f106))))))))] [(1,.pointer (some ⟨b1,0,none⟩)),(2,.pointer (some ⟨b2,0,none⟩))] [pt b1 42 (rfc x p),pt b2 42 (rfc rs0 rp0)]:=fun e=>by
  rw[e] at htail
  exact htail
 by_cases h1:x.commit<n
 ·cases tq
  ·have ht0':=htq O
   have hc:y1=x:=by rw[hy1];unfold comN;rw[hn,ht,if_neg (fun e=>ht0 (by rw[← e.2];exact ht0'))]
   repeat' (first|refine R_take (T_decT O (by omega)) ?_ O O|refine R_p O ?_ O O|refine R_nil ?_|refine R_skip ?_ O O|refine R_take (T_loads (ds:=lgc x.base p.A p.n p.c) O O O O O) ?_ O O|refine R_take (T_load O O O O) ?_ O O|refine S_seq O ?_|refine S_region O O ?_|refine S_false O O ?_|refine S_skip O ?_|(refine R_eff (E_hv0 (f:=103) F103 (fun w1 hS1=>termD_any w1 x.base p.A p.c p.n p.Q x.es h.lg.hn h.lg.hQ (h.keep hS1.kpO).lg.rq (by omega) (by omega) n _ ht2) O O (fun _=>O)) ?_ O O;rintro _ _ ⟨_,rfl,_,rfl⟩;dsimp only))
   exact RS_sub (Sub.cons O (Sub.cons O Sub.nil)) (RS_mem (fun w' hS=>sub_st (H':=[pt b1 42 (rfc x p),pt b2 42 (rfc rs0 rp0)]) w' hS) (hno hc))
  ·by_cases h2:t=x.term
   ·have hc:comN x=n:=by unfold comN;rw[hn,ht];exact if_pos ⟨h1,h2⟩
    repeat' (first|refine R_take (T_decT O (by omega)) ?_ O O|refine R_p O ?_ O O|refine R_nil ?_|refine R_take (T_loads (ds:=lgc x.base p.A p.n p.c) O O O O O) ?_ O O|refine R_take (T_load O O O O) ?_ O O|refine S_seq O ?_|refine S_region O O ?_|refine S_true O O ?_|(refine R_eff (E_hv0 (f:=103) F103 (fun w1 hS1=>termD_any w1 x.base p.A p.c p.n p.Q x.es h.lg.hn h.lg.hQ (h.keep hS1.kpO).lg.rq (by omega) (by omega) n _ ht2) O O (fun _=>O)) ?_ O O;rintro _ _ ⟨_,rfl,_,rfl⟩;dsimp only)|(refine R_eff0 (E_storeA1 (cs:=rfc x p) (cs':=rfc y1 p) O O O O O (by rw[hy1,hc];rfl) (by show _<14;omega)) ?_ O;rintro _ _ rfl))
    exact RS_sub (Sub.cons O (Sub.cons O Sub.nil)) (RS_mem (fun w' hS=>sub_st (H':=[pt b1 42 (rfc y1 p),pt b2 42 (rfc rs0 rp0)]) w' hS) htail)
   ·have hc:y1=x:=by rw[hy1];unfold comN;rw[hn,ht,if_neg (fun e=>h2 e.2)]
    repeat' (first|refine R_take (T_decT O (by omega)) ?_ O O|refine R_take (T_decF O (by omega)) ?_ O O|refine R_p O ?_ O O|refine R_nil ?_|refine R_take (T_loads (ds:=lgc x.base p.A p.n p.c) O O O O O) ?_ O O|refine R_take (T_load O O O O) ?_ O O|refine S_seq O ?_|refine S_region O O ?_|refine S_false O O ?_|refine S_skip O ?_|(refine R_eff (E_hv0 (f:=103) F103 (fun w1 hS1=>termD_any w1 x.base p.A p.c p.n p.Q x.es h.lg.hn h.lg.hQ (h.keep hS1.kpO).lg.rq (by omega) (by omega) n _ ht2) O O (fun _=>O)) ?_ O O;rintro _ _ ⟨_,rfl,_,rfl⟩;dsimp only))
    exact RS_sub (Sub.cons O (Sub.cons O Sub.nil)) (RS_mem (fun w' hS=>sub_st (H':=[pt b1 42 (rfc x p),pt b2 42 (rfc rs0 rp0)]) w' hS) (hno hc))
 ·have hc:y1=x:=by rw[hy1];unfold comN;rw[hn,ht,if_neg (fun e=>h1 e.1)]
  repeat' (first|refine R_take (T_decF O (by omega)) ?_ O O|refine R_p O ?_ O O|refine R_nil ?_|refine R_skip ?_ O O|refine R_take (T_loads (ds:=lgc x.base p.A p.n p.c) O O O O O) ?_ O O|refine R_take (T_load O O O O) ?_ O O|refine S_seq O ?_|refine S_region O O ?_|refine S_false O O ?_|refine S_skip O ?_|(refine R_eff (E_hv0 (f:=103) F103 (fun w1 hS1=>termD_any w1 x.base p.A p.c p.n p.Q x.es h.lg.hn h.lg.hQ (h.keep hS1.kpO).lg.rq (by omega) (by omega) n _ ht2) O O (fun _=>O)) ?_ O O;rintro _ _ ⟨_,rfl,_,rfl⟩;dsimp only))
  exact RS_sub (Sub.cons O (Sub.cons O Sub.nil)) (RS_mem (fun w' hS=>sub_st (H':=[pt b1 42 (rfc x p),pt b2 42 (rfc rs0 rp0)]) w' hS) (hno hc))
theorem far_k15 (w:World) (A A2:Option Addr) (n c n2 c2:Nat) (ms ks:List Int) (h:Rd w All 1 A n (ms.map zv)) (h2:Rd w All 1 A2 n2 (ks.map zv)) (hn:n≤1000) (hn2:n2≤1000) (r:Nat) (hr:C.farN ms ks=r):
  Gives Tryz.prog 104 [C.cfv A n c,C.cfv A2 n2 c2] [] w (X:=Unit) (fun _=> .int .i64 (r:Int)) (fun _=>True) (fun _=>[]):=hr▸C.rfar_any w A A2 n c n2 c2 ms ks h h2 hn hn2
theorem app_eq {a:At} {l:List En} {y:En} {p b:At} {r:List En} (h:app a l y=(0,p,b,r)):b=a∧r=l++[y]:=by
 unfold app at h
 split at h
 ·split at h
  ·split at h
   ·simp at h
   ·simp only[Prod.mk.injEq,true_and] at h
    exact⟨h.2.1.symm,h.2.2.symm⟩
  ·simp at h
 ·simp at h
theorem app_right {a:At} {l:List En} {y:En} {p b:At} {r:List En} (h:app a l y=(0,p,b,r)):rightB b r=true:=by
 obtain⟨hb,hr⟩:=app_eq h
 subst hb
 subst hr
 unfold app at h
 split at h
 ·rename_i h1
  split at h
  ·rename_i h2
   split at h
   ·simp at h
   ·rename_i h3
    have h4:(lastA b l).1=b.1+l.length:=rfl
    have h5:(lastA b l).2=lastT l b.2:=rfl
    rw[h4] at h3
    rw[h5] at h2
    simp only[rightB,Bool.and_eq_true,decide_eq_true_eq] at h1 ⊢
    refine⟨⟨⟨h1.1.1.1,by rw[List.length_append,List.length_singleton];omega⟩,by rw[List.length_append,List.length_singleton];omega⟩,?_⟩
    rw[rising_app,h1.2]
    simp[risingB,h2.1,h2.2]
  ·simp at h
 ·simp at h
theorem comR_me (x:Rs):(comR x).me=x.me:=by
 unfold comR
 split<;>rfl
theorem comR_log (x:Rs):rightB (comR x).base (comR x).es=rightB x.base x.es:=by
 unfold comR
 split<;>rfl
theorem comR_mem {x:Rs} {q:Pe} (h:q∈(comR x).peers):q∈x.peers:=by
 unfold comR at h
 split at h
 ·cases h
 ·exact h
theorem prs_who (n:Nat): ∀ (l:List Pe) (m:List Int),prsG n l m=true→ ∀ q∈l,q.1∈m
 |[],_,_,q,hq=>by cases hq
 |p::l,[],h,q,hq=>by cases h
 |p::l,a::m,h,q,hq=>by
  simp only[prsG,Bool.and_eq_true,decide_eq_true_eq] at h
  rcases List.mem_cons.1 hq with rfl|hq
  ·rw[h.1.1.1.1];exact List.mem_cons_self ..
  ·exact List.mem_cons_of_mem _ (prs_who n l m h.2 q hq)
theorem chk_role {x:Rs} (h:checkB x=true):roleB x (lastP x).1=true:=by
 simp only[checkB,Bool.and_eq_true] at h
 exact h.2
theorem chk_who {x:Rs} (h:checkB x=true): ∀ q∈x.peers,q.1≠x.me:=fun q hq=>by
 have h1:=chk_role h
 by_cases h4:x.role=4
 ·rw[roleB_4 _ _ h4,Bool.and_eq_true] at h1
  have:=prs_who _ _ _ h1.2 q hq
  simp only[othL,List.mem_filter] at this
  simpa using this.2
 ·simp only[roleB,Bool.and_eq_true,if_neg h4,decide_eq_true_eq] at h1
  rw[List.length_eq_zero_iff.1 h1.2] at hq
  cases hq
theorem chk_term {x:Rs} (h:checkB x=true) (h4:x.role=4):x.term≠0:=by
 have h1:=chk_role h
 rw[roleB_4 _ _ h4] at h1
 simp only[Bool.and_eq_true,Bool.not_eq_true',decide_eq_false_iff_not] at h1
 exact h1.1.1.2.2
theorem fel_now {x:Rs} {me:Int} (h: ∀ q∈x.peers,q.1≠me) (hm:x.me=me):(felL x).flatMap (lackM x)=(nowL x).flatMap (lackM x):=by
 have h0:lackM x x.me=[]:=by
  unfold lackM
  rw[List.find?_eq_none.2 fun q hq=>by rw[hm];simpa using h q hq]
 unfold felL
 induction nowL x with
 |nil=>rfl
 |cons a l ih=>
  rw[List.filter_cons]
  split
  ·rw[List.flatMap_cons,List.flatMap_cons,ih]
  ·rename_i hc
   have:a=x.me:=by simpa using hc
   rw[List.flatMap_cons,this,h0,ih]
   rfl
theorem stp_far {a b:List Int} (ha:C.right a=true) (hb:C.right b=true):decide (C.stpE a b=0)=decide (C.farN a b≤1):=by
 have e:C.lackN a b+C.lackN b a=C.farN a b:=by
  rw[C.lackN,C.lackN,C.farN,ha,hb]
  simp
 rw[C.stpE,ha,hb,e]
 by_cases h:C.farN a b>1
 ·simp only[Bool.and_self,if_true,if_pos h]
  simp;omega
 ·simp only[Bool.and_self,if_true,if_neg h]
  simp;omega
theorem says_right {d:List UInt8} (h:saysB d=true):C.right (C.decL d)=true:=by
 have h0:C.decE d=0:=of_decide_eq_true h
 have h1:=h0
 unfold C.decE at h1
 unfold C.decL
 rw[if_pos h0]
 split at h1
 ·cases h1
 ·split at h1
  ·rename_i h2
   exact h2.2
  ·cases h1
theorem chk_sound {x:Rs} (h:checkB x=true):soundB x.es=true:=by
 simp only[checkB,Bool.and_eq_true] at h
 exact h.1.1.1.1.1.1.1.2
theorem cfN_T {a:At} {l:List En} {idx n:Nat}: ∀ {m},cfN a l idx m=n→ ¬ n=0→cfT a l idx n=true
 |0,h,h0=>absurd h.symm h0
 |m+1,h,h0=>by
  unfold cfN at h
  split at h
  ·rename_i h1
   rw[← h];exact h1
  ·exact cfN_T h h0
theorem force_right {x:Rs} (hs:soundB x.es=true) (hc:C.right x.cf=true) (idx:Nat):C.right (forceL x idx)=true:=by
 unfold forceL
 split
 ·rename_i h
  unfold confR at h ⊢
  split at h
  ·rename_i hr
   rw[if_pos hr]
   split at h
   ·cases h
   ·rename_i h0
    rw[if_neg h0]
    obtain⟨n,hn⟩: ∃ n,cfN x.base x.es idx x.es.length=n:=⟨_,O⟩
    have hT:cfT x.base x.es idx n=true:=cfN_T hn (hn▸h0)
    have hle:n≤x.es.length:=hn▸cfN_le _ _ _ _
    rw[hn] at h0 ⊢
    have hk:(x.es.getD (n-1) default).2.1=3:=by
     simp only[cfT,Bool.and_eq_true,decide_eq_true_eq] at hT
     exact hT.2
    have hm:x.es.getD (n-1) default∈x.es:=by
     have:n-1<x.es.length:=by omega
     simp[List.getD,this]
    have:=List.all_eq_true.1 hs _ hm
    rw[hk] at this
    exact says_right (by simpa using this)
  ·cases h
 ·exact hc
theorem proposeD_any (w:World) (x:Rs) (p:Rp) (h:RfR w x p) (k:Int) (dA:Option Addr) (dc:Nat) (d:List UInt8) (hd:Bs w All dA d.length dc d) (hdn:d.length≤90000) (hck:checkB x=true) (hu2:RsU (prpR x k d)):
  Gives Tryz.prog 34 [.agg (rfc x p).toArray,.int .i64 k,.slice dA d.length dc] [] w (X:=Mm×Asn) (fun y=> .tuple #[.agg (rfc (prpR x k d) y.1.p).toArray,.slice y.1.sA y.1.S.length y.1.sc,.agg (atc (prpA x k d)).toArray,.int .i64 (prpC x k d)]) (fun y=>y.1.S.map Prod.fst=prpM x k d∧ ∀ w',K2 (fun w'=>RfR w' x p) y.2 w'→SrvR w' (prpR x k d) y.1) (fun y=>[y.2]):=by
 refine gives_C Tryz.func34 O Tryz.ntmps34 Tryz.results34 (by simp) (St.enter w) (fun B hB=>?_)
 have hrb:=chk_right hck
 have hcf:=chk_conf hck
 have hlm:=h.lg.hm
 have hn5:(nowL x).length≤1000:=Nat.le_trans (now_le hck) (by decide)
 have hd5:(C.decL d).length≤1000:=Nat.le_trans (decL_le d) (by decide)
 have hbs:x.base.1+p.n≤18446744073709551614:=by
  have h1:=lastP_le x
  rw[lastP,if_pos hrb] at h1
  have h2:(lastA x.base x.es).1=x.base.1+x.es.length:=rfl
  rw[h2,h.lg.ln] at h1
  exact h1
 obtain⟨e0,he0⟩: ∃ e,C.decE d=e:=⟨_,O⟩
 have hsy:saysB d=decide (e0=0):=by unfold saysB;rw[he0]
 refine S_seq O ?_
 refine S_cut (X:=Nat×Nat×Nat) (fun z=>[(1,.int .i64 k),(2,.slice dA d.length dc),(3,.pointer (some ⟨z.1,0,none⟩)),(6,.pointer (some ⟨z.2.1,0,none⟩)),(8,.pointer (some ⟨z.2.2,0,none⟩))]) (fun z=>[pt z.1 42 (rfc x p),pt z.2.1 42 (rfc rs0 rp0),pt z.2.2 36 (atc (0,0))]) (fun _=>True) (fun J0 hJ0=>?_) (fun z _=>?_)
 ·skip
  focus (refine qr ?_;(refine qe (E_boxa (cs:=rfc x p) O) ?_;rintro _ _ ⟨b3,rfl,rfl⟩);(refine qe (E_alloca O rf_zero) ?_;rintro _ _ ⟨b6,rfl,rfl⟩);refine qp ?_;(refine qe (E_alloca O at_zero) ?_;rintro _ _ ⟨b8,rfl,rfl⟩);refine qp ?_;refine qz ?_)
  exact hJ0 (b3,b6,b8) _ _ trivial (Sub.cons O (Sub.cons O (Sub.cons O (Sub.cons O (Sub.cons O Sub.nil))))) sub_st
 obtain⟨b3,b6,b8⟩:=z
 dsimp only
 refine S_seq O ?_
 refine S_cut (X:=Nat) (fun b10=>[(1,.int .i64 k),(2,.slice dA d.length dc),(3,.pointer (some ⟨b3,0,none⟩)),(6,.pointer (some ⟨b6,0,none⟩)),(8,.pointer (some ⟨b8,0,none⟩)),(10,.pointer (some ⟨b10,0,none⟩))]) (fun b10=>[pt b10 36 (atc (0,0)),pt b3 42 (rfc x p),pt b6 42 (rfc rs0 rp0),pt b8 36 (atc (0,0))]) (fun _=>True) (fun J0 hJ0=>?_) (fun b10 _=>?_)
 ·skip
  focus (refine qr ?_;refine qt (T_build0 at_built0) ?_;(refine qe (E_alloca O at_zero) ?_;rintro _ _ ⟨b10,rfl,rfl⟩);(refine qw (E_storew (cs:=atc (0,0)) (ds:=atc (0,0)) O O O O (atc_one _) O) ?_;rintro _ _ rfl);refine qz ?_)
  exact hJ0 b10 _ _ trivial (Sub.cons O (Sub.cons O (Sub.cons O (Sub.cons O (Sub.cons O (Sub.cons O Sub.nil)))))) sub_st
 refine S_seq O ?_
 refine S_cut (X:=Unit) (fun _=>[(1,.int .i64 k),(2,.slice dA d.length dc),(3,.pointer (some ⟨b3,0,none⟩)),(6,.pointer (some ⟨b6,0,none⟩)),(8,.pointer (some ⟨b8,0,none⟩)),(10,.pointer (some ⟨b10,0,none⟩))]) (fun _=>[pt b10 36 (atc (0,0)),pt b3 42 (rfc x p),pt b6 42 (rfc rs0 rp0),pt b8 36 (atc (0,0))]) (fun _=>(k=2∨k=3)∧ ¬ 1024<d.length) (fun J1 hJ1=>?_) (fun _ hI1=>?_)
 ·by_cases hk:k=2∨k=3
  rotate_left
  ·have hk2: ¬ k=2:=fun e=>hk (Or.inl e)
   have hk3: ¬ k=3:=fun e=>hk (Or.inr e)
   have hC:prpC x k d=2:=if_pos (Or.inl ⟨hk2,hk3⟩)
   obtain⟨e1,e2,e3⟩:=prp_no hC (by decide)
   rw[e1,e2,e3,hC] at hB
   repeat' (first|refine R_take (T_decT O (by omega)) ?_ O O|refine R_p O ?_ O O|refine R_nil ?_|refine R_skip ?_ O O|refine S_seq O ?_|refine S_region O O ?_|refine S_true O O ?_)
   refine S_draw ([pt b10 36 (atc (0,0))]) sub_st (by kernel_rfl) O (by kernel_rfl) (by kernel_rfl:_=6) ?_
   refine dt 0 O (T_build0 rf_built0) ?_
   refine dt 1 O (T_loads (ds:=atc (0,0)) O O O O O) ?_
   refine D_one 2 O (E_storew (cs:=rfc rs0 rp0) (ds:=rfc rs0 rp0) O O O O (rfc_one _ _) O) ?_ O O (by kernel_rfl)
   rintro _ _ rfl
   refine nx ?_
   refine dp 3 ?_
   refine D_one 4 O (E_storew (cs:=atc (0,0)) (ds:=atc (0,0)) O O O O (atc_one _) O) ?_ O O (by kernel_rfl)
   rintro _ _ rfl
   refine nx ?_
   refine dp 5 ?_
   refine dn ?_
   skip
   skip
   refine hB _ _ _ _ _ O (.cell O O O inferInstance O (.tmp O (.cell O O O inferInstance O (.tmp O .nil)))) fun w' hS=>⟨(⟨rp0,[],none,0,false⟩,zN),O,⟨O,fun w2 _=>srv0 w2⟩,zN_in (hS.sublist (List.nil_sublist _))⟩
  by_cases hdm:1024<d.length
  ·rcases hk with rfl|rfl
   ·skip
    have hC:prpC x 2 d=2:=if_pos (Or.inr (Or.inl hdm))
    obtain⟨e1,e2,e3⟩:=prp_no hC (by decide)
    rw[e1,e2,e3,hC] at hB
    repeat' (first|refine R_take (T_decT O (by omega)) ?_ O O|refine R_take (T_decF O (by omega)) ?_ O O|refine R_p O ?_ O O|refine R_nil ?_|refine R_skip ?_ O O|refine S_seq O ?_|refine S_region O O ?_|refine S_true O O ?_)
    refine S_draw ([pt b10 36 (atc (0,0))]) sub_st (by kernel_rfl) O (by kernel_rfl) (by kernel_rfl:_=6) ?_
    refine dt 0 O (T_build0 rf_built0) ?_
    refine dt 1 O (T_loads (ds:=atc (0,0)) O O O O O) ?_
    refine D_one 2 O (E_storew (cs:=rfc rs0 rp0) (ds:=rfc rs0 rp0) O O O O (rfc_one _ _) O) ?_ O O (by kernel_rfl)
    rintro _ _ rfl
    refine nx ?_
    refine dp 3 ?_
    refine D_one 4 O (E_storew (cs:=atc (0,0)) (ds:=atc (0,0)) O O O O (atc_one _) O) ?_ O O (by kernel_rfl)
    rintro _ _ rfl
    refine nx ?_
    refine dp 5 ?_
    refine dn ?_
    skip
    skip
    refine hB _ _ _ _ _ O (.cell O O O inferInstance O (.tmp O (.cell O O O inferInstance O (.tmp O .nil)))) fun w' hS=>⟨(⟨rp0,[],none,0,false⟩,zN),O,⟨O,fun w2 _=>srv0 w2⟩,zN_in (hS.sublist (List.nil_sublist _))⟩
   ·skip
    have hC:prpC x 3 d=2:=if_pos (Or.inr (Or.inl hdm))
    obtain⟨e1,e2,e3⟩:=prp_no hC (by decide)
    rw[e1,e2,e3,hC] at hB
    repeat' (first|refine R_take (T_decT O (by omega)) ?_ O O|refine R_take (T_decF O (by omega)) ?_ O O|refine R_p O ?_ O O|refine R_nil ?_|refine S_seq O ?_|refine S_region O O ?_|refine S_true O O ?_)
    refine S_draw ([pt b10 36 (atc (0,0))]) sub_st (by kernel_rfl) O (by kernel_rfl) (by kernel_rfl:_=6) ?_
    refine dt 0 O (T_build0 rf_built0) ?_
    refine dt 1 O (T_loads (ds:=atc (0,0)) O O O O O) ?_
    refine D_one 2 O (E_storew (cs:=rfc rs0 rp0) (ds:=rfc rs0 rp0) O O O O (rfc_one _ _) O) ?_ O O (by kernel_rfl)
    rintro _ _ rfl
    refine nx ?_
    refine dp 3 ?_
    refine D_one 4 O (E_storew (cs:=atc (0,0)) (ds:=atc (0,0)) O O O O (atc_one _) O) ?_ O O (by kernel_rfl)
    rintro _ _ rfl
    refine nx ?_
    refine dp 5 ?_
    refine dn ?_
    skip
    skip
    refine hB _ _ _ _ _ O (.cell O O O inferInstance O (.tmp O (.cell O O O inferInstance O (.tmp O .nil)))) fun w' hS=>⟨(⟨rp0,[],none,0,false⟩,zN),O,⟨O,fun w2 _=>srv0 w2⟩,zN_in (hS.sublist (List.nil_sublist _))⟩
  rcases hk with rfl|rfl
  ·skip
   repeat' (first|refine R_take (T_decF O (by omega)) ?_ O O|refine R_p O ?_ O O|refine R_nil ?_|refine R_skip ?_ O O|refine S_seq O ?_|refine S_region O O ?_|refine S_false O O ?_|refine S_skip O ?_)
   exact hJ1 () _ _ ⟨Or.inl O,hdm⟩ (Sub.cons O (Sub.cons O (Sub.cons O (Sub.cons O (Sub.cons O (Sub.cons O Sub.nil)))))) sub_st
  ·repeat' (first|refine R_take (T_decT O (by omega)) ?_ O O|refine R_take (T_decF O (by omega)) ?_ O O|refine R_p O ?_ O O|refine R_nil ?_|refine S_seq O ?_|refine S_region O O ?_|refine S_false O O ?_|refine S_skip O ?_)
   exact hJ1 () _ _ ⟨Or.inr O,hdm⟩ (Sub.cons O (Sub.cons O (Sub.cons O (Sub.cons O (Sub.cons O (Sub.cons O Sub.nil)))))) sub_st
 obtain⟨hk,hdm⟩:=hI1
 refine S_seq O ?_
 refine S_cut (X:=Nat×Option Addr×Nat) (fun z=>[(1,.int .i64 k),(2,.slice dA d.length dc),(3,.pointer (some ⟨b3,0,none⟩)),(6,.pointer (some ⟨b6,0,none⟩)),(8,.pointer (some ⟨b8,0,none⟩)),(10,.pointer (some ⟨b10,0,none⟩)),(11,.pointer (some ⟨z.1,0,none⟩)),(12,.int .i64 e0)]) (fun z=>[pt z.1 33 [.slice z.2.1 (C.decL d).length z.2.2],row 3 1 z.2.1 (C.decL d).length z.2.2 ((C.decL d).map zv),pt b10 36 (atc (0,0)),pt b3 42 (rfc x p),pt b6 42 (rfc rs0 rp0),pt b8 36 (atc (0,0))]) (fun _=>True) (fun J0 hJ0=>?_) (fun z _=>?_)
 ·skip
  focus (refine qr ?_;refine qp ?_;(refine qe (E_hv1 (f:=101) F101 (fun w1 hS1=>decD_k w1 dA d.length dc d (hd.keep hS1.kpO) (by omega) e0 he0 _ O _ O) O O (fun _=>O)) ?_;rintro _ _ ⟨⟨A5,c5⟩,rfl,_,rfl⟩);(iterate 3 refine qp ?_);(refine qe (E_alloca O C.cf_alloc) ?_;rintro _ _ ⟨b11,rfl,rfl⟩);(refine qw (E_storew (cs:=[.slice none 0 0]) (ds:=[.slice A5 (C.decL d).length c5]) O O O O (C.sl_one _ _ _) O) ?_;rintro _ _ rfl);refine qp ?_;refine qz ?_)
  exact hJ0 (b11,A5,c5) _ _ trivial (Sub.cons O (Sub.cons O (Sub.cons O (Sub.cons O (Sub.cons O (Sub.cons O (Sub.cons O (Sub.cons O Sub.nil)))))))) sub_st
 obtain⟨b11,A5,c5⟩:=z
 dsimp only
 refine S_seq O ?_
 refine S_cut (X:=Unit) (fun _=>[(1,.int .i64 k),(2,.slice dA d.length dc),(3,.pointer (some ⟨b3,0,none⟩)),(6,.pointer (some ⟨b6,0,none⟩)),(8,.pointer (some ⟨b8,0,none⟩)),(10,.pointer (some ⟨b10,0,none⟩)),(11,.pointer (some ⟨b11,0,none⟩))]) (fun _=>[pt b11 33 [.slice A5 (C.decL d).length c5],row 3 1 A5 (C.decL d).length c5 ((C.decL d).map zv),pt b10 36 (atc (0,0)),pt b3 42 (rfc x p),pt b6 42 (rfc rs0 rp0),pt b8 36 (atc (0,0))]) (fun _=> ¬ ((¬ k=2∧ ¬ k=3)∨1024<d.length∨(k=3∧saysB d=false))) (fun J2 hJ2=>?_) (fun _ hok=>?_)
 ·by_cases hkq:k=3∧ ¬ e0=0
  ·obtain⟨rfl,hne⟩:=hkq
   have hC:prpC x 3 d=2:=if_pos (Or.inr (Or.inr ⟨O,by rw[hsy];exact decide_eq_false hne⟩))
   obtain⟨e1,e2,e3⟩:=prp_no hC (by decide)
   rw[e1,e2,e3,hC] at hB
   focus (refine qs ?_;(iterate 2 refine qp ?_;refine qd ?_;refine qp ?_);refine qz ?_;refine qT ?_;refine qq ?_)
   refine S_draw ([pt b10 36 (atc (0,0))]) sub_st (by kernel_rfl) O (by kernel_rfl) (by kernel_rfl:_=6) ?_
   refine dt 0 O (T_build0 rf_built0) ?_
   refine dt 1 O (T_loads (ds:=atc (0,0)) O O O O O) ?_
   refine D_one 2 O (E_storew (cs:=rfc rs0 rp0) (ds:=rfc rs0 rp0) O O O O (rfc_one _ _) O) ?_ O O (by kernel_rfl)
   rintro _ _ rfl
   refine nx ?_
   refine dp 3 ?_
   refine D_one 4 O (E_storew (cs:=atc (0,0)) (ds:=atc (0,0)) O O O O (atc_one _) O) ?_ O O (by kernel_rfl)
   rintro _ _ rfl
   refine nx ?_
   refine dp 5 ?_
   refine dn ?_
   skip
   skip
   refine hB _ _ _ _ _ O (.cell O O O inferInstance O (.tmp O (.cell O O O inferInstance O (.tmp O .nil)))) fun w' hS=>⟨(⟨rp0,[],none,0,false⟩,zN),O,⟨O,fun w2 _=>srv0 w2⟩,zN_in (hS.sublist (List.nil_sublist _))⟩
  have hok: ¬ ((¬ k=2∧ ¬ k=3)∨1024<d.length∨(k=3∧saysB d=false)):=by
   rw[hsy]
   rintro(e|e|e)
   ·omega
   ·exact hdm e
   ·exact hkq ⟨e.1,of_decide_eq_false e.2⟩
  rcases hk with rfl|rfl
  ·skip
   focus (refine qs ?_;refine qp ?_;refine qf ?_;refine qp ?_;refine qk ?_;refine qk ?_;refine qp ?_;refine qz ?_;refine qF ?_;refine qx ?_)
   exact hJ2 () _ _ hok (Sub.cons O (Sub.cons O (Sub.cons O (Sub.cons O (Sub.cons O (Sub.cons O (Sub.cons O Sub.nil))))))) sub_st
  ·have he1:e0=0:=Classical.byContradiction fun e=>hkq ⟨O,e⟩
   focus (refine qs ?_;refine qp ?_;refine qd ?_;refine qp ?_;refine qp ?_;refine qf ?_;refine qp ?_;refine qz ?_;refine qF ?_;refine qx ?_)
   exact hJ2 () _ _ hok (Sub.cons O (Sub.cons O (Sub.cons O (Sub.cons O (Sub.cons O (Sub.cons O (Sub.cons O Sub.nil))))))) sub_st
 refine S_seq O ?_
 refine S_cut (X:=Unit) (fun _=>[(1,.int .i64 k),(2,.slice dA d.length dc),(3,.pointer (some ⟨b3,0,none⟩)),(6,.pointer (some ⟨b6,0,none⟩)),(8,.pointer (some ⟨b8,0,none⟩)),(10,.pointer (some ⟨b10,0,none⟩)),(11,.pointer (some ⟨b11,0,none⟩))]) (fun _=>[pt b11 33 [.slice A5 (C.decL d).length c5],row 3 1 A5 (C.decL d).length c5 ((C.decL d).map zv),pt b10 36 (atc (0,0)),pt b3 42 (rfc x p),pt b6 42 (rfc rs0 rp0),pt b8 36 (atc (0,0))]) (fun _=>x.role=4) (fun J3 hJ3=>?_) (fun _ hr4=>?_)
 ·by_cases hr4:x.role=4
  rotate_left
  ·skip
   have hC:prpC x k d=251:=by unfold prpC;rw[if_neg hok,if_pos hr4]
   obtain⟨e1,e2,e3⟩:=prp_no hC (by decide)
   rw[e1,e2,e3,hC] at hB
   focus (refine qs ?_;refine qp ?_;refine qt (T_load O O O O) ?_;refine qd ?_;refine qz ?_;refine qT ?_;refine qq ?_)
   refine S_draw ([pt b10 36 (atc (0,0))]) sub_st (by kernel_rfl) O (by kernel_rfl) (by kernel_rfl:_=6) ?_
   refine dt 0 O (T_build0 rf_built0) ?_
   refine dt 1 O (T_loads (ds:=atc (0,0)) O O O O O) ?_
   refine D_one 2 O (E_storew (cs:=rfc rs0 rp0) (ds:=rfc rs0 rp0) O O O O (rfc_one _ _) O) ?_ O O (by kernel_rfl)
   rintro _ _ rfl
   refine nx ?_
   refine dp 3 ?_
   refine D_one 4 O (E_storew (cs:=atc (0,0)) (ds:=atc (0,0)) O O O O (atc_one _) O) ?_ O O (by kernel_rfl)
   rintro _ _ rfl
   refine nx ?_
   refine dp 5 ?_
   refine dn ?_
   skip
   skip
   refine hB _ _ _ _ _ O (.cell O O O inferInstance O (.tmp O (.cell O O O inferInstance O (.tmp O .nil)))) fun w' hS=>⟨(⟨rp0,[],none,0,false⟩,zN),O,⟨O,fun w2 _=>srv0 w2⟩,zN_in (hS.sublist (List.nil_sublist _))⟩
  ·skip
   focus (refine qs ?_;refine qp ?_;refine qt (T_load O O O O) ?_;refine qf ?_;refine qz ?_;refine qF ?_;refine qx ?_)
   exact hJ3 () _ _ hr4 (Sub.cons O (Sub.cons O (Sub.cons O (Sub.cons O (Sub.cons O (Sub.cons O (Sub.cons O Sub.nil))))))) sub_st
 refine S_seq O ?_
 refine S_cut (X:=Unit) (fun _=>[(1,.int .i64 k),(2,.slice dA d.length dc),(3,.pointer (some ⟨b3,0,none⟩)),(6,.pointer (some ⟨b6,0,none⟩)),(8,.pointer (some ⟨b8,0,none⟩)),(10,.pointer (some ⟨b10,0,none⟩))]) (fun _=>[pt b10 36 (atc (0,0)),pt b3 42 (rfc x p),pt b6 42 (rfc rs0 rp0),pt b8 36 (atc (0,0))]) (fun _=> ¬ (k=3∧chgB x d=true)) (fun J4 hJ4=>?_) (fun _ hch=>?_)
 ·by_cases hk3:k=3
  rotate_left
  ·skip
   focus (refine qs ?_;refine qp ?_;refine qf ?_;refine qz ?_;refine qF ?_;refine qx ?_)
   exact hJ4 () _ _ (fun e=>hk3 e.1) (Sub.cons O (Sub.cons O (Sub.cons O (Sub.cons O (Sub.cons O (Sub.cons O Sub.nil)))))) sub_st
  subst hk3
  obtain⟨⟨ri,rbs,rq⟩,hCf⟩: ∃ z,confR x.base x.es (lastP x).1=z:=⟨_,O⟩
  obtain⟨⟨t,tq⟩,hT⟩: ∃ z,termR x.base x.es x.commit=z:=⟨_,O⟩
  have hT2:fndT x.base x.es x.commit=(t,tq):=by rw[← hT,termR,if_pos hrb];rfl
  obtain⟨fr,hfr⟩: ∃ z,C.farN (nowL x) (C.decL d)=z:=⟨_,O⟩
  have hdr:C.right (C.decL d)=true:=says_right (by cases hs:saysB d with
   |true=>rfl
   |false=>exact absurd (Or.inr (Or.inr ⟨O,hs⟩)) hok)
  have hst:decide (C.stpE (nowL x) (C.decL d)=0)=decide (fr≤1):=by rw[← hfr];exact stp_far (force_right (chk_sound hck) hcf _) hdr
  have hcg:chgB x d=((rq&&decide (x.commit<ri))|| !decide (t=x.term)|| !decide (fr≤1)):=by unfold chgB;rw[hCf,hT,hst]
  focus (refine qs ?_;refine qp ?_;refine qd ?_;refine qz ?_;refine qT ?_;refine qq ?_)
  refine S_draw ([pt b3 42 (rfc x p)]) sub_st (by kernel_rfl) O (by kernel_rfl) (by kernel_rfl:_=12) ?_
  refine dp 0 ?_
  refine dt 1 O (T_loads (ds:=lgc x.base p.A p.n p.c) O O O O O) ?_
  refine dt 2 O (T_loads (ds:=rfc x p) O O O O O) ?_
  refine D_one 3 O (E_hv0 (f:=99) F99 (fun w1 hS1=>allD_k w1 x p (h.keep hS1.kpO).lg hrb _ O) O O (fun _=>O)) ?_ O O (by kernel_rfl)
  rintro _ _ ⟨_,rfl,_,rfl⟩
  refine nx ?_
  refine D_one 4 O (E_hv1 (f:=102) F102 (fun w1 hS1=>confDk w1 x.base p.A p.c p.n p.Q x.es h.lg.hn h.lg.hQ (h.keep hS1.kpO).lg.rq (h.keep hS1.kpO).lg.dt h.lg.hm h.lg.hd hrb (lastP x).1 ri rbs _ _ O hCf) O O (fun _=>O)) ?_ O O (by kernel_rfl)
  rintro _ _ ⟨⟨Ab,cb⟩,rfl,_,rfl⟩
  refine nx ?_
  refine dp 5 ?_
  refine dp 6 ?_
  refine dp 7 ?_
  refine dp 8 ?_
  refine dp 9 ?_
  refine dp 10 ?_
  refine dp 11 ?_
  refine dn ?_
  skip
  focus (refine qs ?_;refine qp ?_;refine qt (T_loads (ds:=lgc x.base p.A p.n p.c) O O O O O) ?_;refine qp ?_;refine qt (T_load O O O O) ?_;(refine qe (E_hv0 (f:=103) F103 (fun w1 hS1=>termD_any w1 x.base p.A p.c p.n p.Q x.es h.lg.hn h.lg.hQ (h.keep hS1.kpO).lg.rq (by omega) (by omega) x.commit _ hT2) O O (fun _=>O)) ?_;rintro _ _ ⟨_,rfl,_,rfl⟩;dsimp only);(iterate 5 refine qp ?_);refine qz ?_;refine qq ?_)
  cases rq
  ·skip
   by_cases htt:t=x.term
   rotate_left
   ·have hv:chgB x d=true:=by rw[hcg];simp[htt]
    have hC:prpC x 3 d=252:=by unfold prpC;rw[if_neg hok,if_neg (fun e=>e hr4),if_pos ⟨O,hv⟩]
    obtain⟨e1,e2,e3⟩:=prp_no hC (by decide)
    rw[e1,e2,e3,hC] at hB
    refine S_draw ([pt b3 42 (rfc x p),pt b11 33 [.slice A5 (C.decL d).length c5]]) sub_st (by kernel_rfl) O (by kernel_rfl) (by kernel_rfl:_=20) ?_
    refine dp 0 ?_
    refine dp 1 ?_
    refine dk 2 ?_
    refine dk 3 ?_
    refine dk 4 ?_
    refine dk 5 ?_
    refine dp 6 ?_
    refine dp 7 ?_
    refine dp 8 ?_
    refine dp 9 ?_
    refine dl 10 ?_
    refine dqT 11 ?_
    refine dp 12 ?_
    refine dp 13 ?_
    refine dk 14 ?_
    refine dk 15 ?_
    refine dk 16 ?_
    refine dk 17 ?_
    refine dk 18 ?_
    refine dp 19 ?_
    refine dn ?_
    skip
    focus (refine qT ?_;refine qq ?_)
    refine S_draw ([pt b10 36 (atc (0,0))]) sub_st (by kernel_rfl) O (by kernel_rfl) (by kernel_rfl:_=6) ?_
    refine dt 0 O (T_build0 rf_built0) ?_
    refine dt 1 O (T_loads (ds:=atc (0,0)) O O O O O) ?_
    refine D_one 2 O (E_storew (cs:=rfc rs0 rp0) (ds:=rfc rs0 rp0) O O O O (rfc_one _ _) O) ?_ O O (by kernel_rfl)
    rintro _ _ rfl
    refine nx ?_
    refine dp 3 ?_
    refine D_one 4 O (E_storew (cs:=atc (0,0)) (ds:=atc (0,0)) O O O O (atc_one _) O) ?_ O O (by kernel_rfl)
    rintro _ _ rfl
    refine nx ?_
    refine dp 5 ?_
    refine dn ?_
    skip
    skip
    refine hB _ _ _ _ _ O (.cell O O O inferInstance O (.tmp O (.cell O O O inferInstance O (.tmp O .nil)))) fun w' hS=>⟨(⟨rp0,[],none,0,false⟩,zN),O,⟨O,fun w2 _=>srv0 w2⟩,zN_in (hS.sublist (List.nil_sublist _))⟩
   by_cases hs0:fr≤1
   rotate_left
   ·have hv:chgB x d=true:=by rw[hcg];simp[hs0]
    have hC:prpC x 3 d=252:=by unfold prpC;rw[if_neg hok,if_neg (fun e=>e hr4),if_pos ⟨O,hv⟩]
    obtain⟨e1,e2,e3⟩:=prp_no hC (by decide)
    rw[e1,e2,e3,hC] at hB
    refine S_draw ([pt b3 42 (rfc x p),pt b11 33 [.slice A5 (C.decL d).length c5]]) sub_st (by kernel_rfl) O (by kernel_rfl) (by kernel_rfl:_=20) ?_
    refine dp 0 ?_
    refine dp 1 ?_
    refine dk 2 ?_
    refine dk 3 ?_
    refine dk 4 ?_
    refine dk 5 ?_
    refine dp 6 ?_
    refine dp 7 ?_
    refine dp 8 ?_
    refine dp 9 ?_
    refine dl 10 ?_
    refine dqF 11 ?_
    refine dp 12 ?_
    refine dp 13 ?_
    refine dt 14 O (T_loads (ds:=rfc x p) O O O O O) ?_
    refine dt 16 O (T_loads (ds:=[.slice A5 (C.decL d).length c5]) O O O O O) ?_
    refine D_one 15 O (E_hv1 (f:=32) F32 (fun w1 hS1=>nowD_k w1 x p (fun w'=>LgR w' x p) (rf_lg (h.keep hS1.kpO).lg) (fun _ h=>h) hrb (nowL x) O) O O (fun _=>O)) ?_ O O (by kernel_rfl)
    rintro _ _ ⟨⟨⟨A6,K6,c6⟩,Z6⟩,rfl,hI6,rfl⟩;dsimp only at hI6
    refine nx ?_
    refine D_one 17 O (E_hv0 (f:=104) F104 (fun w1 hS1=>far_k15 w1 A6 A5 (nowL x).length c6 (C.decL d).length c5 (nowL x) (C.decL d) (hI6 w1 ⟨(h.keep hS1.kpO).lg,hS1.at_ (A:=Z6) (by simp)⟩) (row_rd (hS1.at_ (A:=row 3 1 A5 (C.decL d).length c5 ((C.decL d).map zv)) (by simp))) hn5 hd5 _ hfr) O O (fun _=>O)) ?_ O O (by kernel_rfl)
    rintro _ _ ⟨_,rfl,_,rfl⟩
    refine nx ?_
    refine dqT 18 ?_
    refine dqT 19 ?_
    refine dn ?_
    skip
    focus (refine qT ?_;refine qq ?_)
    refine S_draw ([pt b10 36 (atc (0,0))]) sub_st (by kernel_rfl) O (by kernel_rfl) (by kernel_rfl:_=6) ?_
    refine dt 0 O (T_build0 rf_built0) ?_
    refine dt 1 O (T_loads (ds:=atc (0,0)) O O O O O) ?_
    refine D_one 2 O (E_storew (cs:=rfc rs0 rp0) (ds:=rfc rs0 rp0) O O O O (rfc_one _ _) O) ?_ O O (by kernel_rfl)
    rintro _ _ rfl
    refine nx ?_
    refine dp 3 ?_
    refine D_one 4 O (E_storew (cs:=atc (0,0)) (ds:=atc (0,0)) O O O O (atc_one _) O) ?_ O O (by kernel_rfl)
    rintro _ _ rfl
    refine nx ?_
    refine dp 5 ?_
    refine dn ?_
    skip
    skip
    refine hB _ _ _ _ _ O (.cell O O O inferInstance O (.tmp O (.cell O O O inferInstance O (.tmp O .nil)))) fun w' hS=>⟨(⟨rp0,[],none,0,false⟩,zN),O,⟨O,fun w2 _=>srv0 w2⟩,zN_in (hS.sublist (List.nil_sublist _))⟩
   have hv: ¬ ((3:Int)=3∧chgB x d=true):=by rw[hcg];simp[htt,hs0]
   refine S_draw ([pt b3 42 (rfc x p),pt b11 33 [.slice A5 (C.decL d).length c5]]) sub_st (by kernel_rfl) O (by kernel_rfl) (by kernel_rfl:_=20) ?_
   refine dp 0 ?_
   refine dp 1 ?_
   refine dk 2 ?_
   refine dk 3 ?_
   refine dk 4 ?_
   refine dk 5 ?_
   refine dp 6 ?_
   refine dp 7 ?_
   refine dp 8 ?_
   refine dp 9 ?_
   refine dl 10 ?_
   refine dqF 11 ?_
   refine dp 12 ?_
   refine dp 13 ?_
   refine dt 14 O (T_loads (ds:=rfc x p) O O O O O) ?_
   refine dt 16 O (T_loads (ds:=[.slice A5 (C.decL d).length c5]) O O O O O) ?_
   refine D_one 15 O (E_hv1 (f:=32) F32 (fun w1 hS1=>nowD_k w1 x p (fun w'=>LgR w' x p) (rf_lg (h.keep hS1.kpO).lg) (fun _ h=>h) hrb (nowL x) O) O O (fun _=>O)) ?_ O O (by kernel_rfl)
   rintro _ _ ⟨⟨⟨A6,K6,c6⟩,Z6⟩,rfl,hI6,rfl⟩;dsimp only at hI6
   refine nx ?_
   refine D_one 17 O (E_hv0 (f:=104) F104 (fun w1 hS1=>far_k15 w1 A6 A5 (nowL x).length c6 (C.decL d).length c5 (nowL x) (C.decL d) (hI6 w1 ⟨(h.keep hS1.kpO).lg,hS1.at_ (A:=Z6) (by simp)⟩) (row_rd (hS1.at_ (A:=row 3 1 A5 (C.decL d).length c5 ((C.decL d).map zv)) (by simp))) hn5 hd5 _ hfr) O O (fun _=>O)) ?_ O O (by kernel_rfl)
   rintro _ _ ⟨_,rfl,_,rfl⟩
   refine nx ?_
   refine dqF 18 ?_
   refine dp 19 ?_
   refine dn ?_
   skip
   focus (refine qF ?_;refine qx ?_)
   exact hJ4 () _ _ hv (Sub.cons O (Sub.cons O (Sub.cons O (Sub.cons O (Sub.cons O (Sub.cons O Sub.nil)))))) sub_st
  ·by_cases hri:x.commit<ri
   ·have hv:chgB x d=true:=by rw[hcg];simp[hri]
    have hC:prpC x 3 d=252:=by unfold prpC;rw[if_neg hok,if_neg (fun e=>e hr4),if_pos ⟨O,hv⟩]
    obtain⟨e1,e2,e3⟩:=prp_no hC (by decide)
    rw[e1,e2,e3,hC] at hB
    refine S_draw ([pt b3 42 (rfc x p),pt b11 33 [.slice A5 (C.decL d).length c5]]) sub_st (by kernel_rfl) O (by kernel_rfl) (by kernel_rfl:_=20) ?_
    refine dp 0 ?_
    refine dp 1 ?_
    refine dp 2 ?_
    refine dp 3 ?_
    refine dl 4 ?_
    refine dqT 5 ?_
    refine dp 6 ?_
    refine dp 7 ?_
    refine dk 8 ?_
    refine dk 9 ?_
    refine dk 10 ?_
    refine dk 11 ?_
    refine dp 12 ?_
    refine dp 13 ?_
    refine dk 14 ?_
    refine dk 15 ?_
    refine dk 16 ?_
    refine dk 17 ?_
    refine dk 18 ?_
    refine dp 19 ?_
    refine dn ?_
    skip
    focus (refine qT ?_;refine qq ?_)
    refine S_draw ([pt b10 36 (atc (0,0))]) sub_st (by kernel_rfl) O (by kernel_rfl) (by kernel_rfl:_=6) ?_
    refine dt 0 O (T_build0 rf_built0) ?_
    refine dt 1 O (T_loads (ds:=atc (0,0)) O O O O O) ?_
    refine D_one 2 O (E_storew (cs:=rfc rs0 rp0) (ds:=rfc rs0 rp0) O O O O (rfc_one _ _) O) ?_ O O (by kernel_rfl)
    rintro _ _ rfl
    refine nx ?_
    refine dp 3 ?_
    refine D_one 4 O (E_storew (cs:=atc (0,0)) (ds:=atc (0,0)) O O O O (atc_one _) O) ?_ O O (by kernel_rfl)
    rintro _ _ rfl
    refine nx ?_
    refine dp 5 ?_
    refine dn ?_
    skip
    skip
    refine hB _ _ _ _ _ O (.cell O O O inferInstance O (.tmp O (.cell O O O inferInstance O (.tmp O .nil)))) fun w' hS=>⟨(⟨rp0,[],none,0,false⟩,zN),O,⟨O,fun w2 _=>srv0 w2⟩,zN_in (hS.sublist (List.nil_sublist _))⟩
   by_cases htt:t=x.term
   rotate_left
   ·have hv:chgB x d=true:=by rw[hcg];simp[htt]
    have hC:prpC x 3 d=252:=by unfold prpC;rw[if_neg hok,if_neg (fun e=>e hr4),if_pos ⟨O,hv⟩]
    obtain⟨e1,e2,e3⟩:=prp_no hC (by decide)
    rw[e1,e2,e3,hC] at hB
    refine S_draw ([pt b3 42 (rfc x p),pt b11 33 [.slice A5 (C.decL d).length c5]]) sub_st (by kernel_rfl) O (by kernel_rfl) (by kernel_rfl:_=20) ?_
    refine dp 0 ?_
    refine dp 1 ?_
    refine dp 2 ?_
    refine dp 3 ?_
    refine dl 4 ?_
    refine dqF 5 ?_
    refine dp 6 ?_
    refine dp 7 ?_
    refine dp 8 ?_
    refine dp 9 ?_
    refine dl 10 ?_
    refine dqT 11 ?_
    refine dp 12 ?_
    refine dp 13 ?_
    refine dk 14 ?_
    refine dk 15 ?_
    refine dk 16 ?_
    refine dk 17 ?_
    refine dk 18 ?_
    refine dp 19 ?_
    refine dn ?_
    skip
    focus (refine qT ?_;refine qq ?_)
    refine S_draw ([pt b10 36 (atc (0,0))]) sub_st (by kernel_rfl) O (by kernel_rfl) (by kernel_rfl:_=6) ?_
    refine dt 0 O (T_build0 rf_built0) ?_
    refine dt 1 O (T_loads (ds:=atc (0,0)) O O O O O) ?_
    refine D_one 2 O (E_storew (cs:=rfc rs0 rp0) (ds:=rfc rs0 rp0) O O O O (rfc_one _ _) O) ?_ O O (by kernel_rfl)
    rintro _ _ rfl
    refine nx ?_
    refine dp 3 ?_
    refine D_one 4 O (E_storew (cs:=atc (0,0)) (ds:=atc (0,0)) O O O O (atc_one _) O) ?_ O O (by kernel_rfl)
    rintro _ _ rfl
    refine nx ?_
    refine dp 5 ?_
    refine dn ?_
    skip
    skip
    refine hB _ _ _ _ _ O (.cell O O O inferInstance O (.tmp O (.cell O O O inferInstance O (.tmp O .nil)))) fun w' hS=>⟨(⟨rp0,[],none,0,false⟩,zN),O,⟨O,fun w2 _=>srv0 w2⟩,zN_in (hS.sublist (List.nil_sublist _))⟩
   by_cases hs0:fr≤1
   rotate_left
   ·have hv:chgB x d=true:=by rw[hcg];simp[hs0]
    have hC:prpC x 3 d=252:=by unfold prpC;rw[if_neg hok,if_neg (fun e=>e hr4),if_pos ⟨O,hv⟩]
    obtain⟨e1,e2,e3⟩:=prp_no hC (by decide)
    rw[e1,e2,e3,hC] at hB
    refine S_draw ([pt b3 42 (rfc x p),pt b11 33 [.slice A5 (C.decL d).length c5]]) sub_st (by kernel_rfl) O (by kernel_rfl) (by kernel_rfl:_=20) ?_
    refine dp 0 ?_
    refine dp 1 ?_
    refine dp 2 ?_
    refine dp 3 ?_
    refine dl 4 ?_
    refine dqF 5 ?_
    refine dp 6 ?_
    refine dp 7 ?_
    refine dp 8 ?_
    refine dp 9 ?_
    refine dl 10 ?_
    refine dqF 11 ?_
    refine dp 12 ?_
    refine dp 13 ?_
    refine dt 14 O (T_loads (ds:=rfc x p) O O O O O) ?_
    refine dt 16 O (T_loads (ds:=[.slice A5 (C.decL d).length c5]) O O O O O) ?_
    refine D_one 15 O (E_hv1 (f:=32) F32 (fun w1 hS1=>nowD_k w1 x p (fun w'=>LgR w' x p) (rf_lg (h.keep hS1.kpO).lg) (fun _ h=>h) hrb (nowL x) O) O O (fun _=>O)) ?_ O O (by kernel_rfl)
    rintro _ _ ⟨⟨⟨A6,K6,c6⟩,Z6⟩,rfl,hI6,rfl⟩;dsimp only at hI6
    refine nx ?_
    refine D_one 17 O (E_hv0 (f:=104) F104 (fun w1 hS1=>far_k15 w1 A6 A5 (nowL x).length c6 (C.decL d).length c5 (nowL x) (C.decL d) (hI6 w1 ⟨(h.keep hS1.kpO).lg,hS1.at_ (A:=Z6) (by simp)⟩) (row_rd (hS1.at_ (A:=row 3 1 A5 (C.decL d).length c5 ((C.decL d).map zv)) (by simp))) hn5 hd5 _ hfr) O O (fun _=>O)) ?_ O O (by kernel_rfl)
    rintro _ _ ⟨_,rfl,_,rfl⟩
    refine nx ?_
    refine dqT 18 ?_
    refine dqT 19 ?_
    refine dn ?_
    skip
    focus (refine qT ?_;refine qq ?_)
    refine S_draw ([pt b10 36 (atc (0,0))]) sub_st (by kernel_rfl) O (by kernel_rfl) (by kernel_rfl:_=6) ?_
    refine dt 0 O (T_build0 rf_built0) ?_
    refine dt 1 O (T_loads (ds:=atc (0,0)) O O O O O) ?_
    refine D_one 2 O (E_storew (cs:=rfc rs0 rp0) (ds:=rfc rs0 rp0) O O O O (rfc_one _ _) O) ?_ O O (by kernel_rfl)
    rintro _ _ rfl
    refine nx ?_
    refine dp 3 ?_
    refine D_one 4 O (E_storew (cs:=atc (0,0)) (ds:=atc (0,0)) O O O O (atc_one _) O) ?_ O O (by kernel_rfl)
    rintro _ _ rfl
    refine nx ?_
    refine dp 5 ?_
    refine dn ?_
    skip
    skip
    refine hB _ _ _ _ _ O (.cell O O O inferInstance O (.tmp O (.cell O O O inferInstance O (.tmp O .nil)))) fun w' hS=>⟨(⟨rp0,[],none,0,false⟩,zN),O,⟨O,fun w2 _=>srv0 w2⟩,zN_in (hS.sublist (List.nil_sublist _))⟩
   have hv: ¬ ((3:Int)=3∧chgB x d=true):=by rw[hcg];simp[htt,hs0];omega
   refine S_draw ([pt b3 42 (rfc x p),pt b11 33 [.slice A5 (C.decL d).length c5]]) sub_st (by kernel_rfl) O (by kernel_rfl) (by kernel_rfl:_=20) ?_
   refine dp 0 ?_
   refine dp 1 ?_
   refine dp 2 ?_
   refine dp 3 ?_
   refine dl 4 ?_
   refine dqF 5 ?_
   refine dp 6 ?_
   refine dp 7 ?_
   refine dp 8 ?_
   refine dp 9 ?_
   refine dl 10 ?_
   refine dqF 11 ?_
   refine dp 12 ?_
   refine dp 13 ?_
   refine dt 14 O (T_loads (ds:=rfc x p) O O O O O) ?_
   refine dt 16 O (T_loads (ds:=[.slice A5 (C.decL d).length c5]) O O O O O) ?_
   refine D_one 15 O (E_hv1 (f:=32) F32 (fun w1 hS1=>nowD_k w1 x p (fun w'=>LgR w' x p) (rf_lg (h.keep hS1.kpO).lg) (fun _ h=>h) hrb (nowL x) O) O O (fun _=>O)) ?_ O O (by kernel_rfl)
   rintro _ _ ⟨⟨⟨A6,K6,c6⟩,Z6⟩,rfl,hI6,rfl⟩;dsimp only at hI6
   refine nx ?_
   refine D_one 17 O (E_hv0 (f:=104) F104 (fun w1 hS1=>far_k15 w1 A6 A5 (nowL x).length c6 (C.decL d).length c5 (nowL x) (C.decL d) (hI6 w1 ⟨(h.keep hS1.kpO).lg,hS1.at_ (A:=Z6) (by simp)⟩) (row_rd (hS1.at_ (A:=row 3 1 A5 (C.decL d).length c5 ((C.decL d).map zv)) (by simp))) hn5 hd5 _ hfr) O O (fun _=>O)) ?_ O O (by kernel_rfl)
   rintro _ _ ⟨_,rfl,_,rfl⟩
   refine nx ?_
   refine dqF 18 ?_
   refine dp 19 ?_
   refine dn ?_
   skip
   focus (refine qF ?_;refine qx ?_)
   exact hJ4 () _ _ hv (Sub.cons O (Sub.cons O (Sub.cons O (Sub.cons O (Sub.cons O (Sub.cons O Sub.nil)))))) sub_st
 obtain⟨⟨e,pa_,bb_,r⟩,hap⟩: ∃ z,prA x k d=z:=⟨_,O⟩
 obtain⟨K,hK⟩: ∃ K,r.length=K:=⟨_,O⟩
 have hap2:app x.base x.es (emv (x.term,k,dA,dc,d))=(e,pa_,bb_,r):=hap
 have hCe:prpC x k d=e:=by unfold prpC;rw[if_neg hok,if_neg (fun e=>e hr4),if_neg hch,hap]
 by_cases hne:e=0
 rotate_left
 ·have hC:=hCe
  obtain⟨e1,e2,e3⟩:=prp_no hC (by exact hne)
  rw[e1,e2,e3,hC] at hB
  focus (refine qs ?_;refine qp ?_;refine qt (T_loads (ds:=lgc x.base p.A p.n p.c) O O O O O) ?_;refine qp ?_;refine qt (T_load O O O O) ?_;refine qp ?_;refine qp ?_;refine qt (T_build3 O O O (em_built3 _ _ _ _ _)) ?_;(refine qe (E_hvG (f:=105) F105 (fun w1 hS1=>apD_any w1 x.base p.A p.c p.n p.Q x.es h.lg.hn h.lg.hQ (h.keep hS1.kpO).lg.rq (h.keep hS1.kpO).lg.dt h.lg.hm h.lg.hd (x.term,k,dA,dc,d) (hd.keep hS1.kpO).rd (by show d.length≤_;omega) hrb e pa_ bb_ r K hK hap2) O O) ?_;rintro _ _ ⟨⟨⟨A12,c12⟩,P12⟩,rfl,_,rfl⟩;dsimp only[List.cons_append,List.nil_append]);(iterate 4 refine qp ?_);(refine qe (E_alloca O lg_zero) ?_;rintro _ _ ⟨b18,rfl,rfl⟩);(refine qe (E_alloca O at_zero) ?_;rintro _ _ ⟨b19,rfl,rfl⟩);(refine qw (E_storew (cs:=lgc (0,0) none 0 0) (ds:=lgc bb_ A12 K c12) O O O O (lgc_one _ _ _ _) O) ?_;rintro _ _ rfl);(refine qw (E_storew (cs:=atc (0,0)) (ds:=atc pa_) O O O O (atc_one _) O) ?_;rintro _ _ rfl);refine qp ?_;refine qz ?_;refine qq ?_;refine qs ?_;refine qp ?_;refine qd ?_;refine qz ?_;refine qT ?_;refine qq ?_)
  refine S_draw ([pt b10 36 (atc (0,0))]) sub_st (by kernel_rfl) O (by kernel_rfl) (by kernel_rfl:_=7) ?_
  refine dt 0 O (T_build0 rf_built0) ?_
  refine dt 1 O (T_loads (ds:=atc (0,0)) O O O O O) ?_
  refine dp 2 ?_
  refine D_one 3 O (E_storew (cs:=rfc rs0 rp0) (ds:=rfc rs0 rp0) O O O O (rfc_one _ _) O) ?_ O O (by kernel_rfl)
  rintro _ _ rfl
  refine nx ?_
  refine dp 4 ?_
  refine D_one 5 O (E_storew (cs:=atc (0,0)) (ds:=atc (0,0)) O O O O (atc_one _) O) ?_ O O (by kernel_rfl)
  rintro _ _ rfl
  refine nx ?_
  refine dp 6 ?_
  refine dn ?_
  skip
  skip
  refine hB _ _ _ _ _ O (.cell O O O inferInstance O (.tmp O (.cell O O O inferInstance O (.tmp O .nil)))) fun w' hS=>⟨(⟨rp0,[],none,0,false⟩,zN),O,⟨O,fun w2 _=>srv0 w2⟩,zN_in (hS.sublist (List.nil_sublist _))⟩
 subst hne
 have hRR:prpR x k d=comR (logX x bb_ r):=by unfold prpR;rw[if_pos hCe,hap]
 have hAA:prpA x k d=pa_:=by unfold prpA;rw[if_pos hCe,hap]
 obtain⟨hr0,hrd⟩:=prp_out (hd1:=fun e he=>h.lg.ed e he) (hd2:=by show d.length≤100000;omega) hap2 O
 obtain⟨hbb,hrl⟩:=app_eq hap2
 obtain⟨x1,hx1⟩: ∃ y,y=logX x bb_ r:=⟨_,O⟩
 have hMM:prpM x k d=(nowL (comR x1)).flatMap (lackM (comR x1)):=by
  unfold prpM
  rw[if_pos hCe,hRR, ← hx1]
  exact fel_now (fun q hq=>chk_who hck q (by rw[← show x1.peers=x.peers by rw[hx1];rfl];exact comR_mem hq)) (by rw[comR_me,hx1];rfl)
 rw[hRR] at hu2
 rw[hRR,hMM,hAA,hCe] at hB
 rw[← hx1] at hB hu2
 have hso:soundB r=true:=by
  rw[hrl]
  unfold soundB
  rw[List.all_append,Bool.and_eq_true]
  refine⟨chk_sound hck,?_⟩
  by_cases hk3:k=3
  ·have:saysB d=true:=by
    cases hs:saysB d with
    |true=>rfl
    |false=>exact absurd (Or.inr (Or.inr ⟨hk3,hs⟩)) hok
   simp[emv,this]
  ·simp[emv,hk3]
 have hx1cf:x1.cf=x.cf:=by rw[hx1];rfl
 have hx1b:x1.base=bb_:=by rw[hx1];rfl
 have hx1e:x1.es=r:=by rw[hx1];rfl
 have hri1:C.right (nowL x1)=true:=force_right (by rw[hx1e];exact hso) (by rw[hx1cf];exact hcf) _
 have h51:(nowL x1).length≤5:=force_le (by rw[hx1cf];exact hcf) _
 have hrb1:rightB x1.base x1.es=true:=by rw[hx1b,hx1e];exact app_right hap2
 have ht0:x1.term≠0:=by rw[hx1];exact chk_term (x:=x) hck hr4
 have hp8:x1.peers.length≤800:=by rw[hx1];exact Nat.le_trans (chk_peers (x:=x) hck) (by decide)
 have hu1:RsU x1:=by rw[hx1];exact⟨h.hu.tm,by show bb_.1<_;rw[hbb];exact h.hu.b1,by show bb_.2<_;rw[hbb];exact h.hu.b2,h.hu.cm,h.hu.pe⟩
 obtain⟨x2,hx2⟩: ∃ y,y=comR x1:=⟨_,O⟩
 have hri2:C.right x2.cf=true:=by rw[hx2,comR_cf,hx1cf];exact hcf
 have hrb2:rightB x2.base x2.es=true:=by rw[hx2,comR_log];exact hrb1
 rw[← hx2] at hB
 focus (refine qs ?_;refine qp ?_;refine qt (T_loads (ds:=lgc x.base p.A p.n p.c) O O O O O) ?_;refine qp ?_;refine qt (T_load O O O O) ?_;refine qp ?_;refine qp ?_;refine qt (T_build3 O O O (em_built3 _ _ _ _ _)) ?_;(refine qe (E_hvG (f:=105) F105 (fun w1 hS1=>apD_any w1 x.base p.A p.c p.n p.Q x.es h.lg.hn h.lg.hQ (h.keep hS1.kpO).lg.rq (h.keep hS1.kpO).lg.dt h.lg.hm h.lg.hd (x.term,k,dA,dc,d) (hd.keep hS1.kpO).rd (by show d.length≤_;omega) hrb 0 pa_ bb_ r K hK hap2) O O) ?_;rintro _ _ ⟨⟨⟨A12,c12⟩,P12⟩,rfl,_,rfl⟩;dsimp only[List.cons_append,List.nil_append]);(iterate 4 refine qp ?_);(refine qe (E_alloca O lg_zero) ?_;rintro _ _ ⟨b18,rfl,rfl⟩);(refine qe (E_alloca O at_zero) ?_;rintro _ _ ⟨b19,rfl,rfl⟩);(refine qw (E_storew (cs:=lgc (0,0) none 0 0) (ds:=lgc bb_ A12 K c12) O O O O (lgc_one _ _ _ _) O) ?_;rintro _ _ rfl);(refine qw (E_storew (cs:=atc (0,0)) (ds:=atc pa_) O O O O (atc_one _) O) ?_;rintro _ _ rfl);refine qp ?_;refine qz ?_;refine qq ?_;refine qs ?_;refine qp ?_;refine qf ?_;refine qz ?_;refine qF ?_;refine qx ?_;refine qs ?_)
 have hmk: ∀ w3,(KL (fun w'=>RfR w' x p) [row 59 3 A12 K c12 (cellsL emc P12.1),dtB 5 (P12.1.map emd)]) w3→RfR w3 x1 ⟨A12,K,c12,P12.1,p.cA,p.cn,p.cc,p.vA,p.vn,p.vc,p.pA,p.pn,p.pc⟩:=fun w3 h3=>by
  have h4:LgR w3 x1 ⟨A12,K,c12,P12.1,p.cA,p.cn,p.cc,p.vA,p.vn,p.vc,p.pA,p.pn,p.pc⟩:=lgO_lg (h3.2 (row 59 3 A12 K c12 (cellsL emc P12.1)) (by simp)) (h3.2 (dtB 5 (P12.1.map emd)) (by simp)) (by rw[hx1];exact h3.1.lg.rc) (by rw[hx1e];exact P12.2.1) ((em_len P12.2.1).trans hK) (by rw[hx1];exact h3.1.lg.hcn) (by show K≤1000;omega) h3.1.lg.hcm (by rw[hx1e];exact hrd)
  refine⟨h4,?_,h3.1.hvm,?_,?_,h3.1.hpm,?_,hu1⟩
  ·rw[hx1];exact h3.1.hvn
  ·rw[hx1];exact h3.1.rv
  ·rw[hx1];exact h3.1.hpn
  ·rw[hx1];exact h3.1.rp
 focus (refine qt (T_loads (ds:=lgc bb_ A12 K c12) O O O O O) ?_;refine qp ?_;(refine qw (E_storeA (gb:=b3) (t:=42) (cs:=rfc x p) (ds:=lgc bb_ A12 K c12) (cs':=rfc x1 ⟨A12,K,c12,P12.1,p.cA,p.cn,p.cc,p.vA,p.vn,p.vc,p.pA,p.pn,p.pc⟩) O O O O (lgc_one _ _ _ _) (by rw[hx1];rfl) (by show 3+3≤14;omega)) ?_;rintro _ _ rfl);refine qn ?_;refine qt (T_loads (ds:=rfc x1 ⟨A12,K,c12,P12.1,p.cA,p.cn,p.cc,p.vA,p.vn,p.vc,p.pA,p.pn,p.pc⟩) O O O O O) ?_;(refine qe (E_hv0 (f:=106) F106 (fun w1 hS1=>commitD_k w1 x1 ⟨A12,K,c12,P12.1,p.cA,p.cn,p.cc,p.vA,p.vn,p.vc,p.pA,p.pn,p.pc⟩ (hmk w1 (Kd.subL (L:=[row 59 3 A12 K c12 (cellsL emc P12.1),dtB 5 (P12.1.map emd)]) (As':=[]) (rf_kd h) hS1 (by simp)).now) hrb1 hri1 h51 ht0 hp8) O O (fun _=>O)) ?_;rintro _ _ ⟨q,rfl,hq,rfl⟩;rw[← hx2] at hq ⊢);(refine qw (E_storew (cs:=rfc x1 ⟨A12,K,c12,P12.1,p.cA,p.cn,p.cc,p.vA,p.vn,p.vc,p.pA,p.pn,p.pc⟩) (ds:=rfc x2 q) O O O O (rfc_one _ _) O) ?_;rintro _ _ rfl);refine qz ?_;refine qq ?_)
 have hmk2: ∀ w3,(KL (fun w'=>RfR w' x p) [row 59 3 A12 K c12 (cellsL emc P12.1),dtB 5 (P12.1.map emd)]) w3→RfR w3 x2 q:=fun w3 h3=>hq w3 (hmk w3 h3)
 refine S_draw ([pt b3 42 (rfc x2 q),pt b19 36 (atc pa_)]) sub_st (by kernel_rfl) O (by kernel_rfl) (by kernel_rfl:_=8) ?_
 refine dt 0 O (T_loads (ds:=rfc x2 q) O O O O O) ?_
 refine dt 1 O (T_loads (ds:=rfc x2 q) O O O O O) ?_
 refine dt 3 O (T_loads (ds:=atc pa_) O O O O O) ?_
 refine D_one 2 O (E_hvG (f:=107) F107 (fun w1 hS1=>comesD_k w1 x2 q (KL (fun w'=>RfR w' x p) [row 59 3 A12 K c12 (cellsL emc P12.1),dtB 5 (P12.1.map emd)]) (Kd.subL (As':=[]) (rf_kd h) hS1 (by simp)) hmk2 hrb2 (nowL x2) O (force_le hri2 _)) O O) ?_ O O (by kernel_rfl)
 rintro _ _ ⟨⟨⟨L,A4,c4⟩,Z4⟩,rfl,⟨hL1,hL2⟩,rfl⟩;dsimp only[List.cons_append,List.nil_append] at hL1 hL2 ⊢
 refine nx ?_
 refine D_one 4 O (E_storew (cs:=rfc rs0 rp0) (ds:=rfc x2 q) O O O O (rfc_one _ _) O) ?_ O O (by kernel_rfl)
 rintro _ _ rfl
 refine nx ?_
 refine dp 5 ?_
 refine D_one 6 O (E_storew (cs:=atc (0,0)) (ds:=atc pa_) O O O O (atc_one _) O) ?_ O O (by kernel_rfl)
 rintro _ _ rfl
 refine nx ?_
 refine dp 7 ?_
 refine dn ?_
 skip
 skip
 have hend: ∀ w',St w (owns []) [row 65 12 A4 L.length c4 (cellsL sgc L),Z4,row 59 3 A12 K c12 (cellsL emc P12.1),dtB 5 (P12.1.map emd)] w'→St w (owns []) [zA (row 65 12 A4 L.length c4 (cellsL sgc L)) (zA Z4 (zA (row 59 3 A12 K c12 (cellsL emc P12.1)) (dtB 5 (P12.1.map emd))))] w':=fun w' hS=>by
  have h1:=zA_in (hS.perm (List.perm_append_comm (l₁:=[row 65 12 A4 L.length c4 (cellsL sgc L),Z4])))
  have h2:=zA_in (h1.perm (List.perm_append_comm (l₁:=[zA _ _,row 65 12 A4 L.length c4 (cellsL sgc L)]) (l₂:=[Z4])))
  exact zA_in (h2.perm (List.Perm.swap _ _ _))
 refine hB _ _ _ _ _ O (.cell O O O inferInstance O (.tmp O (.cell O O O inferInstance O (.tmp O .nil)))) fun w' hS=>⟨(⟨q,L,A4,c4,false⟩,zA (row 65 12 A4 L.length c4 (cellsL sgc L)) (zA Z4 (zA (row 59 3 A12 K c12 (cellsL emc P12.1)) (dtB 5 (P12.1.map emd))))),O,⟨hL1,fun w3 h3=>?_⟩,hend w' (sub_st (H':=[row 65 12 A4 L.length c4 (cellsL sgc L),Z4,row 59 3 A12 K c12 (cellsL emc P12.1),dtB 5 (P12.1.map emd)]) w' hS)⟩
 have h4:(KL (fun w'=>RfR w' x p) [row 59 3 A12 K c12 (cellsL emc P12.1),dtB 5 (P12.1.map emd)]) w3:=⟨h3.1,fun A hA=>by
  rcases List.mem_cons.1 hA with rfl|hA
  ·exact zA_l (zA_r (zA_r h3.2))
  obtain rfl:A=dtB 5 (P12.1.map emd):=by simpa using hA
  exact zA_r (zA_r (zA_r h3.2))⟩
 exact⟨hmk2 w3 h4,row_rd (zA_l h3.2),fun s hs=>hL2 w3 ⟨h4,zA_l (zA_r h3.2)⟩ s hs⟩
end Go.Proofs.YtdeffdldifepkaaGreat
