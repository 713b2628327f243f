/- Lemmas of the proof, part 4. -/
import Derived.Laws.Pointers
import Derived.Test.YtdeffdldifepkaaGreatZp3
set_option maxRecDepth 100000
set_option maxHeartbeats 4000000
namespace Go.Proofs.YtdeffdldifepkaaGreat
open Go.RowKit
open Asn (pt row rb)
set_option linter.unusedVariables false
set_option linter.unusedSimpArgs false
theorem numD_any (w:World) (n:Int) (r:Bool) (hr:srvB n=r):
  Gives Tryz.prog 63 [.int .i64 n] [] w (X:=Unit) (fun _=> .bool r) (fun _=>True) (fun _=>[]):=by
 refine gives_S Tryz.func63 O Tryz.ntmps63 Tryz.results63 (by simp) (St.enter w) (fun B hB=>?_)
 subst hr
 unfold srvB at hB
 by_cases h1:1≤n
 ·by_cases h2:n≤5
  ·rw[decide_eq_true h1,decide_eq_true h2] at hB
   repeat' (first|refine R_take (T_decT O (by omega)) ?_ O O|refine R_p O ?_ O O|refine R_nil ?_|refine S_seq O ?_|refine S_region O O ?_)
   exact hB _ _ _ _ _ O O (qE O)
  ·rw[decide_eq_true h1,decide_eq_false h2] at hB
   repeat' (first|refine R_take (T_decT O (by omega)) ?_ O O|refine R_take (T_decF O (by omega)) ?_ O O|refine R_p O ?_ O O|refine R_nil ?_|refine S_seq O ?_|refine S_region O O ?_)
   exact hB _ _ _ _ _ O O (qE O)
 ·rw[decide_eq_false h1,Bool.false_and] at hB
  repeat' (first|refine R_take (T_decF O (by omega)) ?_ O O|refine R_p O ?_ O O|refine R_nil ?_|refine R_skip ?_ O O|refine S_seq O ?_|refine S_region O O ?_)
  exact hB _ _ _ _ _ O O (qE O)
theorem inD_any (w:World) (A:Option Addr) (n c:Nat) (l:List Int) (m:Int) (h:Rd w All 1 A n (l.map zv)) (hn:n≤100000) (r:Bool) (hr:decide (m∈l)=r):
  Gives Tryz.prog 68 [.slice A n c,.int .i64 m] [] w (X:=Unit) (fun _=> .bool r) (fun _=>True) (fun _=>[]):=by
 refine gives_S Tryz.func68 O Tryz.ntmps68 Tryz.results68 (by simp) (St.enter w) (fun B hB=>?_)
 have hl:l.length=n:=by have:=h.1;simpa using this
 have hne:0<n→A≠none:=fun h0=>by obtain⟨ad,rfl,_⟩:=h.2 (by omega);simp
 subst hl
 focus (refine qs ?_;refine qp ?_;refine qz ?_;refine qq ?_;refine qs ?_;refine qp ?_;refine qz ?_;refine qb ?_)
 refine S_loop (X:=Nat) (fun j=>[(0,.slice A l.length c),(1,.int .i64 m),(5,.int .i64 (j:Int))]) (fun _=>[]) (fun j=>j≤l.length∧m∉l.take j) (fun j=>l.length-j) O 0 ⟨Nat.zero_le _,by simp⟩ (Sub.cons O (Sub.cons O (Sub.cons O Sub.nil))) (fun _ h=>h.sublist (List.nil_sublist _)) ?_
 rintro j ⟨hj,hok⟩ J hJ
 rcases Nat.lt_or_ge j l.length with hjl|hjl
 ·have hne:=hne (by omega)
  have hat:=zv_at (l:=l) (j:=j) hjl
  have htk:l.take (j+1)=l.take j++[l.getD j 0]:=by rw[List.take_succ_eq_append_getElem hjl];simp[List.getD,hjl]
  have hmem:l.getD j 0∈l:=by simp[List.getD,hjl]
  obtain⟨x,hx⟩: ∃ x,l.getD j 0=x:=⟨_,O⟩
  rw[hx] at hat htk hmem
  by_cases hxm:x=m
  ·obtain rfl:r=true:=by rw[← hr];exact decide_eq_true (hxm▸hmem)
   repeat' (first|refine R_take (T_decT O (by omega)) ?_ O O|refine R_p O ?_ O O|refine R_nil ?_|refine R_take (T_ix1 O O O O O O hne hjl) ?_ O O|refine R_take (T_ldr (v:=zv x) O O O (Srd.old h (fun k _=>noOwns k)) (by omega) hat) ?_ O O|refine S_seq O ?_|refine S_region O O ?_|refine S_true O O ?_|refine S_block O ?_|refine S_skip O ?_)
   exact hB _ _ _ _ _ O O (qE O)
  ·focus (refine qq ?_;refine qs ?_;(iterate 3 refine qp ?_);refine qd ?_;refine qz ?_;refine qT ?_;refine qx ?_;refine qq ?_;refine qb ?_;refine qs ?_;refine qp ?_;refine qp ?_;refine qt (T_ix1 O O O O O O hne hjl) ?_;refine qt (T_ldr (v:=zv x) O O O (Srd.old h (fun k _=>noOwns k)) (by omega) hat) ?_;refine qp ?_;refine qf ?_;refine qz ?_;refine qF ?_;refine qx ?_;refine RS_blk ?_;refine qr ?_;refine qp ?_;refine qt (T_addN O O (by unfold fits;omega)) ?_;refine qp ?_;refine qz ?_)
   exact hJ (j+1) _ _ ⟨by omega,by rw[htk];simp only[List.mem_append,List.mem_singleton,not_or];exact⟨hok,fun e=>hxm e.symm⟩⟩ (Sub.cons O (Sub.cons O (Sub.cons O Sub.nil))) (fun _ h=>h.sublist (List.nil_sublist _)) (by omega)
 have hjn:j=l.length:=by omega
 subst hjn
 rw[List.take_length] at hok
 obtain rfl:r=false:=by rw[← hr];exact decide_eq_false hok
 repeat' (first|refine R_take (T_decF O (by omega)) ?_ O O|refine R_p O ?_ O O|refine R_nil ?_|refine S_seq O ?_|refine S_region O O ?_|refine S_false O O ?_|refine S_exit O O ?_)
 exact hB _ _ _ _ _ O O (qE O)
theorem decD_k (w:World) (A:Option Addr) (n c:Nat) (l:List UInt8) (h:Bs w All A n c l) (hn:n≤100000) (e:Int) (he:C.decE l=e) (ms:List Int) (hm:C.decL l=ms) (K:Nat) (hK:ms.length=K):
  Gives Tryz.prog 101 [.slice A n c] [] w (X:=Option Addr×Nat) (fun x=> .tuple #[C.cfv x.1 K x.2,.int .i64 e]) (fun _=>True) (fun x=>[row 3 1 x.1 K x.2 (ms.map zv)]):=by
 subst hK
 subst hm
 subst he
 exact C.rdec_any w A n c l h hn
theorem rrightD_k (w:World) (A:Option Addr) (n c:Nat) (ms:List Int) (h:Rd w All 1 A n (ms.map zv)) (hn:n≤100000) (r:Bool) (hr:C.right ms=r):
  Gives Tryz.prog 65 [C.cfv A n c] [] w (X:=Unit) (fun _=> .bool r) (fun _=>True) (fun _=>[]):=hr▸C.rright_any w A n c ms h hn
theorem saysD_k (w:World) (A:Option Addr) (c k:Nat) (Q:List Em) (l:List En) (hk:Q.length=k) (hl:Q.map emv=l) (h:Rd w All 3 A k (cellsL emc Q)) (hq: ∀ m∈Q,BsM w m) (hd: ∀ m∈Q,m.2.2.2.2.length≤100000) (hn:k≤100000) (r:Bool) (hr:soundB l=r):
  Gives Tryz.prog 66 [.slice A k c] [] w (X:=Unit) (fun _=> .bool r) (fun _=>True) (fun _=>[]):=by
 refine gives_S Tryz.func66 O Tryz.ntmps66 Tryz.results66 (by simp) (St.enter w) (fun B hB=>?_)
 subst hk
 subst hl
 have hne:0<Q.length→A≠none:=fun h0=>by obtain⟨ad,rfl,_⟩:=h.2 (by omega);simp
 focus (refine qs ?_;refine qp ?_;refine qz ?_;refine qq ?_;refine qs ?_;refine qp ?_;refine qz ?_;refine qb ?_)
 refine S_loop (X:=Nat) (fun j=>[(0,.slice A Q.length c),(3,.int .i64 (j:Int))]) (fun _=>[]) (fun j=>j≤Q.length∧soundB ((Q.take j).map emv)=true) (fun j=>Q.length-j) O 0 ⟨Nat.zero_le _,O⟩ (Sub.cons O (Sub.cons O Sub.nil)) (fun _ h=>h.sublist (List.nil_sublist _)) ?_
 rintro j ⟨hj,hok⟩ J hJ
 rcases Nat.lt_or_ge j Q.length with hjl|hjl
 ·have hne:=hne (by omega)
  have hat:=cellsL_at (f:=emc) emc_len Q default j hjl
  obtain⟨m,hm⟩: ∃ m,Q.getD j default=m:=⟨_,O⟩
  have hmem:m∈Q:=by rw[← hm];simp[List.getD,hjl]
  have hb:=hq m hmem
  have hl:=hd m hmem
  have hnx:=sound_take Q j hjl hm
  have hbad:=sound_bad Q j hjl hm
  rw[hok,Bool.true_and] at hnx
  rw[hm] at hat
  obtain⟨t,kd,A9,c9,l9⟩:=m
  have hb:Bs w All A9 l9.length c9 l9:=hb
  dsimp only at hnx hbad hl
  obtain⟨e,he⟩: ∃ e,C.decE l9=e:=⟨_,O⟩
  have hqq:saysB l9=decide (e=0):=by rw[saysB,he]
  obtain⟨ms,hms⟩: ∃ ms,C.decL l9=ms:=⟨_,O⟩
  obtain⟨K,hK⟩: ∃ K,ms.length=K:=⟨_,O⟩
  have hat1:=hat 1 (.int .i64 kd) O
  have hat2:=hat 2 (.slice A9 l9.length c9) O
  by_cases h3:kd=3
  ·by_cases h4:e=0
   ·focus (refine qq ?_;refine qs ?_;(iterate 3 refine qp ?_);refine qd ?_;refine qz ?_;refine qT ?_;refine qx ?_;refine qq ?_;refine qb ?_;refine qs ?_;refine qp ?_;refine qp ?_;refine qt (T_ixM (sz:=3) O O O O O O hne hjl) ?_;refine qt (T_fap O O O O O hne) ?_;refine qt (T_ldr (v:= .int .i64 kd) O O O (Srd.old h (fun k _=>noOwns k)) (by omega) hat1) ?_;refine qd ?_;refine qz ?_;refine qT ?_;refine qs ?_;refine qp ?_;refine qp ?_;refine qt (T_ixM (sz:=3) O O O O O O hne hjl) ?_;refine qt (T_fap O O O O O hne) ?_;refine qt (T_ldr (v:= .slice A9 l9.length c9) O O O (Srd.old h (fun k _=>noOwns k)) (by omega) hat2) ?_;(refine qe (E_hv1 (f:=101) F101 (fun w' hS=>decD_k w' A9 l9.length c9 l9 (Bs.keep hb hS.kpO) hl e he ms hms K hK) O O (fun _=>O)) ?_;rintro _ _ ⟨⟨A3,c3⟩,rfl,_,rfl⟩);(iterate 3 refine qp ?_);(refine qe (E_alloca O C.cf_alloc) ?_;rintro _ _ ⟨b5,rfl,rfl⟩);(refine qw (E_storew (cs:=[.slice none 0 0]) (ds:=[.slice A3 K c3]) O O O O (C.sl_one _ _ _) O) ?_;rintro _ _ rfl);refine qp ?_;refine qn ?_;refine qp ?_;refine qf ?_;refine qz ?_;refine qF ?_;refine qx ?_;refine RS_blk ?_;refine qr ?_;refine qp ?_;refine qt (T_addN O O (by unfold fits;omega)) ?_;refine qp ?_;refine qz ?_)
    exact hJ (j+1) _ _ ⟨by omega,by rw[hnx,hqq,decide_eq_true h4];simp⟩ (Sub.cons O (Sub.cons O Sub.nil)) (fun _ h=>h.sublist (List.nil_sublist _)) (by omega)
   ·have hf:=hbad (by rw[decide_eq_true h3,hqq,decide_eq_false h4];rfl)
    rw[hr] at hf
    subst hf
    repeat' (first|refine R_take (T_decT O (by omega)) ?_ O O|refine R_p O ?_ O O|refine R_nil ?_|refine R_take (T_ixM (sz:=3) O O O O O O hne hjl) ?_ O O|refine R_take (T_fap O O O O O hne) ?_ O O|refine R_take (T_ldr (v:= .int .i64 kd) O O O (Srd.old h (fun k _=>noOwns k)) (by omega) hat1) ?_ O O|refine R_take (T_ldr (v:= .slice A9 l9.length c9) O O O (Srd.old h (fun k _=>noOwns k)) (by omega) hat2) ?_ O O|refine S_seq O ?_|refine S_region O O ?_|refine S_true O O ?_|refine S_block O ?_|refine S_skip O ?_|(refine R_eff (E_alloca O C.cf_alloc) ?_ O O;rintro _ _ ⟨b5,rfl,rfl⟩)|(refine R_eff (E_hv1 (f:=101) F101 (fun w' hS=>decD_k w' A9 l9.length c9 l9 (Bs.keep hb hS.kpO) hl e he ms hms K hK) O O (fun _=>O)) ?_ O O;rintro _ _ ⟨⟨A3,c3⟩,rfl,_,rfl⟩)|(refine R_eff0 (E_storew (cs:=[.slice none 0 0]) (ds:=[.slice A3 K c3]) O O O O (C.sl_one _ _ _) O) ?_ O;rintro _ _ rfl))
    exact hB _ _ _ _ _ O O (qE O)
  ·focus (refine qq ?_;refine qs ?_;(iterate 3 refine qp ?_);refine qd ?_;refine qz ?_;refine qT ?_;refine qx ?_;refine qq ?_;refine qb ?_;refine qs ?_;refine qp ?_;refine qp ?_;refine qt (T_ixM (sz:=3) O O O O O O hne hjl) ?_;refine qt (T_fap O O O O O hne) ?_;refine qt (T_ldr (v:= .int .i64 kd) O O O (Srd.old h (fun k _=>noOwns k)) (by omega) hat1) ?_;refine qf ?_;refine qz ?_;refine qF ?_;refine qx ?_;refine RS_blk ?_;refine qr ?_;refine qp ?_;refine qt (T_addN O O (by unfold fits;omega)) ?_;refine qp ?_;refine qz ?_)
   exact hJ (j+1) _ _ ⟨by omega,by rw[hnx,decide_eq_false h3];rfl⟩ (Sub.cons O (Sub.cons O Sub.nil)) (fun _ h=>h.sublist (List.nil_sublist _)) (by omega)
 have hjn:j=Q.length:=by omega
 subst hjn
 rw[List.take_length,hr] at hok
 subst hok
 repeat' (first|refine R_take (T_decF O (by omega)) ?_ O O|refine R_p O ?_ O O|refine R_nil ?_|refine S_seq O ?_|refine S_region O O ?_|refine S_false O O ?_|refine S_exit O O ?_)
 exact hB _ _ _ _ _ O O (qE O)
theorem oth_at (me:Int) (h:srvB me=true):(othL me).length=4∧ ∀ j:Nat,j<4→(othL me).getD j 0=if me≤(j:Int)+1 then (j:Int)+2 else (j:Int)+1:=by
 simp only[srvB,Bool.and_eq_true,decide_eq_true_eq] at h
 rcases(by omega:me=1∨me=2∨me=3∨me=4∨me=5) with rfl|rfl|rfl|rfl|rfl<;>refine⟨O,fun j hj=>?_⟩<;>rcases(by omega:j=0∨j=1∨j=2∨j=3) with rfl|rfl|rfl|rfl<;>rfl
theorem rightR_any (w:World) (x:Rs) (p:Rp) (h:RfR w x p) (r:Bool) (hr:checkB x=r):
  Gives Tryz.prog 20 [.agg (rfc x p).toArray] [] w (X:=Unit) (fun _=> .bool r) (fun _=>True) (fun _=>[]):=by
 refine gives_S Tryz.func20 O Tryz.ntmps20 Tryz.results20 (by simp) (St.enter w) (fun B hB=>?_)
 rw[checkB_eq] at hr
 have hvn:=h.hvn
 have hvm:=h.hvm
 have hpn:=h.hpn
 have hpm:=h.hpm
 have hcm:=h.lg.hcm
 have hnm:=h.lg.hm
 obtain⟨mem,hmem⟩: ∃ q,decide (x.me∈x.votes)=q:=⟨_,O⟩
 refine S_seq O ?_
 refine S_cut (X:=Nat) (fun b1=>[(1,.pointer (some ⟨b1,0,none⟩))]) (fun b1=>[pt b1 42 (rfc x p)]) (fun _=>True) (fun J hJ=>?_) (fun b1 _=>?_)
 ·skip
  focus (refine qr ?_;(refine qe (E_boxa (cs:=rfc x p) O) ?_;rintro _ _ ⟨b1,rfl,rfl⟩);refine qp ?_;refine qz ?_)
  exact hJ b1 _ _ trivial (Sub.cons O Sub.nil) sub_st
 cases h0:srvB x.me
 ·obtain rfl:r=false:=by rw[← hr];exact all_no 0 (congrArg some h0)
  repeat' (first|refine R_take (T_decT O (by omega)) ?_ O O|refine R_p O ?_ O O|refine R_nil ?_|refine R_skip ?_ O O|refine R_take (T_load O O O O) ?_ O O|refine R_take (T_not O) ?_ O O|refine S_seq O ?_|refine S_region O O ?_|refine S_true O O ?_|(refine R_eff (E_hv0 (f:=63) F63 (fun w hS=>numD_any w x.me _ h0) O O (fun _=>O)) ?_ O O;rintro _ _ ⟨_,rfl,_,rfl⟩))
  exact hB _ _ _ _ _ O O (qE O)
 by_cases h1:x.term≤4611686018427387904
 rotate_left
 ·obtain rfl:r=false:=by rw[← hr];exact all_no 1 (congrArg some (decide_eq_false h1))
  repeat' (first|refine R_take (T_decT O (by omega)) ?_ O O|refine R_p O ?_ O O|refine R_nil ?_|refine R_skip ?_ O O|refine R_take (T_load O O O O) ?_ O O|refine R_take (T_not O) ?_ O O|refine S_seq O ?_|refine S_region O O ?_|refine S_true O O ?_|(refine R_eff (E_hv0 (f:=63) F63 (fun w hS=>numD_any w x.me _ h0) O O (fun _=>O)) ?_ O O;rintro _ _ ⟨_,rfl,_,rfl⟩))
  exact hB _ _ _ _ _ O O (qE O)
 by_cases h2:0≤x.vote
 rotate_left
 ·obtain rfl:r=false:=by rw[← hr];exact all_no 2 (congrArg some (decide_eq_false h2))
  repeat' (first|refine R_take (T_decT O (by omega)) ?_ O O|refine R_take (T_decF O (by omega)) ?_ O O|refine R_p O ?_ O O|refine R_nil ?_|refine R_skip ?_ O O|refine R_take (T_load O O O O) ?_ O O|refine R_take (T_not O) ?_ O O|refine S_seq O ?_|refine S_region O O ?_|refine S_true O O ?_|(refine R_eff (E_hv0 (f:=63) F63 (fun w hS=>numD_any w x.me _ h0) O O (fun _=>O)) ?_ O O;rintro _ _ ⟨_,rfl,_,rfl⟩))
  exact hB _ _ _ _ _ O O (qE O)
 by_cases h3:x.vote≤5
 rotate_left
 ·obtain rfl:r=false:=by rw[← hr];exact all_no 3 (congrArg some (decide_eq_false h3))
  repeat' (first|refine R_take (T_decT O (by omega)) ?_ O O|refine R_take (T_decF O (by omega)) ?_ O O|refine R_p O ?_ O O|refine R_nil ?_|refine R_skip ?_ O O|refine R_take (T_load O O O O) ?_ O O|refine R_take (T_not O) ?_ O O|refine S_seq O ?_|refine S_region O O ?_|refine S_true O O ?_|(refine R_eff (E_hv0 (f:=63) F63 (fun w hS=>numD_any w x.me _ h0) O O (fun _=>O)) ?_ O O;rintro _ _ ⟨_,rfl,_,rfl⟩))
  exact hB _ _ _ _ _ O O (qE O)
 by_cases h4:0≤x.leader
 rotate_left
 ·obtain rfl:r=false:=by rw[← hr];exact all_no 4 (congrArg some (decide_eq_false h4))
  repeat' (first|refine R_take (T_decT O (by omega)) ?_ O O|refine R_take (T_decF O (by omega)) ?_ O O|refine R_p O ?_ O O|refine R_nil ?_|refine R_skip ?_ O O|refine R_take (T_load O O O O) ?_ O O|refine R_take (T_not O) ?_ O O|refine S_seq O ?_|refine S_region O O ?_|refine S_true O O ?_|(refine R_eff (E_hv0 (f:=63) F63 (fun w hS=>numD_any w x.me _ h0) O O (fun _=>O)) ?_ O O;rintro _ _ ⟨_,rfl,_,rfl⟩))
  exact hB _ _ _ _ _ O O (qE O)
 by_cases h5:x.leader≤5
 rotate_left
 ·obtain rfl:r=false:=by rw[← hr];exact all_no 5 (congrArg some (decide_eq_false h5))
  repeat' (first|refine R_take (T_decT O (by omega)) ?_ O O|refine R_take (T_decF O (by omega)) ?_ O O|refine R_p O ?_ O O|refine R_nil ?_|refine R_skip ?_ O O|refine R_take (T_load O O O O) ?_ O O|refine R_take (T_not O) ?_ O O|refine S_seq O ?_|refine S_region O O ?_|refine S_true O O ?_|(refine R_eff (E_hv0 (f:=63) F63 (fun w hS=>numD_any w x.me _ h0) O O (fun _=>O)) ?_ O O;rintro _ _ ⟨_,rfl,_,rfl⟩))
  exact hB _ _ _ _ _ O O (qE O)
 cases h6:rightB x.base x.es
 ·obtain rfl:r=false:=by rw[← hr];exact all_no 6 (congrArg some (decide_eq_false (by rw[chkE,h6,if_neg (by decide)];decide)))
  repeat' (first|refine R_take (T_decT O (by omega)) ?_ O O|refine R_take (T_decF O (by omega)) ?_ O O|refine R_p O ?_ O O|refine R_nil ?_|refine R_skip ?_ O O|refine R_take (T_loads (ds:=lgc x.base p.A p.n p.c) O O O O O) ?_ O O|refine R_take (T_load O O O O) ?_ O O|refine R_take (T_not O) ?_ O O|refine S_seq O ?_|refine S_region O O ?_|refine S_true O O ?_|(refine R_eff (E_hv0 (f:=63) F63 (fun w hS=>numD_any w x.me _ h0) O O (fun _=>O)) ?_ O O;rintro _ _ ⟨_,rfl,_,rfl⟩)|(refine R_eff (E_hv0 (f:=64) F64 (fun w hS=>rightD_k w x.base p.A p.c p.n p.Q x.es h.lg.hn h.lg.hQ (h.keep hS.kpO).lg.rq (by omega) _ h6) O O (fun _=>O)) ?_ O O;rintro _ _ ⟨_,rfl,_,rfl⟩))
  exact hB _ _ _ _ _ O O (qE O)
 cases h7:C.right x.cf
 ·obtain rfl:r=false:=by rw[← hr];exact all_no 7 (congrArg some h7)
  repeat' (first|refine R_take (T_decT O (by omega)) ?_ O O|refine R_take (T_decF O (by omega)) ?_ O O|refine R_p O ?_ O O|refine R_nil ?_|refine R_skip ?_ O O|refine R_take (T_loads (ds:=lgc x.base p.A p.n p.c) O O O O O) ?_ O O|refine R_take (T_loads (ds:=[.slice p.cA p.cn p.cc]) O O O O O) ?_ O O|refine R_take (T_load O O O O) ?_ O O|refine R_take (T_not O) ?_ O O|refine S_seq O ?_|refine S_region O O ?_|refine S_true O O ?_|(refine R_eff (E_hv0 (f:=63) F63 (fun w hS=>numD_any w x.me _ h0) O O (fun _=>O)) ?_ O O;rintro _ _ ⟨_,rfl,_,rfl⟩)|(refine R_eff (E_hv0 (f:=64) F64 (fun w hS=>rightD_k w x.base p.A p.c p.n p.Q x.es h.lg.hn h.lg.hQ (h.keep hS.kpO).lg.rq (by omega) _ h6) O O (fun _=>O)) ?_ O O;rintro _ _ ⟨_,rfl,_,rfl⟩)|(refine R_eff (E_hv0 (f:=65) F65 (fun w hS=>rrightD_k w p.cA p.cn p.cc x.cf (h.keep hS.kpO).lg.rc (by omega) _ h7) O O (fun _=>O)) ?_ O O;rintro _ _ ⟨_,rfl,_,rfl⟩))
  exact hB _ _ _ _ _ O O (qE O)
 cases h8:soundB x.es
 ·obtain rfl:r=false:=by rw[← hr];exact all_no 8 (congrArg some h8)
  repeat' (first|refine R_take (T_decT O (by omega)) ?_ O O|refine R_take (T_decF O (by omega)) ?_ O O|refine R_p O ?_ O O|refine R_nil ?_|refine R_take (T_loads (ds:=lgc x.base p.A p.n p.c) O O O O O) ?_ O O|refine R_take (T_loads (ds:=[.slice p.cA p.cn p.cc]) O O O O O) ?_ O O|refine R_take (T_load O O O O) ?_ O O|refine R_take (T_not O) ?_ O O|refine S_seq O ?_|refine S_region O O ?_|refine S_true O O ?_|(refine R_eff (E_hv0 (f:=63) F63 (fun w hS=>numD_any w x.me _ h0) O O (fun _=>O)) ?_ O O;rintro _ _ ⟨_,rfl,_,rfl⟩)|(refine R_eff (E_hv0 (f:=64) F64 (fun w hS=>rightD_k w x.base p.A p.c p.n p.Q x.es h.lg.hn h.lg.hQ (h.keep hS.kpO).lg.rq (by omega) _ h6) O O (fun _=>O)) ?_ O O;rintro _ _ ⟨_,rfl,_,rfl⟩)|(refine R_eff (E_hv0 (f:=65) F65 (fun w hS=>rrightD_k w p.cA p.cn p.cc x.cf (h.keep hS.kpO).lg.rc (by omega) _ h7) O O (fun _=>O)) ?_ O O;rintro _ _ ⟨_,rfl,_,rfl⟩)|(refine R_eff (E_hv0 (f:=66) F66 (fun w hS=>saysD_k w p.A p.c p.n p.Q x.es h.lg.hn h.lg.hQ (h.keep hS.kpO).lg.rq (h.keep hS.kpO).lg.bq h.lg.hd (by omega) _ h8) O O (fun _=>O)) ?_ O O;rintro _ _ ⟨_,rfl,_,rfl⟩))
  exact hB _ _ _ _ _ O O (qE O)
 refine S_seq O ?_
 refine S_cut (X:=Unit) (fun _=>[(1,.pointer (some ⟨b1,0,none⟩))]) (fun _=>[pt b1 42 (rfc x p)]) (fun _=>True) (fun J hJ=>?_) (fun _ _=>?_)
 ·skip
  repeat' (first|refine R_take (T_decF O (by omega)) ?_ O O|refine R_p O ?_ O O|refine R_nil ?_|refine R_take (T_loads (ds:=lgc x.base p.A p.n p.c) O O O O O) ?_ O O|refine R_take (T_loads (ds:=[.slice p.cA p.cn p.cc]) O O O O O) ?_ O O|refine R_take (T_load O O O O) ?_ O O|refine R_take (T_not O) ?_ O O|refine S_seq O ?_|refine S_region O O ?_|refine S_false O O ?_|refine S_skip O ?_|(refine R_eff (E_hv0 (f:=63) F63 (fun w hS=>numD_any w x.me _ h0) O O (fun _=>O)) ?_ O O;rintro _ _ ⟨_,rfl,_,rfl⟩)|(refine R_eff (E_hv0 (f:=64) F64 (fun w hS=>rightD_k w x.base p.A p.c p.n p.Q x.es h.lg.hn h.lg.hQ (h.keep hS.kpO).lg.rq (by omega) _ h6) O O (fun _=>O)) ?_ O O;rintro _ _ ⟨_,rfl,_,rfl⟩)|(refine R_eff (E_hv0 (f:=65) F65 (fun w hS=>rrightD_k w p.cA p.cn p.cc x.cf (h.keep hS.kpO).lg.rc (by omega) _ h7) O O (fun _=>O)) ?_ O O;rintro _ _ ⟨_,rfl,_,rfl⟩)|(refine R_eff (E_hv0 (f:=66) F66 (fun w hS=>saysD_k w p.A p.c p.n p.Q x.es h.lg.hn h.lg.hQ (h.keep hS.kpO).lg.rq (h.keep hS.kpO).lg.bq h.lg.hd (by omega) _ h8) O O (fun _=>O)) ?_ O O;rintro _ _ ⟨_,rfl,_,rfl⟩))
  exact hJ () _ _ trivial (Sub.cons O Sub.nil) sub_st
 have hff:=right_fits h6
 rw[h.lg.ln] at hff
 have hfit:x.base.1+p.n≤18446744073709551615:=by omega
 have hlp:lastP x=lastA x.base x.es:=by rw[lastP,if_pos h6]
 refine S_seq O ?_
 refine S_cut (X:=Nat) (fun b3=>[(1,.pointer (some ⟨b1,0,none⟩)),(3,.pointer (some ⟨b3,0,none⟩))]) (fun b3=>[pt b3 36 (atc (lastA x.base x.es)),pt b1 42 (rfc x p)]) (fun _=>True) (fun J hJ=>?_) (fun b3 _=>?_)
 ·skip
  focus (refine qr ?_;refine qp ?_;refine qt (T_loads (ds:=lgc x.base p.A p.n p.c) O O O O O) ?_;refine qh F67 (fun w hS=>lastD_any w x.base p.A p.c p.n p.Q x.es h.lg.hn h.lg.hQ (h.keep hS.kpO).lg.rq (by omega) hfit _ O) ?_;(refine qe (E_alloca O at_zero) ?_;rintro _ _ ⟨b3,rfl,rfl⟩);(refine qw (E_storew (cs:=atc (0,0)) (ds:=atc (lastA x.base x.es)) O O O O (atc_one _) O) ?_;rintro _ _ rfl);refine qz ?_)
  exact hJ b3 _ _ trivial (Sub.cons O (Sub.cons O Sub.nil)) sub_st
 by_cases h6b:(lastA x.base x.es).2≤x.term
 rotate_left
 ·obtain rfl:r=false:=by rw[← hr];exact all_no 6 (congrArg some (decide_eq_false (by rw[chkE,if_pos h6,if_pos (by omega)];decide)))
  repeat' (first|refine R_take (T_decT O (by omega)) ?_ O O|refine R_p O ?_ O O|refine R_nil ?_|refine R_skip ?_ O O|refine R_take (T_load O O O O) ?_ O O|refine S_seq O ?_|refine S_region O O ?_|refine S_true O O ?_)
  exact hB _ _ _ _ _ O O (qE O)
 by_cases h9:x.base.1≤x.commit
 rotate_left
 ·obtain rfl:r=false:=by rw[← hr];exact all_no 9 (congrArg some (decide_eq_false h9))
  repeat' (first|refine R_take (T_decT O (by omega)) ?_ O O|refine R_take (T_decF O (by omega)) ?_ O O|refine R_p O ?_ O O|refine R_nil ?_|refine R_skip ?_ O O|refine R_take (T_load O O O O) ?_ O O|refine S_seq O ?_|refine S_region O O ?_|refine S_true O O ?_)
  exact hB _ _ _ _ _ O O (qE O)
 by_cases h10:x.commit≤(lastA x.base x.es).1
 rotate_left
 ·obtain rfl:r=false:=by rw[← hr];exact all_no 10 (congrArg some (decide_eq_false (by rw[hlp];exact h10)))
  repeat' (first|refine R_take (T_decT O (by omega)) ?_ O O|refine R_take (T_decF O (by omega)) ?_ O O|refine R_p O ?_ O O|refine R_nil ?_|refine R_skip ?_ O O|refine R_take (T_load O O O O) ?_ O O|refine S_seq O ?_|refine S_region O O ?_|refine S_true O O ?_)
  exact hB _ _ _ _ _ O O (qE O)
 by_cases h11:4≤x.limit
 rotate_left
 ·obtain rfl:r=false:=by rw[← hr];exact all_no 11 (congrArg some (decide_eq_false h11))
  repeat' (first|refine R_take (T_decT O (by omega)) ?_ O O|refine R_take (T_decF O (by omega)) ?_ O O|refine R_p O ?_ O O|refine R_nil ?_|refine R_skip ?_ O O|refine R_take (T_load O O O O) ?_ O O|refine S_seq O ?_|refine S_region O O ?_|refine S_true O O ?_)
  exact hB _ _ _ _ _ O O (qE O)
 by_cases h12:x.limit≤16
 rotate_left
 ·obtain rfl:r=false:=by rw[← hr];exact all_no 12 (congrArg some (decide_eq_false h12))
  repeat' (first|refine R_take (T_decT O (by omega)) ?_ O O|refine R_take (T_decF O (by omega)) ?_ O O|refine R_p O ?_ O O|refine R_nil ?_|refine R_skip ?_ O O|refine R_take (T_load O O O O) ?_ O O|refine S_seq O ?_|refine S_region O O ?_|refine S_true O O ?_)
  exact hB _ _ _ _ _ O O (qE O)
 by_cases h13:0≤x.clock
 rotate_left
 ·obtain rfl:r=false:=by rw[← hr];exact all_no 13 (congrArg some (decide_eq_false h13))
  repeat' (first|refine R_take (T_decT O (by omega)) ?_ O O|refine R_take (T_decF O (by omega)) ?_ O O|refine R_p O ?_ O O|refine R_nil ?_|refine R_skip ?_ O O|refine R_take (T_load O O O O) ?_ O O|refine S_seq O ?_|refine S_region O O ?_|refine S_true O O ?_)
  exact hB _ _ _ _ _ O O (qE O)
 by_cases h14:x.clock≤x.limit
 rotate_left
 ·obtain rfl:r=false:=by rw[← hr];exact all_no 14 (congrArg some (decide_eq_false h14))
  repeat' (first|refine R_take (T_decT O (by omega)) ?_ O O|refine R_take (T_decF O (by omega)) ?_ O O|refine R_p O ?_ O O|refine R_nil ?_|refine R_take (T_load O O O O) ?_ O O|refine S_seq O ?_|refine S_region O O ?_|refine S_true O O ?_)
  exact hB _ _ _ _ _ O O (qE O)
 refine S_seq O ?_
 refine S_cut (X:=Unit) (fun _=>[(1,.pointer (some ⟨b1,0,none⟩)),(3,.pointer (some ⟨b3,0,none⟩))]) (fun _=>[pt b3 36 (atc (lastA x.base x.es)),pt b1 42 (rfc x p)]) (fun _=>True) (fun J hJ=>?_) (fun _ _=>?_)
 ·skip
  repeat' (first|refine R_take (T_decF O (by omega)) ?_ O O|refine R_p O ?_ O O|refine R_nil ?_|refine R_take (T_load O O O O) ?_ O O|refine S_seq O ?_|refine S_region O O ?_|refine S_false O O ?_|refine S_skip O ?_)
  exact hJ () _ _ trivial (Sub.cons O (Sub.cons O Sub.nil)) sub_st
 have hck:chkE x.base x.es x.term=0:=by rw[chkE,if_pos h6,if_neg (by omega)]
 have h10':x.commit≤(lastP x).1:=by rw[hlp];exact h10
 have hr15:roleB x (lastP x).1=r:=by
  rw[← hr,chkRL_eq,h0,decide_eq_true h1,decide_eq_true h2,decide_eq_true h3,decide_eq_true h4,decide_eq_true h5,decide_eq_true hck,h7,h8,decide_eq_true h9,decide_eq_true h10',decide_eq_true h11,decide_eq_true h12,decide_eq_true h13,decide_eq_true h14]
  simp
 have hlb:(lastA x.base x.es).1≤18446744073709551614:=by rw[← hlp];exact lastP_le x
 clear hr
 by_cases k1:x.role=1
 ·rw[roleB_1 x _ k1] at hr15
  by_cases hl:x.leader=x.me
  ·obtain rfl:r=false:=by rw[← hr15,decide_eq_true hl];rfl
   repeat' (first|refine R_take (T_decT O (by omega)) ?_ O O|refine R_take (T_decF O (by omega)) ?_ O O|refine R_p O ?_ O O|refine R_nil ?_|refine R_skip ?_ O O|refine R_take (T_bnq O O O O O) ?_ O O|refine R_take (T_load O O O O) ?_ O O|refine S_seq O ?_|refine S_region O O ?_|refine S_true O O ?_)
   exact hB _ _ _ _ _ O O (qE O)
  rw[decide_eq_false hl] at hr15
  by_cases hv:x.votes.length=0
  rotate_left
  ·obtain rfl:r=false:=by rw[← hr15,decide_eq_false hv];rfl
   repeat' (first|refine R_take (T_decT O (by omega)) ?_ O O|refine R_take (T_decF O (by omega)) ?_ O O|refine R_p O ?_ O O|refine R_nil ?_|refine R_skip ?_ O O|refine R_take (T_bnq O O O O O) ?_ O O|refine R_take (T_load O O O O) ?_ O O|refine S_seq O ?_|refine S_region O O ?_|refine S_true O O ?_|refine S_false O O ?_|refine S_skip O ?_)
   exact hB _ _ _ _ _ O O (qE O)
  rw[decide_eq_true hv] at hr15
  by_cases hp:x.peers.length=0
  ·obtain rfl:r=true:=by rw[← hr15,decide_eq_true hp];rfl
   repeat' (first|refine R_take (T_decT O (by omega)) ?_ O O|refine R_take (T_decF O (by omega)) ?_ O O|refine R_p O ?_ O O|refine R_nil ?_|refine R_skip ?_ O O|refine R_take (T_bnq O O O O O) ?_ O O|refine R_take (T_load O O O O) ?_ O O|refine S_seq O ?_|refine S_region O O ?_|refine S_true O O ?_|refine S_false O O ?_|refine S_skip O ?_)
   exact hB _ _ _ _ _ O O (qE O)
  ·obtain rfl:r=false:=by rw[← hr15,decide_eq_false hp];rfl
   repeat' (first|refine R_take (T_decT O (by omega)) ?_ O O|refine R_take (T_decF O (by omega)) ?_ O O|refine R_p O ?_ O O|refine R_nil ?_|refine R_skip ?_ O O|refine R_take (T_bnq O O O O O) ?_ O O|refine R_take (T_load O O O O) ?_ O O|refine S_seq O ?_|refine S_region O O ?_|refine S_true O O ?_|refine S_false O O ?_|refine S_skip O ?_)
   exact hB _ _ _ _ _ O O (qE O)
 by_cases k2:x.role=2
 ·rw[roleB_2 x _ k2,hmem] at hr15
  by_cases hl:x.leader=x.me
  ·obtain rfl:r=false:=by rw[← hr15,decide_eq_true hl];rfl
   repeat' (first|refine R_take (T_decT O (by omega)) ?_ O O|refine R_take (T_decF O (by omega)) ?_ O O|refine R_p O ?_ O O|refine R_nil ?_|refine R_skip ?_ O O|refine R_take (T_bnq O O O O O) ?_ O O|refine R_take (T_load O O O O) ?_ O O|refine S_seq O ?_|refine S_region O O ?_|refine S_true O O ?_)
   exact hB _ _ _ _ _ O O (qE O)
  rw[decide_eq_false hl] at hr15
  by_cases hz:x.leader=0
  rotate_left
  ·obtain rfl:r=false:=by rw[← hr15,decide_eq_false hz];rfl
   repeat' (first|refine R_take (T_decT O (by omega)) ?_ O O|refine R_take (T_decF O (by omega)) ?_ O O|refine R_p O ?_ O O|refine R_nil ?_|refine R_skip ?_ O O|refine R_take (T_bnq O O O O O) ?_ O O|refine R_take (T_load O O O O) ?_ O O|refine S_seq O ?_|refine S_region O O ?_|refine S_true O O ?_)
   exact hB _ _ _ _ _ O O (qE O)
  rw[decide_eq_true hz] at hr15
  repeat' (first|refine R_take (T_decT O (by omega)) ?_ O O|refine R_take (T_decF O (by omega)) ?_ O O|refine R_p O ?_ O O|refine R_nil ?_|refine R_skip ?_ O O|refine R_take (T_bnq O O O O O) ?_ O O|refine R_take (T_load O O O O) ?_ O O|refine S_seq O ?_|refine S_region O O ?_|refine S_false O O ?_|refine S_block O ?_|refine S_skip O ?_)
  have hnev:0<p.vn→p.vA≠none:=fun h0=>by obtain⟨ad,e,_⟩:=h.rv.2 (by omega);rw[e];simp
  refine S_loop (X:=Nat) (fun j=>[(1,.pointer (some ⟨b1,0,none⟩)),(3,.pointer (some ⟨b3,0,none⟩)),(4,.int .i64 (j:Int))]) (fun _=>[pt b3 36 (atc (lastA x.base x.es)),pt b1 42 (rfc x p)]) (fun j=>j≤x.votes.length∧risB (x.votes.take j)=true) (fun j=>x.votes.length-j) O 0 ⟨Nat.zero_le _,O⟩ (Sub.cons O (Sub.cons O (Sub.cons O Sub.nil))) sub_st ?_
  rintro j ⟨hj,hok⟩ J hJ
  rcases Nat.lt_or_ge j x.votes.length with hjl|hjl
  ·have hnev:=hnev (by omega)
   have hat:=zv_at (l:=x.votes) (j:=j) hjl
   have hat2:=zv_at (l:=x.votes) (j:=j-1) (by omega)
   have hnx:=ris_next x.votes j hjl
   have hbad:=fun e=>ris_bad x.votes j hjl e
   rw[hok,Bool.true_and] at hnx
   obtain⟨u,hu⟩: ∃ u,x.votes.getD j 0=u:=⟨_,O⟩
   obtain⟨y,hy⟩: ∃ y,x.votes.getD (j-1) 0=y:=⟨_,O⟩
   rw[hu] at hat hnx
   rw[hy] at hat2 hnx
   obtain⟨q,hq⟩: ∃ q,srvB u=q:=⟨_,O⟩
   rw[hq] at hnx
   have hrf:risB x.votes=false→r=false:=fun e=>by rw[← hr15,e];simp
   cases q
   ·obtain rfl:r=false:=hrf (hbad (by rw[hnx];rfl))
    focus (refine qq ?_;refine qs ?_;refine qp ?_;refine qp ?_;refine qt (T_load O O O O) ?_;refine qp ?_;refine qd ?_;refine qz ?_;refine qT ?_;refine qx ?_;refine qq ?_;refine qb ?_;refine qq ?_)
    refine S_draw ([pt b1 42 (rfc x p)]) sub_st (by kernel_rfl) O (by kernel_rfl) (by kernel_rfl:_=25) ?_
    refine dp 0 ?_
    refine dl 1 ?_
    refine dp 2 ?_
    refine dt 3 O (T_ix1 O O O O O O hnev (by omega)) ?_
    refine dt 4 O (T_ldr (v:=zv u) O O O (Srd.old h.rv (fun k _=>noOwns k)) (by omega) hat) ?_
    refine D_one 5 O (E_hv0 (f:=63) F63 (fun w hS=>numD_any w u _ hq) O O (fun _=>O)) ?_ O O (by kernel_rfl)
    rintro _ _ ⟨_,rfl,_,rfl⟩
    refine nx ?_
    refine dt 6 O (T_not O) ?_
    refine dqT 7 ?_
    refine dk 8 ?_
    refine dk 9 ?_
    refine dk 10 ?_
    refine dk 11 ?_
    refine dk 12 ?_
    refine dk 13 ?_
    refine dk 14 ?_
    refine dk 15 ?_
    refine dk 16 ?_
    refine dk 17 ?_
    refine dk 18 ?_
    refine dk 19 ?_
    refine dk 20 ?_
    refine dk 21 ?_
    refine dk 22 ?_
    refine dk 23 ?_
    refine dqT 24 ?_
    refine dn ?_
    skip
    focus (refine qT ?_;refine qs ?_;refine qp ?_;refine qz ?_)
    exact hB _ _ _ _ _ O O (qE O)
   ·by_cases h0j:j=0
    ·focus (refine qq ?_;refine qs ?_;refine qp ?_;refine qp ?_;refine qt (T_load O O O O) ?_;refine qp ?_;refine qd ?_;refine qz ?_;refine qT ?_;refine qx ?_;refine qq ?_;refine qb ?_;refine qq ?_)
     refine S_draw ([pt b1 42 (rfc x p)]) sub_st (by kernel_rfl) O (by kernel_rfl) (by kernel_rfl:_=25) ?_
     refine dp 0 ?_
     refine dl 1 ?_
     refine dp 2 ?_
     refine dt 3 O (T_ix1 O O O O O O hnev (by omega)) ?_
     refine dt 4 O (T_ldr (v:=zv u) O O O (Srd.old h.rv (fun k _=>noOwns k)) (by omega) hat) ?_
     refine D_one 5 O (E_hv0 (f:=63) F63 (fun w hS=>numD_any w u _ hq) O O (fun _=>O)) ?_ O O (by kernel_rfl)
     rintro _ _ ⟨_,rfl,_,rfl⟩
     refine nx ?_
     refine dt 6 O (T_not O) ?_
     refine dp 7 ?_
     refine dp 8 ?_
     refine dqF 9 ?_
     refine dp 10 ?_
     refine dk 11 ?_
     refine dk 12 ?_
     refine dk 13 ?_
     refine dk 14 ?_
     refine dk 15 ?_
     refine dk 16 ?_
     refine dk 17 ?_
     refine dk 18 ?_
     refine dk 19 ?_
     refine dk 20 ?_
     refine dk 21 ?_
     refine dk 22 ?_
     refine dp 23 ?_
     refine dp 24 ?_
     refine dn ?_
     skip
     focus (refine qF ?_;refine qx ?_;refine RS_blk ?_;refine qr ?_;refine qp ?_;refine qt (T_addN O O (by unfold fits;omega)) ?_;refine qp ?_;refine qz ?_)
     exact hJ (j+1) _ _ ⟨by omega,by rw[hnx,decide_eq_true h0j];rfl⟩ (Sub.cons O (Sub.cons O (Sub.cons O Sub.nil))) sub_st (by omega)
    ·by_cases h1j:y<u
     ·focus (refine qq ?_;refine qs ?_;refine qp ?_;refine qp ?_;refine qt (T_load O O O O) ?_;refine qp ?_;refine qd ?_;refine qz ?_;refine qT ?_;refine qx ?_;refine qq ?_;refine qb ?_;refine qq ?_)
      refine S_draw ([pt b1 42 (rfc x p)]) sub_st (by kernel_rfl) O (by kernel_rfl) (by kernel_rfl:_=25) ?_
      refine dp 0 ?_
      refine dl 1 ?_
      refine dp 2 ?_
      refine dt 3 O (T_ix1 O O O O O O hnev (by omega)) ?_
      refine dt 4 O (T_ldr (v:=zv u) O O O (Srd.old h.rv (fun k _=>noOwns k)) (by omega) hat) ?_
      refine D_one 5 O (E_hv0 (f:=63) F63 (fun w hS=>numD_any w u _ hq) O O (fun _=>O)) ?_ O O (by kernel_rfl)
      rintro _ _ ⟨_,rfl,_,rfl⟩
      refine nx ?_
      refine dt 6 O (T_not O) ?_
      refine dp 7 ?_
      refine dp 8 ?_
      refine dqT 9 ?_
      refine dqT 10 ?_
      refine dp 11 ?_
      refine dl 12 ?_
      refine dp 13 ?_
      refine dt 14 O (T_ix1 O O O O O O hnev (by omega)) ?_
      refine dt 15 O (T_ldr (v:=zv u) O O O (Srd.old h.rv (fun k _=>noOwns k)) (by omega) hat) ?_
      refine dp 16 ?_
      refine dl 17 ?_
      refine dp 18 ?_
      (refine dt 19 O (T_subN (p:=j) (q:=1) O O (by omega) (by unfold fits;omega)) ?_)
      refine dt 20 O (T_ix1 O O O O O O hnev (by omega)) ?_
      refine dt 21 O (T_ldr (v:=zv y) O O O (Srd.old h.rv (fun k _=>noOwns k)) (by omega) hat2) ?_
      refine dqF 22 ?_
      refine dp 23 ?_
      refine dp 24 ?_
      refine dn ?_
      skip
      focus (refine qF ?_;refine qx ?_;refine RS_blk ?_;refine qr ?_;refine qp ?_;refine qt (T_addN O O (by unfold fits;omega)) ?_;refine qp ?_;refine qz ?_)
      exact hJ (j+1) _ _ ⟨by omega,by rw[hnx,decide_eq_true h1j];simp⟩ (Sub.cons O (Sub.cons O (Sub.cons O Sub.nil))) sub_st (by omega)
     ·obtain rfl:r=false:=hrf (hbad (by rw[hnx,decide_eq_false h0j,decide_eq_false h1j];rfl))
      focus (refine qq ?_;refine qs ?_;refine qp ?_;refine qp ?_;refine qt (T_load O O O O) ?_;refine qp ?_;refine qd ?_;refine qz ?_;refine qT ?_;refine qx ?_;refine qq ?_;refine qb ?_;refine qq ?_)
      refine S_draw ([pt b1 42 (rfc x p)]) sub_st (by kernel_rfl) O (by kernel_rfl) (by kernel_rfl:_=25) ?_
      refine dp 0 ?_
      refine dl 1 ?_
      refine dp 2 ?_
      refine dt 3 O (T_ix1 O O O O O O hnev (by omega)) ?_
      refine dt 4 O (T_ldr (v:=zv u) O O O (Srd.old h.rv (fun k _=>noOwns k)) (by omega) hat) ?_
      refine D_one 5 O (E_hv0 (f:=63) F63 (fun w hS=>numD_any w u _ hq) O O (fun _=>O)) ?_ O O (by kernel_rfl)
      rintro _ _ ⟨_,rfl,_,rfl⟩
      refine nx ?_
      refine dt 6 O (T_not O) ?_
      refine dp 7 ?_
      refine dp 8 ?_
      refine dqT 9 ?_
      refine dqT 10 ?_
      refine dp 11 ?_
      refine dl 12 ?_
      refine dp 13 ?_
      refine dt 14 O (T_ix1 O O O O O O hnev (by omega)) ?_
      refine dt 15 O (T_ldr (v:=zv u) O O O (Srd.old h.rv (fun k _=>noOwns k)) (by omega) hat) ?_
      refine dp 16 ?_
      refine dl 17 ?_
      refine dp 18 ?_
      (refine dt 19 O (T_subN (p:=j) (q:=1) O O (by omega) (by unfold fits;omega)) ?_)
      refine dt 20 O (T_ix1 O O O O O O hnev (by omega)) ?_
      refine dt 21 O (T_ldr (v:=zv y) O O O (Srd.old h.rv (fun k _=>noOwns k)) (by omega) hat2) ?_
      refine dqT 22 ?_
      refine dqT 23 ?_
      refine dqT 24 ?_
      refine dn ?_
      skip
      focus (refine qT ?_;refine qs ?_;refine qp ?_;refine qz ?_)
      exact hB _ _ _ _ _ O O (qE O)
  have hjn:j=x.votes.length:=by omega
  subst hjn
  rw[List.take_length] at hok
  rw[hok] at hr15
  cases mem
  ·obtain rfl:r=false:=by rw[← hr15];rfl
   focus (refine qq ?_;refine qs ?_;refine qp ?_;refine qp ?_;refine qt (T_load O O O O) ?_;refine qp ?_;refine qf ?_;refine qz ?_;refine qF ?_;refine S_exit O O ?_;refine qs ?_;(iterate 2 refine qp ?_;refine qt (T_load O O O O) ?_);refine qh F68 (fun w hS=>inD_any w p.vA p.vn p.vc x.votes x.me (h.keep hS.kpO).rv (by omega) _ hmem) ?_;refine qt (T_not O) ?_;refine qz ?_;refine qT ?_;refine qs ?_;refine qp ?_;refine qz ?_)
   exact hB _ _ _ _ _ O O (qE O)
  by_cases hp:x.peers.length=0
  ·obtain rfl:r=true:=by rw[← hr15,decide_eq_true hp];rfl
   repeat' (first|refine R_take (T_decT O (by omega)) ?_ O O|refine R_take (T_decF O (by omega)) ?_ O O|refine R_p O ?_ O O|refine R_nil ?_|refine R_take (T_load O O O O) ?_ O O|refine R_take (T_not O) ?_ O O|refine S_seq O ?_|refine S_region O O ?_|refine S_true O O ?_|refine S_false O O ?_|refine S_exit O O ?_|refine S_skip O ?_|(refine R_eff (E_hv0 (f:=68) F68 (fun w hS=>inD_any w p.vA p.vn p.vc x.votes x.me (h.keep hS.kpO).rv (by omega) _ hmem) O O (fun _=>O)) ?_ O O;rintro _ _ ⟨_,rfl,_,rfl⟩))
   exact hB _ _ _ _ _ O O (qE O)
  ·obtain rfl:r=false:=by rw[← hr15,decide_eq_false hp];rfl
   repeat' (first|refine R_take (T_decT O (by omega)) ?_ O O|refine R_take (T_decF O (by omega)) ?_ O O|refine R_p O ?_ O O|refine R_nil ?_|refine R_take (T_load O O O O) ?_ O O|refine R_take (T_not O) ?_ O O|refine S_seq O ?_|refine S_region O O ?_|refine S_true O O ?_|refine S_false O O ?_|refine S_exit O O ?_|refine S_skip O ?_|(refine R_eff (E_hv0 (f:=68) F68 (fun w hS=>inD_any w p.vA p.vn p.vc x.votes x.me (h.keep hS.kpO).rv (by omega) _ hmem) O O (fun _=>O)) ?_ O O;rintro _ _ ⟨_,rfl,_,rfl⟩))
   exact hB _ _ _ _ _ O O (qE O)
 by_cases k3:x.role=3
 ·rw[roleB_3 x _ k3,hmem] at hr15
  by_cases hl:x.leader=x.me
  ·obtain rfl:r=false:=by rw[← hr15,decide_eq_true hl];rfl
   repeat' (first|refine R_take (T_decT O (by omega)) ?_ O O|refine R_take (T_decF O (by omega)) ?_ O O|refine R_p O ?_ O O|refine R_nil ?_|refine R_skip ?_ O O|refine R_take (T_bnq O O O O O) ?_ O O|refine R_take (T_load O O O O) ?_ O O|refine S_seq O ?_|refine S_region O O ?_|refine S_true O O ?_)
   exact hB _ _ _ _ _ O O (qE O)
  rw[decide_eq_false hl] at hr15
  by_cases hz:x.leader=0
  rotate_left
  ·obtain rfl:r=false:=by rw[← hr15,decide_eq_false hz];rfl
   repeat' (first|refine R_take (T_decT O (by omega)) ?_ O O|refine R_take (T_decF O (by omega)) ?_ O O|refine R_p O ?_ O O|refine R_nil ?_|refine R_skip ?_ O O|refine R_take (T_bnq O O O O O) ?_ O O|refine R_take (T_load O O O O) ?_ O O|refine S_seq O ?_|refine S_region O O ?_|refine S_true O O ?_)
   exact hB _ _ _ _ _ O O (qE O)
  rw[decide_eq_true hz] at hr15
  by_cases hvt:x.vote=x.me
  rotate_left
  ·obtain rfl:r=false:=by rw[← hr15,decide_eq_false hvt];rfl
   repeat' (first|refine R_take (T_decT O (by omega)) ?_ O O|refine R_take (T_decF O (by omega)) ?_ O O|refine R_p O ?_ O O|refine R_nil ?_|refine R_skip ?_ O O|refine R_take (T_bnq O O O O O) ?_ O O|refine R_take (T_load O O O O) ?_ O O|refine S_seq O ?_|refine S_region O O ?_|refine S_true O O ?_)
   exact hB _ _ _ _ _ O O (qE O)
  rw[decide_eq_true hvt] at hr15
  by_cases ht:x.term=0
  ·obtain rfl:r=false:=by rw[← hr15,decide_eq_true ht];rfl
   repeat' (first|refine R_take (T_decT O (by omega)) ?_ O O|refine R_take (T_decF O (by omega)) ?_ O O|refine R_p O ?_ O O|refine R_nil ?_|refine R_take (T_bnq O O O O O) ?_ O O|refine R_take (T_load O O O O) ?_ O O|refine S_seq O ?_|refine S_region O O ?_|refine S_true O O ?_)
   exact hB _ _ _ _ _ O O (qE O)
  rw[decide_eq_false ht] at hr15
  repeat' (first|refine R_take (T_decT O (by omega)) ?_ O O|refine R_take (T_decF O (by omega)) ?_ O O|refine R_p O ?_ O O|refine R_nil ?_|refine R_take (T_bnq O O O O O) ?_ O O|refine R_take (T_load O O O O) ?_ O O|refine S_seq O ?_|refine S_region O O ?_|refine S_false O O ?_|refine S_block O ?_|refine S_skip O ?_)
  have hnev:0<p.vn→p.vA≠none:=fun h0=>by obtain⟨ad,e,_⟩:=h.rv.2 (by omega);rw[e];simp
  refine S_loop (X:=Nat) (fun j=>[(1,.pointer (some ⟨b1,0,none⟩)),(3,.pointer (some ⟨b3,0,none⟩)),(4,.int .i64 (j:Int))]) (fun _=>[pt b3 36 (atc (lastA x.base x.es)),pt b1 42 (rfc x p)]) (fun j=>j≤x.votes.length∧risB (x.votes.take j)=true) (fun j=>x.votes.length-j) O 0 ⟨Nat.zero_le _,O⟩ (Sub.cons O (Sub.cons O (Sub.cons O Sub.nil))) sub_st ?_
  rintro j ⟨hj,hok⟩ J hJ
  rcases Nat.lt_or_ge j x.votes.length with hjl|hjl
  ·have hnev:=hnev (by omega)
   have hat:=zv_at (l:=x.votes) (j:=j) hjl
   have hat2:=zv_at (l:=x.votes) (j:=j-1) (by omega)
   have hnx:=ris_next x.votes j hjl
   have hbad:=fun e=>ris_bad x.votes j hjl e
   rw[hok,Bool.true_and] at hnx
   obtain⟨u,hu⟩: ∃ u,x.votes.getD j 0=u:=⟨_,O⟩
   obtain⟨y,hy⟩: ∃ y,x.votes.getD (j-1) 0=y:=⟨_,O⟩
   rw[hu] at hat hnx
   rw[hy] at hat2 hnx
   obtain⟨q,hq⟩: ∃ q,srvB u=q:=⟨_,O⟩
   rw[hq] at hnx
   have hrf:risB x.votes=false→r=false:=fun e=>by rw[← hr15,e];simp
   cases q
   ·obtain rfl:r=false:=hrf (hbad (by rw[hnx];rfl))
    focus (refine qq ?_;refine qs ?_;refine qp ?_;refine qp ?_;refine qt (T_load O O O O) ?_;refine qp ?_;refine qd ?_;refine qz ?_;refine qT ?_;refine qx ?_;refine qq ?_;refine qb ?_;refine qq ?_)
    refine S_draw ([pt b1 42 (rfc x p)]) sub_st (by kernel_rfl) O (by kernel_rfl) (by kernel_rfl:_=25) ?_
    refine dp 0 ?_
    refine dl 1 ?_
    refine dp 2 ?_
    refine dt 3 O (T_ix1 O O O O O O hnev (by omega)) ?_
    refine dt 4 O (T_ldr (v:=zv u) O O O (Srd.old h.rv (fun k _=>noOwns k)) (by omega) hat) ?_
    refine D_one 5 O (E_hv0 (f:=63) F63 (fun w hS=>numD_any w u _ hq) O O (fun _=>O)) ?_ O O (by kernel_rfl)
    rintro _ _ ⟨_,rfl,_,rfl⟩
    refine nx ?_
    refine dt 6 O (T_not O) ?_
    refine dqT 7 ?_
    refine dk 8 ?_
    refine dk 9 ?_
    refine dk 10 ?_
    refine dk 11 ?_
    refine dk 12 ?_
    refine dk 13 ?_
    refine dk 14 ?_
    refine dk 15 ?_
    refine dk 16 ?_
    refine dk 17 ?_
    refine dk 18 ?_
    refine dk 19 ?_
    refine dk 20 ?_
    refine dk 21 ?_
    refine dk 22 ?_
    refine dk 23 ?_
    refine dqT 24 ?_
    refine dn ?_
    skip
    focus (refine qT ?_;refine qs ?_;refine qp ?_;refine qz ?_)
    exact hB _ _ _ _ _ O O (qE O)
   ·by_cases h0j:j=0
    ·focus (refine qq ?_;refine qs ?_;refine qp ?_;refine qp ?_;refine qt (T_load O O O O) ?_;refine qp ?_;refine qd ?_;refine qz ?_;refine qT ?_;refine qx ?_;refine qq ?_;refine qb ?_;refine qq ?_)
     refine S_draw ([pt b1 42 (rfc x p)]) sub_st (by kernel_rfl) O (by kernel_rfl) (by kernel_rfl:_=25) ?_
     refine dp 0 ?_
     refine dl 1 ?_
     refine dp 2 ?_
     refine dt 3 O (T_ix1 O O O O O O hnev (by omega)) ?_
     refine dt 4 O (T_ldr (v:=zv u) O O O (Srd.old h.rv (fun k _=>noOwns k)) (by omega) hat) ?_
     refine D_one 5 O (E_hv0 (f:=63) F63 (fun w hS=>numD_any w u _ hq) O O (fun _=>O)) ?_ O O (by kernel_rfl)
     rintro _ _ ⟨_,rfl,_,rfl⟩
     refine nx ?_
     refine dt 6 O (T_not O) ?_
     refine dp 7 ?_
     refine dp 8 ?_
     refine dqF 9 ?_
     refine dp 10 ?_
     refine dk 11 ?_
     refine dk 12 ?_
     refine dk 13 ?_
     refine dk 14 ?_
     refine dk 15 ?_
     refine dk 16 ?_
     refine dk 17 ?_
     refine dk 18 ?_
     refine dk 19 ?_
     refine dk 20 ?_
     refine dk 21 ?_
     refine dk 22 ?_
     refine dp 23 ?_
     refine dp 24 ?_
     refine dn ?_
     skip
     focus (refine qF ?_;refine qx ?_;refine RS_blk ?_;refine qr ?_;refine qp ?_;refine qt (T_addN O O (by unfold fits;omega)) ?_;refine qp ?_;refine qz ?_)
     exact hJ (j+1) _ _ ⟨by omega,by rw[hnx,decide_eq_true h0j];rfl⟩ (Sub.cons O (Sub.cons O (Sub.cons O Sub.nil))) sub_st (by omega)
    ·by_cases h1j:y<u
     ·focus (refine qq ?_;refine qs ?_;refine qp ?_;refine qp ?_;refine qt (T_load O O O O) ?_;refine qp ?_;refine qd ?_;refine qz ?_;refine qT ?_;refine qx ?_;refine qq ?_;refine qb ?_;refine qq ?_)
      refine S_draw ([pt b1 42 (rfc x p)]) sub_st (by kernel_rfl) O (by kernel_rfl) (by kernel_rfl:_=25) ?_
      refine dp 0 ?_
      refine dl 1 ?_
      refine dp 2 ?_
      refine dt 3 O (T_ix1 O O O O O O hnev (by omega)) ?_
      refine dt 4 O (T_ldr (v:=zv u) O O O (Srd.old h.rv (fun k _=>noOwns k)) (by omega) hat) ?_
      refine D_one 5 O (E_hv0 (f:=63) F63 (fun w hS=>numD_any w u _ hq) O O (fun _=>O)) ?_ O O (by kernel_rfl)
      rintro _ _ ⟨_,rfl,_,rfl⟩
      refine nx ?_
      refine dt 6 O (T_not O) ?_
      refine dp 7 ?_
      refine dp 8 ?_
      refine dqT 9 ?_
      refine dqT 10 ?_
      refine dp 11 ?_
      refine dl 12 ?_
      refine dp 13 ?_
      refine dt 14 O (T_ix1 O O O O O O hnev (by omega)) ?_
      refine dt 15 O (T_ldr (v:=zv u) O O O (Srd.old h.rv (fun k _=>noOwns k)) (by omega) hat) ?_
      refine dp 16 ?_
      refine dl 17 ?_
      refine dp 18 ?_
      (refine dt 19 O (T_subN (p:=j) (q:=1) O O (by omega) (by unfold fits;omega)) ?_)
      refine dt 20 O (T_ix1 O O O O O O hnev (by omega)) ?_
      refine dt 21 O (T_ldr (v:=zv y) O O O (Srd.old h.rv (fun k _=>noOwns k)) (by omega) hat2) ?_
      refine dqF 22 ?_
      refine dp 23 ?_
      refine dp 24 ?_
      refine dn ?_
      skip
      focus (refine qF ?_;refine qx ?_;refine RS_blk ?_;refine qr ?_;refine qp ?_;refine qt (T_addN O O (by unfold fits;omega)) ?_;refine qp ?_;refine qz ?_)
      exact hJ (j+1) _ _ ⟨by omega,by rw[hnx,decide_eq_true h1j];simp⟩ (Sub.cons O (Sub.cons O (Sub.cons O Sub.nil))) sub_st (by omega)
     ·obtain rfl:r=false:=hrf (hbad (by rw[hnx,decide_eq_false h0j,decide_eq_false h1j];rfl))
      focus (refine qq ?_;refine qs ?_;refine qp ?_;refine qp ?_;refine qt (T_load O O O O) ?_;refine qp ?_;refine qd ?_;refine qz ?_;refine qT ?_;refine qx ?_;refine qq ?_;refine qb ?_;refine qq ?_)
      refine S_draw ([pt b1 42 (rfc x p)]) sub_st (by kernel_rfl) O (by kernel_rfl) (by kernel_rfl:_=25) ?_
      refine dp 0 ?_
      refine dl 1 ?_
      refine dp 2 ?_
      refine dt 3 O (T_ix1 O O O O O O hnev (by omega)) ?_
      refine dt 4 O (T_ldr (v:=zv u) O O O (Srd.old h.rv (fun k _=>noOwns k)) (by omega) hat) ?_
      refine D_one 5 O (E_hv0 (f:=63) F63 (fun w hS=>numD_any w u _ hq) O O (fun _=>O)) ?_ O O (by kernel_rfl)
      rintro _ _ ⟨_,rfl,_,rfl⟩
      refine nx ?_
      refine dt 6 O (T_not O) ?_
      refine dp 7 ?_
      refine dp 8 ?_
      refine dqT 9 ?_
      refine dqT 10 ?_
      refine dp 11 ?_
      refine dl 12 ?_
      refine dp 13 ?_
      refine dt 14 O (T_ix1 O O O O O O hnev (by omega)) ?_
      refine dt 15 O (T_ldr (v:=zv u) O O O (Srd.old h.rv (fun k _=>noOwns k)) (by omega) hat) ?_
      refine dp 16 ?_
      refine dl 17 ?_
      refine dp 18 ?_
      (refine dt 19 O (T_subN (p:=j) (q:=1) O O (by omega) (by unfold fits;omega)) ?_)
      refine dt 20 O (T_ix1 O O O O O O hnev (by omega)) ?_
      refine dt 21 O (T_ldr (v:=zv y) O O O (Srd.old h.rv (fun k _=>noOwns k)) (by omega) hat2) ?_
      refine dqT 22 ?_
      refine dqT 23 ?_
      refine dqT 24 ?_
      refine dn ?_
      skip
      focus (refine qT ?_;refine qs ?_;refine qp ?_;refine qz ?_)
      exact hB _ _ _ _ _ O O (qE O)
  have hjn:j=x.votes.length:=by omega
  subst hjn
  rw[List.take_length] at hok
  rw[hok] at hr15
  cases mem
  ·obtain rfl:r=false:=by rw[← hr15];rfl
   focus (refine qq ?_;refine qs ?_;refine qp ?_;refine qp ?_;refine qt (T_load O O O O) ?_;refine qp ?_;refine qf ?_;refine qz ?_;refine qF ?_;refine S_exit O O ?_;refine qs ?_;(iterate 2 refine qp ?_;refine qt (T_load O O O O) ?_);refine qh F68 (fun w hS=>inD_any w p.vA p.vn p.vc x.votes x.me (h.keep hS.kpO).rv (by omega) _ hmem) ?_;refine qt (T_not O) ?_;refine qz ?_;refine qT ?_;refine qs ?_;refine qp ?_;refine qz ?_)
   exact hB _ _ _ _ _ O O (qE O)
  by_cases hp:x.peers.length=0
  ·obtain rfl:r=true:=by rw[← hr15,decide_eq_true hp];rfl
   repeat' (first|refine R_take (T_decT O (by omega)) ?_ O O|refine R_take (T_decF O (by omega)) ?_ O O|refine R_p O ?_ O O|refine R_nil ?_|refine R_take (T_load O O O O) ?_ O O|refine R_take (T_not O) ?_ O O|refine S_seq O ?_|refine S_region O O ?_|refine S_true O O ?_|refine S_false O O ?_|refine S_exit O O ?_|refine S_skip O ?_|(refine R_eff (E_hv0 (f:=68) F68 (fun w hS=>inD_any w p.vA p.vn p.vc x.votes x.me (h.keep hS.kpO).rv (by omega) _ hmem) O O (fun _=>O)) ?_ O O;rintro _ _ ⟨_,rfl,_,rfl⟩))
   exact hB _ _ _ _ _ O O (qE O)
  ·obtain rfl:r=false:=by rw[← hr15,decide_eq_false hp];rfl
   repeat' (first|refine R_take (T_decT O (by omega)) ?_ O O|refine R_take (T_decF O (by omega)) ?_ O O|refine R_p O ?_ O O|refine R_nil ?_|refine R_take (T_load O O O O) ?_ O O|refine R_take (T_not O) ?_ O O|refine S_seq O ?_|refine S_region O O ?_|refine S_true O O ?_|refine S_false O O ?_|refine S_exit O O ?_|refine S_skip O ?_|(refine R_eff (E_hv0 (f:=68) F68 (fun w hS=>inD_any w p.vA p.vn p.vc x.votes x.me (h.keep hS.kpO).rv (by omega) _ hmem) O O (fun _=>O)) ?_ O O;rintro _ _ ⟨_,rfl,_,rfl⟩))
   exact hB _ _ _ _ _ O O (qE O)
 have k4:x.role<1∨x.role=4∨4<x.role:=by omega
 by_cases k4':x.role=4
 rotate_left
 ·obtain rfl:r=false:=by rw[← hr15];exact roleB_0 x _ (by omega)
  rcases(by omega:x.role<1∨4<x.role) with h5|h5
  ·repeat' (first|refine R_take (T_decT O (by omega)) ?_ O O|refine R_p O ?_ O O|refine R_nil ?_|refine R_skip ?_ O O|refine R_take (T_load O O O O) ?_ O O|refine S_seq O ?_|refine S_region O O ?_|refine S_true O O ?_)
   exact hB _ _ _ _ _ O O (qE O)
  ·repeat' (first|refine R_take (T_decT O (by omega)) ?_ O O|refine R_take (T_decF O (by omega)) ?_ O O|refine R_p O ?_ O O|refine R_nil ?_|refine R_skip ?_ O O|refine R_take (T_load O O O O) ?_ O O|refine S_seq O ?_|refine S_region O O ?_|refine S_true O O ?_)
   exact hB _ _ _ _ _ O O (qE O)
 rw[roleB_4 x _ k4'] at hr15
 by_cases hl:x.leader=x.me
 rotate_left
 ·obtain rfl:r=false:=by rw[← hr15,decide_eq_false hl];rfl
  repeat' (first|refine R_take (T_decT O (by omega)) ?_ O O|refine R_take (T_decF O (by omega)) ?_ O O|refine R_p O ?_ O O|refine R_nil ?_|refine R_skip ?_ O O|refine R_take (T_bnq O O O O O) ?_ O O|refine R_take (T_load O O O O) ?_ O O|refine S_seq O ?_|refine S_region O O ?_|refine S_true O O ?_)
  exact hB _ _ _ _ _ O O (qE O)
 rw[decide_eq_true hl] at hr15
 by_cases hvt:x.vote=x.me
 rotate_left
 ·obtain rfl:r=false:=by rw[← hr15,decide_eq_false hvt];rfl
  repeat' (first|refine R_take (T_decT O (by omega)) ?_ O O|refine R_take (T_decF O (by omega)) ?_ O O|refine R_p O ?_ O O|refine R_nil ?_|refine R_skip ?_ O O|refine R_take (T_bnq O O O O O) ?_ O O|refine R_take (T_load O O O O) ?_ O O|refine S_seq O ?_|refine S_region O O ?_|refine S_true O O ?_)
  exact hB _ _ _ _ _ O O (qE O)
 rw[decide_eq_true hvt] at hr15
 by_cases ht:x.term=0
 ·obtain rfl:r=false:=by rw[← hr15,decide_eq_true ht];rfl
  repeat' (first|refine R_take (T_decT O (by omega)) ?_ O O|refine R_take (T_decF O (by omega)) ?_ O O|refine R_p O ?_ O O|refine R_nil ?_|refine R_skip ?_ O O|refine R_take (T_bnq O O O O O) ?_ O O|refine R_take (T_load O O O O) ?_ O O|refine S_seq O ?_|refine S_region O O ?_|refine S_true O O ?_)
  exact hB _ _ _ _ _ O O (qE O)
 rw[decide_eq_false ht] at hr15
 by_cases hv:x.votes.length=0
 rotate_left
 ·obtain rfl:r=false:=by rw[← hr15,decide_eq_false hv];rfl
  repeat' (first|refine R_take (T_decT O (by omega)) ?_ O O|refine R_take (T_decF O (by omega)) ?_ O O|refine R_p O ?_ O O|refine R_nil ?_|refine R_skip ?_ O O|refine R_take (T_bnq O O O O O) ?_ O O|refine R_take (T_load O O O O) ?_ O O|refine S_seq O ?_|refine S_region O O ?_|refine S_true O O ?_|refine S_false O O ?_|refine S_skip O ?_)
  exact hB _ _ _ _ _ O O (qE O)
 rw[decide_eq_true hv] at hr15
 obtain⟨oth,hoth⟩: ∃ l,othL x.me=l:=⟨_,O⟩
 obtain⟨ho4,hoat⟩:=oth_at x.me h0
 rw[hoth] at hr15 ho4 hoat
 have hr15:prsG (lastA x.base x.es).1 x.peers oth=r:=by rw[← hr15,hlp];rfl
 by_cases hlen:x.peers.length=4
 rotate_left
 ·obtain rfl:r=false:=by
   rw[← hr15,Bool.eq_false_iff]
   intro h2
   have:=prs_len _ _ _ h2
   omega
  repeat' (first|refine R_take (T_decT O (by omega)) ?_ O O|refine R_take (T_decF O (by omega)) ?_ O O|refine R_p O ?_ O O|refine R_nil ?_|refine R_skip ?_ O O|refine R_take (T_bnq O O O O O) ?_ O O|refine R_take (T_load O O O O) ?_ O O|refine S_seq O ?_|refine S_region O O ?_|refine S_true O O ?_|refine S_false O O ?_|refine S_skip O ?_)
  exact hB _ _ _ _ _ O O (qE O)
 repeat' (first|refine R_take (T_decT O (by omega)) ?_ O O|refine R_take (T_decF O (by omega)) ?_ O O|refine R_p O ?_ O O|refine R_nil ?_|refine R_skip ?_ O O|refine R_take (T_bnq O O O O O) ?_ O O|refine R_take (T_load O O O O) ?_ O O|refine S_seq O ?_|refine S_region O O ?_|refine S_true O O ?_|refine S_false O O ?_|refine S_block O ?_|refine S_skip O ?_)
 skip
 have hnep:p.pA≠none:=by obtain⟨ad,e,_⟩:=h.rp.2 (by omega);rw[e];simp
 refine S_loop (X:=Nat) (fun j=>[(1,.pointer (some ⟨b1,0,none⟩)),(3,.pointer (some ⟨b3,0,none⟩)),(5,.int .i64 (j:Int))]) (fun _=>[pt b3 36 (atc (lastA x.base x.es)),pt b1 42 (rfc x p)]) (fun j=>j≤4∧prsG (lastA x.base x.es).1 (x.peers.take j) (oth.take j)=true) (fun j=>4-j) O 0 ⟨Nat.zero_le _,O⟩ (Sub.cons O (Sub.cons O (Sub.cons O Sub.nil))) sub_st ?_
 rintro j ⟨hj,hok⟩ J hJ
 rcases Nat.lt_or_ge j 4 with hjl|hjl
 ·have hat:=cellsL_at (f:=pec) pec_len x.peers default j (by omega)
  have hnx:=prs_app (lastA x.base x.es).1 x.peers oth j (by omega) (by omega)
  have hbad:=fun h2=>Bool.eq_false_iff.2 (fun h3=>Bool.eq_false_iff.1 h2 (prs_pre (lastA x.base x.es).1 x.peers oth (j+1) h3))
  rw[hr15] at hbad
  rw[hok,Bool.true_and,hoat j hjl] at hnx
  have hpu:=(h.hu.pe (x.peers.getD j default) (by simp[List.getD,show j<x.peers.length by omega])).1
  obtain⟨⟨pw,pn,pm⟩,hq⟩: ∃ q,x.peers.getD j default=q:=⟨_,O⟩
  rw[hq] at hat hnx hpu
  dsimp only at hnx hpu
  by_cases hge:x.me≤(j:Int)+1
  ·rw[if_pos hge] at hnx
   by_cases e1:pw=(j:Int)+2
   rotate_left
   ·obtain rfl:r=false:=hbad (by rw[hnx,decide_eq_false e1];simp)
    repeat' (first|refine R_take (T_decT O (by omega)) ?_ O O|refine R_p O ?_ O O|refine R_nil ?_|refine R_skip ?_ O O|refine R_take (T_ixM (sz:=3) O O O O O O hnep (by omega)) ?_ O O|refine R_take (T_lda (ds:=[.int .i64 pw,.int .u64 (pn:Int),.int .u64 (pm:Int)]) O O O (Srd.old h.rp (fun k _=>noOwns k)) O (by omega) hat) ?_ O O|refine R_take (T_load O O O O) ?_ O O|refine R_take (T_addN O O (by unfold fits;omega)) ?_ O O|refine S_seq O ?_|refine S_region O O ?_|refine S_true O O ?_|refine S_block O ?_|refine S_skip O ?_|(refine R_eff (E_alloca O pe_zero) ?_ O O;rintro _ _ ⟨b10,rfl,rfl⟩)|(refine R_eff0 (E_storew (cs:=pec (0,0,0)) (ds:=[.int .i64 pw,.int .u64 (pn:Int),.int .u64 (pm:Int)]) O O O O (pec_one (pw,pn,pm)) O) ?_ O;rintro _ _ rfl))
    exact hB _ _ _ _ _ O O (qE O)
   by_cases e2:1≤pn
   rotate_left
   ·obtain rfl:r=false:=hbad (by rw[hnx,decide_eq_false e2];simp)
    repeat' (first|refine R_take (T_decT O (by omega)) ?_ O O|refine R_take (T_decF O (by omega)) ?_ O O|refine R_p O ?_ O O|refine R_nil ?_|refine R_skip ?_ O O|refine R_take (T_ixM (sz:=3) O O O O O O hnep (by omega)) ?_ O O|refine R_take (T_lda (ds:=[.int .i64 pw,.int .u64 (pn:Int),.int .u64 (pm:Int)]) O O O (Srd.old h.rp (fun k _=>noOwns k)) O (by omega) hat) ?_ O O|refine R_take (T_load O O O O) ?_ O O|refine R_take (T_addN O O (by unfold fits;omega)) ?_ O O|refine S_seq O ?_|refine S_region O O ?_|refine S_true O O ?_|refine S_block O ?_|refine S_skip O ?_|(refine R_eff (E_alloca O pe_zero) ?_ O O;rintro _ _ ⟨b10,rfl,rfl⟩)|(refine R_eff0 (E_storew (cs:=pec (0,0,0)) (ds:=[.int .i64 pw,.int .u64 (pn:Int),.int .u64 (pm:Int)]) O O O O (pec_one (pw,pn,pm)) O) ?_ O;rintro _ _ rfl))
    exact hB _ _ _ _ _ O O (qE O)
   by_cases e3:pn≤(lastA x.base x.es).1+1
   rotate_left
   ·obtain rfl:r=false:=hbad (by rw[hnx,decide_eq_false e3];simp)
    repeat' (first|refine R_take (T_decT O (by omega)) ?_ O O|refine R_take (T_decF O (by omega)) ?_ O O|refine R_p O ?_ O O|refine R_nil ?_|refine R_skip ?_ O O|refine R_take (T_ixM (sz:=3) O O O O O O hnep (by omega)) ?_ O O|refine R_take (T_lda (ds:=[.int .i64 pw,.int .u64 (pn:Int),.int .u64 (pm:Int)]) O O O (Srd.old h.rp (fun k _=>noOwns k)) O (by omega) hat) ?_ O O|refine R_take (T_load O O O O) ?_ O O|refine R_take (T_addN O O (by unfold fits;omega)) ?_ O O|refine R_take (T_subN O O (by omega) (by unfold fits;omega)) ?_ O O|refine S_seq O ?_|refine S_region O O ?_|refine S_true O O ?_|refine S_block O ?_|refine S_skip O ?_|(refine R_eff (E_alloca O pe_zero) ?_ O O;rintro _ _ ⟨b10,rfl,rfl⟩)|(refine R_eff0 (E_storew (cs:=pec (0,0,0)) (ds:=[.int .i64 pw,.int .u64 (pn:Int),.int .u64 (pm:Int)]) O O O O (pec_one (pw,pn,pm)) O) ?_ O;rintro _ _ rfl))
    exact hB _ _ _ _ _ O O (qE O)
   by_cases e4:pm<pn
   rotate_left
   ·obtain rfl:r=false:=hbad (by rw[hnx,decide_eq_false e4];simp)
    repeat' (first|refine R_take (T_decT O (by omega)) ?_ O O|refine R_take (T_decF O (by omega)) ?_ O O|refine R_p O ?_ O O|refine R_nil ?_|refine R_take (T_ixM (sz:=3) O O O O O O hnep (by omega)) ?_ O O|refine R_take (T_lda (ds:=[.int .i64 pw,.int .u64 (pn:Int),.int .u64 (pm:Int)]) O O O (Srd.old h.rp (fun k _=>noOwns k)) O (by omega) hat) ?_ O O|refine R_take (T_load O O O O) ?_ O O|refine R_take (T_addN O O (by unfold fits;omega)) ?_ O O|refine R_take (T_subN O O (by omega) (by unfold fits;omega)) ?_ O O|refine S_seq O ?_|refine S_region O O ?_|refine S_true O O ?_|refine S_block O ?_|refine S_skip O ?_|(refine R_eff (E_alloca O pe_zero) ?_ O O;rintro _ _ ⟨b10,rfl,rfl⟩)|(refine R_eff0 (E_storew (cs:=pec (0,0,0)) (ds:=[.int .i64 pw,.int .u64 (pn:Int),.int .u64 (pm:Int)]) O O O O (pec_one (pw,pn,pm)) O) ?_ O;rintro _ _ rfl))
    exact hB _ _ _ _ _ O O (qE O)
   repeat' (first|refine R_take (T_decT O (by omega)) ?_ O O|refine R_take (T_decF O (by omega)) ?_ O O|refine R_p O ?_ O O|refine R_nil ?_|refine R_take (T_ixM (sz:=3) O O O O O O hnep (by omega)) ?_ O O|refine R_take (T_lda (ds:=[.int .i64 pw,.int .u64 (pn:Int),.int .u64 (pm:Int)]) O O O (Srd.old h.rp (fun k _=>noOwns k)) O (by omega) hat) ?_ O O|refine R_take (T_load O O O O) ?_ O O|refine R_take (T_addN O O (by unfold fits;omega)) ?_ O O|refine R_take (T_subN O O (by omega) (by unfold fits;omega)) ?_ O O|refine S_seq O ?_|refine S_region O O ?_|refine S_true O O ?_|refine S_false O O ?_|refine S_block O ?_|refine RS_blk ?_|refine S_skip O ?_|(refine R_eff (E_alloca O pe_zero) ?_ O O;rintro _ _ ⟨b10,rfl,rfl⟩)|(refine R_eff0 (E_storew (cs:=pec (0,0,0)) (ds:=[.int .i64 pw,.int .u64 (pn:Int),.int .u64 (pm:Int)]) O O O O (pec_one (pw,pn,pm)) O) ?_ O;rintro _ _ rfl))
   exact hJ (j+1) _ _ ⟨by omega,by rw[hnx,decide_eq_true e1,decide_eq_true e2,decide_eq_true e3,decide_eq_true e4];rfl⟩ (Sub.cons O (Sub.cons O (Sub.cons O Sub.nil))) sub_st (by omega)
  ·rw[if_neg hge] at hnx
   by_cases e1:pw=(j:Int)+1
   rotate_left
   ·obtain rfl:r=false:=hbad (by rw[hnx,decide_eq_false e1];simp)
    repeat' (first|refine R_take (T_decT O (by omega)) ?_ O O|refine R_take (T_decF O (by omega)) ?_ O O|refine R_p O ?_ O O|refine R_nil ?_|refine R_skip ?_ O O|refine R_take (T_ixM (sz:=3) O O O O O O hnep (by omega)) ?_ O O|refine R_take (T_lda (ds:=[.int .i64 pw,.int .u64 (pn:Int),.int .u64 (pm:Int)]) O O O (Srd.old h.rp (fun k _=>noOwns k)) O (by omega) hat) ?_ O O|refine R_take (T_load O O O O) ?_ O O|refine R_take (T_addN O O (by unfold fits;omega)) ?_ O O|refine S_seq O ?_|refine S_region O O ?_|refine S_true O O ?_|refine S_false O O ?_|refine S_block O ?_|refine S_skip O ?_|(refine R_eff (E_alloca O pe_zero) ?_ O O;rintro _ _ ⟨b10,rfl,rfl⟩)|(refine R_eff0 (E_storew (cs:=pec (0,0,0)) (ds:=[.int .i64 pw,.int .u64 (pn:Int),.int .u64 (pm:Int)]) O O O O (pec_one (pw,pn,pm)) O) ?_ O;rintro _ _ rfl))
    exact hB _ _ _ _ _ O O (qE O)
   by_cases e2:1≤pn
   rotate_left
   ·obtain rfl:r=false:=hbad (by rw[hnx,decide_eq_false e2];simp)
    repeat' (first|refine R_take (T_decT O (by omega)) ?_ O O|refine R_take (T_decF O (by omega)) ?_ O O|refine R_p O ?_ O O|refine R_nil ?_|refine R_skip ?_ O O|refine R_take (T_ixM (sz:=3) O O O O O O hnep (by omega)) ?_ O O|refine R_take (T_lda (ds:=[.int .i64 pw,.int .u64 (pn:Int),.int .u64 (pm:Int)]) O O O (Srd.old h.rp (fun k _=>noOwns k)) O (by omega) hat) ?_ O O|refine R_take (T_load O O O O) ?_ O O|refine R_take (T_addN O O (by unfold fits;omega)) ?_ O O|refine S_seq O ?_|refine S_region O O ?_|refine S_true O O ?_|refine S_false O O ?_|refine S_block O ?_|refine S_skip O ?_|(refine R_eff (E_alloca O pe_zero) ?_ O O;rintro _ _ ⟨b10,rfl,rfl⟩)|(refine R_eff0 (E_storew (cs:=pec (0,0,0)) (ds:=[.int .i64 pw,.int .u64 (pn:Int),.int .u64 (pm:Int)]) O O O O (pec_one (pw,pn,pm)) O) ?_ O;rintro _ _ rfl))
    exact hB _ _ _ _ _ O O (qE O)
   by_cases e3:pn≤(lastA x.base x.es).1+1
   rotate_left
   ·obtain rfl:r=false:=hbad (by rw[hnx,decide_eq_false e3];simp)
    repeat' (first|refine R_take (T_decT O (by omega)) ?_ O O|refine R_take (T_decF O (by omega)) ?_ O O|refine R_p O ?_ O O|refine R_nil ?_|refine R_skip ?_ O O|refine R_take (T_ixM (sz:=3) O O O O O O hnep (by omega)) ?_ O O|refine R_take (T_lda (ds:=[.int .i64 pw,.int .u64 (pn:Int),.int .u64 (pm:Int)]) O O O (Srd.old h.rp (fun k _=>noOwns k)) O (by omega) hat) ?_ O O|refine R_take (T_load O O O O) ?_ O O|refine R_take (T_addN O O (by unfold fits;omega)) ?_ O O|refine R_take (T_subN O O (by omega) (by unfold fits;omega)) ?_ O O|refine S_seq O ?_|refine S_region O O ?_|refine S_true O O ?_|refine S_false O O ?_|refine S_block O ?_|refine S_skip O ?_|(refine R_eff (E_alloca O pe_zero) ?_ O O;rintro _ _ ⟨b10,rfl,rfl⟩)|(refine R_eff0 (E_storew (cs:=pec (0,0,0)) (ds:=[.int .i64 pw,.int .u64 (pn:Int),.int .u64 (pm:Int)]) O O O O (pec_one (pw,pn,pm)) O) ?_ O;rintro _ _ rfl))
    exact hB _ _ _ _ _ O O (qE O)
   by_cases e4:pm<pn
   rotate_left
   ·obtain rfl:r=false:=hbad (by rw[hnx,decide_eq_false e4];simp)
    repeat' (first|refine R_take (T_decT O (by omega)) ?_ O O|refine R_take (T_decF O (by omega)) ?_ O O|refine R_p O ?_ O O|refine R_nil ?_|refine R_take (T_ixM (sz:=3) O O O O O O hnep (by omega)) ?_ O O|refine R_take (T_lda (ds:=[.int .i64 pw,.int .u64 (pn:Int),.int .u64 (pm:Int)]) O O O (Srd.old h.rp (fun k _=>noOwns k)) O (by omega) hat) ?_ O O|refine R_take (T_load O O O O) ?_ O O|refine R_take (T_addN O O (by unfold fits;omega)) ?_ O O|refine R_take (T_subN O O (by omega) (by unfold fits;omega)) ?_ O O|refine S_seq O ?_|refine S_region O O ?_|refine S_true O O ?_|refine S_false O O ?_|refine S_block O ?_|refine S_skip O ?_|(refine R_eff (E_alloca O pe_zero) ?_ O O;rintro _ _ ⟨b10,rfl,rfl⟩)|(refine R_eff0 (E_storew (cs:=pec (0,0,0)) (ds:=[.int .i64 pw,.int .u64 (pn:Int),.int .u64 (pm:Int)]) O O O O (pec_one (pw,pn,pm)) O) ?_ O;rintro _ _ rfl))
    exact hB _ _ _ _ _ O O (qE O)
   repeat' (first|refine R_take (T_decT O (by omega)) ?_ O O|refine R_take (T_decF O (by omega)) ?_ O O|refine R_p O ?_ O O|refine R_nil ?_|refine R_take (T_ixM (sz:=3) O O O O O O hnep (by omega)) ?_ O O|refine R_take (T_lda (ds:=[.int .i64 pw,.int .u64 (pn:Int),.int .u64 (pm:Int)]) O O O (Srd.old h.rp (fun k _=>noOwns k)) O (by omega) hat) ?_ O O|refine R_take (T_load O O O O) ?_ O O|refine R_take (T_addN O O (by unfold fits;omega)) ?_ O O|refine R_take (T_subN O O (by omega) (by unfold fits;omega)) ?_ O O|refine S_seq O ?_|refine S_region O O ?_|refine S_true O O ?_|refine S_false O O ?_|refine S_block O ?_|refine RS_blk ?_|refine S_skip O ?_|(refine R_eff (E_alloca O pe_zero) ?_ O O;rintro _ _ ⟨b10,rfl,rfl⟩)|(refine R_eff0 (E_storew (cs:=pec (0,0,0)) (ds:=[.int .i64 pw,.int .u64 (pn:Int),.int .u64 (pm:Int)]) O O O O (pec_one (pw,pn,pm)) O) ?_ O;rintro _ _ rfl))
   exact hJ (j+1) _ _ ⟨by omega,by rw[hnx,decide_eq_true e1,decide_eq_true e2,decide_eq_true e3,decide_eq_true e4];rfl⟩ (Sub.cons O (Sub.cons O (Sub.cons O Sub.nil))) sub_st (by omega)
 have hjn:j=4:=by omega
 subst hjn
 rw[List.take_of_length_le (by omega),List.take_of_length_le (by omega),hr15] at hok
 subst hok
 focus (refine qq ?_;refine qs ?_;refine qp ?_;refine qf ?_;refine qz ?_;refine qF ?_;refine S_exit O O ?_;refine qs ?_;refine qp ?_;refine qz ?_)
 exact hB _ _ _ _ _ O O (qE O)
def sameL (x y:Rs):List Bool:=[decide (x.me=y.me),decide (x.term=y.term),decide (x.vote=y.vote),decide (x.commit=y.commit),decide (x.role=y.role),decide (x.leader=y.leader),decide (x.clock=y.clock),decide (x.limit=y.limit),decide (x.base=y.base)&&decide (x.es=y.es),decide (x.cf=y.cf),decide (x.votes=y.votes),decide (x.peers=y.peers)]
theorem sameL_eq (x y:Rs):sameL x y=[decide (x.me=y.me),decide (x.term=y.term),decide (x.vote=y.vote),decide (x.commit=y.commit),decide (x.role=y.role),decide (x.leader=y.leader),decide (x.clock=y.clock),decide (x.limit=y.limit),decide (x.base=y.base)&&decide (x.es=y.es),decide (x.cf=y.cf),decide (x.votes=y.votes),decide (x.peers=y.peers)]:=rfl
theorem same_iff (x y:Rs):(sameL x y).all id=true↔x=y:=by
 obtain⟨x1,x2,x3,x4,x5,x6,x7,x8,x9,x10,x11,x12,x13⟩:=x
 obtain⟨y1,y2,y3,y4,y5,y6,y7,y8,y9,y10,y11,y12,y13⟩:=y
 simp only[sameL,List.all_cons,List.all_nil,Bool.and_eq_true,decide_eq_true_eq,id,Bool.and_true,Rs.mk.injEq]
 constructor
 ·rintro⟨h1,h2,h3,h4,h5,h6,h7,h8,⟨h9,h10⟩,h11,h12,h13⟩
  exact⟨h1,h2,h3,h9,h10,h11,h4,h5,h6,h7,h8,h12,h13⟩
 ·rintro⟨h1,h2,h3,h9,h10,h11,h4,h5,h6,h7,h8,h12,h13⟩
  exact⟨h1,h2,h3,h4,h5,h6,h7,h8,⟨h9,h10⟩,h11,h12,h13⟩
section
variable {n:Nat} {w0:World} {M:Nat→Prop} {T:Slots} {H:List Asn} {dd:Option Tmp} {tt:TypeId} {pos:String} {af:Array Edge} {g:Option (Nat×Bool)} {x y:Operand}
theorem T_nePe {u:TypeId} {a b:Pe} {r:Bool} (hx:oget T x=some (.agg (pec a).toArray)) (hy:oget T y=some (.agg (pec b).toArray)) (hr:decide (a=b)=r):
  Tk Tryz.prog n w0 M T H ⟨dd,.binOp .neq 112 x y u,tt,pos,af,g⟩ (.bool (!r)):=by
 refine T_neS (r:=r) hx hy (s:=112) (i:=ti112) O O (by kernel_rfl) (by kernel_rfl) O ?_
 subst hr
 obtain⟨a1,a2,a3⟩:=a
 obtain⟨b1,b2,b3⟩:=b
 show (a1==b1&&((a2:Int)==(b2:Int)&&((a3:Int)==(b3:Int)&&true)))=_
 rw[Bool.and_true,Bool.eq_iff_iff]
 simp
 omega
theorem T_build8 {s:TypeId} {j1 j2 j3 j4 j5 j6 j7 j8:Nat} {x1 x2 x3 x4 x5 x6 x7 x8:Operand} {u1 u2 u3 u4 u5 u6 u7 u8:Value} {cs:Array Value} {P:Program} (h1:oget T x1=some u1) (h2:oget T x2=some u2) (h3:oget T x3=some u3) (h4:oget T x4=some u4) (h5:oget T x5=some u5) (h6:oget T x6=some u6) (h7:oget T x7=some u7) (h8:oget T x8=some u8) (hb:P.built s [(j1,u1),(j2,u2),(j3,u3),(j4,u4),(j5,u5),(j6,u6),(j7,u7),(j8,u8)]=some cs):
  Tk P n w0 M T H ⟨dd,.build s #[(j1,x1),(j2,x2),(j3,x3),(j4,x4),(j5,x5),(j6,x6),(j7,x7),(j8,x8)],tt,pos,af,g⟩ (.agg cs):= .mk fun a w ha hS=>by
 have hr:=run_build (P:=P) w s #[(j1,u1),(j2,u2),(j3,u3),(j4,u4),(j5,u5),(j6,u6),(j7,u7),(j8,u8)] cs (by simpa using hb)
 simp only[execOp,List.map_toArray,List.map_cons,List.map_nil,ha.eval h1,ha.eval h2,ha.eval h3,ha.eval h4,ha.eval h5,ha.eval h6,ha.eval h7,ha.eval h8,Sem.run_bind,hr,Result.andThen_ok,Sem.run_pure]
end
theorem pe_eq {L M:List Pe} (hl:L.length=M.length) (h: ∀ i,i<L.length→L.getD i default=M.getD i default):L=M:=by
 refine List.ext_getElem hl fun i h1 h2=>?_
 have:=h i h1
 simpa[List.getD,h1,h2] using this
theorem cosD_k (w:World) (A A2:Option Addr) (n c n2 c2:Nat) (ms ks:List Int) (h:Rd w All 1 A n (ms.map zv)) (h2:Rd w All 1 A2 n2 (ks.map zv)) (hn:n≤1000) (hn2:n2≤1000) (r:Bool) (hr:decide (ms=ks)=r):
  Gives Tryz.prog 31 [C.cfv A n c,C.cfv A2 n2 c2] [] w (X:=Unit) (fun _=> .bool r) (fun _=>True) (fun _=>[]):=hr▸C.rsame_any w A A2 n c n2 c2 ms ks h h2 hn hn2
theorem sameDL_k (w:World) (A A2:Option Addr) (c c2' k k2:Nat) (Q M:List Em) (a b:At) (l l2:List En) (hk:Q.length=k) (hk2:M.length=k2) (hl:Q.map emv=l) (hl2:M.map emv=l2) (h:Rd w All 3 A k (cellsL emc Q)) (h2:Rd w All 3 A2 k2 (cellsL emc M)) (hq: ∀ m∈Q,BsM w m) (hm: ∀ m∈M,BsM w m) (hn:k≤100000) (hn2:k2≤100000) (r:Bool) (hr:(decide (a=b)&&decide (l=l2))=r):
  Gives Tryz.prog 69 [.agg (lgc a A k c).toArray,.agg (lgc b A2 k2 c2').toArray] [] w (X:=Unit) (fun _=> .bool r) (fun _=>True) (fun _=>[]):=by
 subst hk
 subst hk2
 subst hl
 subst hl2
 subst hr
 exact sameD_any w a b A A2 c c2' Q M h h2 hq hm hn hn2
theorem sameR_k (w:World) (x y:Rs) (p q:Rp) (h:RfR w x p) (h2:RfR w y q) (r:Bool) (hr:(sameL x y).all id=r):
  Gives Tryz.prog 22 [.agg (rfc x p).toArray,.agg (rfc y q).toArray] [] w (X:=Unit) (fun _=> .bool r) (fun _=>True) (fun _=>[]):=by
 refine gives_S Tryz.func22 O Tryz.ntmps22 Tryz.results22 (by simp) (St.enter w) (fun B hB=>?_)
 have z0:=h.hvn
 have z1:=h.hvm
 have z2:=h.hpn
 have z3:=h.hpm
 have z4:=h.lg.hcm
 have z5:=h.lg.hm
 have z6:=h2.hvn
 have z7:=h2.hvm
 have z8:=h2.hpn
 have z9:=h2.hpm
 have z10:=h2.lg.hcm
 have z11:=h2.lg.hm
 have hnv:0<p.vn→p.vA≠none:=fun h0=>by obtain⟨ad,e,_⟩:=h.rv.2 (by omega);rw[e];simp
 have hnv2:0<q.vn→q.vA≠none:=fun h0=>by obtain⟨ad,e,_⟩:=h2.rv.2 (by omega);rw[e];simp
 have hnp:0<p.pn→p.pA≠none:=fun h0=>by obtain⟨ad,e,_⟩:=h.rp.2 (by omega);rw[e];simp
 have hnp2:0<q.pn→q.pA≠none:=fun h0=>by obtain⟨ad,e,_⟩:=h2.rp.2 (by omega);rw[e];simp
 by_cases e0:x.me=y.me
 rotate_left
 ·obtain rfl:r=false:=by rw[← hr];exact all_no 0 (congrArg some (decide_eq_false e0))
  repeat' (first|refine R_take (T_decT O (by omega)) ?_ O O|refine R_p O ?_ O O|refine R_nil ?_|refine R_skip ?_ O O|refine R_take (T_load O O O O) ?_ O O|refine S_seq O ?_|refine S_region O O ?_|refine S_true O O ?_|(refine R_eff (E_boxa (cs:=rfc x p) O) ?_ O O;rintro _ _ ⟨b2,rfl,rfl⟩)|(refine R_eff (E_boxa (cs:=rfc y q) O) ?_ O O;rintro _ _ ⟨b3,rfl,rfl⟩))
  exact hB _ _ _ _ _ O O (qE O)
 by_cases e1:x.term=y.term
 rotate_left
 ·obtain rfl:r=false:=by rw[← hr];exact all_no 1 (congrArg some (decide_eq_false e1))
  repeat' (first|refine R_take (T_decT O (by omega)) ?_ O O|refine R_take (T_decF O (by omega)) ?_ O O|refine R_p O ?_ O O|refine R_nil ?_|refine R_skip ?_ O O|refine R_take (T_load O O O O) ?_ O O|refine S_seq O ?_|refine S_region O O ?_|refine S_true O O ?_|(refine R_eff (E_boxa (cs:=rfc x p) O) ?_ O O;rintro _ _ ⟨b2,rfl,rfl⟩)|(refine R_eff (E_boxa (cs:=rfc y q) O) ?_ O O;rintro _ _ ⟨b3,rfl,rfl⟩))
  exact hB _ _ _ _ _ O O (qE O)
 by_cases e2:x.vote=y.vote
 rotate_left
 ·obtain rfl:r=false:=by rw[← hr];exact all_no 2 (congrArg some (decide_eq_false e2))
  repeat' (first|refine R_take (T_decT O (by omega)) ?_ O O|refine R_take (T_decF O (by omega)) ?_ O O|refine R_p O ?_ O O|refine R_nil ?_|refine R_skip ?_ O O|refine R_take (T_load O O O O) ?_ O O|refine S_seq O ?_|refine S_region O O ?_|refine S_true O O ?_|(refine R_eff (E_boxa (cs:=rfc x p) O) ?_ O O;rintro _ _ ⟨b2,rfl,rfl⟩)|(refine R_eff (E_boxa (cs:=rfc y q) O) ?_ O O;rintro _ _ ⟨b3,rfl,rfl⟩))
  exact hB _ _ _ _ _ O O (qE O)
 by_cases e3:x.commit=y.commit
 rotate_left
 ·obtain rfl:r=false:=by rw[← hr];exact all_no 3 (congrArg some (decide_eq_false e3))
  repeat' (first|refine R_take (T_decT O (by omega)) ?_ O O|refine R_take (T_decF O (by omega)) ?_ O O|refine R_p O ?_ O O|refine R_nil ?_|refine R_skip ?_ O O|refine R_take (T_load O O O O) ?_ O O|refine S_seq O ?_|refine S_region O O ?_|refine S_true O O ?_|(refine R_eff (E_boxa (cs:=rfc x p) O) ?_ O O;rintro _ _ ⟨b2,rfl,rfl⟩)|(refine R_eff (E_boxa (cs:=rfc y q) O) ?_ O O;rintro _ _ ⟨b3,rfl,rfl⟩))
  exact hB _ _ _ _ _ O O (qE O)
 by_cases e4:x.role=y.role
 rotate_left
 ·obtain rfl:r=false:=by rw[← hr];exact all_no 4 (congrArg some (decide_eq_false e4))
  repeat' (first|refine R_take (T_decT O (by omega)) ?_ O O|refine R_take (T_decF O (by omega)) ?_ O O|refine R_p O ?_ O O|refine R_nil ?_|refine R_skip ?_ O O|refine R_take (T_load O O O O) ?_ O O|refine S_seq O ?_|refine S_region O O ?_|refine S_true O O ?_|(refine R_eff (E_boxa (cs:=rfc x p) O) ?_ O O;rintro _ _ ⟨b2,rfl,rfl⟩)|(refine R_eff (E_boxa (cs:=rfc y q) O) ?_ O O;rintro _ _ ⟨b3,rfl,rfl⟩))
  exact hB _ _ _ _ _ O O (qE O)
 by_cases e5:x.leader=y.leader
 rotate_left
 ·obtain rfl:r=false:=by rw[← hr];exact all_no 5 (congrArg some (decide_eq_false e5))
  repeat' (first|refine R_take (T_decT O (by omega)) ?_ O O|refine R_take (T_decF O (by omega)) ?_ O O|refine R_p O ?_ O O|refine R_nil ?_|refine R_skip ?_ O O|refine R_take (T_load O O O O) ?_ O O|refine S_seq O ?_|refine S_region O O ?_|refine S_true O O ?_|(refine R_eff (E_boxa (cs:=rfc x p) O) ?_ O O;rintro _ _ ⟨b2,rfl,rfl⟩)|(refine R_eff (E_boxa (cs:=rfc y q) O) ?_ O O;rintro _ _ ⟨b3,rfl,rfl⟩))
  exact hB _ _ _ _ _ O O (qE O)
 by_cases e6:x.clock=y.clock
 rotate_left
 ·obtain rfl:r=false:=by rw[← hr];exact all_no 6 (congrArg some (decide_eq_false e6))
  repeat' (first|refine R_take (T_decT O (by omega)) ?_ O O|refine R_take (T_decF O (by omega)) ?_ O O|refine R_p O ?_ O O|refine R_nil ?_|refine R_skip ?_ O O|refine R_take (T_load O O O O) ?_ O O|refine S_seq O ?_|refine S_region O O ?_|refine S_true O O ?_|(refine R_eff (E_boxa (cs:=rfc x p) O) ?_ O O;rintro _ _ ⟨b2,rfl,rfl⟩)|(refine R_eff (E_boxa (cs:=rfc y q) O) ?_ O O;rintro _ _ ⟨b3,rfl,rfl⟩))
  exact hB _ _ _ _ _ O O (qE O)
 by_cases e7:x.limit=y.limit
 rotate_left
 ·obtain rfl:r=false:=by rw[← hr];exact all_no 7 (congrArg some (decide_eq_false e7))
  repeat' (first|refine R_take (T_decT O (by omega)) ?_ O O|refine R_take (T_decF O (by omega)) ?_ O O|refine R_p O ?_ O O|refine R_nil ?_|refine R_skip ?_ O O|refine R_take (T_load O O O O) ?_ O O|refine S_seq O ?_|refine S_region O O ?_|refine S_true O O ?_|(refine R_eff (E_boxa (cs:=rfc x p) O) ?_ O O;rintro _ _ ⟨b2,rfl,rfl⟩)|(refine R_eff (E_boxa (cs:=rfc y q) O) ?_ O O;rintro _ _ ⟨b3,rfl,rfl⟩))
  exact hB _ _ _ _ _ O O (qE O)
 cases e8:decide (x.base=y.base)&&decide (x.es=y.es)
 ·obtain rfl:r=false:=by rw[← hr];exact all_no 8 (congrArg some e8)
  repeat' (first|refine R_take (T_decT O (by omega)) ?_ O O|refine R_take (T_decF O (by omega)) ?_ O O|refine R_p O ?_ O O|refine R_nil ?_|refine R_skip ?_ O O|refine R_take (T_loads (ds:=lgc x.base p.A p.n p.c) O O O O O) ?_ O O|refine R_take (T_loads (ds:=lgc y.base q.A q.n q.c) O O O O O) ?_ O O|refine R_take (T_load O O O O) ?_ O O|refine R_take (T_not O) ?_ O O|refine S_seq O ?_|refine S_region O O ?_|refine S_true O O ?_|(refine R_eff (E_boxa (cs:=rfc x p) O) ?_ O O;rintro _ _ ⟨b2,rfl,rfl⟩)|(refine R_eff (E_boxa (cs:=rfc y q) O) ?_ O O;rintro _ _ ⟨b3,rfl,rfl⟩)|(refine R_eff (E_hv0 (f:=69) F69 (fun w hS=>sameDL_k w p.A q.A p.c q.c p.n q.n p.Q q.Q x.base y.base x.es y.es h.lg.hn h2.lg.hn h.lg.hQ h2.lg.hQ (h.keep hS.kpO).lg.rq (h2.keep hS.kpO).lg.rq (h.keep hS.kpO).lg.bq (h2.keep hS.kpO).lg.bq (by omega) (by omega) _ e8) O O (fun _=>O)) ?_ O O;rintro _ _ ⟨_,rfl,_,rfl⟩))
  exact hB _ _ _ _ _ O O (qE O)
 cases e9:decide (x.cf=y.cf)
 ·obtain rfl:r=false:=by rw[← hr];exact all_no 9 (congrArg some e9)
  repeat' (first|refine R_take (T_decT O (by omega)) ?_ O O|refine R_take (T_decF O (by omega)) ?_ O O|refine R_p O ?_ O O|refine R_nil ?_|refine R_skip ?_ O O|refine R_take (T_loads (ds:=lgc x.base p.A p.n p.c) O O O O O) ?_ O O|refine R_take (T_loads (ds:=lgc y.base q.A q.n q.c) O O O O O) ?_ O O|refine R_take (T_loads (ds:=[.slice p.cA p.cn p.cc]) O O O O O) ?_ O O|refine R_take (T_loads (ds:=[.slice q.cA q.cn q.cc]) O O O O O) ?_ O O|refine R_take (T_load O O O O) ?_ O O|refine R_take (T_not O) ?_ O O|refine S_seq O ?_|refine S_region O O ?_|refine S_true O O ?_|(refine R_eff (E_boxa (cs:=rfc x p) O) ?_ O O;rintro _ _ ⟨b2,rfl,rfl⟩)|(refine R_eff (E_boxa (cs:=rfc y q) O) ?_ O O;rintro _ _ ⟨b3,rfl,rfl⟩)|(refine R_eff (E_hv0 (f:=69) F69 (fun w hS=>sameDL_k w p.A q.A p.c q.c p.n q.n p.Q q.Q x.base y.base x.es y.es h.lg.hn h2.lg.hn h.lg.hQ h2.lg.hQ (h.keep hS.kpO).lg.rq (h2.keep hS.kpO).lg.rq (h.keep hS.kpO).lg.bq (h2.keep hS.kpO).lg.bq (by omega) (by omega) _ e8) O O (fun _=>O)) ?_ O O;rintro _ _ ⟨_,rfl,_,rfl⟩)|(refine R_eff (E_hv0 (f:=31) F31 (fun w hS=>cosD_k w p.cA q.cA p.cn p.cc q.cn q.cc x.cf y.cf (h.keep hS.kpO).lg.rc (h2.keep hS.kpO).lg.rc (by omega) (by omega) _ e9) O O (fun _=>O)) ?_ O O;rintro _ _ ⟨_,rfl,_,rfl⟩))
  exact hB _ _ _ _ _ O O (qE O)
 by_cases e10:x.votes.length=y.votes.length
 rotate_left
 ·obtain rfl:r=false:=by rw[← hr];exact all_no 10 (congrArg some (decide_eq_false (fun e=>e10 (by rw[e]))))
  repeat' (first|refine R_take (T_decT O (by omega)) ?_ O O|refine R_take (T_decF O (by omega)) ?_ O O|refine R_p O ?_ O O|refine R_nil ?_|refine R_skip ?_ O O|refine R_take (T_loads (ds:=lgc x.base p.A p.n p.c) O O O O O) ?_ O O|refine R_take (T_loads (ds:=lgc y.base q.A q.n q.c) O O O O O) ?_ O O|refine R_take (T_loads (ds:=[.slice p.cA p.cn p.cc]) O O O O O) ?_ O O|refine R_take (T_loads (ds:=[.slice q.cA q.cn q.cc]) O O O O O) ?_ O O|refine R_take (T_load O O O O) ?_ O O|refine R_take (T_not O) ?_ O O|refine S_seq O ?_|refine S_region O O ?_|refine S_true O O ?_|(refine R_eff (E_boxa (cs:=rfc x p) O) ?_ O O;rintro _ _ ⟨b2,rfl,rfl⟩)|(refine R_eff (E_boxa (cs:=rfc y q) O) ?_ O O;rintro _ _ ⟨b3,rfl,rfl⟩)|(refine R_eff (E_hv0 (f:=69) F69 (fun w hS=>sameDL_k w p.A q.A p.c q.c p.n q.n p.Q q.Q x.base y.base x.es y.es h.lg.hn h2.lg.hn h.lg.hQ h2.lg.hQ (h.keep hS.kpO).lg.rq (h2.keep hS.kpO).lg.rq (h.keep hS.kpO).lg.bq (h2.keep hS.kpO).lg.bq (by omega) (by omega) _ e8) O O (fun _=>O)) ?_ O O;rintro _ _ ⟨_,rfl,_,rfl⟩)|(refine R_eff (E_hv0 (f:=31) F31 (fun w hS=>cosD_k w p.cA q.cA p.cn p.cc q.cn q.cc x.cf y.cf (h.keep hS.kpO).lg.rc (h2.keep hS.kpO).lg.rc (by omega) (by omega) _ e9) O O (fun _=>O)) ?_ O O;rintro _ _ ⟨_,rfl,_,rfl⟩))
  exact hB _ _ _ _ _ O O (qE O)
 by_cases e11:x.peers.length=y.peers.length
 rotate_left
 ·obtain rfl:r=false:=by rw[← hr];exact all_no 11 (congrArg some (decide_eq_false (fun e=>e11 (by rw[e]))))
  repeat' (first|refine R_take (T_decT O (by omega)) ?_ O O|refine R_take (T_decF O (by omega)) ?_ O O|refine R_p O ?_ O O|refine R_nil ?_|refine R_take (T_loads (ds:=lgc x.base p.A p.n p.c) O O O O O) ?_ O O|refine R_take (T_loads (ds:=lgc y.base q.A q.n q.c) O O O O O) ?_ O O|refine R_take (T_loads (ds:=[.slice p.cA p.cn p.cc]) O O O O O) ?_ O O|refine R_take (T_loads (ds:=[.slice q.cA q.cn q.cc]) O O O O O) ?_ O O|refine R_take (T_load O O O O) ?_ O O|refine R_take (T_not O) ?_ O O|refine S_seq O ?_|refine S_region O O ?_|refine S_true O O ?_|(refine R_eff (E_boxa (cs:=rfc x p) O) ?_ O O;rintro _ _ ⟨b2,rfl,rfl⟩)|(refine R_eff (E_boxa (cs:=rfc y q) O) ?_ O O;rintro _ _ ⟨b3,rfl,rfl⟩)|(refine R_eff (E_hv0 (f:=69) F69 (fun w hS=>sameDL_k w p.A q.A p.c q.c p.n q.n p.Q q.Q x.base y.base x.es y.es h.lg.hn h2.lg.hn h.lg.hQ h2.lg.hQ (h.keep hS.kpO).lg.rq (h2.keep hS.kpO).lg.rq (h.keep hS.kpO).lg.bq (h2.keep hS.kpO).lg.bq (by omega) (by omega) _ e8) O O (fun _=>O)) ?_ O O;rintro _ _ ⟨_,rfl,_,rfl⟩)|(refine R_eff (E_hv0 (f:=31) F31 (fun w hS=>cosD_k w p.cA q.cA p.cn p.cc q.cn q.cc x.cf y.cf (h.keep hS.kpO).lg.rc (h2.keep hS.kpO).lg.rc (by omega) (by omega) _ e9) O O (fun _=>O)) ?_ O O;rintro _ _ ⟨_,rfl,_,rfl⟩))
  exact hB _ _ _ _ _ O O (qE O)
 repeat' (first|refine R_take (T_decF O (by omega)) ?_ O O|refine R_p O ?_ O O|refine R_nil ?_|refine R_take (T_loads (ds:=lgc x.base p.A p.n p.c) O O O O O) ?_ O O|refine R_take (T_loads (ds:=lgc y.base q.A q.n q.c) O O O O O) ?_ O O|refine R_take (T_loads (ds:=[.slice p.cA p.cn p.cc]) O O O O O) ?_ O O|refine R_take (T_loads (ds:=[.slice q.cA q.cn q.cc]) O O O O O) ?_ O O|refine R_take (T_load O O O O) ?_ O O|refine R_take (T_not O) ?_ O O|refine S_seq O ?_|refine S_region O O ?_|refine S_false O O ?_|refine S_block O ?_|refine S_skip O ?_|(refine R_eff (E_boxa (cs:=rfc x p) O) ?_ O O;rintro _ _ ⟨b2,rfl,rfl⟩)|(refine R_eff (E_boxa (cs:=rfc y q) O) ?_ O O;rintro _ _ ⟨b3,rfl,rfl⟩)|(refine R_eff (E_hv0 (f:=69) F69 (fun w hS=>sameDL_k w p.A q.A p.c q.c p.n q.n p.Q q.Q x.base y.base x.es y.es h.lg.hn h2.lg.hn h.lg.hQ h2.lg.hQ (h.keep hS.kpO).lg.rq (h2.keep hS.kpO).lg.rq (h.keep hS.kpO).lg.bq (h2.keep hS.kpO).lg.bq (by omega) (by omega) _ e8) O O (fun _=>O)) ?_ O O;rintro _ _ ⟨_,rfl,_,rfl⟩)|(refine R_eff (E_hv0 (f:=31) F31 (fun w hS=>cosD_k w p.cA q.cA p.cn p.cc q.cn q.cc x.cf y.cf (h.keep hS.kpO).lg.rc (h2.keep hS.kpO).lg.rc (by omega) (by omega) _ e9) O O (fun _=>O)) ?_ O O;rintro _ _ ⟨_,rfl,_,rfl⟩))
 refine S_loop (X:=Nat) (fun j=>[(2,.pointer (some ⟨b2,0,none⟩)),(3,.pointer (some ⟨b3,0,none⟩)),(5,.int .i64 (j:Int))]) (fun _=>[pt b3 42 (rfc y q),pt b2 42 (rfc x p)]) (fun j=>j≤x.votes.length∧ ∀ i,i<j→x.votes.getD i 0=y.votes.getD i 0) (fun j=>x.votes.length-j) O 0 ⟨Nat.zero_le _,fun i hi=>by omega⟩ (Sub.cons O (Sub.cons O (Sub.cons O Sub.nil))) sub_st ?_
 rintro j ⟨hj,hok⟩ J hJ
 rcases Nat.lt_or_ge j x.votes.length with hjl|hjl
 ·have hnv:=hnv (by omega)
  have hnv2:=hnv2 (by omega)
  have hat:=zv_at (l:=x.votes) (j:=j) hjl
  have hat2:=zv_at (l:=y.votes) (j:=j) (by omega)
  have hne3:x.votes.getD j 0≠y.votes.getD j 0→r=false:=fun e=>by rw[← hr];exact all_no 10 (congrArg some (decide_eq_false fun e2=>e (by rw[e2])))
  have hnx:x.votes.getD j 0=y.votes.getD j 0→ ∀ i,i<j+1→x.votes.getD i 0=y.votes.getD i 0:=fun e i hi=>by
   rcases Nat.lt_or_ge i j with h3|h3
   ·exact hok i h3
   ·rw[show i=j by omega];exact e
  obtain⟨u,hu⟩: ∃ u,x.votes.getD j 0=u:=⟨_,O⟩
  obtain⟨v,hv⟩: ∃ u,y.votes.getD j 0=u:=⟨_,O⟩
  rw[hu] at hat hne3 hnx
  rw[hv] at hat2 hne3 hnx
  by_cases huv:u=v
  ·focus (refine qq ?_;refine qs ?_;refine qp ?_;refine qp ?_;refine qt (T_load O O O O) ?_;refine qp ?_;refine qd ?_;refine qz ?_;refine qT ?_;refine qx ?_;refine qq ?_;refine qb ?_;refine qq ?_;(refine S_draw _ (fun _ h=>h) (by kernel_rfl) O (by kernel_rfl) (rfl:_=11) ?_;(refine dp 0 ?_);(refine dl 1 ?_);(refine dp 2 ?_);(refine dt 3 O (T_ix1 O O O O O O hnv (by omega)) ?_);(refine dt 4 O (T_ldr (v:=zv u) O O O (Srd.old h.rv (fun k _=>noOwns k)) (by omega) hat) ?_);(refine dp 5 ?_);(refine dl 6 ?_);(refine dp 7 ?_);(refine dt 8 O (T_ix1 O O O O O O hnv2 (by omega)) ?_);(refine dt 9 O (T_ldr (v:=zv v) O O O (Srd.old h2.rv (fun k _=>noOwns k)) (by omega) hat2) ?_);(refine dqF 10 ?_);refine dn ?_);refine qF ?_;refine qx ?_;refine RS_blk ?_;refine qr ?_;refine qp ?_;refine qt (T_addN O O (by unfold fits;omega)) ?_;refine qp ?_;refine qz ?_)
   exact hJ (j+1) _ _ ⟨by omega,hnx huv⟩ (Sub.cons O (Sub.cons O (Sub.cons O Sub.nil))) sub_st (by omega)
  ·obtain rfl:r=false:=hne3 huv
   focus (refine qq ?_;refine qs ?_;refine qp ?_;refine qp ?_;refine qt (T_load O O O O) ?_;refine qp ?_;refine qd ?_;refine qz ?_;refine qT ?_;refine qx ?_;refine qq ?_;refine qb ?_;refine qq ?_;(refine S_draw _ (fun _ h=>h) (by kernel_rfl) O (by kernel_rfl) (rfl:_=11) ?_;(refine dp 0 ?_);(refine dl 1 ?_);(refine dp 2 ?_);(refine dt 3 O (T_ix1 O O O O O O hnv (by omega)) ?_);(refine dt 4 O (T_ldr (v:=zv u) O O O (Srd.old h.rv (fun k _=>noOwns k)) (by omega) hat) ?_);(refine dp 5 ?_);(refine dl 6 ?_);(refine dp 7 ?_);(refine dt 8 O (T_ix1 O O O O O O hnv2 (by omega)) ?_);(refine dt 9 O (T_ldr (v:=zv v) O O O (Srd.old h2.rv (fun k _=>noOwns k)) (by omega) hat2) ?_);(refine dqT 10 ?_);refine dn ?_);refine qT ?_;refine qs ?_;refine qp ?_;refine qz ?_)
   exact hB _ _ _ _ _ O O (qE O)
 have hjn:j=x.votes.length:=by omega
 subst hjn
 have ev:x.votes=y.votes:=cf_eq e10 (fun i hi=>hok i hi)
 focus (refine qq ?_;refine qs ?_;refine qp ?_;refine qp ?_;refine qt (T_load O O O O) ?_;refine qp ?_;refine qf ?_;refine qz ?_;refine qF ?_;refine S_exit O O ?_;refine qq ?_;refine qs ?_;refine qp ?_;refine qz ?_;refine qb ?_)
 refine S_loop (X:=Nat) (fun j=>[(2,.pointer (some ⟨b2,0,none⟩)),(3,.pointer (some ⟨b3,0,none⟩)),(6,.int .i64 (j:Int))]) (fun _=>[pt b3 42 (rfc y q),pt b2 42 (rfc x p)]) (fun j=>j≤x.peers.length∧ ∀ i,i<j→x.peers.getD i default=y.peers.getD i default) (fun j=>x.peers.length-j) O 0 ⟨Nat.zero_le _,fun i hi=>by omega⟩ (Sub.cons O (Sub.cons O (Sub.cons O Sub.nil))) sub_st ?_
 rintro j ⟨hj,hok⟩ J hJ
 rcases Nat.lt_or_ge j x.peers.length with hjl|hjl
 ·have hnp:=hnp (by omega)
  have hnp2:=hnp2 (by omega)
  have hat:=cellsL_at (f:=pec) pec_len x.peers default j (by omega)
  have hat2:=cellsL_at (f:=pec) pec_len y.peers default j (by omega)
  have hne3:x.peers.getD j default≠y.peers.getD j default→r=false:=fun e=>by rw[← hr];exact all_no 11 (congrArg some (decide_eq_false fun e2=>e (by rw[e2])))
  have hnx:x.peers.getD j default=y.peers.getD j default→ ∀ i,i<j+1→x.peers.getD i default=y.peers.getD i default:=fun e i hi=>by
   rcases Nat.lt_or_ge i j with h3|h3
   ·exact hok i h3
   ·rw[show i=j by omega];exact e
  obtain⟨u,hu⟩: ∃ u,x.peers.getD j default=u:=⟨_,O⟩
  obtain⟨v,hv⟩: ∃ u,y.peers.getD j default=u:=⟨_,O⟩
  rw[hu] at hat hne3 hnx
  rw[hv] at hat2 hne3 hnx
  cases huv:decide (u=v)
  ·obtain rfl:r=false:=hne3 (of_decide_eq_false huv)
   focus (refine qq ?_;refine qs ?_;refine qp ?_;refine qp ?_;refine qt (T_load O O O O) ?_;refine qp ?_;refine qd ?_;refine qz ?_;refine qT ?_;refine qx ?_;refine qq ?_;refine qb ?_;refine qq ?_;(refine S_draw _ (fun _ h=>h) (by kernel_rfl) O (by kernel_rfl) (rfl:_=11) ?_;(refine dp 0 ?_);(refine dl 1 ?_);(refine dp 2 ?_);(refine dt 3 O (T_ixM (sz:=3) O O O O O O hnp (by omega)) ?_);(refine dt 4 O (T_lda (ds:=pec u) O O O (Srd.old h.rp (fun k _=>noOwns k)) O (by omega) hat) ?_);(refine dp 5 ?_);(refine dl 6 ?_);(refine dp 7 ?_);(refine dt 8 O (T_ixM (sz:=3) O O O O O O hnp2 (by omega)) ?_);(refine dt 9 O (T_lda (ds:=pec v) O O O (Srd.old h2.rp (fun k _=>noOwns k)) O (by omega) hat2) ?_);(refine dt 10 O (T_nePe (a:=u) (b:=v) O O huv) ?_);refine dn ?_);refine qT ?_;refine qs ?_;refine qp ?_;refine qz ?_)
   exact hB _ _ _ _ _ O O (qE O)
  ·focus (refine qq ?_;refine qs ?_;refine qp ?_;refine qp ?_;refine qt (T_load O O O O) ?_;refine qp ?_;refine qd ?_;refine qz ?_;refine qT ?_;refine qx ?_;refine qq ?_;refine qb ?_;refine qq ?_;(refine S_draw _ (fun _ h=>h) (by kernel_rfl) O (by kernel_rfl) (rfl:_=11) ?_;(refine dp 0 ?_);(refine dl 1 ?_);(refine dp 2 ?_);(refine dt 3 O (T_ixM (sz:=3) O O O O O O hnp (by omega)) ?_);(refine dt 4 O (T_lda (ds:=pec u) O O O (Srd.old h.rp (fun k _=>noOwns k)) O (by omega) hat) ?_);(refine dp 5 ?_);(refine dl 6 ?_);(refine dp 7 ?_);(refine dt 8 O (T_ixM (sz:=3) O O O O O O hnp2 (by omega)) ?_);(refine dt 9 O (T_lda (ds:=pec v) O O O (Srd.old h2.rp (fun k _=>noOwns k)) O (by omega) hat2) ?_);(refine dt 10 O (T_nePe (a:=u) (b:=v) O O huv) ?_);refine dn ?_);refine qF ?_;refine qx ?_;refine RS_blk ?_;refine qr ?_;refine qp ?_;refine qt (T_addN O O (by unfold fits;omega)) ?_;refine qp ?_;refine qz ?_)
   exact hJ (j+1) _ _ ⟨by omega,hnx (of_decide_eq_true huv)⟩ (Sub.cons O (Sub.cons O (Sub.cons O Sub.nil))) sub_st (by omega)
 have hjn:j=x.peers.length:=by omega
 subst hjn
 have ep:x.peers=y.peers:=pe_eq e11 (fun i hi=>hok i hi)
 obtain rfl:r=true:=by
  rw[← hr,sameL_eq,e8,e9,decide_eq_true e0,decide_eq_true e1,decide_eq_true e2,decide_eq_true e3,decide_eq_true e4,decide_eq_true e5,decide_eq_true e6,decide_eq_true e7,decide_eq_true ev,decide_eq_true ep]
  rfl
 focus (refine qq ?_;refine qs ?_;refine qp ?_;refine qp ?_;refine qt (T_load O O O O) ?_;refine qp ?_;refine qf ?_;refine qz ?_;refine qF ?_;refine S_exit O O ?_;refine qs ?_;refine qp ?_;refine qz ?_)
 exact hB _ _ _ _ _ O O (qE O)
theorem bclone2_any (w:World) (A:Option Addr) (n c:Nat) (xs:List Value) (h:Rd w All 1 A n xs) (h1: ∀ v∈xs,v.oneCell'=true) (hn:n≤100000):
  Gives Tryz.prog 47 [.slice A n c] [] w (X:=Option Addr×Nat) (fun x=> .slice x.1 n x.2) (fun _=>True) (fun x=>[row 5 1 x.1 n x.2 xs]):=by
 refine gives_S Tryz.func47 O Tryz.ntmps47 Tryz.results47 (by simp) (St.enter w) (fun B hB=>?_)
 cases hA:A with
 |none=>
  subst hA
  have hn0:n=0:=by
   rcases Nat.eq_zero_or_pos n with h0|h0
   ·exact h0
   ·obtain⟨ad,e,_⟩:=h.2 h0
    cases e
  subst hn0
  obtain rfl:xs=[]:=List.eq_nil_of_length_eq_zero (by simpa using h.1)
  repeat' (first|refine R_p O ?_ O O|refine R_nil ?_|refine R_take (T_eqnil O O O O) ?_ O O|refine S_seq O ?_|refine S_region O O ?_|refine S_true O O ?_)
  all_goals (try (exfalso;simp_all;done))
  refine hB _ _ _ _ _ O O fun w' hS=>⟨(none,0),O,trivial,(hS.sublist (List.nil_sublist _)).nilrow _ _⟩
 |some ad=>
  subst hA
  focus (refine qs ?_;refine qp ?_;refine qz ?_;refine qq ?_;refine qs ?_;refine qp ?_;refine qt (T_eqnil O O O O) ?_;refine qz ?_;refine qF ?_;refine qx ?_;refine qs ?_;(refine qe (E_lit1 (m:=0) (vs:=[]) O O O O O O O (by simp) (by decide)) ?_;rintro _ _ ⟨bl,rfl,rfl⟩);refine qp ?_;(refine qe (E_apple (sz:=1) O O O O O O O (by decide) .here (Srd.old h (fun k _=>noOwns k)) h1 (by show n*1≤_;omega) (by unfold maxLen;omega)) ?_;rintro _ _ ⟨A',c',rfl,rfl⟩);refine qp ?_;refine qz ?_)
  all_goals (try (exfalso;simp_all;done))
  refine hB _ _ _ _ _ O O fun w' hS=>⟨(A',c'),O,trivial,hS⟩
theorem pclone_any (w:World) (A:Option Addr) (n c:Nat) (xs:List Value) (h:Rd w All 3 A n xs) (h1: ∀ v∈xs,v.oneCell'=true) (hn:n≤1000):
  Gives Tryz.prog 108 [.slice A n c] [] w (X:=Option Addr×Nat) (fun x=> .slice x.1 n x.2) (fun _=>True) (fun x=>[row 112 3 x.1 n x.2 xs]):=by
 refine gives_S Tryz.func108 O Tryz.ntmps108 Tryz.results108 (by simp) (St.enter w) (fun B hB=>?_)
 cases hA:A with
 |none=>
  subst hA
  have hn0:n=0:=by
   rcases Nat.eq_zero_or_pos n with h0|h0
   ·exact h0
   ·obtain⟨ad,e,_⟩:=h.2 h0
    cases e
  subst hn0
  obtain rfl:xs=[]:=List.eq_nil_of_length_eq_zero (by simpa using h.1)
  repeat' (first|refine R_p O ?_ O O|refine R_nil ?_|refine R_take (T_eqnil O O O O) ?_ O O|refine S_seq O ?_|refine S_region O O ?_|refine S_true O O ?_)
  all_goals (try (exfalso;simp_all;done))
  refine hB _ _ _ _ _ O O fun w' hS=>⟨(none,0),O,trivial,(hS.sublist (List.nil_sublist _)).nilrow _ _⟩
 |some ad=>
  subst hA
  focus (refine qs ?_;refine qp ?_;refine qz ?_;refine qq ?_;refine qs ?_;refine qp ?_;refine qt (T_eqnil O O O O) ?_;refine qz ?_;refine qF ?_;refine qx ?_;refine qs ?_;(refine qe (E_litS (vs:=[]) (size:=3) (ds:=[]) O O O O O O (by simp) O (by omega)) ?_;rintro _ _ ⟨bl,rfl,rfl⟩);refine qp ?_;(refine qe (E_apple (sz:=3) O O O O O O O (by decide) .here (Srd.old h (fun k _=>noOwns k)) h1 (by show n*24≤_;omega) (by unfold maxLen;omega)) ?_;rintro _ _ ⟨A',c',rfl,rfl⟩);refine qp ?_;refine qz ?_)
  all_goals (try (exfalso;simp_all;done))
  refine hB _ _ _ _ _ O O fun w' hS=>⟨(A',c'),O,trivial,hS⟩
theorem pe_ones (l:List Pe): ∀ v∈cellsL pec l,v.oneCell'=true:=fun v hv=>by
 obtain⟨p,_,h⟩:=List.mem_flatMap.1 hv
 exact pec_one p v h
structure RpOk (x:Rs) (p:Rp):Prop where
 hQ:p.Q.map emv=x.es
 hn:p.Q.length=p.n
 hcn:x.cf.length=p.cn
 hvn:x.votes.length=p.vn
 hpn:x.peers.length=p.pn
abbrev rfO (x:Rs) (p:Rp):List Asn:=[row 59 3 p.A p.n p.c (cellsL emc p.Q),dtB 5 (p.Q.map emd),row 3 1 p.cA p.cn p.cc (x.cf.map zv),row 3 1 p.vA p.vn p.vc (x.votes.map zv),row 112 3 p.pA p.pn p.pc (cellsL pec x.peers)]
theorem rcopied_any (w:World) (x:Rs) (p:Rp) (h:RfR w x p):
  Gives Tryz.prog 37 [.agg (rfc x p).toArray] [] w (X:=Rp) (fun q=> .agg (rfc x q).toArray) (fun q=>RpOk x q∧q.n=p.n∧q.cn=p.cn∧q.vn=p.vn∧q.pn=p.pn) (fun q=>rfO x q):=by
 refine gives_C Tryz.func37 O Tryz.ntmps37 Tryz.results37 (by simp) (St.enter w) (fun B hB=>?_)
 have hne:0<p.n→p.A≠none:=fun h0=>by obtain⟨ad,e,_⟩:=h.lg.rq.2 (by omega);rw[e];simp
 have hnn:=h.lg.hn
 have hnm:=h.lg.hm
 have hcm:=h.lg.hcm
 have hvm:=h.hvm
 have hpm:=h.hpm
 repeat' (first|refine R_p O ?_ O O|refine R_nil ?_|refine R_take (T_load O O O O) ?_ O O|refine S_seq O ?_|refine S_region O O ?_|refine S_block O ?_|(refine R_eff (E_boxa (cs:=rfc x p) O) ?_ O O;rintro _ _ ⟨b1,rfl,rfl⟩)|(refine R_eff (E_alloca O rf_zero) ?_ O O;rintro _ _ ⟨b2,rfl,rfl⟩))
 refine S_loop (X:=Nat×(Option Addr×Nat)×List Em) (fun z=>[(1,.pointer (some ⟨b1,0,none⟩)),(2,.pointer (some ⟨b2,0,none⟩)),(3,.slice z.2.1.1 z.1 z.2.1.2),(8,.slice p.A p.n p.c),(9,.int .i64 (p.n:Int)),(10,.int .i64 (z.1:Int))]) (fun z=>[row 59 3 z.2.1.1 z.1 z.2.1.2 (cellsL emc z.2.2),dtB 5 (z.2.2.map emd),pt b2 42 (rfc rs0 rp0),pt b1 42 (rfc x p)]) (fun z=>z.1≤p.n∧z.2.2.map emv=(p.Q.take z.1).map emv) (fun z=>p.n-z.1) O (0,(none,0),[]) ⟨Nat.zero_le _,O⟩ (Sub.cons O (Sub.cons O (Sub.cons O (Sub.cons O (Sub.cons O (Sub.cons O Sub.nil)))))) (fun w hS=>sub_st (H':=[row 59 3 none 0 0 [],dtB 5 [],pt b2 42 (rfc rs0 rp0),pt b1 42 (rfc x p)]) w ((dtB_nil (e:=5) hS).nilrow 59 3)) ?_
 rintro⟨j,⟨A5,c5⟩,P⟩ ⟨hj,hP⟩ J hJ
 dsimp only at hj hP ⊢
 rcases Nat.lt_or_ge j p.n with hjl|hjl
 ·have hne:=hne (by omega)
  have hat:=cellsL_at (f:=emc) emc_len p.Q default j (by omega)
  obtain⟨m,hm⟩: ∃ m,p.Q.getD j default=m:=⟨_,O⟩
  have hmem:m∈p.Q:=by rw[← hm];simp[List.getD,show j<p.Q.length by omega]
  rw[hm] at hat
  have hnx:=emv_take p.Q j (by omega) hm
  have hkm:=h.lg.hd m hmem
  have hd1:=(h.lg.bq m hmem).rd
  obtain⟨t,kd,D,cd,bs⟩:=m
  obtain⟨q,hql⟩: ∃ q,bs.length=q:=⟨_,O⟩
  have hkm:bs.length≤100000:=hkm
  have hd1:Rd w All 1 D bs.length (bs.map bv):=hd1
  have hat: ∀ e v,([.int .u64 (t:Int),.int .i64 kd,.slice D bs.length cd]:List Value)[e]? =some v→(cellsL emc p.Q)[j*3+e]? =some v:=hat
  rw[hql] at hkm hd1 hat
  focus (refine qs ?_;refine qd ?_;refine qz ?_;refine qq ?_;refine qT ?_;refine qx ?_;refine qq ?_;refine qb ?_;refine qs ?_;refine qt (T_ixM (sz:=3) O O O O O O hne hjl) ?_;refine qt (T_lda (ds:=[.int .u64 (t:Int),.int .i64 kd,.slice D q cd]) O O O (Srd.old h.lg.rq (fun k _=>noOwns k)) O (by omega) hat) ?_;(refine qe (E_alloca O em_zero) ?_;rintro _ _ ⟨b7,rfl,rfl⟩);(refine qw (E_storew (cs:=emc (0,0,none,0,[])) (ds:=[.int .u64 (t:Int),.int .i64 kd,.slice D q cd]) O O O O (by simp[Value.oneCell']) O) ?_;rintro _ _ rfl);refine qn ?_;refine qp ?_;refine qt (T_load O O O O) ?_;(refine qe (E_hv1 (f:=47) F47 (fun w hS=>bclone2_any w D q cd (bs.map bv) ((Srd.old hd1 (fun k _=>noOwns k)).rd w hS) (bv_ones _) (by omega)) O O (fun _=>O)) ?_;rintro _ _ ⟨⟨A',c'⟩,rfl,_,rfl⟩);refine qp ?_;(refine qw (E_store1 O O O O O O (by show _<3;omega)) ?_;rintro _ _ rfl);refine qz ?_;refine qr ?_;refine qp ?_;refine qt (T_loads (ds:=[.int .u64 (t:Int),.int .i64 kd,.slice A' q c']) O O O O O) ?_;(refine qe (E_litS (vs:=[.agg [.int .u64 (t:Int),.int .i64 kd,.slice A' q c'].toArray]) (size:=3) (ds:=[.int .u64 (t:Int),.int .i64 kd,.slice A' q c']) O O O O O O (by simp[vcells]) O (by omega)) ?_;rintro _ _ ⟨vb,rfl,rfl⟩);(refine qe (E_appS (sz:=3) (m:=j) (c:=c5) (A:=A5) O O O O O O O (by decide) (Srd.pt (n:=1) (g:=vb) (ds:=[.int .u64 (t:Int),.int .i64 kd,.slice A' q c']) O (fun j u hj=>by rw[Nat.zero_add];exact hj)) (by simp[Value.oneCell']) (by show (j+1)*40≤_;omega) (by unfold maxLen;omega)) ?_;rintro _ _ ⟨A7,c7,rfl,rfl⟩);refine qp ?_;refine qz ?_;refine RS_blk ?_;refine qr ?_;refine qt (T_addN O O (by unfold fits;omega)) ?_;refine qp ?_;refine qz ?_)
  refine hJ (j+1,(A7,c7),P++[(t,kd,A',c',bs)]) _ _ ⟨by show j+1≤_;omega,by dsimp only;rw[hnx,List.map_append,hP];rfl⟩ (Sub.cons O (Sub.cons O (Sub.cons O (Sub.cons O (Sub.cons O (Sub.cons O Sub.nil)))))) (fun w' hS=>?_) (by show p.n-(j+1)<_;omega)
  dsimp only
  have e1:emc (t,kd,A',c',bs)=[.int .u64 (t:Int),.int .i64 kd,.slice A' q c']:=by
   show [Value.int .u64 (t:Int),.int .i64 kd,.slice A' bs.length c']=_
   rw[hql]
  have h1:=sub_st (H':=[row 5 1 A' q c' (bs.map bv),dtB 5 (P.map emd),row 59 3 A7 (j+1) c7 (cellsL emc P++[.int .u64 (t:Int),.int .i64 kd,.slice A' q c']),pt b2 42 (rfc rs0 rp0),pt b1 42 (rfc x p)]) w' hS
  have h2:St w (owns []) [dtA 5 (A',c',bs),dtB 5 (P.map emd),row 59 3 A7 (j+1) c7 (cellsL emc P++[.int .u64 (t:Int),.int .i64 kd,.slice A' q c']),pt b2 42 (rfc rs0 rp0),pt b1 42 (rfc x p)] w':=by
   unfold dtA
   rw[hql]
   exact h1
  have h3:=dtB_put h2
  rw[cellsL_app,cellsL_one,e1,List.map_append]
  exact sub_st (H':=[row 59 3 A7 (j+1) c7 (cellsL emc P++[.int .u64 (t:Int),.int .i64 kd,.slice A' q c']),dtB 5 (P.map emd++[(A',c',bs)]),pt b2 42 (rfc rs0 rp0),pt b1 42 (rfc x p)]) w' h3
 have hjq:j=p.n:=by omega
 subst hjq
 rw[← hnn,List.take_length,h.lg.hQ] at hP
 have hPl:P.length=p.n:=by rw[← hnn, ← List.length_map (f:=emv),hP, ← h.lg.hQ,List.length_map]
 focus (refine qs ?_;refine qf ?_;refine qz ?_;refine qq ?_;refine qF ?_;refine S_exit O O ?_;refine qq ?_)
 refine S_draw ([pt b1 42 (rfc x p)]) sub_st (by kernel_rfl) O (by kernel_rfl) (by kernel_rfl:_=21) ?_
 refine dp 0 ?_
 refine dp 1 ?_
 refine dp 2 ?_
 refine dl 3 ?_
 refine dp 5 ?_
 refine dl 6 ?_
 refine dp 8 ?_
 refine dl 9 ?_
 refine dp 11 ?_
 refine dp 12 ?_
 refine D_one 4 O (E_hv1 (f:=92) F92 (fun w hS=>C.clone_any w p.cA p.cn p.cc (x.cf.map zv) (h.keep hS.kpO).lg.rc (C.zv_ones _) (by omega)) O O (fun _=>O)) ?_ O O (by kernel_rfl)
 rintro _ _ ⟨⟨Ac,cc⟩,rfl,_,rfl⟩
 refine Nx_all sub_st ?_
 refine D_one 7 O (E_hv1 (f:=92) F92 (fun w hS=>C.clone_any w p.vA p.vn p.vc (x.votes.map zv) (h.keep hS.kpO).rv (C.zv_ones _) (by omega)) O O (fun _=>O)) ?_ O O (by kernel_rfl)
 rintro _ _ ⟨⟨Av,cv⟩,rfl,_,rfl⟩
 refine Nx_all sub_st ?_
 refine D_one 10 O (E_hv1 (f:=108) F108 (fun w hS=>pclone_any w p.pA p.pn p.pc (cellsL pec x.peers) (h.keep hS.kpO).rp (pe_ones _) (by omega)) O O (fun _=>O)) ?_ O O (by kernel_rfl)
 rintro _ _ ⟨⟨Ap,cp⟩,rfl,_,rfl⟩
 refine Nx_all sub_st ?_
 refine D_one 13 O (E_storeA1 (cs:=rfc x p) (cs':=rfc x ⟨A5,p.n,c5,P,p.cA,p.cn,p.cc,p.vA,p.vn,p.vc,p.pA,p.pn,p.pc⟩) O O O O O O (by show _<14;omega)) ?_ O O (by kernel_rfl)
 rintro _ _ rfl
 refine Nx_pivot (by kernel_rfl) ?_
 refine dp 14 ?_
 refine dp 15 ?_
 refine D_one 16 O (E_storeA1 (cs:=rfc x ⟨A5,p.n,c5,P,p.cA,p.cn,p.cc,p.vA,p.vn,p.vc,p.pA,p.pn,p.pc⟩) (cs':=rfc x ⟨A5,p.n,c5,P,Ac,p.cn,cc,p.vA,p.vn,p.vc,p.pA,p.pn,p.pc⟩) O O O O O O (by show _<14;omega)) ?_ O O (by kernel_rfl)
 rintro _ _ rfl
 refine Nx_pivot (by kernel_rfl) ?_
 refine dp 17 ?_
 refine D_one 18 O (E_storeA1 (cs:=rfc x ⟨A5,p.n,c5,P,Ac,p.cn,cc,p.vA,p.vn,p.vc,p.pA,p.pn,p.pc⟩) (cs':=rfc x ⟨A5,p.n,c5,P,Ac,p.cn,cc,Av,p.vn,cv,p.pA,p.pn,p.pc⟩) O O O O O O (by show _<14;omega)) ?_ O O (by kernel_rfl)
 rintro _ _ rfl
 refine Nx_pivot (by kernel_rfl) ?_
 refine dp 19 ?_
 refine D_one 20 O (E_storeA1 (cs:=rfc x ⟨A5,p.n,c5,P,Ac,p.cn,cc,Av,p.vn,cv,p.pA,p.pn,p.pc⟩) (cs':=rfc x ⟨A5,p.n,c5,P,Ac,p.cn,cc,Av,p.vn,cv,Ap,p.pn,cp⟩) O O O O O O (by show _<14;omega)) ?_ O O (by kernel_rfl)
 rintro _ _ rfl
 refine Nx_pivot (by kernel_rfl) ?_
 refine dn ?_
 skip
 focus (refine qs ?_;refine qt (T_loads (ds:=rfc x ⟨A5,p.n,c5,P,Ac,p.cn,cc,Av,p.vn,cv,Ap,p.pn,cp⟩) O O O O O) ?_;(refine qw (E_storew (cs:=rfc rs0 rp0) (ds:=rfc x ⟨A5,p.n,c5,P,Ac,p.cn,cc,Av,p.vn,cv,Ap,p.pn,cp⟩) O O O O (rfc_one _ _) O) ?_;rintro _ _ rfl);refine qz ?_)
 refine hB _ _ _ _ _ O (.cell O O O inferInstance O .nil) fun w' hS=>⟨⟨A5,p.n,c5,P,Ac,p.cn,cc,Av,p.vn,cv,Ap,p.pn,cp⟩,O,⟨⟨hP,hPl,h.lg.hcn,h.hvn,h.hpn⟩,O,O,O,O⟩,sub_st _ hS⟩
theorem rf_built8 (me:Int) (tm:Nat) (vt:Int) (b:At) (A:Option Addr) (n c:Nat) (cA:Option Addr) (cn cc:Nat) (cm:Nat) (lim:Int):Tryz.prog.built 42 [(0,.int .i64 me),(1,.int .u64 (tm:Int)),(2,.int .i64 vt),(3,.agg (lgc b A n c).toArray),(4,.agg [Value.slice cA cn cc].toArray),(5,.int .u64 (cm:Int)),(6,.int .i64 1),(9,.int .i64 lim)]=some (rfc ⟨me,tm,vt,b,[],[],cm,1,0,0,lim,[],[]⟩ ⟨A,n,c,[],cA,cn,cc,none,0,0,none,0,0⟩).toArray:=by kernel_rfl
theorem LgR.ed {w:World} {x:Rs} {p:Rp} (h:LgR w x p): ∀ e∈x.es,e.2.2.length≤100000:=fun e he=>by
 rw[← h.hQ] at he
 obtain⟨m,hm,rfl⟩:=List.mem_map.1 he
 exact h.hd m hm
theorem lgO_lg {w:World} {x:Rs} {p:Rp} (h1:(row 59 3 p.A p.n p.c (cellsL emc p.Q)).holds w) (h2:(dtB 5 (p.Q.map emd)).holds w) (h3:Rd w All 1 p.cA p.cn (x.cf.map zv)) (hQ:p.Q.map emv=x.es) (hn:p.Q.length=p.n) (hcn:x.cf.length=p.cn) (n1:p.n≤1000) (n2:p.cn≤900) (hd: ∀ e∈x.es,e.2.2.length≤100000):LgR w x p:=
 ⟨hn,n1,(row_facts h1).1,hQ,row_rd h1,fun m hm=>dtB_bsW h2 (emd m) (List.mem_map.2 ⟨m,hm,O⟩),fun m hm=>hd (emv m) (by rw[← hQ];exact List.mem_map.2 ⟨m,hm,O⟩),hcn,n2,h3⟩
theorem rfO_rf {w:World} {x:Rs} {p:Rp} (h: ∀ A∈rfO x p,A.holds w) (ok:RpOk x p) (n1:p.n≤1000) (n2:p.cn≤900) (n3:p.vn≤900) (n4:p.pn≤900) (hd: ∀ e∈x.es,e.2.2.length≤100000) (hu:RsU x):RfR w x p:=
 ⟨lgO_lg (h _ (by simp)) (h _ (by simp)) (row_rd (h (row 3 1 p.cA p.cn p.cc (x.cf.map zv)) (by simp))) ok.hQ ok.hn ok.hcn n1 n2 hd,ok.hvn,n3,row_rd (h (row 3 1 p.vA p.vn p.vc (x.votes.map zv)) (by simp)),ok.hpn,n4,row_rd (h (row 112 3 p.pA p.pn p.pc (cellsL pec x.peers)) (by simp)),hu⟩
theorem start_ok (w:World) (me:Int) (tm:Nat) (vt:Int) (b:At) (es:List En) (cf:List Int) (lim:Int) (A:Option Addr) (n c:Nat) (Q:List Em) (cA:Option Addr) (cn cc:Nat) (h:RfR w ⟨me,tm,vt,b,es,cf,b.1,1,0,0,lim,[],[]⟩ ⟨A,n,c,Q,cA,cn,cc,none,0,0,none,0,0⟩) (hr:checkB ⟨me,tm,vt,b,es,cf,b.1,1,0,0,lim,[],[]⟩=true):
  Gives Tryz.prog 10 [.int .i64 me,.int .u64 (tm:Int),.int .i64 vt,.agg (lgc b A n c).toArray,C.cfv cA cn cc,.int .i64 lim] [] w (X:=Rp) (fun q=> .tuple #[.agg (rfc ⟨me,tm,vt,b,es,cf,b.1,1,0,0,lim,[],[]⟩ q).toArray,zi 0]) (fun q=>RpOk ⟨me,tm,vt,b,es,cf,b.1,1,0,0,lim,[],[]⟩ q∧q.n=n∧q.cn=cn∧q.vn=0∧q.pn=0) (fun q=>rfO ⟨me,tm,vt,b,es,cf,b.1,1,0,0,lim,[],[]⟩ q):=by
 refine gives_C Tryz.func10 O Tryz.ntmps10 Tryz.results10 (by simp) (St.enter w) (fun B hB=>?_)
 have hn1:=h.lg.hm
 have hn2:=h.lg.hcm
 have hn3:=h.hvm
 have hn4:=h.hpm
 have hdd:=h.lg.ed
 focus (refine qs ?_;(refine qe (E_boxa (cs:=lgc b A n c) O) ?_;rintro _ _ ⟨b9,rfl,rfl⟩);(refine qe (E_boxa (cs:=[.slice cA cn cc]) O) ?_;rintro _ _ ⟨b10,rfl,rfl⟩);(refine qe (E_alloca O rf_zero) ?_;rintro _ _ ⟨b12,rfl,rfl⟩);refine qp ?_;refine qn ?_;(iterate 3 refine qp ?_);refine qt (T_loads (ds:=lgc b A n c) O O O O O) ?_;refine qt (T_loads (ds:=[.slice cA cn cc]) O O O O O) ?_;refine qp ?_;refine qp ?_;refine qt (T_load O O O O) ?_;refine qp ?_;refine qt (T_build8 O O O O O O O O (rf_built8 _ _ _ _ _ _ _ _ _ _ _ _)) ?_;(refine qe (E_hvG (f:=37) F37 (fun w hS=>rcopied_any w ⟨me,tm,vt,b,es,cf,b.1,1,0,0,lim,[],[]⟩ ⟨A,n,c,Q,cA,cn,cc,none,0,0,none,0,0⟩ (h.keep hS.kpO)) O O) ?_;rintro _ _ ⟨q,rfl,⟨hq,hqn,hqc,hqv,hqp⟩,rfl⟩;dsimp only[List.cons_append,List.nil_append]);(refine qe (E_alloca O rf_zero) ?_;rintro _ _ ⟨b12,rfl,rfl⟩);(refine qw (E_storew (cs:=rfc rs0 rp0) (ds:=rfc ⟨me,tm,vt,b,es,cf,b.1,1,0,0,lim,[],[]⟩ q) O O O O (rfc_one _ _) O) ?_;rintro _ _ rfl);refine qz ?_;refine qq ?_;refine qs ?_;refine qt (T_loads (ds:=rfc ⟨me,tm,vt,b,es,cf,b.1,1,0,0,lim,[],[]⟩ q) O O O O O) ?_;refine qh F30 (fun w hS=>rcheck_any w ⟨me,tm,vt,b,es,cf,b.1,1,0,0,lim,[],[]⟩ q (rfO_rf (fun A hA=>hS.at_ (RemL.mem hA)) hq (by dsimp only at*;omega) (by dsimp only at*;omega) (by dsimp only at*;omega) (by dsimp only at*;omega) hdd h.hu) _ hr) ?_;refine qp ?_;refine qz ?_;refine qF ?_;refine qx ?_;refine qs ?_;refine qt (T_loads (ds:=rfc ⟨me,tm,vt,b,es,cf,b.1,1,0,0,lim,[],[]⟩ q) O O O O O) ?_;(refine qw (E_storew (cs:=rfc rs0 rp0) (ds:=rfc ⟨me,tm,vt,b,es,cf,b.1,1,0,0,lim,[],[]⟩ q) O O O O (rfc_one _ _) O) ?_;rintro _ _ rfl);refine qp ?_;refine qz ?_)
 all_goals (try (exfalso;simp at*;done))
 refine hB _ _ _ _ _ O (.cell O O O inferInstance O (.tmp O .nil)) fun w' hS=>⟨q,O,⟨hq,hqn,hqc,hqv,hqp⟩,sub_st (H':=rfO ⟨me,tm,vt,b,es,cf,b.1,1,0,0,lim,[],[]⟩ q) w' hS⟩
structure Mm where
 p:Rp
 S:List (Ms×Mp)
 sA:Option Addr
 sc:Nat
 i:Bool
def sgc (s:Ms×Mp):List Value:=mgc s.1 s.2
theorem sgc_len (s:Ms×Mp):(sgc s).length=12:=rfl
theorem sgc_one (s:Ms×Mp): ∀ u∈sgc s,u.oneCell'=true:=mgc_one s.1 s.2
def folM (m:Mm):Mm:=⟨⟨m.p.A,m.p.n,m.p.c,m.p.Q,m.p.cA,m.p.cn,m.p.cc,none,0,0,none,0,0⟩,m.S,m.sA,m.sc,m.i⟩
def mcc (x:Rs) (m:Mm):List Value:=rfc x m.p++[.slice m.sA m.S.length m.sc,.bool m.i]
theorem mc_built1 (x:Rs) (p:Rp):Tryz.prog.built 89 [(0,.agg (rfc x p).toArray)]=some (mcc x ⟨p,[],none,0,false⟩).toArray:=by kernel_rfl
abbrev mP (g:Nat) (x:Rs) (m:Mm):List Asn:=[pt g 89 (mcc x m),row 3 1 m.p.vA m.p.vn m.p.vc (x.votes.map zv),row 112 3 m.p.pA m.p.pn m.p.pc (cellsL pec x.peers),row 65 12 m.sA m.S.length m.sc (cellsL sgc m.S)]
structure McR (w:World) (x:Rs) (m:Mm):Prop where
 lg:LgR w x m.p
 ms: ∀ s∈m.S,MsR w s.1 s.2
structure McL (x:Rs) (m:Mm):Prop where
 hvn:x.votes.length=m.p.vn
 hpn:x.peers.length=m.p.pn
theorem McR.keep {w w':World} {x:Rs} {m:Mm} (h:McR w x m) (hk:Kp All w w'):McR w' x m:=⟨h.lg.keep hk,fun s hs=>(h.ms s hs).keep hk⟩
def McB (w:World) (g:Nat) (x:Rs) (m:Mm):Prop:=Rd w All 1 (some ⟨g,0,none⟩) 16 (mcc x m)
theorem mcB_of {w:World} {g:Nat} {x:Rs} {m:Mm} (h:(pt g 89 (mcc x m)).holds w):McB w g x m:=
 (Srd.pt (w0:=w) (M:=fun k=>k=g) (H:=[pt g 89 (mcc x m)]) (n:=16) (size:=1) (ds:=mcc x m) O (fun j v hj=>by rw[Nat.zero_add];exact hj)).rd w ⟨Kp.refl _ _,fun A hA=>by
  obtain rfl:A=pt g 89 (mcc x m):=by simpa using hA
  refine⟨h,fun k hk=>?_⟩
  obtain rfl:k=g:=hk
  exact⟨.inl O,(Array.getElem?_eq_some_iff.1 h).1⟩,List.pairwise_singleton _ _⟩
theorem mlast_k (w:World) (g:Nat) (x:Rs) (m:Mm) (hb:McB w g x m) (h:LgR w x m.p):
  Gives Tryz.prog 59 [.pointer (some ⟨g,0,none⟩)] [] w (X:=Unit) (fun _=> .agg (atc (lastP x)).toArray) (fun _=>True) (fun _=>[]):=by
 refine gives_C Tryz.func59 O Tryz.ntmps59 Tryz.results59 (by simp) (St.enter w) (fun B hB=>?_)
 have hn1:=h.hm
 focus (refine qs ?_;(refine qe (E_alloca O at_zero) ?_;rintro _ _ ⟨b2,rfl,rfl⟩);refine qn ?_;refine qp ?_;refine qt (T_nilCheck O) ?_;refine qp ?_;refine qp ?_;refine qt (T_loadgs (F:=All) (m:=16) (sz:=1) (xs:=mcc x m) (ds:=lgc x.base m.p.A m.p.n m.p.c) O O O hb (fun k _=>noOwns k) O (by decide) O) ?_;refine qh F50 (fun w hS=>lastP_k w x.base m.p.A m.p.c m.p.n m.p.Q x.es h.hn h.hQ (h.keep hS.kpO).rq (by omega) (lastP x) O) ?_;(refine qw (E_storew (cs:=atc (0,0)) (ds:=atc (lastP x)) O O O O (atc_one _) O) ?_;rintro _ _ rfl);refine qz ?_)
 exact hB _ _ _ _ _ O (.cell O O O inferInstance O .nil) fun w' hS=>⟨(),O,trivial,hS.sublist (List.nil_sublist _)⟩
theorem mfollow_any (w:World) (g:Nat) (x:Rs) (m:Mm) (hS0:St w (owns (mP g x m)) (mP g x m) w):
  Gives Tryz.prog 72 [.pointer (some ⟨g,0,none⟩)] (mP g x m) w (X:=Unit) (fun _=> .tuple #[]) (fun _=>True) (fun _=>mP g (folR x) (folM m)):=by
 refine gives_N2 Tryz.func72 O Tryz.ntmps72 Tryz.results72 (by simp) hS0 (fun B hE hB=>?_)
 repeat' (first|refine R_p O ?_ O O|refine R_nil ?_|refine R_take (T_nilCheck O) ?_ O O|refine S_region O O ?_|(refine R_eff0 (E_store1 O O O O O O (by show _<16;omega)) ?_ O;rintro _ _ rfl))
 first
 |refine hE _ _ fun w' hS=>⟨(),trivial,?_⟩
 |refine hB _ _ _ _ O fun w' hS=>⟨(),trivial,?_⟩
 have h1:St w (owns (mP g x m)) [pt g 89 (mcc (folR x) (folM m)),row 65 12 m.sA m.S.length m.sc (cellsL sgc m.S)] w':=hS.sublist (.cons_cons _ (.cons _ (.cons _ (.refl _))))
 exact sub_st (H':=[pt g 89 (mcc (folR x) (folM m)),row 3 1 none 0 0 [],row 112 3 none 0 0 [],row 65 12 m.sA m.S.length m.sc (cellsL sgc m.S)]) w' ((h1.nilrow 3 1).nilrow 112 3)
theorem conf_k (w:World) (a:At) (A:Option Addr) (c k:Nat) (Q:List Em) (l:List En) (hk:Q.length=k) (hl:Q.map emv=l) (h:Rd w All 3 A k (cellsL emc Q)) (hd:RDt w All (Q.map emd)) (hn:k≤1000) (hkk: ∀ m∈Q,m.2.2.2.2.length≤100000) (idx:Nat) (ri:Nat) (rbs:List UInt8) (rq:Bool) (N:Nat) (hN:rbs.length=N) (hs:confR a l idx=(ri,rbs,rq)):
  Gives Tryz.prog 49 [.agg (lgc a A k c).toArray,.int .u64 (idx:Int)] [] w (X:=Option Addr×Nat) (fun x=> .tuple #[.int .u64 (ri:Int),.slice x.1 N x.2,.bool rq]) (fun _=>True) (fun x=>[row 5 1 x.1 N x.2 (rbs.map bv)]):=confP_any w a A c k Q l hk hl h hd hn hkk idx ri rbs rq N hN hs
theorem conf_len {x:Rs} {idx:Nat} (hd: ∀ e∈x.es,e.2.2.length≤100000):(confR x.base x.es idx).2.1.length≤100000:=by
 unfold confR
 split
 ·split
  ·exact Nat.zero_le _
  ·dsimp only
   rcases Nat.lt_or_ge (cfN x.base x.es idx x.es.length-1) x.es.length with h1|h1
   ·refine hd _ ?_
    simp[List.getD,h1]
   ·rw[List.getD,List.getElem?_eq_none h1]
    exact Nat.zero_le _
 ·exact Nat.zero_le _
theorem rforce_k (w:World) (x:Rs) (p:Rp) (D:Kw) (hD:Kd D [] w) (h: ∀ w',D w'→LgR w' x p) (idx:Nat) (ms:List Int) (hms:forceL x idx=ms):
  Gives Tryz.prog 53 [.agg (rfc x p).toArray,.int .u64 (idx:Int)] [] w (X:=(Option Addr×Nat×Nat)×Asn) (fun y=>C.cfv y.1.1 ms.length y.1.2.2) (fun y=> ∀ w',K2 D y.2 w'→Rd w' All 1 y.1.1 ms.length (ms.map zv)) (fun y=>[y.2]):=by
 refine gives_C Tryz.func53 O Tryz.ntmps53 Tryz.results53 (by simp) (St.enter w) (fun B hB=>?_)
 obtain⟨⟨ri,rbs,rq⟩,hs⟩: ∃ z,confR x.base x.es idx=z:=⟨_,O⟩
 obtain⟨N,hN⟩: ∃ N,rbs.length=N:=⟨_,O⟩
 have hw:=h w hD.now
 have hn1:=hw.hm
 have hn2:=hw.hcm
 have hN2:N≤100000:=by
  have:=conf_len (idx:=idx) hw.ed
  rw[hs] at this
  have this:rbs.length≤100000:=this
  omega
 rw[forceL,hs] at hms
 cases rq
 ·obtain rfl:x.cf=ms:=by rw[← hms];rfl
  focus (refine qs ?_;(refine qe (E_boxa (cs:=rfc x p) O) ?_;rintro _ _ ⟨b2,rfl,rfl⟩);(refine qe (E_alloca O C.cf_alloc) ?_;rintro _ _ ⟨b4,rfl,rfl⟩);refine qz ?_;refine qq ?_;refine qs ?_;refine qp ?_;refine qt (T_loads (ds:=lgc x.base p.A p.n p.c) O O O O O) ?_;refine qp ?_;(refine qe (E_hv1 (f:=49) F49 (fun w' hS=>conf_k w' x.base p.A p.c p.n p.Q x.es hw.hn hw.hQ (h w' (hD.at_ hS)).rq (h w' (hD.at_ hS)).dt hn1 hw.hd idx ri rbs _ N hN hs) O O (fun _=>O)) ?_;rintro _ _ ⟨⟨Ab,cb⟩,rfl,_,rfl⟩);(iterate 7 refine qp ?_);refine qn ?_;refine qp ?_;refine qz ?_;refine qF ?_;refine qx ?_;refine qs ?_;refine qp ?_;refine qt (T_loads (ds:=[.slice p.cA p.cn p.cc]) O O O O O) ?_;(refine qw (E_storew (cs:=[.slice none 0 0]) (ds:=[.slice p.cA p.cn p.cc]) O O O O (C.sl_one _ _ _) O) ?_;rintro _ _ rfl);refine qz ?_)
  rw[hw.hcn] at hB
  refine hB _ _ _ _ _ O (.cell O O O inferInstance O .nil) fun w' hS=>⟨((p.cA,p.cn,p.cc),zN),O,fun w2 h2=>(h w2 h2.1).rc,zN_in (hS.sublist (List.nil_sublist _))⟩
 ·obtain rfl:C.decL rbs=ms:=by rw[← hms];rfl
  obtain⟨K,hK⟩: ∃ K,(C.decL rbs).length=K:=⟨_,O⟩
  rw[hK] at hB
  repeat' (first|refine R_take (T_decT O (by omega)) ?_ O O|refine R_p O ?_ O O|refine R_nil ?_|refine R_take (T_loads (ds:=lgc x.base p.A p.n p.c) O O O O O) ?_ O O|refine R_take (T_loads (ds:=[.slice A3 K c3]) O O O O O) ?_ O O|refine S_seq O ?_|refine S_region O O ?_|refine S_true O O ?_|(refine R_eff (E_boxa (cs:=rfc x p) O) ?_ O O;rintro _ _ ⟨b2,rfl,rfl⟩)|(refine R_eff (E_alloca O C.cf_alloc) ?_ O O;rintro _ _ ⟨b4,rfl,rfl⟩)|(refine R_eff (E_hv1 (f:=49) F49 (fun w' hS=>conf_k w' x.base p.A p.c p.n p.Q x.es hw.hn hw.hQ (h w' (hD.at_ hS)).rq (h w' (hD.at_ hS)).dt hn1 hw.hd idx ri rbs _ N hN hs) O O (fun _=>O)) ?_ O O;rintro _ _ ⟨⟨Ab,cb⟩,rfl,_,rfl⟩)|(refine R_eff (E_hv1 (f:=120) F120 (fun w' hS=>dec_k w' Ab N cb rbs (row_bs (e:=5) hS (by simp) hN) hN2 _ O _ O K hK) O O (fun _=>O)) ?_ O O;rintro _ _ ⟨⟨A3,c3⟩,rfl,_,rfl⟩)|(refine R_eff0 (E_storew (cs:=[.slice none 0 0]) (ds:=[.slice A3 K c3]) O O O O (C.sl_one _ _ _) O) ?_ O;rintro _ _ rfl))
  refine hB _ _ _ _ _ O (.cell O O O inferInstance O .nil) fun w' hS=>⟨((A3,K,c3),row 3 1 A3 K c3 ((C.decL rbs).map zv)),O,fun w2 h2=>row_rd h2.2,sub_st (H':=[row 3 1 A3 K c3 ((C.decL rbs).map zv)]) w' hS⟩
theorem Kd.call0 {D:Kw} {As H:List Asn} {w w1:World} (h:Kd D As w) (hS:St w (owns As) H w1):Kd D [] w1:=fun w2 hk=>by
 refine h w2 ⟨hS.kp.os▸hk.os,hS.kp.tape▸hk.tape,hS.kp.output▸hk.output,Nat.le_trans hS.kp.size hk.size,fun k hn hlt=>?_⟩
 rw[hk.block k (noOwns k) (Nat.lt_of_lt_of_le hlt hS.kp.size)]
 exact hS.kp.block k hn hlt
theorem LgR.sz {w:World} {x:Rs} {p:Rp} (h:LgR w x p):p.n≤1000∧p.cn≤900:=⟨h.hm,h.hcm⟩
theorem mforce_k (w:World) (g:Nat) (x:Rs) (m:Mm) (hb:McB w g x m) (D:Kw) (hD:Kd D [] w) (h: ∀ w',D w'→LgR w' x m.p) (ms:List Int) (hms:nowL x=ms):
  Gives Tryz.prog 43 [.pointer (some ⟨g,0,none⟩)] [] w (X:=(Option Addr×Nat×Nat)×Asn) (fun y=>C.cfv y.1.1 ms.length y.1.2.2) (fun y=> ∀ w',K2 D y.2 w'→Rd w' All 1 y.1.1 ms.length (ms.map zv)) (fun y=>[y.2]):=by
 refine gives_C Tryz.func43 O Tryz.ntmps43 Tryz.results43 (by simp) (St.enter w) (fun B hB=>?_)
 focus (refine qs ?_;(refine qe (E_alloca O C.cf_alloc) ?_;rintro _ _ ⟨b2,rfl,rfl⟩);refine qz ?_;refine qq ?_)
 refine S_draw ([]) sub_st (by kernel_rfl) O (by kernel_rfl) (by kernel_rfl:_=9) ?_
 refine dp 0 ?_
 refine dt 1 O (T_nilCheck O) ?_
 refine dp 2 ?_
 refine dt 3 O (T_loadgs (F:=All) (m:=16) (sz:=1) (xs:=mcc x m) (ds:=rfc x m.p) O O O hb (fun k _=>noOwns k) O (by decide) O) ?_
 refine dp 4 ?_
 refine D_one 5 O (E_hv0 (f:=59) F59 (fun w hS=>mlast_k w g x m (hb.keep hS.kpO) (h w (hD.at_ hS))) O O (fun _=>O)) ?_ O O (by kernel_rfl)
 rintro _ _ ⟨_,rfl,_,rfl⟩
 refine Nx_all sub_st ?_
 refine dt 6 O (T_fldv (xs:=atc (lastP x)) O O O O O O) ?_
 refine D_one 7 O (E_hv1 (f:=53) F53 (fun w hS=>rforce_k w x m.p D (hD.call0 hS) h (lastP x).1 ms hms) O O (fun _=>O)) ?_ O O (by kernel_rfl)
 rintro _ _ ⟨⟨⟨A3,K3,c3⟩,Z3⟩,rfl,hI,rfl⟩
 refine Nx_all sub_st ?_
 refine D_one 8 O (E_storew (cs:=[.slice none 0 0]) (ds:=[.slice A3 ms.length c3]) O O O O (C.sl_one _ _ _) O) ?_ O O (by kernel_rfl)
 rintro _ _ rfl
 refine Nx_pivot (by kernel_rfl) ?_
 refine dn ?_
 skip
 skip
 exact hB _ _ _ _ _ O (.cell O O O inferInstance O .nil) fun w' hS=>⟨((A3,K3,c3),Z3),O,hI,sub_st (H':=[Z3]) w' hS⟩
def frmM (x:Rs) (s:Ms):Ms:={s with F:=x.me}
def addM (x:Rs) (m:Mm) (s:Ms×Mp) (A:Option Addr) (c:Nat):Mm:=⟨m.p,m.S++[(frmM x s.1,s.2)],A,c,m.i⟩
theorem MsR.frm {w:World} {s:Ms} {q:Mp} (h:MsR w s q) (x:Rs):MsR w (frmM x s) q:=⟨h.hn,h.hm,h.hQ,h.rq,h.bq,h.hc,h.hmc,h.rc,h.bd⟩
theorem ms_zero:ti65.zero= .agg (mgc ms0 ⟨none,0,0,none,0,0,none,0,0,[]⟩).toArray:=by kernel_rfl
theorem send1_any (w:World) (g:Nat) (x:Rs) (m:Mm) (hS0:St w (owns (mP g x m)) (mP g x m) w) (A1:Option Addr) (c1:Nat) (s:Ms) (q:Mp) (hs:Rd w (fun k=> ¬ owns (mP g x m) k) 12 A1 1 (mgc s q)) (hl:m.S.length≤1000):
  Gives Tryz.prog 113 [.pointer (some ⟨g,0,none⟩),.slice A1 1 c1] (mP g x m) w (X:=Option Addr×Nat) (fun _=> .tuple #[]) (fun _=>True) (fun y=>mP g x (addM x m (s,q) y.1 y.2)):=by
 refine gives_N2 Tryz.func113 O Tryz.ntmps113 Tryz.results113 (by simp) hS0 (fun B hE hB=>?_)
 have hne:A1≠none:=by obtain⟨ad,e,_⟩:=hs.2 (by omega);rw[e];simp
 have hat: ∀ e v,(mgc s q)[e]? =some v→(mgc s q)[0*12+e]? =some v:=fun e v h=>by rw[Nat.zero_mul,Nat.zero_add];exact h
 focus (refine qs ?_;(iterate 3 refine qp ?_);refine qz ?_;refine qb ?_)
 refine S_loop (X:=Nat×Mm) (fun z=>[(0,.pointer (some ⟨g,0,none⟩)),(6,.slice A1 1 c1),(7,.int .i64 ((1:Nat):Int)),(8,.int .i64 (z.1:Int))]) (fun z=>mP g x z.2) (fun z=>(z.1=0∧z.2=m)∨(z.1=1∧ ∃ A c,z.2=addM x m (s,q) A c)) (fun z=>1-z.1) O (0,m) (.inl ⟨O,O⟩) (Sub.cons O (Sub.cons O (Sub.cons O (Sub.cons O Sub.nil)))) sub_st ?_
 rintro⟨j,m'⟩ hj J hJ
 dsimp only at hj ⊢
 rcases hj with⟨rfl,rfl⟩|⟨rfl,A',c',rfl⟩
 ·skip
  focus (refine qs ?_;refine qd ?_;refine qz ?_;refine qq ?_;refine qT ?_;refine qx ?_;refine qq ?_;refine qb ?_;refine qs ?_;refine qt (T_ixM (sz:=12) (q:=0) O O O O O O hne (by omega)) ?_;refine qt (T_lda (ds:=mgc s q) O O O (Srd.old hs (fun k hk=>hk)) O (by omega) hat) ?_;(refine qe (E_alloca O ms_zero) ?_;rintro _ _ ⟨b5,rfl,rfl⟩);(refine qw (E_storew (cs:=mgc ms0 ⟨none,0,0,none,0,0,none,0,0,[]⟩) (ds:=mgc s q) O O O O (mgc_one _ _) O) ?_;rintro _ _ rfl);refine qn ?_;refine qp ?_;refine qt (T_nilCheck O) ?_;refine qp ?_;refine qp ?_;refine qt (T_load O O O O) ?_;refine qp ?_;(refine qw (E_storeA1 (cs:=mgc s q) (cs':=mgc (frmM x s) q) O O O O O O (by show _<12;omega)) ?_;rintro _ _ rfl);refine qz ?_)
  refine S_draw ([pt b5 65 (mgc (frmM x s) q),pt g 89 (mcc x m')]) sub_st (by kernel_rfl) O (by kernel_rfl) (by kernel_rfl:_=11) ?_
  refine dp 0 ?_
  refine dp 1 ?_
  refine dt 2 O (T_nilCheck O) ?_
  refine dp 3 ?_
  refine dl 4 ?_
  refine dt 5 O (T_loads (ds:=mgc (frmM x s) q) O O O O O) ?_
  refine D_one 6 O (E_litS (vs:=[.agg (mgc (frmM x s) q).toArray]) (size:=12) (ds:=mgc (frmM x s) q) O O O O O O (by simp[vcells,mgc_len]) O (by omega)) ?_ O O (by kernel_rfl)
  rintro _ _ ⟨vb,rfl,rfl⟩
  refine nx ?_
  refine D_one 7 O (E_appS (sz:=12) (m:=m'.S.length) (c:=m'.sc) (A:=m'.sA) O O O O O O O (by decide) (Srd.pt (n:=1) (g:=vb) (ds:=mgc (frmM x s) q) O (fun j u hj=>by rw[Nat.zero_add];exact hj)) (mgc_one _ _) (by show (m'.S.length+1)*144≤_;omega) (by unfold maxLen;omega)) ?_ O O (by kernel_rfl)
  rintro _ _ ⟨A7,c7,rfl,rfl⟩
  refine nx ?_
  refine dt 8 O (T_nilCheck O) ?_
  refine dp 9 ?_
  refine D_one 10 O (E_storeA1 (cs:=mcc x m') (cs':=mcc x (addM x m' (s,q) A7 c7)) O O O O O (by simp[mcc,addM,rfc]) (by show _<16;omega)) ?_ O O (by kernel_rfl)
  rintro _ _ rfl
  refine Nx_pivot (by kernel_rfl) ?_
  refine dn ?_
  skip
  focus (refine RS_blk ?_;refine qr ?_;refine qt (T_addN O O (by unfold fits;omega)) ?_;refine qp ?_;refine qz ?_)
  refine hJ (1,addM x m' (s,q) A7 c7) _ _ (.inr ⟨O,A7,c7,O⟩) (Sub.cons O (Sub.cons O (Sub.cons O (Sub.cons O Sub.nil)))) (fun w' hS=>?_) (by dsimp only;omega)
  have h1:=sub_st (H':=[pt g 89 (mcc x (addM x m' (s,q) A7 c7)),row 3 1 m'.p.vA m'.p.vn m'.p.vc (x.votes.map zv),row 112 3 m'.p.pA m'.p.pn m'.p.pc (cellsL pec x.peers),row 65 12 A7 (m'.S.length+1) c7 (cellsL sgc m'.S++mgc (frmM x s) q)]) w' hS
  have e1:cellsL sgc (addM x m' (s,q) A7 c7).S=cellsL sgc m'.S++mgc (frmM x s) q:=by
   show cellsL sgc (m'.S++[(frmM x s,q)])=_
   rw[cellsL_app,cellsL_one]
   rfl
  have e2:(addM x m' (s,q) A7 c7).S.length=m'.S.length+1:=by
   show (m'.S++[(frmM x s,q)]).length=_
   rw[List.length_append]
   rfl
  show St _ _ [pt g 89 (mcc x (addM x m' (s,q) A7 c7)),row 3 1 m'.p.vA m'.p.vn m'.p.vc (x.votes.map zv),row 112 3 m'.p.pA m'.p.pn m'.p.pc (cellsL pec x.peers),row 65 12 A7 (addM x m' (s,q) A7 c7).S.length c7 (cellsL sgc (addM x m' (s,q) A7 c7).S)] w'
  rw[e1,e2]
  exact h1
 ·skip
  focus (refine qs ?_;refine qf ?_;refine qz ?_;refine qq ?_;refine qF ?_;refine S_exit O O ?_)
  first
  |exact hE _ _ fun w' hS=>⟨(A',c'),trivial,sub_st (H':=mP g x (addM x m (s,q) A' c')) w' hS⟩
  |exact hB _ _ _ _ O fun w' hS=>⟨(A',c'),trivial,sub_st (H':=mP g x (addM x m (s,q) A' c')) w' hS⟩
theorem fellows_any (w:World) (g:Nat):
  Gives Tryz.prog 57 [.pointer (some ⟨g,0,none⟩)] [] w (X:=Nat) (fun b=> .func (.func 132) #[] [Value.pointer (some ⟨b,0,none⟩)].toArray) (fun _=>True) (fun b=>[pt b 87 [.pointer (some ⟨g,0,none⟩)]]):=by
 refine gives_S Tryz.func57 O Tryz.ntmps57 Tryz.results57 (by simp) (St.enter w) (fun B hB=>?_)
 focus (refine qs ?_;(refine qe (E_box1 (v:= .pointer (some ⟨g,0,none⟩)) O O) ?_;rintro _ _ ⟨b1,rfl,rfl⟩);refine qp ?_;refine qn ?_;refine qt (T_func O O) ?_;refine qp ?_;refine qz ?_)
 exact hB _ _ _ _ _ O O fun w' hS=>⟨b1,O,trivial,sub_st (H':=[pt b1 87 [.pointer (some ⟨g,0,none⟩)]]) w' hS⟩
def idxPe (p:Pe→Bool) (L:List Pe):Int:=if L.all (fun x=> !p x) then-1 else (L.findIdx p:Nat)
theorem idxfPe_any (w:World) (A:Option Addr) (n c f:Nat) (cap:List Value) (L:List Pe) (p:Pe→Bool) (h:Rd w All 3 A n (cellsL pec L)) (hn:n≤100000) (hf:Fn_ Tryz.prog f)
  (hp: ∀ w',Kp All w w'→ ∀ x∈L,Gives Tryz.prog f (.agg (pec x).toArray::cap) [] w' (X:=Unit) (fun _=> .bool (p x)) (fun _=>True) (fun _=>[])):
  Gives Tryz.prog 133 [.slice A n c,.func (.func f) #[] cap.toArray] [] w (X:=Unit) (fun _=>zi (idxPe p L)) (fun _=>True) (fun _=>[]):=by
 refine gives_S Tryz.func133 O Tryz.ntmps133 Tryz.results133 (by simp) (St.enter w) (fun B hB=>?_)
 have hl:L.length=n:=by have:=h.1;rw[cellsL_len pec_len] at this;omega
 have hne:0<n→A≠none:=fun h0=>by obtain⟨ad,rfl,_⟩:=h.2 (by omega);simp
 subst hl
 focus (refine qs ?_;refine qp ?_;refine qz ?_;refine qq ?_;refine qs ?_;(iterate 3 refine qp ?_);refine qz ?_;refine qb ?_)
 refine S_loop (X:=Nat) (fun j=>[(0,.slice A L.length c),(1,.func (.func f) #[] cap.toArray),(7,.int .i64 (L.length:Int)),(8,.int .i64 (j:Int))]) (fun _=>[]) (fun j=>j≤L.length∧(L.take j).all (fun x=> !p x)=true) (fun j=>L.length-j) O 0 ⟨Nat.zero_le _,O⟩ (Sub.cons O (Sub.cons O (Sub.cons O (Sub.cons O Sub.nil)))) (fun _ h=>h) ?_
 rintro j ⟨hj,hok⟩ J hJ
 rcases Nat.lt_or_ge j L.length with hjl|hjl
 ·have hne:=hne (by omega)
  have hat:=cellsL_at (f:=pec) pec_len L default j hjl
  have hmem:L.getD j default∈L:=by simp[List.getD,hjl]
  have htk:L.take (j+1)=L.take j++[L.getD j default]:=by rw[List.take_succ_eq_append_getElem hjl];simp[List.getD,hjl]
  have hsp:L=L.take j++L.getD j default::L.drop (j+1):=by
   conv=>lhs;rw[← List.take_append_drop j L,List.drop_eq_getElem_cons hjl]
   simp[List.getD,hjl]
  obtain⟨x,hx⟩: ∃ x,L.getD j default=x:=⟨_,O⟩
  rw[hx] at hat hmem htk hsp
  obtain⟨r,hr⟩: ∃ r,p x=r:=⟨_,O⟩
  cases r
  ·focus (refine qs ?_;refine qd ?_;refine qz ?_;refine qq ?_;refine qT ?_;refine qx ?_;refine qq ?_;refine qb ?_;refine qs ?_;refine qp ?_;refine qp ?_;refine qn ?_;(iterate 3 refine qp ?_);refine qt (T_ixM (sz:=3) O O O O O O hne hjl) ?_;refine qt (T_lda (ds:=pec x) O O O (Srd.old h (fun k _=>noOwns k)) O (by omega) hat) ?_;(refine qe (E_cloA (cap:=cap) O (E_gv0 hf (ogets_cap _ _ (.agg (pec x).toArray) O cap) (fun w' hS=>hp w' hS.kpO x hmem) (fun _=>O))) ?_;rintro _ _ ⟨_,rfl,_,rfl⟩;rw[hr]);refine qz ?_;refine qF ?_;refine qx ?_;refine RS_blk ?_;refine qr ?_;refine qt (T_addN O O (by unfold fits;omega)) ?_;refine qp ?_;refine qz ?_)
   exact hJ (j+1) _ _ ⟨by omega,by rw[htk,List.all_append,hok];simp[hr]⟩ (Sub.cons O (Sub.cons O (Sub.cons O (Sub.cons O Sub.nil)))) (fun _ h=>h) (by omega)
  ·focus (refine qs ?_;refine qd ?_;refine qz ?_;refine qq ?_;refine qT ?_;refine qx ?_;refine qq ?_;refine qb ?_;refine qs ?_;refine qp ?_;refine qp ?_;refine qn ?_;(iterate 3 refine qp ?_);refine qt (T_ixM (sz:=3) O O O O O O hne hjl) ?_;refine qt (T_lda (ds:=pec x) O O O (Srd.old h (fun k _=>noOwns k)) O (by omega) hat) ?_;(refine qe (E_cloA (cap:=cap) O (E_gv0 hf (ogets_cap _ _ (.agg (pec x).toArray) O cap) (fun w' hS=>hp w' hS.kpO x hmem) (fun _=>O))) ?_;rintro _ _ ⟨_,rfl,_,rfl⟩;rw[hr]);refine qz ?_;refine qT ?_;refine qs ?_;refine qp ?_;refine qp ?_;refine qz ?_)
   refine hB _ _ _ _ _ O O fun w' hS=>⟨(),?_,trivial,hS.sublist (List.nil_sublist _)⟩
   show Value.int _ _=Value.int _ _
   congr 1
   have h1: ¬ L.all (fun x=> !p x)=true:=by
    rw[List.all_eq_true]
    intro h
    have:=h x hmem
    rw[hr] at this
    cases this
   rw[idxPe,if_neg h1,hsp,List.findIdx_append]
   have h2:(L.take j).findIdx p=(L.take j).length:=by
    rw[List.findIdx_eq_length]
    intro y hy
    have:=List.all_eq_true.1 hok y hy
    simpa using this
   rw[h2,if_neg (Nat.lt_irrefl _),List.findIdx_cons,hr]
   simp
   omega
 have hjn:j=L.length:=by omega
 subst hjn
 rw[List.take_length] at hok
 focus (refine qs ?_;refine qf ?_;refine qz ?_;refine qq ?_;refine qF ?_;refine S_exit O O ?_;refine qs ?_;refine qp ?_;refine qz ?_)
 refine hB _ _ _ _ _ O O fun w' hS=>⟨(),?_,trivial,hS.sublist (List.nil_sublist _)⟩
 rw[idxPe,if_pos hok]
 rfl
theorem peer1_any (w:World) (b:Nat) (p:Pe) (who:Int) (hb:Rd w All 1 (some ⟨b,0,none⟩) 1 [.int .i64 who]):
  Gives Tryz.prog 134 [.agg (pec p).toArray,.pointer (some ⟨b,0,none⟩)] [] w (X:=Unit) (fun _=> .bool (decide (p.1=who))) (fun _=>True) (fun _=>[]):=by
 refine gives_S Tryz.func134 O Tryz.ntmps134 Tryz.results134 (by simp) (St.enter w) (fun B hB=>?_)
 obtain⟨a1,a2,a3⟩:=p
 focus (refine qs ?_;(refine qe (E_boxa (cs:=pec (a1,a2,a3)) O) ?_;rintro _ _ ⟨b2,rfl,rfl⟩);refine qp ?_;refine qn ?_;refine qp ?_;refine qt (T_load O O O O) ?_;refine qt (T_loadg (v:= .int .i64 who) O O O hb (fun k _=>noOwns k) O) ?_;refine qp ?_;refine qp ?_;refine qz ?_)
 exact hB _ _ _ _ _ O O (qE O)
theorem find_none {l:List Pe} {who:Int} (h:l.find? (fun p=>decide (p.1=who))=none):idxPe (fun p=>decide (p.1=who)) l= -1:=by
 rw[idxPe,if_pos]
 rw[List.all_eq_true]
 intro p hp
 have:=List.find?_eq_none.1 h p hp
 simpa using this
theorem find_some {l:List Pe} {who:Int} {q:Pe} (h:l.find? (fun p=>decide (p.1=who))=some q): ∃ i,i<l.length∧idxPe (fun p=>decide (p.1=who)) l=(i:Int)∧l.getD i default=q∧l.findIdx (fun p=>decide (p.1=who))=i:=by
 have hq:=List.find?_some h
 have hm:=List.mem_of_find?_eq_some h
 have hlt:l.findIdx (fun p=>decide (p.1=who))<l.length:=List.findIdx_lt_length_of_exists ⟨q,hm,hq⟩
 refine⟨_,hlt,?_,?_,O⟩
 ·rw[idxPe,if_neg]
  rw[List.all_eq_true]
  intro h2
  have:=h2 q hm
  rw[hq] at this
  cases this
 ·have h3:l.find? (fun p=>decide (p.1=who))=l[l.findIdx (fun p=>decide (p.1=who))]? :=List.find?_eq_getElem?_findIdx
  rw[h3,List.getElem?_eq_getElem hlt] at h
  simp only[Option.some.injEq] at h
  simp[List.getD,hlt,h]
def peP (x:Rs) (m:Mm) (who:Int):Option Addr:=if 0≤idxPe (fun p=>decide (p.1=who)) x.peers then pa m.p.pA ((idxPe (fun p=>decide (p.1=who)) x.peers).toNat*3) else none
theorem peer_k (w:World) (g:Nat) (x:Rs) (m:Mm) (hb:McB w g x m) (h:Rd w All 3 m.p.pA m.p.pn (cellsL pec x.peers)) (hl:x.peers.length=m.p.pn) (hn:m.p.pn≤900) (who:Int) (P:Option Addr) (hP:peP x m who=P):
  Gives Tryz.prog 58 [.pointer (some ⟨g,0,none⟩),.int .i64 who] [] w (X:=Unit) (fun _=> .pointer P) (fun _=>True) (fun _=>[]):=by
 refine gives_S Tryz.func58 O Tryz.ntmps58 Tryz.results58 (by simp) (St.enter w) (fun B hB=>?_)
 obtain⟨ix,hix⟩: ∃ i,idxPe (fun p=>decide (p.1=who)) x.peers=i:=⟨_,O⟩
 have hbd:ix<(x.peers.length:Int):=by
  rw[← hix,idxPe]
  split
  ·omega
  ·rename_i h2
   have:x.peers.findIdx (fun p=>decide (p.1=who))<x.peers.length:=by
    refine Nat.lt_of_le_of_ne List.findIdx_le_length fun e=>h2 ?_
    rw[List.all_eq_true]
    intro p hp
    have:=List.findIdx_eq_length.1 e p hp
    simpa using this
   omega
 rw[peP,hix] at hP
 by_cases h0:ix<0
 ·rw[if_neg (by omega)] at hP
  subst hP
  focus (refine qs ?_;(refine qe (E_box1 (v:= .int .i64 who) O O) ?_;rintro _ _ ⟨b3,rfl,rfl⟩);refine qp ?_;refine qn ?_;refine qp ?_;refine qt (T_nilCheck O) ?_;refine qp ?_;refine qp ?_;refine qt (T_loadg (F:=All) (m:=16) O O O hb (fun k _=>noOwns k) O) ?_;refine qt (T_func O O) ?_;(refine qe (E_hv0 (f:=133) F133 (fun w' hS=>idxfPe_any w' m.p.pA m.p.pn m.p.pc 134 [.pointer (some ⟨b3,0,none⟩)] x.peers (fun p=>decide (p.1=who)) (h.keep hS.kpO) (by omega) F134 (fun w2 hk p hp=>peer1_any w2 b3 p who (Rd.keep (rd_blk (b:=b3) (t:=3) (L:=[]) (M:=owns []) hS O trivial) hk))) O O (fun _=>O)) ?_;rintro _ _ ⟨_,rfl,_,rfl⟩;rw[hix]);refine qp ?_;refine qz ?_;refine qq ?_;refine qs ?_;refine qp ?_;refine qd ?_;refine qz ?_;refine qT ?_;refine qs ?_;refine qp ?_;refine qz ?_)
  exact hB _ _ _ _ _ O O (qE O)
 ·rw[if_pos (by omega)] at hP
  subst hP
  have hne:m.p.pA≠none:=by obtain⟨ad,e,_⟩:=h.2 (by omega);rw[e];simp
  obtain⟨i,rfl⟩: ∃ i:Nat,ix=(i:Int):=⟨ix.toNat,by omega⟩
  rw[Int.toNat_natCast] at hB
  focus (refine qs ?_;(refine qe (E_box1 (v:= .int .i64 who) O O) ?_;rintro _ _ ⟨b3,rfl,rfl⟩);refine qp ?_;refine qn ?_;refine qp ?_;refine qt (T_nilCheck O) ?_;refine qp ?_;refine qp ?_;refine qt (T_loadg (F:=All) (m:=16) O O O hb (fun k _=>noOwns k) O) ?_;refine qt (T_func O O) ?_;(refine qe (E_hv0 (f:=133) F133 (fun w' hS=>idxfPe_any w' m.p.pA m.p.pn m.p.pc 134 [.pointer (some ⟨b3,0,none⟩)] x.peers (fun p=>decide (p.1=who)) (h.keep hS.kpO) (by omega) F134 (fun w2 hk p hp=>peer1_any w2 b3 p who (Rd.keep (rd_blk (b:=b3) (t:=3) (L:=[]) (M:=owns []) hS O trivial) hk))) O O (fun _=>O)) ?_;rintro _ _ ⟨_,rfl,_,rfl⟩;rw[hix]);refine qp ?_;refine qz ?_;refine qq ?_;refine qs ?_;refine qp ?_;refine qf ?_;refine qz ?_;refine qF ?_;refine qx ?_;refine qs ?_;refine qp ?_;refine qt (T_nilCheck O) ?_;refine qp ?_;refine qp ?_;refine qt (T_loadg (F:=All) (m:=16) O O O hb (fun k _=>noOwns k) O) ?_;refine qp ?_;refine qt (T_ixM (sz:=3) (q:=i) O O O O O O hne (by omega)) ?_;refine qp ?_;refine qz ?_)
  exact hB _ _ _ _ _ O O (qE O)
theorem fel_at (ms:List Int) (p:Int→Bool) (j:Nat) (hj:j<ms.length) (hp:p (ms.getD j 0)=true):((ms.take j).filter p).length<(ms.filter p).length∧((ms.filter p).map fun n=>[zv n]).getD ((ms.take j).filter p).length []=[zv (ms.getD j 0)]:=by
 have e:ms=ms.take j++ms.getD j 0::ms.drop (j+1):=by
  conv=>lhs;rw[← List.take_append_drop j ms,List.drop_eq_getElem_cons hj]
  simp[List.getD,hj]
 obtain⟨u,hu⟩: ∃ u,ms.getD j 0=u:=⟨_,O⟩
 obtain⟨a,ha⟩: ∃ u,ms.take j=u:=⟨_,O⟩
 obtain⟨b,hb⟩: ∃ u,ms.drop (j+1)=u:=⟨_,O⟩
 rw[hu,ha,hb] at e
 rw[hu] at hp
 rw[hu,ha,e,List.filter_append,List.filter_cons,if_pos hp]
 refine⟨by rw[List.length_append,List.length_cons];omega,?_⟩
 rw[List.map_append,List.getD,List.getElem?_append_right (by simp)]
 simp
theorem fel_next (ms:List Int) (p:Int→Bool) (j:Nat) (hj:j<ms.length):((ms.take (j+1)).filter p).length=((ms.take j).filter p).length+(if p (ms.getD j 0)=true then 1 else 0):=by
 have e:ms.take (j+1)=ms.take j++[ms.getD j 0]:=by rw[List.take_succ_eq_append_getElem hj];simp[List.getD,hj]
 rw[e,List.filter_append,List.length_append,List.filter_cons]
 split
 ·rfl
 ·rfl
theorem fellows_iter (w:World) (g bm:Nat) (x:Rs) (m:Mm) (D:Kw) (hm: ∀ w',D w'→LgR w' x m.p) (hbm: ∀ w':World,D w'→w'.cell? ⟨bm,0,none⟩=some (.pointer (some ⟨g,0,none⟩))) (ms:List Int) (hms:nowL x=ms) (hk:ms.length≤100000):
  IterR Tryz.prog 132 [.pointer (some ⟨bm,0,none⟩)] D (fun w'=>McB w' g x m) (fun w'=>w'.cell? ⟨g,0,none⟩=some (.int .i64 x.me)) ((ms.filter fun n=> !decide (n=x.me)).map fun n=>[zv n]) w:=by
 intro l X Z I S x0 h0 hS hDZ hR0 hR hy
 refine gives_N2 Tryz.func132 O Tryz.ntmps132 Tryz.results132 (by simp) hS (fun B hE hB=>?_)
 obtain⟨p,hp⟩: ∃ p:Int→Bool,p=fun n=> !decide (n=x.me):=⟨_,O⟩
 rw[← hp] at hy hE hB
 rw[List.length_map] at hy hE hB
 focus (refine qs ?_;refine qt (T_ldq O O O (fun w1 hS1=>hbm w1 (hDZ.at_ hS1))) ?_;(refine qe (E_hv1 (f:=43) F43 (fun w1 hS1=>mforce_k w1 g x m (hR0 w1 (hS1.at_ (A:=Z x0) (by simp))) D (hDZ.call0 hS1) hm ms hms) O O (fun _=>O)) ?_;rintro _ _ ⟨⟨⟨A3,K3,c3⟩,Z3⟩,rfl,hI3,rfl⟩);refine qt (T_fldv (xs:=[.slice A3 ms.length c3]) O O O O O O) ?_;refine qp ?_;refine qp ?_;refine qz ?_;refine qb ?_)
 dsimp only at hI3
 refine RS_fact (p:=0<ms.length→A3≠none) (fun w1 hS1=>fun h3=>by obtain⟨ad,e,_⟩:=(hI3 w1 ⟨hDZ.at_ hS1,hS1.at_ (A:=Z3) (by simp)⟩).2 h3;rw[e];simp) fun hne=>?_
 refine S_loop (X:=Nat×X) (fun z=>[(0,.func (.yield l) #[] #[]),(1,.pointer (some ⟨bm,0,none⟩)),(7,.slice A3 ms.length c3),(8,.int .i64 (ms.length:Int)),(9,.int .i64 (z.1:Int))]) (fun z=>[Z z.2,Z3]) (fun z=>z.1≤ms.length∧I ((ms.take z.1).filter p).length z.2) (fun z=>ms.length-z.1) O (0,x0) ⟨Nat.zero_le _,h0⟩ (Sub.cons O (Sub.cons O (Sub.cons O (Sub.cons O (Sub.cons O Sub.nil))))) sub_st ?_
 rintro⟨j,y⟩ ⟨hj,hI⟩ J hJ
 dsimp only at hj hI ⊢
 rcases Nat.lt_or_ge j ms.length with hjl|hjl
 ·have hne:=hne (by omega)
  have hat:=zv_at (l:=ms) (j:=j) hjl
  have hnx:=fel_next ms p j hjl
  have hfa:=fel_at ms p j hjl
  obtain⟨u,hu⟩: ∃ u,ms.getD j 0=u:=⟨_,O⟩
  rw[hu] at hat hnx hfa
  have hyj:=hy ((ms.take j).filter p).length y
  by_cases hum:u=x.me
  ·have hpu:p u=false:=by rw[hp];simp[hum]
   rw[hpu,if_neg Bool.false_ne_true,Nat.add_zero] at hnx
   focus (refine qs ?_;refine qd ?_;refine qz ?_;refine qq ?_;refine qT ?_;refine qx ?_;refine qq ?_;refine qb ?_;refine qs ?_;refine qt (T_ix1 O O O O O O hne hjl) ?_;refine qt (T_ldr (v:=zv u) O O O (Srd.kn (Z:=Z3) hDZ hI3) (by omega) hat) ?_;refine qp ?_;refine qn ?_;refine qp ?_;refine qt (T_ldq O O O (fun w1 hS1=>hbm w1 (hDZ.at_ hS1))) ?_;refine qt (T_nilCheck O) ?_;refine qp ?_;refine qp ?_;refine qt (T_ldq O O O (fun w1 hS1=>hR _ y w1 hI (hS1.at_ (A:=Z y) (by simp)))) ?_;refine qf ?_;refine qp ?_;(iterate 4 refine qk ?_);refine qp ?_;refine qz ?_;refine qF ?_;refine qx ?_;refine RS_blk ?_;refine qr ?_;refine qt (T_addN O O (by unfold fits;omega)) ?_;refine qp ?_;refine qz ?_)
   exact hJ (j+1,y) _ _ ⟨by show j+1≤_;omega,by dsimp only;rw[hnx];exact hI⟩ (Sub.cons O (Sub.cons O (Sub.cons O (Sub.cons O (Sub.cons O Sub.nil))))) sub_st (by show ms.length-(j+1)<_;omega)
  ·have hpu:p u=true:=by rw[hp];simp[hum]
   rw[hpu,if_pos O] at hnx
   obtain⟨hlt,hge⟩:=hfa hpu
   rw[hge] at hyj
   focus (refine qs ?_;refine qd ?_;refine qz ?_;refine qq ?_;refine qT ?_;refine qx ?_;refine qq ?_;refine qb ?_;refine qs ?_;refine qt (T_ix1 O O O O O O hne hjl) ?_;refine qt (T_ldr (v:=zv u) O O O (Srd.kn (Z:=Z3) hDZ hI3) (by omega) hat) ?_;refine qp ?_;refine qn ?_;refine qp ?_;refine qt (T_ldq O O O (fun w1 hS1=>hbm w1 (hDZ.at_ hS1))) ?_;refine qt (T_nilCheck O) ?_;refine qp ?_;refine qp ?_;refine qt (T_ldq O O O (fun w1 hS1=>hR _ y w1 hI (hS1.at_ (A:=Z y) (by simp)))) ?_;refine qd ?_;(iterate 3 refine qp ?_);(refine qe (E_yield (A:=Z y) (Z:=Z) (I1:=I (((ms.take j).filter p).length+1)) (S1:=S ((ms.take j).filter p).length) (fun w' hS=>hyj w' hI hlt (hS.sublist (by simp))) O O O) ?_;rintro _ _ ⟨y2,bb,rfl,hy1,hy2,rfl⟩;cases bb);refine qt (T_not O) ?_;refine qp ?_;refine qz ?_;refine qT ?_;rotate_left;refine qt (T_not O) ?_;refine qp ?_;refine qz ?_;refine qF ?_;refine qx ?_;refine RS_blk ?_;refine qr ?_;refine qt (T_addN O O (by unfold fits;omega)) ?_;refine qp ?_;refine qz ?_;rotate_left)
   ·skip
    exact hB _ _ _ _ O fun w' hS=>⟨(y2,some ((ms.take j).filter p).length),⟨hlt,hy2 O⟩,sub_st (H':=[Z y2]) w' hS⟩
   ·skip
    exact hJ (j+1,y2) _ _ ⟨by show j+1≤_;omega,by dsimp only;rw[hnx];exact hy1 O⟩ (Sub.cons O (Sub.cons O (Sub.cons O (Sub.cons O (Sub.cons O Sub.nil))))) sub_st (by show ms.length-(j+1)<_;omega)
 have hjn:j=ms.length:=by omega
 subst hjn
 rw[List.take_length] at hI
 focus (refine qs ?_;refine qf ?_;refine qz ?_;refine qq ?_;refine qF ?_;refine S_exit O O ?_)
 first
 |exact hE _ _ fun w' hS=>⟨(y,none),hI,sub_st (H':=[Z y]) w' hS⟩
 |exact hB _ _ _ _ O fun w' hS=>⟨(y,none),hI,sub_st (H':=[Z y]) w' hS⟩
def appM (m:Mm) (y:List (Ms×Mp)×Option Addr×Nat):Mm:=⟨m.p,m.S++y.1,y.2.1,y.2.2,m.i⟩
theorem frm_outs {a:At} {l:List En} {idx:Nat} {n:Int} {e:Int} {p:At} {r:List En} (h:frm a l idx n=(e,p,r)):r.length≤l.length∧ ∀ x∈r,x∈l:=by
 unfold frm at h
 split at h
 ·split at h
  ·injection h with _ e2
   injection e2 with _ e3
   subst e3
   exact⟨Nat.zero_le _,fun x hx=>absurd hx (by simp)⟩
  ·split at h
   ·injection h with _ e2
    injection e2 with _ e3
    subst e3
    exact⟨Nat.zero_le _,fun x hx=>absurd hx (by simp)⟩
   ·injection h with _ e2
    injection e2 with _ e3
    subst e3
    exact⟨by rw[List.length_take,List.length_drop];omega,fun x hx=>List.mem_of_mem_drop (List.mem_of_mem_take hx)⟩
 ·injection h with _ e2
  injection e2 with _ e3
  subst e3
  exact⟨Nat.zero_le _,fun x hx=>absurd hx (by simp)⟩
theorem rd_12 {w:World} {F:Nat→Prop} {A:Option Addr} {xs:List Value} (h:Rd w F 1 A 12 xs):Rd w F 12 A 1 xs:=⟨h.1,fun _=>h.2 (by omega)⟩
theorem ms_built7 (who:Int) (t:Nat) (b:At) (A:Option Addr) (n c:Nat):Tryz.prog.built 65 [(0,.int .i64 7),(2,.int .i64 who),(3,.int .u64 (t:Int)),(4,.agg (atc b).toArray),(9,.agg [Value.slice A n c].toArray)]=some (mgc ⟨7,0,who,t,b,[],0,false,0,[],[]⟩ ⟨none,0,0,A,n,c,none,0,0,[]⟩).toArray:=by kernel_rfl
theorem ms_built5 (who:Int) (t cm:Nat) (b:At) (A:Option Addr) (n c:Nat):Tryz.prog.built 65 [(0,.int .i64 5),(2,.int .i64 who),(3,.int .u64 (t:Int)),(4,.agg (atc b).toArray),(5,.slice A n c),(6,.int .u64 (cm:Int))]=some (mgc ⟨5,0,who,t,b,[],cm,false,0,[],[]⟩ ⟨A,n,c,none,0,0,none,0,0,[]⟩).toArray:=by kernel_rfl
section
variable {n:Nat} {w0:World} {M:Nat→Prop} {T:Slots} {H:List Asn} {dd:Option Tmp} {tt:TypeId} {pos:String} {af:Array Edge} {g:Option (Nat×Bool)} {P:Program}
theorem T_eqPN [HasTab P] {x y:Operand} {s e u:TypeId} {p:Option Addr} {i:Ti} {r:Bool} (hx:oget T x=some (.pointer p)) (hy:oget T y=some (.pointer none)) (hs:ty P s=some i) (hi:i.desc= .pointer e) (hr:p.isNone=r):
  Tk P n w0 M T H ⟨dd,.binOp .eql s x y u,tt,pos,af,g⟩ (.bool r):= .mk fun a w ha hS=>by
 have hu:P.underlying s=some (.pointer e):=hi▸ty_ok hs
 have h3:=run_eql_pointer_nil (P:=P) w s p (by rw[hu,Program.pointee,hu])
 rw[hr] at h3
 simp[execOp,ha.eval hx,ha.eval hy,eqGuard,h3]
theorem T_nePN [HasTab P] {x y:Operand} {s e u:TypeId} {p:Option Addr} {i:Ti} {r:Bool} (hx:oget T x=some (.pointer p)) (hy:oget T y=some (.pointer none)) (hs:ty P s=some i) (hi:i.desc= .pointer e) (hr:(!p.isNone)=r):
  Tk P n w0 M T H ⟨dd,.binOp .neq s x y u,tt,pos,af,g⟩ (.bool r):= .mk fun a w ha hS=>by
 have hu:P.underlying s=some (.pointer e):=hi▸ty_ok hs
 have h3:=run_neq_pointer_nil (P:=P) w s p (by rw[hu,Program.pointee,hu])
 rw[hr] at h3
 simp[execOp,ha.eval hx,ha.eval hy,eqGuard,h3]
theorem T_build5 {s:TypeId} {j1 j2 j3 j4 j5:Nat} {x1 x2 x3 x4 x5:Operand} {u1 u2 u3 u4 u5:Value} {cs:Array Value} (h1:oget T x1=some u1) (h2:oget T x2=some u2) (h3:oget T x3=some u3) (h4:oget T x4=some u4) (h5:oget T x5=some u5) (hb:P.built s [(j1,u1),(j2,u2),(j3,u3),(j4,u4),(j5,u5)]=some cs):
  Tk P n w0 M T H ⟨dd,.build s #[(j1,x1),(j2,x2),(j3,x3),(j4,x4),(j5,x5)],tt,pos,af,g⟩ (.agg cs):= .mk fun a w ha hS=>by
 have hr:=run_build (P:=P) w s #[(j1,u1),(j2,u2),(j3,u3),(j4,u4),(j5,u5)] cs (by simpa using hb)
 simp only[execOp,List.map_toArray,List.map_cons,List.map_nil,ha.eval h1,ha.eval h2,ha.eval h3,ha.eval h4,ha.eval h5,Sem.run_bind,hr,Result.andThen_ok,Sem.run_pure]
theorem T_build6 {s:TypeId} {j1 j2 j3 j4 j5 j6:Nat} {x1 x2 x3 x4 x5 x6:Operand} {u1 u2 u3 u4 u5 u6:Value} {cs:Array Value} (h1:oget T x1=some u1) (h2:oget T x2=some u2) (h3:oget T x3=some u3) (h4:oget T x4=some u4) (h5:oget T x5=some u5) (h6:oget T x6=some u6) (hb:P.built s [(j1,u1),(j2,u2),(j3,u3),(j4,u4),(j5,u5),(j6,u6)]=some cs):
  Tk P n w0 M T H ⟨dd,.build s #[(j1,x1),(j2,x2),(j3,x3),(j4,x4),(j5,x5),(j6,x6)],tt,pos,af,g⟩ (.agg cs):= .mk fun a w ha hS=>by
 have hr:=run_build (P:=P) w s #[(j1,u1),(j2,u2),(j3,u3),(j4,u4),(j5,u5),(j6,u6)] cs (by simpa using hb)
 simp only[execOp,List.map_toArray,List.map_cons,List.map_nil,ha.eval h1,ha.eval h2,ha.eval h3,ha.eval h4,ha.eval h5,ha.eval h6,Sem.run_bind,hr,Result.andThen_ok,Sem.run_pure]
end
theorem mcB_st {w0 w:World} {M:Nat→Prop} {H:List Asn} {g:Nat} {x:Rs} {m:Mm} (hS:St w0 M H w) (hm:pt g 89 (mcc x m)∈H):McB w g x m:=mcB_of (hS.at_ hm)
theorem next_any (w:World) (g:Nat) (x:Rs) (m:Mm) (hS0:St w (owns (mP g x m)) (mP g x m) w) (D:Kw) (hD:Kd D (mP g x m) w) (h: ∀ w',D w'→McR w' x m) (hl:McL x m) (hpn:m.p.pn≤900) (hu:RsU x) (hS:m.S.length≤900) (who:Int):
  Gives Tryz.prog 60 [.pointer (some ⟨g,0,none⟩),.int .i64 who] (mP g x m) w (X:=(List (Ms×Mp)×Option Addr×Nat)×Asn) (fun _=> .tuple #[]) (fun y=>y.1.1.map Prod.fst=nextM x who∧ ∀ w',K2 D y.2 w'→ ∀ s∈y.1.1,MsR w' s.1 s.2) (fun y=>mP g x (appM m y.1)++[y.2]):=by
 refine gives_N2 Tryz.func60 O Tryz.ntmps60 Tryz.results60 (by simp) hS0 (fun B hE hB=>?_)
 have hlp:=hl.hpn
 have hw:=h w hD.now
 have z1:=hw.lg.hm
 have z2:=hw.lg.hcm
 obtain⟨P,hP⟩: ∃ P,peP x m who=P:=⟨_,O⟩
 have hnm:nextM x who=match x.peers.find? (fun p=>decide (p.1=who)) with
  |none=>[]
  |some p=>if p.2.1≤x.base.1 then [{ms0 with K:=7,F:=x.me,T:=who,tm:=x.term,pl:=x.base,cf:=x.cf}]
   else [{ms0 with K:=5,F:=x.me,T:=who,tm:=x.term,pl:=(frm x.base x.es p.2.1 8).2.1,es:=(frm x.base x.es p.2.1 8).2.2,cm:=x.commit}]:=rfl
 cases hf:x.peers.find? (fun p=>decide (p.1=who)) with
 |none=>
  rw[hf] at hnm
  obtain rfl:P=none:=by rw[← hP,peP,find_none hf];rfl
  focus (refine qs ?_;refine qp ?_;refine qp ?_;refine qh F58 (fun w hS=>peer_k w g x m (mcB_st hS (by simp)) ((Srd.row (n:=m.p.pn) (c:=m.p.pc)).rd w hS) hlp (by omega) who _ hP) ?_;refine qp ?_;refine qz ?_;refine qq ?_;refine qs ?_;refine qp ?_;refine qt (T_eqPN (r:=true) O O O O O) ?_;refine qz ?_;refine qT ?_)
  have hfin: ∀ w',St w (owns (mP g x m)) (mP g x m) w'→ ∃ y:(List (Ms×Mp)×Option Addr×Nat)×Asn,(y.1.1.map Prod.fst=nextM x who∧ ∀ w',K2 D y.2 w'→ ∀ s∈y.1.1,MsR w' s.1 s.2)∧St w (owns (mP g x m)) (mP g x (appM m y.1)++[y.2]) w':=fun w' hS=>⟨(([],m.sA,m.sc),zN),⟨hnm.symm,fun _ _ s hs=>absurd hs (by simp)⟩,by
   have h1:=(zN_in hS).perm (List.perm_append_comm (l₁:=[zN]))
   simpa only[appM,List.append_nil] using h1⟩
  first
  |exact hE _ _ fun w' hS=>hfin w' (sub_st (H':=mP g x m) w' hS)
  |exact hB _ _ _ _ O fun w' hS=>hfin w' (sub_st (H':=mP g x m) w' hS)
 |some q=>
  rw[hf] at hnm
  obtain⟨i,hil,hix,hgi,_⟩:=find_some hf
  obtain rfl:P=pa m.p.pA (i*3):=by rw[← hP,peP,hix,if_pos (by omega)];rfl
  obtain⟨qw,qn,qm⟩:=q
  dsimp only at hnm
  have hat:=cellsL_at (f:=pec) pec_len x.peers default i hil
  rw[hgi] at hat
  have hat1:(cellsL pec x.peers)[i*3+1]? =some (.int .u64 (qn:Int)):=hat 1 _ O
  have hqu:=(hu.pe _ (List.mem_of_find?_eq_some hf)).1
  dsimp only at hqu
  have hrow: ∀ w',St w (owns (mP g x m)) (mP g x m) w'→m.p.pA≠none:=fun w' hS=>(row_facts (hS.at_ (A:=row 112 3 m.p.pA m.p.pn m.p.pc (cellsL pec x.peers)) (by simp))).2.2.1 (by omega)
  have hne:=hrow w hS0
  obtain⟨AP,hAP⟩: ∃ A,pa m.p.pA (i*3)=some A:=by
   cases hpA:m.p.pA with
   |none=>exact absurd hpA hne
   |some ad=>exact⟨_,O⟩
  by_cases hle:qn≤x.base.1
  ·rw[if_pos hle] at hnm
   focus (refine qs ?_;refine qp ?_;refine qp ?_;refine qh F58 (fun w hS=>peer_k w g x m (mcB_st hS (by simp)) ((Srd.row (n:=m.p.pn) (c:=m.p.pc)).rd w hS) hlp (by omega) who _ hP) ?_;refine qp ?_;refine qz ?_;refine qq ?_;refine qs ?_;refine qp ?_;refine qt (T_eqPN (r:=false) O O O O (by rw[hAP];rfl)) ?_;refine qz ?_;refine qF ?_;refine qx ?_;refine qq ?_;refine qq ?_;(refine S_draw _ (fun _ h=>h) (by kernel_rfl) O (by kernel_rfl) (rfl:_=12) ?_;(refine dp 0 ?_);(refine dt 1 O (T_nilP O hne) ?_);(refine dt 2 O (T_fap O O O O O hne) ?_);(refine dt 3 O (T_ldr (v:= .int .u64 (qn:Int)) O O O (Srd.row (n:=m.p.pn) (c:=m.p.pc)) (by omega) hat1) ?_);(refine dp 4 ?_);(refine dt 5 O (T_nilCheck O) ?_);(refine dp 6 ?_);(refine dp 7 ?_);(refine dp 8 ?_);(refine dp 9 ?_);(refine dl 10 ?_);(refine dqT 11 ?_);refine dn ?_);refine qT ?_;refine qq ?_)
   refine S_draw ([pt g 89 (mcc x m)]) sub_st (by kernel_rfl) O (by kernel_rfl) (by kernel_rfl:_=24) ?_
   refine dp 0 ?_
   refine dp 1 ?_
   refine dp 2 ?_
   refine dt 3 O (T_nilCheck O) ?_
   refine dp 4 ?_
   refine dp 5 ?_
   refine dl 6 ?_
   refine dp 7 ?_
   refine dt 8 O (T_nilCheck O) ?_
   refine dp 9 ?_
   refine dp 10 ?_
   refine dp 11 ?_
   refine dt 12 O (T_loads (ds:=atc x.base) O O O O O) ?_
   refine dp 13 ?_
   refine dt 14 O (T_nilCheck O) ?_
   refine dp 15 ?_
   refine dp 16 ?_
   refine dp 17 ?_
   refine dl 18 ?_
   refine D_one 19 O (E_hv1 (f:=92) F92 (fun w1 hS1=>C.clone_any w1 m.p.cA m.p.cn m.p.cc (x.cf.map zv) (h w1 (hD.at_ hS1)).lg.rc (C.zv_ones _) (by omega)) O O (fun _=>O)) ?_ O O (by kernel_rfl)
   rintro _ _ ⟨⟨Ac,cc⟩,rfl,_,rfl⟩
   refine nx ?_
   refine dt 20 O (T_build1 O (C.cf_built1 _ _ _)) ?_
   refine dt 21 O (T_build5 O O O O O (ms_built7 who x.term x.base Ac m.p.cn cc)) ?_
   refine D_one 22 O (E_litS (vs:=[.agg (mgc (⟨7,0,who,x.term,x.base,[],0,false,0,x.cf,[]⟩:Ms) (⟨none,0,0,Ac,m.p.cn,cc,none,0,0,[]⟩:Mp)).toArray]) (size:=12) (ds:=mgc (⟨7,0,who,x.term,x.base,[],0,false,0,x.cf,[]⟩:Ms) (⟨none,0,0,Ac,m.p.cn,cc,none,0,0,[]⟩:Mp)) O O O O O O (by simp[vcells,mgc_len]) O (by omega)) ?_ O O (by kernel_rfl)
   rintro _ _ ⟨vb,rfl,rfl⟩
   refine nx ?_
   refine D_one 23 O (E_htL (f:=113) (mP g x m) (fun(y:Option Addr×Nat)=>mP g x (addM x m ((⟨7,0,who,x.term,x.base,[],0,false,0,x.cf,[]⟩:Ms),(⟨none,0,0,Ac,m.p.cn,cc,none,0,0,[]⟩:Mp)) y.1 y.2)) F113 (fun w1 hS1 hS2=>send1_any w1 g x m hS2 (some ⟨vb,0,none⟩) 1 (⟨7,0,who,x.term,x.base,[],0,false,0,x.cf,[]⟩:Ms) (⟨none,0,0,Ac,m.p.cn,cc,none,0,0,[]⟩:Mp) (rd_12 (rd_kept (b:=vb) (t:=65) (As:=mP g x m) hS1 O)) (by omega)) O O) ?_ O O (by kernel_rfl)
   rintro _ _ ⟨⟨AS,cS⟩,rfl,_,rfl⟩;dsimp only[List.cons_append,List.nil_append]
   refine Nx_pivot (by kernel_rfl) ?_
   refine dn ?_
   skip
   skip
   have hfin: ∀ w',St w (owns (mP g x m)) (row 3 1 Ac m.p.cn cc (x.cf.map zv)::mP g x (addM x m ((⟨7,0,who,x.term,x.base,[],0,false,0,x.cf,[]⟩:Ms),(⟨none,0,0,Ac,m.p.cn,cc,none,0,0,[]⟩:Mp)) AS cS)) w'→ ∃ y:(List (Ms×Mp)×Option Addr×Nat)×Asn,(y.1.1.map Prod.fst=nextM x who∧ ∀ w',K2 D y.2 w'→ ∀ s∈y.1.1,MsR w' s.1 s.2)∧St w (owns (mP g x m)) (mP g x (appM m y.1)++[y.2]) w':=fun w' hS=>⟨(([(frmM x (⟨7,0,who,x.term,x.base,[],0,false,0,x.cf,[]⟩:Ms),(⟨none,0,0,Ac,m.p.cn,cc,none,0,0,[]⟩:Mp))],AS,cS),row 3 1 Ac m.p.cn cc (x.cf.map zv)),⟨hnm.symm,fun w2 h2 s hs=>by
    obtain rfl:s=(frmM x (⟨7,0,who,x.term,x.base,[],0,false,0,x.cf,[]⟩:Ms),(⟨none,0,0,Ac,m.p.cn,cc,none,0,0,[]⟩:Mp)):=by simpa using hs
    exact⟨O,Nat.zero_le _,O,Rd.none_,fun m hm=>absurd hm (by simp),hw.lg.hcn,by unfold maxLen;show m.p.cn≤_;omega,row_rd h2.2,Bs.nil _ _⟩⟩,hS.perm (List.perm_append_comm (l₁:=[row 3 1 Ac m.p.cn cc (x.cf.map zv)]))⟩
   first
   |exact hE _ _ fun w' hS=>hfin w' (sub_st (H':=row 3 1 Ac m.p.cn cc (x.cf.map zv)::mP g x (addM x m ((⟨7,0,who,x.term,x.base,[],0,false,0,x.cf,[]⟩:Ms),(⟨none,0,0,Ac,m.p.cn,cc,none,0,0,[]⟩:Mp)) AS cS)) w' hS)
   |exact hB _ _ _ _ O fun w' hS=>hfin w' (sub_st (H':=row 3 1 Ac m.p.cn cc (x.cf.map zv)::mP g x (addM x m ((⟨7,0,who,x.term,x.base,[],0,false,0,x.cf,[]⟩:Ms),(⟨none,0,0,Ac,m.p.cn,cc,none,0,0,[]⟩:Mp)) AS cS)) w' hS)
  ·rw[if_neg hle] at hnm
   obtain⟨⟨fe,pp,es⟩,hfr⟩: ∃ z,frm x.base x.es qn 8=z:=⟨_,O⟩
   obtain⟨K,hK⟩: ∃ K,es.length=K:=⟨_,O⟩
   rw[hfr] at hnm
   dsimp only at hnm
   have hes: ∀ e∈es,e∈x.es:=(frm_outs hfr).2
   have hKl:K≤1000:=by
    have:=(frm_outs hfr).1
    have:=hw.lg.ln
    omega
   have hidx:qn≤18446744073709551615:=by omega
   focus (refine qs ?_;refine qp ?_;refine qp ?_;refine qh F58 (fun w hS=>peer_k w g x m (mcB_st hS (by simp)) ((Srd.row (n:=m.p.pn) (c:=m.p.pc)).rd w hS) hlp (by omega) who _ hP) ?_;refine qp ?_;refine qz ?_;refine qq ?_;refine qs ?_;refine qp ?_;refine qt (T_eqPN (r:=false) O O O O (by rw[hAP];rfl)) ?_;refine qz ?_;refine qF ?_;refine qx ?_;refine qq ?_;refine qq ?_;(refine S_draw _ (fun _ h=>h) (by kernel_rfl) O (by kernel_rfl) (rfl:_=12) ?_;(refine dp 0 ?_);(refine dt 1 O (T_nilP O hne) ?_);(refine dt 2 O (T_fap O O O O O hne) ?_);(refine dt 3 O (T_ldr (v:= .int .u64 (qn:Int)) O O O (Srd.row (n:=m.p.pn) (c:=m.p.pc)) (by omega) hat1) ?_);(refine dp 4 ?_);(refine dt 5 O (T_nilCheck O) ?_);(refine dp 6 ?_);(refine dp 7 ?_);(refine dp 8 ?_);(refine dp 9 ?_);(refine dl 10 ?_);(refine dqF 11 ?_);refine dn ?_);refine qF ?_;refine qx ?_;refine qq ?_)
   refine S_cut (X:=Option Addr×Nat×Sh es×Nat) (fun y=>[(0,.pointer (some ⟨g,0,none⟩)),(1,.int .i64 who),(5,.pointer (some ⟨y.2.2.2,0,none⟩)),(6,.slice y.1 K y.2.1)]) (fun y=>pt y.2.2.2 36 (atc pp)::row 59 3 y.1 K y.2.1 (cellsL emc y.2.2.1.1)::dtB 5 (y.2.2.1.1.map emd)::mP g x m) (fun _=>True) (fun J hJ=>?_) (fun y _=>?_)
   ·skip
    refine S_draw ([pt g 89 (mcc x m),row 112 3 m.p.pA m.p.pn m.p.pc (cellsL pec x.peers)]) sub_st (by kernel_rfl) O (by kernel_rfl) (by kernel_rfl:_=18) ?_
    refine dp 0 ?_
    refine dt 1 O (T_nilCheck O) ?_
    refine dp 2 ?_
    refine dp 3 ?_
    refine dt 4 O (T_loads (ds:=lgc x.base m.p.A m.p.n m.p.c) O O O O O) ?_
    refine dp 5 ?_
    refine dt 6 O (T_nilP O hne) ?_
    refine dt 7 O (T_fap O O O O O hne) ?_
    refine dt 8 O (T_ldr (v:= .int .u64 (qn:Int)) O O O (Srd.row (n:=m.p.pn) (c:=m.p.pc)) (by omega) hat1) ?_
    refine D_two 9 14 (by decide) O O (E_hvG (f:=135) F135 (fun w1 hS1=>from_S w1 x.base m.p.A m.p.c m.p.n m.p.Q x.es hw.lg.hn hw.lg.hQ (h w1 (hD.at_ hS1)).lg.rq (h w1 (hD.at_ hS1)).lg.dt hw.lg.hc hw.lg.hm hw.lg.hd qn hidx 8 fe pp es K hK hfr) O O) (E_alloca O at_zero) ?_ ?_ O O O O (by kernel_rfl)
    ·rintro _ _ ⟨⟨⟨A5,c5⟩,P5⟩,rfl,hc5,rfl⟩;dsimp only[List.cons_append,List.nil_append]
     refine nx ?_
     refine dp 10 ?_
     refine dp 11 ?_
     refine dp 12 ?_
     refine dp 13 ?_
     refine D_one 14 O (E_alloca O at_zero) ?_ O O (by kernel_rfl)
     rintro _ _ ⟨b5,rfl,rfl⟩
     refine nx ?_
     refine D_one 15 O (E_storew (cs:=atc (0,0)) (ds:=atc pp) O O O O (atc_one _) O) ?_ O O (by kernel_rfl)
     rintro _ _ rfl
     refine nx ?_
     refine dp 16 ?_
     refine dp 17 ?_
     refine dn ?_
     exact hJ (A5,c5,P5,b5) _ _ trivial (Sub.cons O (Sub.cons O (Sub.cons O (Sub.cons O Sub.nil)))) sub_st
    ·rintro _ _ ⟨b5,rfl,rfl⟩
     refine nx ?_
     refine D_one 9 O (E_hvG (f:=135) F135 (fun w1 hS1=>from_S w1 x.base m.p.A m.p.c m.p.n m.p.Q x.es hw.lg.hn hw.lg.hQ (h w1 (hD.at_ hS1)).lg.rq (h w1 (hD.at_ hS1)).lg.dt hw.lg.hc hw.lg.hm hw.lg.hd qn hidx 8 fe pp es K hK hfr) O O) ?_ O O (by kernel_rfl)
     rintro _ _ ⟨⟨⟨A5,c5⟩,P5⟩,rfl,hc5,rfl⟩;dsimp only[List.cons_append,List.nil_append]
     refine nx ?_
     refine dp 10 ?_
     refine dp 11 ?_
     refine dp 12 ?_
     refine dp 13 ?_
     refine D_one 15 O (E_storew (cs:=atc (0,0)) (ds:=atc pp) O O O O (atc_one _) O) ?_ O O (by kernel_rfl)
     rintro _ _ rfl
     refine nx ?_
     refine dp 16 ?_
     refine dp 17 ?_
     refine dn ?_
     exact hJ (A5,c5,P5,b5) _ _ trivial (Sub.cons O (Sub.cons O (Sub.cons O (Sub.cons O Sub.nil)))) sub_st
   obtain⟨A5,c5,P5,b5⟩:=y
   dsimp only[List.cons_append,List.nil_append,mP]
   refine S_draw ([pt g 89 (mcc x m),pt b5 36 (atc pp)]) sub_st (by kernel_rfl) O (by kernel_rfl) (by kernel_rfl:_=17) ?_
   refine dp 0 ?_
   refine dp 1 ?_
   refine dp 2 ?_
   refine dt 3 O (T_nilCheck O) ?_
   refine dp 4 ?_
   refine dp 5 ?_
   refine dl 6 ?_
   refine dt 7 O (T_loads (ds:=atc pp) O O O O O) ?_
   refine dp 8 ?_
   refine dp 9 ?_
   refine dt 10 O (T_nilCheck O) ?_
   refine dp 11 ?_
   refine dp 12 ?_
   refine dl 13 ?_
   refine dt 14 O (T_build6 O O O O O O (ms_built5 who x.term x.commit pp A5 K c5)) ?_
   refine D_one 15 O (E_litS (vs:=[.agg (mgc (⟨5,0,who,x.term,pp,es,x.commit,false,0,[],[]⟩:Ms) (⟨A5,K,c5,none,0,0,none,0,0,P5.1⟩:Mp)).toArray]) (size:=12) (ds:=mgc (⟨5,0,who,x.term,pp,es,x.commit,false,0,[],[]⟩:Ms) (⟨A5,K,c5,none,0,0,none,0,0,P5.1⟩:Mp)) O O O O O O (by simp[vcells,mgc_len]) O (by omega)) ?_ O O (by kernel_rfl)
   rintro _ _ ⟨vb,rfl,rfl⟩
   refine nx ?_
   refine D_one 16 O (E_htL (f:=113) (mP g x m) (fun(y:Option Addr×Nat)=>mP g x (addM x m ((⟨5,0,who,x.term,pp,es,x.commit,false,0,[],[]⟩:Ms),(⟨A5,K,c5,none,0,0,none,0,0,P5.1⟩:Mp)) y.1 y.2)) F113 (fun w1 hS1 hS2=>send1_any w1 g x m hS2 (some ⟨vb,0,none⟩) 1 (⟨5,0,who,x.term,pp,es,x.commit,false,0,[],[]⟩:Ms) (⟨A5,K,c5,none,0,0,none,0,0,P5.1⟩:Mp) (rd_12 (rd_kept (b:=vb) (t:=65) (As:=mP g x m) hS1 O)) (by omega)) O O) ?_ O O (by kernel_rfl)
   rintro _ _ ⟨⟨AS,cS⟩,rfl,_,rfl⟩;dsimp only[List.cons_append,List.nil_append]
   refine Nx_pivot (by kernel_rfl) ?_
   refine dn ?_
   skip
   skip
   have hfin: ∀ w',St w (owns (mP g x m)) (row 59 3 A5 K c5 (cellsL emc P5.1)::dtB 5 (P5.1.map emd)::mP g x (addM x m ((⟨5,0,who,x.term,pp,es,x.commit,false,0,[],[]⟩:Ms),(⟨A5,K,c5,none,0,0,none,0,0,P5.1⟩:Mp)) AS cS)) w'→ ∃ y:(List (Ms×Mp)×Option Addr×Nat)×Asn,(y.1.1.map Prod.fst=nextM x who∧ ∀ w',K2 D y.2 w'→ ∀ s∈y.1.1,MsR w' s.1 s.2)∧St w (owns (mP g x m)) (mP g x (appM m y.1)++[y.2]) w':=fun w' hS=>⟨(([(frmM x (⟨5,0,who,x.term,pp,es,x.commit,false,0,[],[]⟩:Ms),(⟨A5,K,c5,none,0,0,none,0,0,P5.1⟩:Mp))],AS,cS),zA (row 59 3 A5 K c5 (cellsL emc P5.1)) (dtB 5 (P5.1.map emd))),⟨hnm.symm,fun w2 h2 s hs=>by
    obtain rfl:s=(frmM x (⟨5,0,who,x.term,pp,es,x.commit,false,0,[],[]⟩:Ms),(⟨A5,K,c5,none,0,0,none,0,0,P5.1⟩:Mp)):=by simpa using hs
    have hl5:P5.1.length=K:=by have:=congrArg List.length P5.2.1;rw[List.length_map] at this;omega
    exact⟨hl5,(by unfold maxLen;show K≤_;omega),P5.2.1,row_rd (zA_l h2.2),fun m hm=>dtB_bsW (zA_r h2.2) (emd m) (List.mem_map.2 ⟨m,hm,O⟩),O,Nat.zero_le _,Rd.none_,Bs.nil _ _⟩⟩,(zA_in hS).perm (List.perm_append_comm (l₁:=[zA _ _]))⟩
   first
   |exact hE _ _ fun w' hS=>hfin w' (sub_st (H':=row 59 3 A5 K c5 (cellsL emc P5.1)::dtB 5 (P5.1.map emd)::mP g x (addM x m ((⟨5,0,who,x.term,pp,es,x.commit,false,0,[],[]⟩:Ms),(⟨A5,K,c5,none,0,0,none,0,0,P5.1⟩:Mp)) AS cS)) w' hS)
   |exact hB _ _ _ _ O fun w' hS=>hfin w' (sub_st (H':=row 59 3 A5 K c5 (cellsL emc P5.1)::dtB 5 (P5.1.map emd)::mP g x (addM x m ((⟨5,0,who,x.term,pp,es,x.commit,false,0,[],[]⟩:Ms),(⟨A5,K,c5,none,0,0,none,0,0,P5.1⟩:Mp)) AS cS)) w' hS)
theorem Kd.to {D:Kw} {As As' Hr:List Asn} {w w':World} (h:Kd D As w) (hS:St w (owns As) (As'++Hr) w'):Kd D As' w':=fun w2 hk=>(h.subL (L:=[]) hS (fun _ h=>by cases h) w2 hk).1
theorem pt_cell {b t:Nat} {v:Value} {w:World} (h:(pt b t [v]).holds w):w.cell? ⟨b,0,none⟩=some v:=by
 have h2:=(Srd.pt (w0:=w) (M:=fun k=>k=b) (H:=[pt b t [v]]) (g:=b) (t:=t) (n:=1) (size:=1) (off:=0) (cs:=[v]) (ds:=[v]) O (fun j u hj=>by rw[Nat.zero_add];exact hj)).rd w ⟨Kp.refl _ _,fun A hA=>by
  obtain rfl:A=pt b t [v]:=by simpa using hA
  refine⟨h,fun k hk=>?_⟩
  obtain rfl:k=b:=hk
  exact⟨.inl O,(Array.getElem?_eq_some_iff.1 h).1⟩,List.pairwise_singleton _ _⟩
 obtain⟨ad,e,_,hc⟩:=h2.2 (by omega)
 injection e with e
 subst e
 exact hc 0 v O
theorem mc_me {g:Nat} {x:Rs} {m:Mm} {w:World} (h:(pt g 89 (mcc x m)).holds w):w.cell? ⟨g,0,none⟩=some (.int .i64 x.me):=by
 obtain⟨ad,e,_,hc⟩:=(mcB_of h).2 (by omega)
 injection e with e
 subst e
 exact hc 0 _ O
theorem appM_nil (m:Mm):appM m ([],m.sA,m.sc)=m:=by simp[appM]
theorem flat_len {f:Int→List Ms} (h: ∀ n,(f n).length≤1): ∀ l:List Int,(l.flatMap f).length≤l.length
 |[]=>Nat.le_refl _
 |a::l=>by
  have:=flat_len h l
  have:=h a
  rw[List.flatMap_cons,List.length_append,List.length_cons]
  omega
def wkP (g:Nat) (v:Value):Asn:= .any (fun k=>k=g) (fun w=>w.cell? ⟨g,0,none⟩=some v) (fun w w' hk h=>hk.cell (F:=fun k=>k=g) O h)
theorem wk2 {w0 w:World} {M:Nat→Prop} {g t:Nat} {cs:List Value} {A:Asn} {v:Value} (hS:St w0 M [pt g t cs,A] w) (hv:cs[0]? =some v):St w0 M [A,wkP g v] w:=by
 have h1:St w0 M [wkP g v,A] w:=hS.turn (A:=pt g t cs) Upd.here (fun hb=>by
  have hc:=hS.cell (H:=[pt g t cs,A]) (g:=g) (t:=t) (cs:=cs) (by simp) hv
  exact hc) (fun k hk=>hk)
 exact h1.perm (List.Perm.swap _ _ _)
def votM (m:Mm) (b:Nat):Mm:=⟨⟨m.p.A,m.p.n,m.p.c,m.p.Q,m.p.cA,m.p.cn,m.p.cc,some ⟨b,0,none⟩,1,1,m.p.pA,m.p.pn,m.p.pc⟩,m.S,m.sA,m.sc,m.i⟩
theorem lit_row {w0 w:World} {M:Nat→Prop} {H:List Asn} {b:Nat} {v:Value} (hS:St w0 M (pt b 3 [v]::H) w):St w0 M (row 3 1 (some ⟨b,0,none⟩) 1 1 [v]::H) w:=
 St.rowOf (size:=1) (n:=1) (m:=1) (cs:=[v]) hS Upd.here (by omega) (by unfold maxLen;omega) O
theorem votes_in {w0 w:World} {M:Nat→Prop} {g b b1:Nat} {x y:Rs} {m:Mm} (hS:St w0 M [pt b 3 [zv x.me],pt g 89 (mcc y (votM m b)),row 112 3 m.p.pA m.p.pn m.p.pc (cellsL pec x.peers),row 65 12 m.sA m.S.length m.sc (cellsL sgc m.S),pt b1 87 [.pointer (some ⟨g,0,none⟩)]] w) (hv:y.votes=[x.me]:=by rfl) (hp:y.peers=x.peers:=by rfl):St w0 M (pt b1 87 [.pointer (some ⟨g,0,none⟩)]::mP g y (votM m b)) w:=by
 have h1:=sub_st (H':=[pt b1 87 [.pointer (some ⟨g,0,none⟩)],pt g 89 (mcc y (votM m b)),row 3 1 (some ⟨b,0,none⟩) 1 1 [zv x.me],row 112 3 m.p.pA m.p.pn m.p.pc (cellsL pec x.peers),row 65 12 m.sA m.S.length m.sc (cellsL sgc m.S)]) w (lit_row hS)
 show St w0 M [pt b1 87 [.pointer (some ⟨g,0,none⟩)],pt g 89 (mcc y (votM m b)),row 3 1 (some ⟨b,0,none⟩) 1 1 (y.votes.map zv),row 112 3 m.p.pA m.p.pn m.p.pc (cellsL pec y.peers),row 65 12 m.sA m.S.length m.sc (cellsL sgc m.S)] w
 rw[hv,hp]
 exact h1
theorem maj_k (w:World) (A A2:Option Addr) (n c n2 c2:Nat) (ms set:List Int) (h:Rd w All 1 A n (ms.map zv)) (h2:Rd w All 1 A2 n2 (set.map zv)) (hn:n≤1000) (hn2:n2≤1000) (r:Bool) (hr:C.majB ms set=r):
  Gives Tryz.prog 111 [C.cfv A n c,.slice A2 n2 c2] [] w (X:=Unit) (fun _=> .bool r) (fun _=>True) (fun _=>[]):=hr▸C.maj_any w A A2 n c n2 c2 ms set h h2 hn hn2
theorem ms_built1 (who:Int) (t:Nat) (b:At):Tryz.prog.built 65 [(0,.int .i64 1),(2,.int .i64 who),(3,.int .u64 (t:Int)),(4,.agg (atc b).toArray)]=some (mgc ⟨1,0,who,t,b,[],0,false,0,[],[]⟩ ⟨none,0,0,none,0,0,none,0,0,[]⟩).toArray:=by kernel_rfl
theorem ms_built3 (who:Int) (t:Nat) (b:At):Tryz.prog.built 65 [(0,.int .i64 3),(2,.int .i64 who),(3,.int .u64 (t:Int)),(4,.agg (atc b).toArray)]=some (mgc ⟨3,0,who,t,b,[],0,false,0,[],[]⟩ ⟨none,0,0,none,0,0,none,0,0,[]⟩).toArray:=by kernel_rfl
theorem ask_no (w:World) (g:Nat) (x:Rs) (m:Mm) (hS0:St w (owns (mP g x m)) (mP g x m) w) (D:Kw) (hD:Kd D (mP g x m) w) (h: ∀ w',D w'→McR w' x m) (hl:McL x m) (htm:x.term≤4611686018427387904) (h5:(nowL x).length≤5) (hSm:m.S.length≤800) (hmj:C.majB (nowL x) [x.me]=false):
  Gives Tryz.prog 44 [.pointer (some ⟨g,0,none⟩)] (mP g x m) w (X:=Nat×(List (Ms×Mp)×Option Addr×Nat)×Asn) (fun _=> .tuple #[]) (fun y=>y.2.1.1.map Prod.fst=(felL (askX x)).flatMap (fun n=>[{ms0 with K:=1,F:=x.me,T:=n,tm:=x.term+1,pl:=lastP x}])∧ ∀ w',K2 D y.2.2 w'→ ∀ s∈y.2.1.1,MsR w' s.1 s.2) (fun y=>mP g (askX x) (appM (votM m y.1) y.2.1)++[y.2.2]):=by
 refine gives_MN Tryz.func44 O Tryz.ntmps44 Tryz.results44 (by simp) hS0 (fun B hE0 hR0 hEM=>?_)
 focus (refine qs ?_;(refine qe (E_box1 (v:= .pointer (some ⟨g,0,none⟩)) O O) ?_;rintro _ _ ⟨b1,rfl,rfl⟩);refine qz ?_;refine qq ?_)
 refine S_cut (X:=Nat) (fun bl=>[(1,.pointer (some ⟨b1,0,none⟩))]) (fun bl=>pt b1 87 [.pointer (some ⟨g,0,none⟩)]::mP g (askX x) (votM m bl)) (fun _=>True) (fun J hJ=>?_) (fun bl _=>?_)
 ·skip
  refine S_draw ([pt b1 87 [.pointer (some ⟨g,0,none⟩)],wkP g (.int .i64 x.me)]) ((fun w1 hS1=>wk2 (sub_st (H':=[pt g 89 (mcc x m),pt b1 87 [.pointer (some ⟨g,0,none⟩)]]) w1 hS1) O)) (by kernel_rfl) O (by kernel_rfl) (by kernel_rfl:_=21) ?_
  refine dl 0 ?_
  refine dl 1 ?_
  refine dl 2 ?_
  refine dl 3 ?_
  refine dt 4 O (T_nilCheck O) ?_
  refine dp 5 ?_
  refine dp 6 ?_
  refine dt 7 O (T_ldq O O O (fun w1 hS1=>hS1.at_ (A:=wkP g (.int .i64 x.me)) (by simp))) ?_
  refine dt 9 O (T_nilCheck O) ?_
  refine dp 10 ?_
  refine dp 11 ?_
  refine D_two 8 12 (by decide) O O (E_lit1 (m:=1) (vs:=[zv x.me]) O O O O O O O (by simp[zv,Value.oneCell']) (by decide)) (E_storeA1 (cs:=mcc x m) (cs':=mcc {x with role:=2} m) O O O O O O (by show _<16;omega)) ?_ ?_ O O O O (by kernel_rfl)
  ·rintro _ _ ⟨bl,rfl,rfl⟩
   first|refine Nx_same (fun w1 hS1=>wk2 (sub_st (H':=[pt g 89 (mcc x m),pt b1 87 [.pointer (some ⟨g,0,none⟩)]]) w1 hS1) O) ?_|refine Nx_same (fun w1 hS1=>wk2 (sub_st (H':=[pt g 89 (mcc {x with role:=2} m),pt b1 87 [.pointer (some ⟨g,0,none⟩)]]) w1 hS1) O) ?_
   refine D_one 12 O (E_storeA1 (cs:=mcc x m) (cs':=mcc {x with role:=2} m) O O O O O O (by show _<16;omega)) ?_ O O (by kernel_rfl)
   rintro _ _ rfl
   refine Nx_same (fun w1 hS1=>wk2 (sub_st (H':=[pt g 89 (mcc {x with role:=2} m),pt b1 87 [.pointer (some ⟨g,0,none⟩)]]) w1 hS1) O) ?_
   refine dt 13 O (T_nilCheck O) ?_
   refine dp 14 ?_
   refine dp 15 ?_
   refine D_one 16 O (E_storeA1 (cs:=mcc {x with role:=2} m) (cs':=mcc {x with role:=2} (votM m bl)) O O O O O O (by show _<16;omega)) ?_ O O (by kernel_rfl)
   rintro _ _ rfl
   refine Nx_same (fun w1 hS1=>wk2 (sub_st (H':=[pt g 89 (mcc {x with role:=2} (votM m bl)),pt b1 87 [.pointer (some ⟨g,0,none⟩)]]) w1 hS1) O) ?_
   refine dt 17 O (T_nilCheck O) ?_
   refine dp 18 ?_
   refine dp 19 ?_
   refine D_one 20 O (E_storeA1 (cs:=mcc {x with role:=2} (votM m bl)) (cs':=mcc (askX x) (votM m bl)) O O O O O O (by show _<16;omega)) ?_ O O (by kernel_rfl)
   rintro _ _ rfl
   refine Nx_same (fun w1 hS1=>wk2 (sub_st (H':=[pt g 89 (mcc (askX x) (votM m bl)),pt b1 87 [.pointer (some ⟨g,0,none⟩)]]) w1 hS1) O) ?_
   refine dn ?_
   exact hJ bl _ _ trivial (Sub.cons O Sub.nil) (fun w1 hS1=>votes_in (sub_st (H':=[pt bl 3 [zv x.me],pt g 89 (mcc (askX x) (votM m bl)),row 112 3 m.p.pA m.p.pn m.p.pc (cellsL pec x.peers),row 65 12 m.sA m.S.length m.sc (cellsL sgc m.S),pt b1 87 [.pointer (some ⟨g,0,none⟩)]]) w1 hS1))
  ·rintro _ _ rfl
   refine Nx_same (fun w1 hS1=>wk2 (sub_st (H':=[pt g 89 (mcc {x with role:=2} m),pt b1 87 [.pointer (some ⟨g,0,none⟩)]]) w1 hS1) O) ?_
   refine D_one 8 O (E_lit1 (m:=1) (vs:=[zv x.me]) O O O O O O O (by simp[zv,Value.oneCell']) (by decide)) ?_ O O (by kernel_rfl)
   rintro _ _ ⟨bl,rfl,rfl⟩
   first|refine Nx_same (fun w1 hS1=>wk2 (sub_st (H':=[pt g 89 (mcc x m),pt b1 87 [.pointer (some ⟨g,0,none⟩)]]) w1 hS1) O) ?_|refine Nx_same (fun w1 hS1=>wk2 (sub_st (H':=[pt g 89 (mcc {x with role:=2} m),pt b1 87 [.pointer (some ⟨g,0,none⟩)]]) w1 hS1) O) ?_
   refine dt 13 O (T_nilCheck O) ?_
   refine dp 14 ?_
   refine dp 15 ?_
   refine D_one 16 O (E_storeA1 (cs:=mcc {x with role:=2} m) (cs':=mcc {x with role:=2} (votM m bl)) O O O O O O (by show _<16;omega)) ?_ O O (by kernel_rfl)
   rintro _ _ rfl
   refine Nx_same (fun w1 hS1=>wk2 (sub_st (H':=[pt g 89 (mcc {x with role:=2} (votM m bl)),pt b1 87 [.pointer (some ⟨g,0,none⟩)]]) w1 hS1) O) ?_
   refine dt 17 O (T_nilCheck O) ?_
   refine dp 18 ?_
   refine dp 19 ?_
   refine D_one 20 O (E_storeA1 (cs:=mcc {x with role:=2} (votM m bl)) (cs':=mcc (askX x) (votM m bl)) O O O O O O (by show _<16;omega)) ?_ O O (by kernel_rfl)
   rintro _ _ rfl
   refine Nx_same (fun w1 hS1=>wk2 (sub_st (H':=[pt g 89 (mcc (askX x) (votM m bl)),pt b1 87 [.pointer (some ⟨g,0,none⟩)]]) w1 hS1) O) ?_
   refine dn ?_
   exact hJ bl _ _ trivial (Sub.cons O Sub.nil) (fun w1 hS1=>votes_in (sub_st (H':=[pt bl 3 [zv x.me],pt g 89 (mcc (askX x) (votM m bl)),row 112 3 m.p.pA m.p.pn m.p.pc (cellsL pec x.peers),row 65 12 m.sA m.S.length m.sc (cellsL sgc m.S),pt b1 87 [.pointer (some ⟨g,0,none⟩)]]) w1 hS1))
 have h1: ∀ w',D w'→McR w' (askX x) (votM m bl):=fun w' h'=>⟨(h w' h').lg.like O O O O O O O O,(h w' h').ms⟩
 have hfl:(felL (askX x)).length≤5:=Nat.le_trans (List.length_filter_le _ _) h5
 have hnl:(nowL (askX x)).length≤5:=h5
 have htm1:(askX x).term≤4611686018427387905:=Nat.le_trans htm (by decide)
 focus (refine qq ?_;refine qq ?_)
 refine S_draw ([pt b1 87 [.pointer (some ⟨g,0,none⟩)],pt g 89 (mcc (askX x) (votM m bl))]) sub_st (by kernel_rfl) O (by kernel_rfl) (by kernel_rfl:_=8) ?_
 refine dl 0 ?_
 refine dl 2 ?_
 refine dt 3 O (T_nilCheck O) ?_
 refine dp 4 ?_
 refine dp 5 ?_
 refine dl 6 ?_
 refine D_one 1 O (E_hv1 (f:=43) F43 (fun w1 hS1=>mforce_k w1 g (askX x) (votM m bl) (mcB_st hS1 (by simp)) D (hD.call0 hS1) (fun w2 h2=>(h1 w2 h2).lg) (nowL x) O) O O (fun _=>O)) ?_ O O (by kernel_rfl)
 rintro _ _ ⟨⟨⟨A3,K3,c3⟩,Z3⟩,rfl,hI3,rfl⟩
 refine nx ?_
 refine D_one 7 O (E_hv0 (f:=111) F111 (fun w1 hS1=>maj_k w1 A3 (some ⟨bl,0,none⟩) (nowL x).length c3 1 1 (nowL x) [x.me] (hI3 w1 ⟨hD.at_ hS1,hS1.at_ (A:=Z3) (by simp)⟩) (row_rd (hS1.at_ (A:=row 3 1 (votM m bl).p.vA (votM m bl).p.vn (votM m bl).p.vc ((askX x).votes.map zv)) (by simp))) (by omega) (by omega) _ hmj) O O (fun _=>O)) ?_ O O (by kernel_rfl)
 rintro _ _ ⟨_,rfl,_,rfl⟩
 refine nx ?_
 refine dn ?_
 skip
 focus (refine qF ?_;refine qx ?_;refine qs ?_;refine qt (T_load O O O O) ?_;(refine qe (E_hv1 (f:=57) F57 (fun w1 hS1=>fellows_any w1 g) O O (fun _=>O)) ?_;rintro _ _ ⟨b2,rfl,_,rfl⟩);refine qz ?_;refine qb ?_)
 refine RS_zN ?_
 refine S_rangeR (D0:=KL D [pt b2 87 [.pointer (some ⟨g,0,none⟩)]]) (R0:=fun w'=>McB w' g (askX x) (appM (votM m bl) ([],(votM m bl).sA,(votM m bl).sc))) (R:=fun w'=>w'.cell? ⟨g,0,none⟩=some (.int .i64 x.me)) (es:=(felL (askX x)).map fun n=>[zv n]) (ps:=[33]) (X:=(List (Ms×Mp)×Option Addr×Nat)×Asn) (fun y=>y.2::mP g (askX x) (appM (votM m bl) y.1)) (fun i y=>y.1.1.map Prod.fst=((felL (askX x)).take i).flatMap (fun n=>[{ms0 with K:=1,F:=x.me,T:=n,tm:=x.term+1,pl:=lastP x}])∧ ∀ w',K2 D y.2 w'→ ∀ s∈y.1.1,MsR w' s.1 s.2) (fun i y=>False) (([],(votM m bl).sA,(votM m bl).sc),zN) [pt b2 87 [.pointer (some ⟨g,0,none⟩)],pt b1 87 [.pointer (some ⟨g,0,none⟩)]] O O F132 (by kernel_rfl) (fun e he=>?_) ⟨O,fun _ _ s hs=>absurd hs (by simp)⟩ (fun w' hS=>?_) (fun w' hS=>?_) (fun w' hS=>hD.subL hS (by simp)) (fun w' hw=>mcB_of (hw (pt g 89 (mcc (askX x) (appM (votM m bl) ([],(votM m bl).sA,(votM m bl).sc)))) (by simp))) (fun i y w' _ hw=>mc_me (x:=(askX x)) (hw (pt g 89 (mcc (askX x) (appM (votM m bl) y.1))) (by simp))) (fun j y w' hx hj hS=>?_) (fun y Dd hy=>?_) (fun y Dd j hj hy=>absurd hy id)
 ·obtain⟨n,_,rfl⟩:=List.mem_map.1 he
  rfl
 ·rw[appM_nil]
  exact sub_st (H':=[zN,pt g 89 (mcc (askX x) (votM m bl)),row 3 1 (votM m bl).p.vA (votM m bl).p.vn (votM m bl).p.vc ((askX x).votes.map zv),row 112 3 (votM m bl).p.pA (votM m bl).p.pn (votM m bl).p.pc (cellsL pec (askX x).peers),row 65 12 (votM m bl).sA (votM m bl).S.length (votM m bl).sc (cellsL sgc (votM m bl).S),pt b2 87 [.pointer (some ⟨g,0,none⟩)],pt b1 87 [.pointer (some ⟨g,0,none⟩)]]) w' hS
 ·exact fellows_iter w' g b2 (askX x) (appM (votM m bl) ([],(votM m bl).sA,(votM m bl).sc)) _ (fun w2 h2=>(h1 w2 h2.1).lg) (fun w2 h2=>pt_cell (t:=87) (h2.2 (pt b2 87 [.pointer (some ⟨g,0,none⟩)]) (by simp))) (nowL (askX x)) O (by omega)
 ·rw[List.length_map] at hj
  obtain⟨n,hn⟩: ∃ n,(felL (askX x)).getD j 0=n:=⟨_,O⟩
  have htk:(felL (askX x)).take (j+1)=(felL (askX x)).take j++[n]:=by rw[List.take_succ_eq_append_getElem hj];simp[List.getD,hj, ← hn]
  have hge:((felL (askX x)).map fun n=>[zv n]).getD j []=[zv n]:=by rw[← hn];simp[List.getD,hj]
  rw[hge]
  obtain⟨⟨N,AN,cN⟩,Zy⟩:=y
  obtain⟨hx1,hx2⟩:=hx
  dsimp only at hx1 hx2
  have hNl:N.length≤5:=by
   have e1:N.length=(((felL (askX x)).take j).flatMap (fun n=>[{ms0 with K:=1,F:=x.me,T:=n,tm:=x.term+1,pl:=lastP x}])).length:=by rw[← hx1,List.length_map]
   rw[e1]
   refine Nat.le_trans (flat_len (fun a=>?_) _) ?_
   ·exact Nat.le_refl _
   ·rw[List.length_take]
    omega
  intro l2 rA rB Ba Bb J hfull hbeg hend hret
  have hC1:=rd_kept (b:=b1) (As:=rA::Zy::mP g (askX x) (appM (votM m bl) (N,AN,cN))) hfull O
  have hDr:Kd D (rA::Zy::mP g (askX x) (appM (votM m bl) (N,AN,cN))) w':=hD.to hfull
  have hms: ∀ w2,K2 D Zy w2→McR w2 (askX x) (appM (votM m bl) (N,AN,cN)):=fun w2 h2=>⟨(h1 w2 h2.1).lg,fun s hs=>by
   rcases List.mem_append.1 hs with hs|hs
   ·exact(h1 w2 h2.1).ms s hs
   ·exact hx2 w2 h2 s hs⟩
  have hSl:(appM (votM m bl) (N,AN,cN)).S.length≤900:=by
   show ((votM m bl).S++N).length≤900
   rw[List.length_append]
   have:(votM m bl).S.length≤800:=hSm
   omega
  focus (refine qr ?_;refine qp ?_;refine qz ?_)
  refine hbeg _ (Zy::mP g (askX x) (appM (votM m bl) (N,AN,cN))) _ ?_ sub_st
  focus (refine qb ?_)
  refine S_drawR ([pt g 89 (mcc (askX x) (appM (votM m bl) (N,AN,cN)))]) sub_st (by kernel_rfl) O (by kernel_rfl) (by kernel_rfl) (by kernel_rfl:_=13) ?_
  refine dt 0 O (T_loadg (v:= .pointer (some ⟨g,0,none⟩)) O O O hC1 (fun k hk=>hk) O) ?_
  refine dp 1 ?_
  refine dt 2 O (T_loadg (v:= .pointer (some ⟨g,0,none⟩)) O O O hC1 (fun k hk=>hk) O) ?_
  refine dt 3 O (T_nilCheck O) ?_
  refine dp 4 ?_
  refine dp 5 ?_
  refine dl 6 ?_
  (refine dt 7 O (T_addN O O (by unfold fits;omega)) ?_)
  refine dt 8 O (T_loadg (v:= .pointer (some ⟨g,0,none⟩)) O O O hC1 (fun k hk=>hk) O) ?_
  refine D_one 9 O (E_hv0 (f:=59) F59 (fun w hS=>mlast_k w g (askX x) (appM (votM m bl) (N,AN,cN)) (mcB_st hS (by simp)) (h1 w (hDr.at_ hS)).lg) O O (fun _=>O)) ?_ O O (by kernel_rfl)
  rintro _ _ ⟨_,rfl,_,rfl⟩
  refine nx ?_
  refine dt 10 O (T_build4 O O O O (ms_built1 n (x.term+1) (lastP x))) ?_
  refine D_one 11 O (E_litS (vs:=[.agg (mgc (⟨1,0,n,x.term+1,lastP x,[],0,false,0,[],[]⟩:Ms) (⟨none,0,0,none,0,0,none,0,0,[]⟩:Mp)).toArray]) (size:=12) (ds:=mgc (⟨1,0,n,x.term+1,lastP x,[],0,false,0,[],[]⟩:Ms) (⟨none,0,0,none,0,0,none,0,0,[]⟩:Mp)) O O O O O O (by simp[vcells,mgc_len]) O (by omega)) ?_ O O (by kernel_rfl)
  rintro _ _ ⟨vb,rfl,rfl⟩
  refine nx ?_
  refine D_one 12 O (E_htL (f:=113) (mP g (askX x) (appM (votM m bl) (N,AN,cN))) (fun(y:Option Addr×Nat)=>mP g (askX x) (addM (askX x) (appM (votM m bl) (N,AN,cN)) ((⟨1,0,n,x.term+1,lastP x,[],0,false,0,[],[]⟩:Ms),(⟨none,0,0,none,0,0,none,0,0,[]⟩:Mp)) y.1 y.2)) F113 (fun w1 hS1 hS2=>send1_any w1 g (askX x) (appM (votM m bl) (N,AN,cN)) hS2 (some ⟨vb,0,none⟩) 1 (⟨1,0,n,x.term+1,lastP x,[],0,false,0,[],[]⟩:Ms) (⟨none,0,0,none,0,0,none,0,0,[]⟩:Mp) (rd_12 (rd_kept (b:=vb) (t:=65) (As:=mP g (askX x) (appM (votM m bl) (N,AN,cN))) hS1 O)) (by omega)) O O) ?_ O O (by kernel_rfl)
  rintro _ _ ⟨⟨AS,cS⟩,rfl,_,rfl⟩;dsimp only[List.cons_append,List.nil_append]
  refine Nx_pivot (by kernel_rfl) ?_
  refine dn ?_
  skip
  focus (refine RS_blk ?_)
  refine hend ((N++[(frmM (askX x) (⟨1,0,n,x.term+1,lastP x,[],0,false,0,[],[]⟩:Ms),(⟨none,0,0,none,0,0,none,0,0,[]⟩:Mp))],AS,cS),Zy) _ _ ⟨?_,fun w2 h2 s hs=>?_⟩ ?_
  ·dsimp only
   rw[htk,List.flatMap_append,List.map_append,hx1]
   rfl
  ·rcases List.mem_append.1 hs with hs|hs
   ·exact hx2 w2 h2 s hs
   ·obtain rfl:s=(frmM (askX x) (⟨1,0,n,x.term+1,lastP x,[],0,false,0,[],[]⟩:Ms),(⟨none,0,0,none,0,0,none,0,0,[]⟩:Mp)):=by simpa using hs
    exact⟨O,Nat.zero_le _,O,Rd.none_,fun m hm=>absurd hm (by simp),O,Nat.zero_le _,Rd.none_,Bs.nil _ _⟩
  ·have e:addM (askX x) (appM (votM m bl) (N,AN,cN)) ((⟨1,0,n,x.term+1,lastP x,[],0,false,0,[],[]⟩:Ms),(⟨none,0,0,none,0,0,none,0,0,[]⟩:Mp)) AS cS=appM (votM m bl) (N++[(frmM (askX x) (⟨1,0,n,x.term+1,lastP x,[],0,false,0,[],[]⟩:Ms),(⟨none,0,0,none,0,0,none,0,0,[]⟩:Mp))],AS,cS):=by simp[addM,appM]
   dsimp only
   rw[← e]
   exact sub_st
 ·simp only[List.cons_append,List.nil_append]
  focus (refine RS_blk ?_)
  refine hEM _ _ _ _ inferInstance fun w' hS=>⟨(bl,y.1,y.2),?_,?_⟩
  ·rw[List.length_map,List.take_length] at hy
   exact hy
  ·exact(sub_st (H':=y.2::mP g (askX x) (appM (votM m bl) y.1)) w' hS).perm (List.perm_append_comm (l₁:=[y.2]))
theorem stand_no (w:World) (g:Nat) (x:Rs) (m:Mm) (hS0:St w (owns (mP g x m)) (mP g x m) w) (D:Kw) (hD:Kd D (mP g x m) w) (h: ∀ w',D w'→McR w' x m) (hl:McL x m) (htm:x.term≤4611686018427387904) (h5:(nowL x).length≤5) (hSm:m.S.length≤800) (hmj:C.majB (nowL x) [x.me]=false):
  Gives Tryz.prog 112 [.pointer (some ⟨g,0,none⟩)] (mP g x m) w (X:=Nat×(List (Ms×Mp)×Option Addr×Nat)×Asn) (fun _=> .tuple #[]) (fun y=>y.2.1.1.map Prod.fst=(felL (stdX x)).flatMap (fun n=>[{ms0 with K:=3,F:=x.me,T:=n,tm:=x.term+1,pl:=lastP x}])∧ ∀ w',K2 D y.2.2 w'→ ∀ s∈y.2.1.1,MsR w' s.1 s.2) (fun y=>mP g (stdX x) (appM (votM m y.1) y.2.1)++[y.2.2]):=by
 refine gives_MN Tryz.func112 O Tryz.ntmps112 Tryz.results112 (by simp) hS0 (fun B hE0 hR0 hEM=>?_)
 focus (refine qs ?_;(refine qe (E_box1 (v:= .pointer (some ⟨g,0,none⟩)) O O) ?_;rintro _ _ ⟨b1,rfl,rfl⟩);refine qn ?_;refine qt (T_load O O O O) ?_;refine qt (T_nilCheck O) ?_;refine qp ?_;refine qp ?_;refine qt (T_load O O O O) ?_;refine qt (T_addN O O (by unfold fits;omega)) ?_;refine qt (T_nilCheck O) ?_;refine qp ?_;refine qp ?_;(refine qw (E_storeA1 (cs:=mcc x m) (cs':=mcc {x with term:=x.term+1} m) O O O O O O (by show _<16;omega)) ?_;rintro _ _ rfl);refine qz ?_;refine qq ?_)
 refine S_cut (X:=Nat) (fun bl=>[(1,.pointer (some ⟨b1,0,none⟩))]) (fun bl=>pt b1 87 [.pointer (some ⟨g,0,none⟩)]::mP g (stdX x) (votM m bl)) (fun _=>True) (fun J hJ=>?_) (fun bl _=>?_)
 ·skip
  refine S_draw ([pt b1 87 [.pointer (some ⟨g,0,none⟩)],wkP g (.int .i64 x.me)]) ((fun w1 hS1=>wk2 (sub_st (H':=[pt g 89 (mcc {x with term:=x.term+1} m),pt b1 87 [.pointer (some ⟨g,0,none⟩)]]) w1 hS1) O)) (by kernel_rfl) O (by kernel_rfl) (by kernel_rfl:_=31) ?_
  refine dl 0 ?_
  refine dl 1 ?_
  refine dl 2 ?_
  refine dl 3 ?_
  refine dl 4 ?_
  refine dt 5 O (T_nilCheck O) ?_
  refine dp 6 ?_
  refine dp 7 ?_
  refine dt 8 O (T_ldq O O O (fun w1 hS1=>hS1.at_ (A:=wkP g (.int .i64 x.me)) (by simp))) ?_
  refine dl 9 ?_
  refine dt 10 O (T_nilCheck O) ?_
  refine dp 11 ?_
  refine dp 12 ?_
  refine dt 13 O (T_ldq O O O (fun w1 hS1=>hS1.at_ (A:=wkP g (.int .i64 x.me)) (by simp))) ?_
  refine dt 15 O (T_nilCheck O) ?_
  refine dp 16 ?_
  refine dp 17 ?_
  refine D_two 14 18 (by decide) O O (E_lit1 (m:=1) (vs:=[zv x.me]) O O O O O O O (by simp[zv,Value.oneCell']) (by decide)) (E_storeA1 (cs:=mcc {x with term:=x.term+1} m) (cs':=mcc {x with term:=x.term+1,role:=3} m) O O O O O O (by show _<16;omega)) ?_ ?_ O O O O (by kernel_rfl)
  ·rintro _ _ ⟨bl,rfl,rfl⟩
   first|refine Nx_same (fun w1 hS1=>wk2 (sub_st (H':=[pt g 89 (mcc {x with term:=x.term+1} m),pt b1 87 [.pointer (some ⟨g,0,none⟩)]]) w1 hS1) O) ?_|refine Nx_same (fun w1 hS1=>wk2 (sub_st (H':=[pt g 89 (mcc {x with term:=x.term+1,role:=3} m),pt b1 87 [.pointer (some ⟨g,0,none⟩)]]) w1 hS1) O) ?_|refine Nx_same (fun w1 hS1=>wk2 (sub_st (H':=[pt g 89 (mcc {x with term:=x.term+1,role:=3,vote:=x.me} m),pt b1 87 [.pointer (some ⟨g,0,none⟩)]]) w1 hS1) O) ?_
   refine D_one 18 O (E_storeA1 (cs:=mcc {x with term:=x.term+1} m) (cs':=mcc {x with term:=x.term+1,role:=3} m) O O O O O O (by show _<16;omega)) ?_ O O (by kernel_rfl)
   rintro _ _ rfl
   refine Nx_same (fun w1 hS1=>wk2 (sub_st (H':=[pt g 89 (mcc {x with term:=x.term+1,role:=3} m),pt b1 87 [.pointer (some ⟨g,0,none⟩)]]) w1 hS1) O) ?_
   refine dt 19 O (T_nilCheck O) ?_
   refine dp 20 ?_
   refine dp 21 ?_
   refine D_one 22 O (E_storeA1 (cs:=mcc {x with term:=x.term+1,role:=3} m) (cs':=mcc {x with term:=x.term+1,role:=3,vote:=x.me} m) O O O O O O (by show _<16;omega)) ?_ O O (by kernel_rfl)
   rintro _ _ rfl
   refine Nx_same (fun w1 hS1=>wk2 (sub_st (H':=[pt g 89 (mcc {x with term:=x.term+1,role:=3,vote:=x.me} m),pt b1 87 [.pointer (some ⟨g,0,none⟩)]]) w1 hS1) O) ?_
   refine dt 23 O (T_nilCheck O) ?_
   refine dp 24 ?_
   refine dp 25 ?_
   refine D_one 26 O (E_storeA1 (cs:=mcc {x with term:=x.term+1,role:=3,vote:=x.me} m) (cs':=mcc {x with term:=x.term+1,role:=3,vote:=x.me} (votM m bl)) O O O O O O (by show _<16;omega)) ?_ O O (by kernel_rfl)
   rintro _ _ rfl
   refine Nx_same (fun w1 hS1=>wk2 (sub_st (H':=[pt g 89 (mcc {x with term:=x.term+1,role:=3,vote:=x.me} (votM m bl)),pt b1 87 [.pointer (some ⟨g,0,none⟩)]]) w1 hS1) O) ?_
   refine dt 27 O (T_nilCheck O) ?_
   refine dp 28 ?_
   refine dp 29 ?_
   refine D_one 30 O (E_storeA1 (cs:=mcc {x with term:=x.term+1,role:=3,vote:=x.me} (votM m bl)) (cs':=mcc (stdX x) (votM m bl)) O O O O O O (by show _<16;omega)) ?_ O O (by kernel_rfl)
   rintro _ _ rfl
   refine Nx_same (fun w1 hS1=>wk2 (sub_st (H':=[pt g 89 (mcc (stdX x) (votM m bl)),pt b1 87 [.pointer (some ⟨g,0,none⟩)]]) w1 hS1) O) ?_
   refine dn ?_
   exact hJ bl _ _ trivial (Sub.cons O Sub.nil) (fun w1 hS1=>votes_in (sub_st (H':=[pt bl 3 [zv x.me],pt g 89 (mcc (stdX x) (votM m bl)),row 112 3 m.p.pA m.p.pn m.p.pc (cellsL pec x.peers),row 65 12 m.sA m.S.length m.sc (cellsL sgc m.S),pt b1 87 [.pointer (some ⟨g,0,none⟩)]]) w1 hS1))
  ·rintro _ _ rfl
   refine Nx_same (fun w1 hS1=>wk2 (sub_st (H':=[pt g 89 (mcc {x with term:=x.term+1,role:=3} m),pt b1 87 [.pointer (some ⟨g,0,none⟩)]]) w1 hS1) O) ?_
   refine dt 19 O (T_nilCheck O) ?_
   refine dp 20 ?_
   refine dp 21 ?_
   refine D_two 14 22 (by decide) O O (E_lit1 (m:=1) (vs:=[zv x.me]) O O O O O O O (by simp[zv,Value.oneCell']) (by decide)) (E_storeA1 (cs:=mcc {x with term:=x.term+1,role:=3} m) (cs':=mcc {x with term:=x.term+1,role:=3,vote:=x.me} m) O O O O O O (by show _<16;omega)) ?_ ?_ O O O O (by kernel_rfl)
   ·rintro _ _ ⟨bl,rfl,rfl⟩
    first|refine Nx_same (fun w1 hS1=>wk2 (sub_st (H':=[pt g 89 (mcc {x with term:=x.term+1} m),pt b1 87 [.pointer (some ⟨g,0,none⟩)]]) w1 hS1) O) ?_|refine Nx_same (fun w1 hS1=>wk2 (sub_st (H':=[pt g 89 (mcc {x with term:=x.term+1,role:=3} m),pt b1 87 [.pointer (some ⟨g,0,none⟩)]]) w1 hS1) O) ?_|refine Nx_same (fun w1 hS1=>wk2 (sub_st (H':=[pt g 89 (mcc {x with term:=x.term+1,role:=3,vote:=x.me} m),pt b1 87 [.pointer (some ⟨g,0,none⟩)]]) w1 hS1) O) ?_
    refine D_one 22 O (E_storeA1 (cs:=mcc {x with term:=x.term+1,role:=3} m) (cs':=mcc {x with term:=x.term+1,role:=3,vote:=x.me} m) O O O O O O (by show _<16;omega)) ?_ O O (by kernel_rfl)
    rintro _ _ rfl
    refine Nx_same (fun w1 hS1=>wk2 (sub_st (H':=[pt g 89 (mcc {x with term:=x.term+1,role:=3,vote:=x.me} m),pt b1 87 [.pointer (some ⟨g,0,none⟩)]]) w1 hS1) O) ?_
    refine dt 23 O (T_nilCheck O) ?_
    refine dp 24 ?_
    refine dp 25 ?_
    refine D_one 26 O (E_storeA1 (cs:=mcc {x with term:=x.term+1,role:=3,vote:=x.me} m) (cs':=mcc {x with term:=x.term+1,role:=3,vote:=x.me} (votM m bl)) O O O O O O (by show _<16;omega)) ?_ O O (by kernel_rfl)
    rintro _ _ rfl
    refine Nx_same (fun w1 hS1=>wk2 (sub_st (H':=[pt g 89 (mcc {x with term:=x.term+1,role:=3,vote:=x.me} (votM m bl)),pt b1 87 [.pointer (some ⟨g,0,none⟩)]]) w1 hS1) O) ?_
    refine dt 27 O (T_nilCheck O) ?_
    refine dp 28 ?_
    refine dp 29 ?_
    refine D_one 30 O (E_storeA1 (cs:=mcc {x with term:=x.term+1,role:=3,vote:=x.me} (votM m bl)) (cs':=mcc (stdX x) (votM m bl)) O O O O O O (by show _<16;omega)) ?_ O O (by kernel_rfl)
    rintro _ _ rfl
    refine Nx_same (fun w1 hS1=>wk2 (sub_st (H':=[pt g 89 (mcc (stdX x) (votM m bl)),pt b1 87 [.pointer (some ⟨g,0,none⟩)]]) w1 hS1) O) ?_
    refine dn ?_
    exact hJ bl _ _ trivial (Sub.cons O Sub.nil) (fun w1 hS1=>votes_in (sub_st (H':=[pt bl 3 [zv x.me],pt g 89 (mcc (stdX x) (votM m bl)),row 112 3 m.p.pA m.p.pn m.p.pc (cellsL pec x.peers),row 65 12 m.sA m.S.length m.sc (cellsL sgc m.S),pt b1 87 [.pointer (some ⟨g,0,none⟩)]]) w1 hS1))
   ·rintro _ _ rfl
    refine Nx_same (fun w1 hS1=>wk2 (sub_st (H':=[pt g 89 (mcc {x with term:=x.term+1,role:=3,vote:=x.me} m),pt b1 87 [.pointer (some ⟨g,0,none⟩)]]) w1 hS1) O) ?_
    refine D_one 14 O (E_lit1 (m:=1) (vs:=[zv x.me]) O O O O O O O (by simp[zv,Value.oneCell']) (by decide)) ?_ O O (by kernel_rfl)
    rintro _ _ ⟨bl,rfl,rfl⟩
    first|refine Nx_same (fun w1 hS1=>wk2 (sub_st (H':=[pt g 89 (mcc {x with term:=x.term+1} m),pt b1 87 [.pointer (some ⟨g,0,none⟩)]]) w1 hS1) O) ?_|refine Nx_same (fun w1 hS1=>wk2 (sub_st (H':=[pt g 89 (mcc {x with term:=x.term+1,role:=3} m),pt b1 87 [.pointer (some ⟨g,0,none⟩)]]) w1 hS1) O) ?_|refine Nx_same (fun w1 hS1=>wk2 (sub_st (H':=[pt g 89 (mcc {x with term:=x.term+1,role:=3,vote:=x.me} m),pt b1 87 [.pointer (some ⟨g,0,none⟩)]]) w1 hS1) O) ?_
    refine dt 23 O (T_nilCheck O) ?_
    refine dp 24 ?_
    refine dp 25 ?_
    refine D_one 26 O (E_storeA1 (cs:=mcc {x with term:=x.term+1,role:=3,vote:=x.me} m) (cs':=mcc {x with term:=x.term+1,role:=3,vote:=x.me} (votM m bl)) O O O O O O (by show _<16;omega)) ?_ O O (by kernel_rfl)
    rintro _ _ rfl
    refine Nx_same (fun w1 hS1=>wk2 (sub_st (H':=[pt g 89 (mcc {x with term:=x.term+1,role:=3,vote:=x.me} (votM m bl)),pt b1 87 [.pointer (some ⟨g,0,none⟩)]]) w1 hS1) O) ?_
    refine dt 27 O (T_nilCheck O) ?_
    refine dp 28 ?_
    refine dp 29 ?_
    refine D_one 30 O (E_storeA1 (cs:=mcc {x with term:=x.term+1,role:=3,vote:=x.me} (votM m bl)) (cs':=mcc (stdX x) (votM m bl)) O O O O O O (by show _<16;omega)) ?_ O O (by kernel_rfl)
    rintro _ _ rfl
    refine Nx_same (fun w1 hS1=>wk2 (sub_st (H':=[pt g 89 (mcc (stdX x) (votM m bl)),pt b1 87 [.pointer (some ⟨g,0,none⟩)]]) w1 hS1) O) ?_
    refine dn ?_
    exact hJ bl _ _ trivial (Sub.cons O Sub.nil) (fun w1 hS1=>votes_in (sub_st (H':=[pt bl 3 [zv x.me],pt g 89 (mcc (stdX x) (votM m bl)),row 112 3 m.p.pA m.p.pn m.p.pc (cellsL pec x.peers),row 65 12 m.sA m.S.length m.sc (cellsL sgc m.S),pt b1 87 [.pointer (some ⟨g,0,none⟩)]]) w1 hS1))
 have h1: ∀ w',D w'→McR w' (stdX x) (votM m bl):=fun w' h'=>⟨(h w' h').lg.like O O O O O O O O,(h w' h').ms⟩
 have hfl:(felL (stdX x)).length≤5:=Nat.le_trans (List.length_filter_le _ _) h5
 have hnl:(nowL (stdX x)).length≤5:=h5
 have htm1:(stdX x).term≤4611686018427387905:=Nat.succ_le_succ htm
 focus (refine qq ?_;refine qq ?_)
 refine S_draw ([pt b1 87 [.pointer (some ⟨g,0,none⟩)],pt g 89 (mcc (stdX x) (votM m bl))]) sub_st (by kernel_rfl) O (by kernel_rfl) (by kernel_rfl:_=8) ?_
 refine dl 0 ?_
 refine dl 2 ?_
 refine dt 3 O (T_nilCheck O) ?_
 refine dp 4 ?_
 refine dp 5 ?_
 refine dl 6 ?_
 refine D_one 1 O (E_hv1 (f:=43) F43 (fun w1 hS1=>mforce_k w1 g (stdX x) (votM m bl) (mcB_st hS1 (by simp)) D (hD.call0 hS1) (fun w2 h2=>(h1 w2 h2).lg) (nowL x) O) O O (fun _=>O)) ?_ O O (by kernel_rfl)
 rintro _ _ ⟨⟨⟨A3,K3,c3⟩,Z3⟩,rfl,hI3,rfl⟩
 refine nx ?_
 refine D_one 7 O (E_hv0 (f:=111) F111 (fun w1 hS1=>maj_k w1 A3 (some ⟨bl,0,none⟩) (nowL x).length c3 1 1 (nowL x) [x.me] (hI3 w1 ⟨hD.at_ hS1,hS1.at_ (A:=Z3) (by simp)⟩) (row_rd (hS1.at_ (A:=row 3 1 (votM m bl).p.vA (votM m bl).p.vn (votM m bl).p.vc ((stdX x).votes.map zv)) (by simp))) (by omega) (by omega) _ hmj) O O (fun _=>O)) ?_ O O (by kernel_rfl)
 rintro _ _ ⟨_,rfl,_,rfl⟩
 refine nx ?_
 refine dn ?_
 skip
 focus (refine qF ?_;refine qx ?_;refine qs ?_;refine qt (T_load O O O O) ?_;(refine qe (E_hv1 (f:=57) F57 (fun w1 hS1=>fellows_any w1 g) O O (fun _=>O)) ?_;rintro _ _ ⟨b2,rfl,_,rfl⟩);refine qz ?_;refine qb ?_)
 refine RS_zN ?_
 refine S_rangeR (D0:=KL D [pt b2 87 [.pointer (some ⟨g,0,none⟩)]]) (R0:=fun w'=>McB w' g (stdX x) (appM (votM m bl) ([],(votM m bl).sA,(votM m bl).sc))) (R:=fun w'=>w'.cell? ⟨g,0,none⟩=some (.int .i64 x.me)) (es:=(felL (stdX x)).map fun n=>[zv n]) (ps:=[51]) (X:=(List (Ms×Mp)×Option Addr×Nat)×Asn) (fun y=>y.2::mP g (stdX x) (appM (votM m bl) y.1)) (fun i y=>y.1.1.map Prod.fst=((felL (stdX x)).take i).flatMap (fun n=>[{ms0 with K:=3,F:=x.me,T:=n,tm:=x.term+1,pl:=lastP x}])∧ ∀ w',K2 D y.2 w'→ ∀ s∈y.1.1,MsR w' s.1 s.2) (fun i y=>False) (([],(votM m bl).sA,(votM m bl).sc),zN) [pt b2 87 [.pointer (some ⟨g,0,none⟩)],pt b1 87 [.pointer (some ⟨g,0,none⟩)]] O O F132 (by kernel_rfl) (fun e he=>?_) ⟨O,fun _ _ s hs=>absurd hs (by simp)⟩ (fun w' hS=>?_) (fun w' hS=>?_) (fun w' hS=>hD.subL hS (by simp)) (fun w' hw=>mcB_of (hw (pt g 89 (mcc (stdX x) (appM (votM m bl) ([],(votM m bl).sA,(votM m bl).sc)))) (by simp))) (fun i y w' _ hw=>mc_me (x:=(stdX x)) (hw (pt g 89 (mcc (stdX x) (appM (votM m bl) y.1))) (by simp))) (fun j y w' hx hj hS=>?_) (fun y Dd hy=>?_) (fun y Dd j hj hy=>absurd hy id)
 ·obtain⟨n,_,rfl⟩:=List.mem_map.1 he
  rfl
 ·rw[appM_nil]
  exact sub_st (H':=[zN,pt g 89 (mcc (stdX x) (votM m bl)),row 3 1 (votM m bl).p.vA (votM m bl).p.vn (votM m bl).p.vc ((stdX x).votes.map zv),row 112 3 (votM m bl).p.pA (votM m bl).p.pn (votM m bl).p.pc (cellsL pec (stdX x).peers),row 65 12 (votM m bl).sA (votM m bl).S.length (votM m bl).sc (cellsL sgc (votM m bl).S),pt b2 87 [.pointer (some ⟨g,0,none⟩)],pt b1 87 [.pointer (some ⟨g,0,none⟩)]]) w' hS
 ·exact fellows_iter w' g b2 (stdX x) (appM (votM m bl) ([],(votM m bl).sA,(votM m bl).sc)) _ (fun w2 h2=>(h1 w2 h2.1).lg) (fun w2 h2=>pt_cell (t:=87) (h2.2 (pt b2 87 [.pointer (some ⟨g,0,none⟩)]) (by simp))) (nowL (stdX x)) O (by omega)
 ·rw[List.length_map] at hj
  obtain⟨n,hn⟩: ∃ n,(felL (stdX x)).getD j 0=n:=⟨_,O⟩
  have htk:(felL (stdX x)).take (j+1)=(felL (stdX x)).take j++[n]:=by rw[List.take_succ_eq_append_getElem hj];simp[List.getD,hj, ← hn]
  have hge:((felL (stdX x)).map fun n=>[zv n]).getD j []=[zv n]:=by rw[← hn];simp[List.getD,hj]
  rw[hge]
  obtain⟨⟨N,AN,cN⟩,Zy⟩:=y
  obtain⟨hx1,hx2⟩:=hx
  dsimp only at hx1 hx2
  have hNl:N.length≤5:=by
   have e1:N.length=(((felL (stdX x)).take j).flatMap (fun n=>[{ms0 with K:=3,F:=x.me,T:=n,tm:=x.term+1,pl:=lastP x}])).length:=by rw[← hx1,List.length_map]
   rw[e1]
   refine Nat.le_trans (flat_len (fun a=>?_) _) ?_
   ·exact Nat.le_refl _
   ·rw[List.length_take]
    omega
  intro l2 rA rB Ba Bb J hfull hbeg hend hret
  have hC1:=rd_kept (b:=b1) (As:=rA::Zy::mP g (stdX x) (appM (votM m bl) (N,AN,cN))) hfull O
  have hDr:Kd D (rA::Zy::mP g (stdX x) (appM (votM m bl) (N,AN,cN))) w':=hD.to hfull
  have hms: ∀ w2,K2 D Zy w2→McR w2 (stdX x) (appM (votM m bl) (N,AN,cN)):=fun w2 h2=>⟨(h1 w2 h2.1).lg,fun s hs=>by
   rcases List.mem_append.1 hs with hs|hs
   ·exact(h1 w2 h2.1).ms s hs
   ·exact hx2 w2 h2 s hs⟩
  have hSl:(appM (votM m bl) (N,AN,cN)).S.length≤900:=by
   show ((votM m bl).S++N).length≤900
   rw[List.length_append]
   have:(votM m bl).S.length≤800:=hSm
   omega
  focus (refine qr ?_;refine qp ?_;refine qz ?_)
  refine hbeg _ (Zy::mP g (stdX x) (appM (votM m bl) (N,AN,cN))) _ ?_ sub_st
  focus (refine qb ?_)
  refine S_drawR ([pt g 89 (mcc (stdX x) (appM (votM m bl) (N,AN,cN)))]) sub_st (by kernel_rfl) O (by kernel_rfl) (by kernel_rfl) (by kernel_rfl:_=12) ?_
  refine dt 0 O (T_loadg (v:= .pointer (some ⟨g,0,none⟩)) O O O hC1 (fun k hk=>hk) O) ?_
  refine dp 1 ?_
  refine dt 2 O (T_loadg (v:= .pointer (some ⟨g,0,none⟩)) O O O hC1 (fun k hk=>hk) O) ?_
  refine dt 3 O (T_nilCheck O) ?_
  refine dp 4 ?_
  refine dp 5 ?_
  refine dl 6 ?_
  refine dt 7 O (T_loadg (v:= .pointer (some ⟨g,0,none⟩)) O O O hC1 (fun k hk=>hk) O) ?_
  refine D_one 8 O (E_hv0 (f:=59) F59 (fun w hS=>mlast_k w g (stdX x) (appM (votM m bl) (N,AN,cN)) (mcB_st hS (by simp)) (h1 w (hDr.at_ hS)).lg) O O (fun _=>O)) ?_ O O (by kernel_rfl)
  rintro _ _ ⟨_,rfl,_,rfl⟩
  refine nx ?_
  refine dt 9 O (T_build4 O O O O (ms_built3 n (x.term+1) (lastP x))) ?_
  refine D_one 10 O (E_litS (vs:=[.agg (mgc (⟨3,0,n,x.term+1,lastP x,[],0,false,0,[],[]⟩:Ms) (⟨none,0,0,none,0,0,none,0,0,[]⟩:Mp)).toArray]) (size:=12) (ds:=mgc (⟨3,0,n,x.term+1,lastP x,[],0,false,0,[],[]⟩:Ms) (⟨none,0,0,none,0,0,none,0,0,[]⟩:Mp)) O O O O O O (by simp[vcells,mgc_len]) O (by omega)) ?_ O O (by kernel_rfl)
  rintro _ _ ⟨vb,rfl,rfl⟩
  refine nx ?_
  refine D_one 11 O (E_htL (f:=113) (mP g (stdX x) (appM (votM m bl) (N,AN,cN))) (fun(y:Option Addr×Nat)=>mP g (stdX x) (addM (stdX x) (appM (votM m bl) (N,AN,cN)) ((⟨3,0,n,x.term+1,lastP x,[],0,false,0,[],[]⟩:Ms),(⟨none,0,0,none,0,0,none,0,0,[]⟩:Mp)) y.1 y.2)) F113 (fun w1 hS1 hS2=>send1_any w1 g (stdX x) (appM (votM m bl) (N,AN,cN)) hS2 (some ⟨vb,0,none⟩) 1 (⟨3,0,n,x.term+1,lastP x,[],0,false,0,[],[]⟩:Ms) (⟨none,0,0,none,0,0,none,0,0,[]⟩:Mp) (rd_12 (rd_kept (b:=vb) (t:=65) (As:=mP g (stdX x) (appM (votM m bl) (N,AN,cN))) hS1 O)) (by omega)) O O) ?_ O O (by kernel_rfl)
  rintro _ _ ⟨⟨AS,cS⟩,rfl,_,rfl⟩;dsimp only[List.cons_append,List.nil_append]
  refine Nx_pivot (by kernel_rfl) ?_
  refine dn ?_
  skip
  focus (refine RS_blk ?_)
  refine hend ((N++[(frmM (stdX x) (⟨3,0,n,x.term+1,lastP x,[],0,false,0,[],[]⟩:Ms),(⟨none,0,0,none,0,0,none,0,0,[]⟩:Mp))],AS,cS),Zy) _ _ ⟨?_,fun w2 h2 s hs=>?_⟩ ?_
  ·dsimp only
   rw[htk,List.flatMap_append,List.map_append,hx1]
   rfl
  ·rcases List.mem_append.1 hs with hs|hs
   ·exact hx2 w2 h2 s hs
   ·obtain rfl:s=(frmM (stdX x) (⟨3,0,n,x.term+1,lastP x,[],0,false,0,[],[]⟩:Ms),(⟨none,0,0,none,0,0,none,0,0,[]⟩:Mp)):=by simpa using hs
    exact⟨O,Nat.zero_le _,O,Rd.none_,fun m hm=>absurd hm (by simp),O,Nat.zero_le _,Rd.none_,Bs.nil _ _⟩
  ·have e:addM (stdX x) (appM (votM m bl) (N,AN,cN)) ((⟨3,0,n,x.term+1,lastP x,[],0,false,0,[],[]⟩:Ms),(⟨none,0,0,none,0,0,none,0,0,[]⟩:Mp)) AS cS=appM (votM m bl) (N++[(frmM (stdX x) (⟨3,0,n,x.term+1,lastP x,[],0,false,0,[],[]⟩:Ms),(⟨none,0,0,none,0,0,none,0,0,[]⟩:Mp))],AS,cS):=by simp[addM,appM]
   dsimp only
   rw[← e]
   exact sub_st
 ·simp only[List.cons_append,List.nil_append]
  focus (refine RS_blk ?_)
  refine hEM _ _ _ _ inferInstance fun w' hS=>⟨(bl,y.1,y.2),?_,?_⟩
  ·rw[List.length_map,List.take_length] at hy
   exact hy
  ·exact(sub_st (H':=y.2::mP g (stdX x) (appM (votM m bl) y.1)) w' hS).perm (List.perm_append_comm (l₁:=[y.2]))
theorem Ef.pre {P:Program} {n:Nat} {w0:World} {M:Nat→Prop} {T:Slots} {H H':List Asn} {o:Oper} {E:Value→List Asn→Prop} (hm: ∀ w,St w0 M H w→St w0 M H' w) (h:Ef P n w0 M T H' o E):Ef P n w0 M T H o E:= .mkIn fun a w ha hS=>h.run a w ha (hm w hS)
structure SrvR (w:World) (x:Rs) (m:Mm):Prop where
 rf:RfR w x m.p
 rs:Rd w All 12 m.sA m.S.length (cellsL sgc m.S)
 ms: ∀ s∈m.S,MsR w s.1 s.2
theorem mP_srv {w:World} {g:Nat} {x:Rs} {m:Mm} (h: ∀ A∈mP g x m,A.holds w) (hr:McR w x m) (hl:McL x m) (hu:RsU x) (hv:x.votes.length≤900) (hp:x.peers.length≤900):SrvR w x m:=
 ⟨⟨hr.lg,hl.hvn,hl.hvn▸hv,row_rd (h (row 3 1 m.p.vA m.p.vn m.p.vc (x.votes.map zv)) (by simp)),hl.hpn,hl.hpn▸hp,row_rd (h (row 112 3 m.p.pA m.p.pn m.p.pc (cellsL pec x.peers)) (by simp)),hu⟩,row_rd (h (row 65 12 m.sA m.S.length m.sc (cellsL sgc m.S)) (by simp)),hr.ms⟩
theorem bun_all {L:List Asn} {w:World} (h:(bun L).holds w): ∀ A∈L,A.holds w:=h.1
theorem turn_any (w:World) (x:Rs) (p:Rp) (h:RfR w x p) (D0:Kw) (hD0:Kd D0 [] w) (f:FuncId) (cap:List Value) (hf:Fn_ Tryz.prog f) (x2:Rs) (ms:List Ms) (ib:Bool) (hu2:RsU x2) (hv2:x2.votes.length≤900) (hp2:x2.peers.length≤900)
  (hc: ∀ (w1:World) (g:Nat) (m:Mm) (D:Kw),St w1 (owns (mP g x m)) (mP g x m) w1→Kd D (mP g x m) w1→(∀ w',D w'→D0 w'∧McR w' x m)→McL x m→m.S=[]→m.i=false→Gives Tryz.prog f (.pointer (some ⟨g,0,none⟩)::cap) (mP g x m) w1 (X:=Mm×Asn) (fun _=> .tuple #[]) (fun y=>y.1.S.map Prod.fst=ms∧y.1.i=ib∧McL x2 y.1∧ ∀ w',K2 D y.2 w'→McR w' x2 y.1) (fun y=>mP g x2 y.1++[y.2])):
  Gives Tryz.prog 39 [.agg (rfc x p).toArray,.func (.func f) #[] cap.toArray] [] w (X:=Mm×Asn) (fun y=> .tuple #[.agg (rfc x2 y.1.p).toArray,.slice y.1.sA y.1.S.length y.1.sc,.bool ib]) (fun y=>y.1.S.map Prod.fst=ms∧ ∀ w',K2 D0 y.2 w'→SrvR w' x2 y.1) (fun y=>[y.2]):=by
 refine gives_C Tryz.func39 O Tryz.ntmps39 Tryz.results39 (by simp) (St.enter w) (fun B hB=>?_)
 have n1:=h.lg.hm
 have n2:=h.lg.hcm
 have n3:=h.hvm
 have n4:=h.hpm
 have hdd:=h.lg.ed
 focus (refine qs ?_;(refine qe (E_boxa (cs:=rfc x p) O) ?_;rintro _ _ ⟨b2,rfl,rfl⟩);(refine qe (E_alloca O rf_zero) ?_;rintro _ _ ⟨b4,rfl,rfl⟩);refine qp ?_;refine qp ?_;refine qn ?_;refine qt (T_loads (ds:=rfc x p) O O O O O) ?_;(refine qe (E_hvG (f:=37) F37 (fun w hS=>rcopied_any w x p (h.keep hS.kpO)) O O) ?_;rintro _ _ ⟨q,rfl,⟨hq,hqn,hqc,hqv,hqp⟩,rfl⟩;dsimp only[List.cons_append,List.nil_append]);refine qt (T_build1 O (mc_built1 x q)) ?_;(refine qe (E_boxa (cs:=mcc x ⟨q,[],none,0,false⟩) O) ?_;rintro _ _ ⟨g,rfl,rfl⟩);refine qp ?_;refine qn ?_;refine qp ?_;refine qp ?_)
 obtain⟨m0,hm0⟩: ∃ m:Mm,m=⟨q,[],none,0,false⟩:=⟨_,O⟩
 obtain⟨Z0,hZ0⟩: ∃ Z,Z=zA (row 59 3 q.A q.n q.c (cellsL emc q.Q)) (zA (dtB 5 (q.Q.map emd)) (row 3 1 q.cA q.cn q.cc (x.cf.map zv))):=⟨_,O⟩
 have hmem: ∀ w1,St w (owns []) [pt g 89 (mcc x ⟨q,[],none,0,false⟩),row 59 3 q.A q.n q.c (cellsL emc q.Q),dtB 5 (q.Q.map emd),row 3 1 q.cA q.cn q.cc (x.cf.map zv),row 3 1 q.vA q.vn q.vc (x.votes.map zv),row 112 3 q.pA q.pn q.pc (cellsL pec x.peers),pt b4 42 (rfc rs0 rp0),pt b2 42 (rfc x p)] w1→St w (owns []) (Z0::pt b4 42 (rfc rs0 rp0)::mP g x m0) w1:=fun w1 hS1=>by
  have e1:=sub_st (H':=[dtB 5 (q.Q.map emd),row 3 1 q.cA q.cn q.cc (x.cf.map zv),row 59 3 q.A q.n q.c (cellsL emc q.Q),pt g 89 (mcc x ⟨q,[],none,0,false⟩),row 3 1 q.vA q.vn q.vc (x.votes.map zv),row 112 3 q.pA q.pn q.pc (cellsL pec x.peers),pt b4 42 (rfc rs0 rp0)]) w1 hS1
  have e2:=zA_in ((zA_in e1).perm (List.Perm.swap _ _ _))
  have e3:=e2.nilrow 65 12
  rw[hZ0,hm0]
  exact sub_st (H':=[zA (row 59 3 q.A q.n q.c (cellsL emc q.Q)) (zA (dtB 5 (q.Q.map emd)) (row 3 1 q.cA q.cn q.cc (x.cf.map zv))),pt b4 42 (rfc rs0 rp0),pt g 89 (mcc x ⟨q,[],none,0,false⟩),row 3 1 q.vA q.vn q.vc (x.votes.map zv),row 112 3 q.pA q.pn q.pc (cellsL pec x.peers),row 65 12 none 0 0 []]) w1 e3
 have hmr: ∀ w',K2 D0 Z0 w'→D0 w'∧McR w' x m0:=fun w' h'=>⟨h'.1,by
  have h2:=h'.2
  rw[hZ0] at h2
  have e1:=zA_l h2
  have e2:=zA_r h2
  rw[hm0]
  exact⟨lgO_lg e1 (zA_l e2) (row_rd (zA_r e2)) hq.hQ hq.hn hq.hcn (by dsimp only;omega) (by dsimp only;omega) hdd,fun s hs=>absurd hs (by simp)⟩⟩
 have hml:McL x m0:=by rw[hm0];exact⟨hq.hvn,hq.hpn⟩
 have hmS:m0.S=[]:=by rw[hm0]
 have hmi:m0.i=false:=by rw[hm0]
 focus ((refine qe (Ef.pre hmem (E_mthF (D:=D0) (Z:=Z0) (vs':= .pointer (some ⟨g,0,none⟩)::cap) cap (mP g x m0) (fun y:Mm×Asn=>mP g x2 y.1) hD0 hf O (fun w1 _ hk hS1=>hc w1 g m0 (K2 D0 Z0) hS1 hk hmr hml hmS hmi) (ogets_cap _ _ _ O cap) O)) ?_;rintro _ _ ⟨⟨m2,Z2⟩,Z',rfl,⟨hI1,hI2,hI3,hI4⟩,hold,hnew,rfl⟩;dsimp only[List.cons_append,List.nil_append] at hI1 hI2 hI3 hI4 ⊢);refine qz ?_;refine qq ?_)
 refine S_draw ([pt g 89 (mcc x2 m2)]) sub_st (by kernel_rfl) O (by kernel_rfl) (by kernel_rfl:_=15) ?_
 refine dp 0 ?_
 refine dt 1 O (T_nilCheck O) ?_
 refine dp 2 ?_
 refine dt 3 O (T_loads (ds:=rfc x2 m2.p) O O O O O) ?_
 refine dp 4 ?_
 refine dt 5 O (T_nilCheck O) ?_
 refine dp 6 ?_
 refine dl 7 ?_
 refine dp 8 ?_
 refine dt 9 O (T_nilCheck O) ?_
 refine dp 10 ?_
 refine dl 11 ?_
 refine D_one 12 O (E_storew (cs:=rfc rs0 rp0) (ds:=rfc x2 m2.p) O O O O (rfc_one _ _) O) ?_ O O (by kernel_rfl)
 rintro _ _ rfl
 refine nx ?_
 refine dp 13 ?_
 refine dp 14 ?_
 refine dn ?_
 skip
 rw[← hI2] at hB
 skip
 refine hB _ _ _ _ _ O (.cell O O O inferInstance O (.tmp O (.tmp O .nil))) fun w' hS=>⟨(m2,bun (Z'::mP g x2 m2)),O,⟨hI1,fun w3 h3=>?_⟩,bun_in (L:=Z'::mP g x2 m2) (H:=[]) (sub_st (H':=[Z',pt g 89 (mcc x2 m2),row 3 1 m2.p.vA m2.p.vn m2.p.vc (x2.votes.map zv),row 112 3 m2.p.pA m2.p.pn m2.p.pc (cellsL pec x2.peers),row 65 12 m2.sA m2.S.length m2.sc (cellsL sgc m2.S)]) w' hS)⟩
 have h4:=bun_all h3.2
 exact mP_srv (fun A hA=>h4 A (List.mem_cons_of_mem _ hA)) (hI4 w3 (hnew w3 ⟨h3.1,h4 Z' (by simp)⟩)) hI3 hu2 hv2 hp2
def Mth (g:Nat) (x x2:Rs) (m:Mm) (ms:List Ms) (ib:Bool) (D:Kw) (f:FuncId) (args:List Value) (w:World):Prop:=
 Gives Tryz.prog f (.pointer (some ⟨g,0,none⟩)::args) (mP g x m) w (X:=Mm×Asn) (fun _=> .tuple #[]) (fun y=>y.1.S.map Prod.fst=m.S.map Prod.fst++ms∧y.1.i=ib∧McL x2 y.1∧ ∀ w',K2 D y.2 w'→McR w' x2 y.1) (fun y=>mP g x2 y.1++[y.2])
theorem has14_k (w:World) (A:Option Addr) (n c:Nat) (ms:List Int) (m:Int) (h:Rd w All 1 A n (ms.map zv)) (hn:n≤1000) (r:Bool) (hr:(C.right ms&&decide (m∈ms))=r):
  Gives Tryz.prog 42 [C.cfv A n c,zv m] [] w (X:=Unit) (fun _=> .bool r) (fun _=>True) (fun _=>[]):=hr▸C.has_any w A n c ms m h hn
theorem tick_idle (w:World) (g:Nat) (x:Rs) (m:Mm) (hS0:St w (owns (mP g x m)) (mP g x m) w) (D:Kw) (hD:Kd D (mP g x m) w) (h: ∀ w',D w'→McR w' x m) (hl:McL x m) (bl:Nat) (lim:Int) (hbl: ∀ w':World,D w'→w'.cell? ⟨bl,0,none⟩=some (.int .i64 lim)) (hc0:0≤x.clock) (hc1:x.clock≤16) (hr:x.role≠4) (hlm:x.clock+1<x.limit):Mth g x {x with clock:=x.clock+1} m [] m.i D 40 [.pointer (some ⟨bl,0,none⟩)] w:=by
 obtain⟨y1,hy1⟩: ∃ y,y=({x with clock:=x.clock+1}:Rs):=⟨_,O⟩
 have f1y1:y1.role=x.role:=by rw[hy1]
 have f2y1:y1.limit=x.limit:=by rw[hy1]
 have f3y1:y1.clock=x.clock+1:=by rw[hy1]
 have f4y1:y1.term=x.term:=by rw[hy1]
 have f5y1:y1.me=x.me:=by rw[hy1]
 have f6y1:nowL y1=nowL x:=by rw[hy1];rfl
 have f7y1:y1.votes=x.votes:=by rw[hy1]
 have f8y1:y1.peers=x.peers:=by rw[hy1]
 have hy1M: ∀ w',D w'→McR w' y1 m:=fun w' h'=>by rw[hy1];exact⟨(h w' h').lg.like O O O O O O O O,(h w' h').ms⟩
 have hy1L:McL y1 m:=by rw[hy1];exact⟨hl.hvn,hl.hpn⟩
 have hy1P: ∀ (L:List Asn) w',St w (owns (mP g x m)) (pt g 89 (mcc y1 m)::row 3 1 m.p.vA m.p.vn m.p.vc (x.votes.map zv)::row 112 3 m.p.pA m.p.pn m.p.pc (cellsL pec x.peers)::row 65 12 m.sA m.S.length m.sc (cellsL sgc m.S)::L) w'→St w (owns (mP g x m)) (mP g y1 m++L) w':=fun L w' hS=>by
  show St _ _ (pt g 89 (mcc y1 m)::row 3 1 m.p.vA m.p.vn m.p.vc (y1.votes.map zv)::row 112 3 m.p.pA m.p.pn m.p.pc (cellsL pec y1.peers)::row 65 12 m.sA m.S.length m.sc (cellsL sgc m.S)::L) w'
  rw[f7y1,f8y1]
  exact hS
 obtain⟨y2,hy2⟩: ∃ y,y=({x with clock:=0}:Rs):=⟨_,O⟩
 have f1y2:y2.role=x.role:=by rw[hy2]
 have f2y2:y2.limit=x.limit:=by rw[hy2]
 have f3y2:y2.clock=0:=by rw[hy2]
 have f4y2:y2.term=x.term:=by rw[hy2]
 have f5y2:y2.me=x.me:=by rw[hy2]
 have f6y2:nowL y2=nowL x:=by rw[hy2];rfl
 have f7y2:y2.votes=x.votes:=by rw[hy2]
 have f8y2:y2.peers=x.peers:=by rw[hy2]
 have hy2M: ∀ w',D w'→McR w' y2 m:=fun w' h'=>by rw[hy2];exact⟨(h w' h').lg.like O O O O O O O O,(h w' h').ms⟩
 have hy2L:McL y2 m:=by rw[hy2];exact⟨hl.hvn,hl.hpn⟩
 have hy2P: ∀ (L:List Asn) w',St w (owns (mP g x m)) (pt g 89 (mcc y2 m)::row 3 1 m.p.vA m.p.vn m.p.vc (x.votes.map zv)::row 112 3 m.p.pA m.p.pn m.p.pc (cellsL pec x.peers)::row 65 12 m.sA m.S.length m.sc (cellsL sgc m.S)::L) w'→St w (owns (mP g x m)) (mP g y2 m++L) w':=fun L w' hS=>by
  show St _ _ (pt g 89 (mcc y2 m)::row 3 1 m.p.vA m.p.vn m.p.vc (y2.votes.map zv)::row 112 3 m.p.pA m.p.pn m.p.pc (cellsL pec y2.peers)::row 65 12 m.sA m.S.length m.sc (cellsL sgc m.S)::L) w'
  rw[f7y2,f8y2]
  exact hS
 obtain⟨y3,hy3⟩: ∃ y,y=({x with clock:=0,limit:=lim}:Rs):=⟨_,O⟩
 have f1y3:y3.role=x.role:=by rw[hy3]
 have f2y3:y3.limit=lim:=by rw[hy3]
 have f3y3:y3.clock=0:=by rw[hy3]
 have f4y3:y3.term=x.term:=by rw[hy3]
 have f5y3:y3.me=x.me:=by rw[hy3]
 have f6y3:nowL y3=nowL x:=by rw[hy3];rfl
 have f7y3:y3.votes=x.votes:=by rw[hy3]
 have f8y3:y3.peers=x.peers:=by rw[hy3]
 have hy3M: ∀ w',D w'→McR w' y3 m:=fun w' h'=>by rw[hy3];exact⟨(h w' h').lg.like O O O O O O O O,(h w' h').ms⟩
 have hy3L:McL y3 m:=by rw[hy3];exact⟨hl.hvn,hl.hpn⟩
 have hy3P: ∀ (L:List Asn) w',St w (owns (mP g x m)) (pt g 89 (mcc y3 m)::row 3 1 m.p.vA m.p.vn m.p.vc (x.votes.map zv)::row 112 3 m.p.pA m.p.pn m.p.pc (cellsL pec x.peers)::row 65 12 m.sA m.S.length m.sc (cellsL sgc m.S)::L) w'→St w (owns (mP g x m)) (mP g y3 m++L) w':=fun L w' hS=>by
  show St _ _ (pt g 89 (mcc y3 m)::row 3 1 m.p.vA m.p.vn m.p.vc (y3.votes.map zv)::row 112 3 m.p.pA m.p.pn m.p.pc (cellsL pec y3.peers)::row 65 12 m.sA m.S.length m.sc (cellsL sgc m.S)::L) w'
  rw[f7y3,f8y3]
  exact hS
 rw[show ({x with clock:=x.clock+1}:Rs)=y1 from hy1.symm]
 unfold Mth
 refine gives_N2 Tryz.func40 O Tryz.ntmps40 Tryz.results40 (by simp) hS0 (fun B hE hB=>?_)
 focus (refine qs ?_;refine qp ?_;refine qt (T_nilCheck O) ?_;refine qp ?_;refine qp ?_;refine qt (T_load O O O O) ?_;refine qt (T_sum O O O (by unfold fits;omega)) ?_;refine qt (T_nilCheck O) ?_;refine qp ?_;refine qp ?_;(refine qw (E_storeA1 (cs:=mcc x m) (cs':=mcc y1 m) O O O O O (by rw[hy1];rfl) (by show _<16;omega)) ?_;rintro _ _ rfl);refine qz ?_;refine qb ?_;refine qs ?_;refine qp ?_;refine qt (T_nilCheck O) ?_;refine qp ?_;refine qp ?_;refine qt (T_load O O O O) ?_;refine qf ?_;refine qp ?_;(iterate 6 refine qk ?_);refine qp ?_;refine qp ?_;refine qz ?_;refine qF ?_;refine qq ?_;(refine S_draw _ (fun _ h=>h) (by kernel_rfl) O (by kernel_rfl) (rfl:_=20) ?_;(refine dp 0 ?_);(refine dt 1 O (T_nilCheck O) ?_);(refine dp 2 ?_);(refine dp 3 ?_);(refine dl 4 ?_);(refine dqT 5 ?_);(refine dp 6 ?_);(refine dp 7 ?_);(refine dt 8 O (T_nilCheck O) ?_);(refine dp 9 ?_);(refine dp 10 ?_);(refine dl 11 ?_);(refine dp 12 ?_);(refine dt 13 O (T_nilCheck O) ?_);(refine dp 14 ?_);(refine dp 15 ?_);(refine dl 16 ?_);(refine dqF 17 ?_);(refine dp 18 ?_);(refine dp 19 ?_);refine dn ?_);refine qF ?_;refine qx ?_;refine RS_blk ?_)
 have hfin: ∀ w',St w (owns (mP g x m)) (mP g y1 m) w'→ ∃ y:Mm×Asn,(y.1.S.map Prod.fst=m.S.map Prod.fst++[]∧y.1.i=m.i∧McL y1 y.1∧ ∀ w',K2 D y.2 w'→McR w' y1 y.1)∧St w (owns (mP g x m)) (mP g y1 y.1++[y.2]) w':=fun w' hS=>⟨(m,zN),⟨by simp,O,hy1L,fun w2 h2=>hy1M w2 h2.1⟩,(zN_in hS).perm (List.perm_append_comm (l₁:=[zN]))⟩
 first
 |exact hE _ _ fun w' hS=>hfin w' (hy1P [] w' (sub_st (H':=[pt g 89 (mcc y1 m),row 3 1 m.p.vA m.p.vn m.p.vc (x.votes.map zv),row 112 3 m.p.pA m.p.pn m.p.pc (cellsL pec x.peers),row 65 12 m.sA m.S.length m.sc (cellsL sgc m.S)]) w' hS))
 |exact hB _ _ _ _ O fun w' hS=>hfin w' (hy1P [] w' (sub_st (H':=[pt g 89 (mcc y1 m),row 3 1 m.p.vA m.p.vn m.p.vc (x.votes.map zv),row 112 3 m.p.pA m.p.pn m.p.pc (cellsL pec x.peers),row 65 12 m.sA m.S.length m.sc (cellsL sgc m.S)]) w' hS))
theorem tick_ask (w:World) (g:Nat) (x:Rs) (m:Mm) (hS0:St w (owns (mP g x m)) (mP g x m) w) (D:Kw) (hD:Kd D (mP g x m) w) (h: ∀ w',D w'→McR w' x m) (hl:McL x m) (bl:Nat) (lim:Int) (hbl: ∀ w':World,D w'→w'.cell? ⟨bl,0,none⟩=some (.int .i64 lim)) (hc0:0≤x.clock) (hc1:x.clock≤16) (hr:x.role≠4) (hlm:x.limit≤x.clock+1) (h5:(nowL x).length≤5) (hyes:(C.right (nowL x)&&decide (x.me∈nowL x))=true) (htm:x.term<4611686018427387904) (hmj:C.majB (nowL x) [x.me]=false) (hSm:m.S.length≤800):Mth g x (askX {x with clock:=0,limit:=lim}) m ((felL x).flatMap (fun n=>[{ms0 with K:=1,F:=x.me,T:=n,tm:=x.term+1,pl:=lastP x}])) m.i D 40 [.pointer (some ⟨bl,0,none⟩)] w:=by
 obtain⟨y1,hy1⟩: ∃ y,y=({x with clock:=x.clock+1}:Rs):=⟨_,O⟩
 have f1y1:y1.role=x.role:=by rw[hy1]
 have f2y1:y1.limit=x.limit:=by rw[hy1]
 have f3y1:y1.clock=x.clock+1:=by rw[hy1]
 have f4y1:y1.term=x.term:=by rw[hy1]
 have f5y1:y1.me=x.me:=by rw[hy1]
 have f6y1:nowL y1=nowL x:=by rw[hy1];rfl
 have f7y1:y1.votes=x.votes:=by rw[hy1]
 have f8y1:y1.peers=x.peers:=by rw[hy1]
 have hy1M: ∀ w',D w'→McR w' y1 m:=fun w' h'=>by rw[hy1];exact⟨(h w' h').lg.like O O O O O O O O,(h w' h').ms⟩
 have hy1L:McL y1 m:=by rw[hy1];exact⟨hl.hvn,hl.hpn⟩
 have hy1P: ∀ (L:List Asn) w',St w (owns (mP g x m)) (pt g 89 (mcc y1 m)::row 3 1 m.p.vA m.p.vn m.p.vc (x.votes.map zv)::row 112 3 m.p.pA m.p.pn m.p.pc (cellsL pec x.peers)::row 65 12 m.sA m.S.length m.sc (cellsL sgc m.S)::L) w'→St w (owns (mP g x m)) (mP g y1 m++L) w':=fun L w' hS=>by
  show St _ _ (pt g 89 (mcc y1 m)::row 3 1 m.p.vA m.p.vn m.p.vc (y1.votes.map zv)::row 112 3 m.p.pA m.p.pn m.p.pc (cellsL pec y1.peers)::row 65 12 m.sA m.S.length m.sc (cellsL sgc m.S)::L) w'
  rw[f7y1,f8y1]
  exact hS
 obtain⟨y2,hy2⟩: ∃ y,y=({x with clock:=0}:Rs):=⟨_,O⟩
 have f1y2:y2.role=x.role:=by rw[hy2]
 have f2y2:y2.limit=x.limit:=by rw[hy2]
 have f3y2:y2.clock=0:=by rw[hy2]
 have f4y2:y2.term=x.term:=by rw[hy2]
 have f5y2:y2.me=x.me:=by rw[hy2]
 have f6y2:nowL y2=nowL x:=by rw[hy2];rfl
 have f7y2:y2.votes=x.votes:=by rw[hy2]
 have f8y2:y2.peers=x.peers:=by rw[hy2]
 have hy2M: ∀ w',D w'→McR w' y2 m:=fun w' h'=>by rw[hy2];exact⟨(h w' h').lg.like O O O O O O O O,(h w' h').ms⟩
 have hy2L:McL y2 m:=by rw[hy2];exact⟨hl.hvn,hl.hpn⟩
 have hy2P: ∀ (L:List Asn) w',St w (owns (mP g x m)) (pt g 89 (mcc y2 m)::row 3 1 m.p.vA m.p.vn m.p.vc (x.votes.map zv)::row 112 3 m.p.pA m.p.pn m.p.pc (cellsL pec x.peers)::row 65 12 m.sA m.S.length m.sc (cellsL sgc m.S)::L) w'→St w (owns (mP g x m)) (mP g y2 m++L) w':=fun L w' hS=>by
  show St _ _ (pt g 89 (mcc y2 m)::row 3 1 m.p.vA m.p.vn m.p.vc (y2.votes.map zv)::row 112 3 m.p.pA m.p.pn m.p.pc (cellsL pec y2.peers)::row 65 12 m.sA m.S.length m.sc (cellsL sgc m.S)::L) w'
  rw[f7y2,f8y2]
  exact hS
 obtain⟨y3,hy3⟩: ∃ y,y=({x with clock:=0,limit:=lim}:Rs):=⟨_,O⟩
 have f1y3:y3.role=x.role:=by rw[hy3]
 have f2y3:y3.limit=lim:=by rw[hy3]
 have f3y3:y3.clock=0:=by rw[hy3]
 have f4y3:y3.term=x.term:=by rw[hy3]
 have f5y3:y3.me=x.me:=by rw[hy3]
 have f6y3:nowL y3=nowL x:=by rw[hy3];rfl
 have f7y3:y3.votes=x.votes:=by rw[hy3]
 have f8y3:y3.peers=x.peers:=by rw[hy3]
 have hy3M: ∀ w',D w'→McR w' y3 m:=fun w' h'=>by rw[hy3];exact⟨(h w' h').lg.like O O O O O O O O,(h w' h').ms⟩
 have hy3L:McL y3 m:=by rw[hy3];exact⟨hl.hvn,hl.hpn⟩
 have hy3P: ∀ (L:List Asn) w',St w (owns (mP g x m)) (pt g 89 (mcc y3 m)::row 3 1 m.p.vA m.p.vn m.p.vc (x.votes.map zv)::row 112 3 m.p.pA m.p.pn m.p.pc (cellsL pec x.peers)::row 65 12 m.sA m.S.length m.sc (cellsL sgc m.S)::L) w'→St w (owns (mP g x m)) (mP g y3 m++L) w':=fun L w' hS=>by
  show St _ _ (pt g 89 (mcc y3 m)::row 3 1 m.p.vA m.p.vn m.p.vc (y3.votes.map zv)::row 112 3 m.p.pA m.p.pn m.p.pc (cellsL pec y3.peers)::row 65 12 m.sA m.S.length m.sc (cellsL sgc m.S)::L) w'
  rw[f7y3,f8y3]
  exact hS
 rw[show ({x with clock:=0,limit:=lim}:Rs)=y3 from hy3.symm]
 unfold Mth
 refine gives_N2 Tryz.func40 O Tryz.ntmps40 Tryz.results40 (by simp) hS0 (fun B hE hB=>?_)
 focus (refine qs ?_;refine qp ?_;refine qt (T_nilCheck O) ?_;refine qp ?_;refine qp ?_;refine qt (T_load O O O O) ?_;refine qt (T_sum O O O (by unfold fits;omega)) ?_;refine qt (T_nilCheck O) ?_;refine qp ?_;refine qp ?_;(refine qw (E_storeA1 (cs:=mcc x m) (cs':=mcc y1 m) O O O O O (by rw[hy1];rfl) (by show _<16;omega)) ?_;rintro _ _ rfl);refine qz ?_;refine qb ?_;refine qs ?_;refine qp ?_;refine qt (T_nilCheck O) ?_;refine qp ?_;refine qp ?_;refine qt (T_load O O O O) ?_;refine qf ?_;refine qp ?_;(iterate 6 refine qk ?_);refine qp ?_;refine qp ?_;refine qz ?_;refine qF ?_;refine qq ?_;(refine S_draw _ (fun _ h=>h) (by kernel_rfl) O (by kernel_rfl) (rfl:_=20) ?_;(refine dp 0 ?_);(refine dt 1 O (T_nilCheck O) ?_);(refine dp 2 ?_);(refine dp 3 ?_);(refine dl 4 ?_);(refine dqT 5 ?_);(refine dp 6 ?_);(refine dp 7 ?_);(refine dt 8 O (T_nilCheck O) ?_);(refine dp 9 ?_);(refine dp 10 ?_);(refine dl 11 ?_);(refine dp 12 ?_);(refine dt 13 O (T_nilCheck O) ?_);(refine dp 14 ?_);(refine dp 15 ?_);(refine dl 16 ?_);(refine dqT 17 ?_);(refine dp 18 ?_);(refine dp 19 ?_);refine dn ?_);refine qT ?_;refine qq ?_)
 refine S_draw ([]) sub_st (by kernel_rfl) O (by kernel_rfl) (by kernel_rfl:_=11) ?_
 refine dp 0 ?_
 refine dp 1 ?_
 refine dt 2 O (T_ldq O O O (fun w1 hS1=>hbl w1 (hD.at_ hS1))) ?_
 refine dt 3 O (T_nilCheck O) ?_
 refine dp 4 ?_
 refine dp 5 ?_
 refine D_one 6 O (E_storeA1 (cs:=mcc y1 m) (cs':=mcc y2 m) O O O O O (by rw[hy1,hy2];rfl) (by show _<16;omega)) ?_ O O (by kernel_rfl)
 rintro _ _ rfl
 refine nx ?_
 refine dt 7 O (T_nilCheck O) ?_
 refine dp 8 ?_
 refine dp 9 ?_
 refine D_one 10 O (E_storeA1 (cs:=mcc y2 m) (cs':=mcc y3 m) O O O O O (by rw[hy2,hy3];rfl) (by show _<16;omega)) ?_ O O (by kernel_rfl)
 rintro _ _ rfl
 refine nx ?_
 refine dn ?_
 skip
 focus (refine qq ?_)
 refine S_draw ([pt g 89 (mcc y3 m)]) sub_st (by kernel_rfl) O (by kernel_rfl) (by kernel_rfl:_=16) ?_
 refine dp 0 ?_
 refine dp 2 ?_
 refine dt 3 O (T_nilCheck O) ?_
 refine dp 4 ?_
 refine dp 5 ?_
 refine dl 6 ?_
 refine D_one 1 O (E_hv1 (f:=43) F43 (fun w1 hS1=>mforce_k w1 g y3 m (mcB_st hS1 (by simp)) D (hD.call0 hS1) (fun w2 h2=>(hy3M w2 h2).lg) (nowL x) f6y3) O O (fun _=>O)) ?_ O O (by kernel_rfl)
 rintro _ _ ⟨⟨⟨A3,K3,c3⟩,Z3⟩,rfl,hI3,rfl⟩
 refine nx ?_
 refine D_one 7 O (E_hv0 (f:=42) F42 (fun w1 hS1=>has14_k w1 A3 (nowL x).length c3 (nowL x) y3.me (hI3 w1 ⟨hD.at_ hS1,hS1.at_ (A:=Z3) (by simp)⟩) (by omega) true (by rw[f5y3];exact hyes)) O O (fun _=>O)) ?_ O O (by kernel_rfl)
 rintro _ _ ⟨_,rfl,_,rfl⟩
 refine nx ?_
 refine dqT 8 ?_
 refine dp 9 ?_
 refine dt 10 O (T_nilCheck O) ?_
 refine dp 11 ?_
 refine dp 12 ?_
 refine dl 13 ?_
 refine dqT 14 ?_
 refine dqT 15 ?_
 refine dn ?_
 skip
 focus (refine qT ?_;refine qr ?_;refine qp ?_)
 have hmem: ∀ w1,St w (owns (mP g x m)) [Z3,pt g 89 (mcc y3 m),row 3 1 m.p.vA m.p.vn m.p.vc (x.votes.map zv),row 112 3 m.p.pA m.p.pn m.p.pc (cellsL pec x.peers),row 65 12 m.sA m.S.length m.sc (cellsL sgc m.S)] w1→St w (owns (mP g x m)) (zN::Z3::mP g y3 m) w1:=fun w1 hS1=>by
  have e1:=hy3P [zN,Z3] w1 (sub_st (H':=[pt g 89 (mcc y3 m),row 3 1 m.p.vA m.p.vn m.p.vc (x.votes.map zv),row 112 3 m.p.pA m.p.pn m.p.pc (cellsL pec x.peers),row 65 12 m.sA m.S.length m.sc (cellsL sgc m.S),zN,Z3]) w1 (zN_in hS1))
  exact sub_st (H':=[zN,Z3,pt g 89 (mcc y3 m),row 3 1 m.p.vA m.p.vn m.p.vc (y3.votes.map zv),row 112 3 m.p.pA m.p.pn m.p.pc (cellsL pec y3.peers),row 65 12 m.sA m.S.length m.sc (cellsL sgc m.S)]) w1 (show St _ _ [pt g 89 (mcc y3 m),row 3 1 m.p.vA m.p.vn m.p.vc (y3.votes.map zv),row 112 3 m.p.pA m.p.pn m.p.pc (cellsL pec y3.peers),row 65 12 m.sA m.S.length m.sc (cellsL sgc m.S),zN,Z3] w1 from e1)
 focus ((refine qe (Ef.pre hmem (E_mthL (f:=44) (D:=D) (Z:=zN) (mP g y3 m) (fun y:Nat×(List (Ms×Mp)×Option Addr×Nat)×Asn=>mP g (askX y3) (appM (votM m y.1) y.2.1)) hD F44 (fun w1 _ hk hS1=>ask_no w1 g y3 m hS1 (K2 D zN) hk (fun w2 h2=>hy3M w2 h2.1) hy3L (by omega) (by rw[f6y3];exact h5) hSm (by rw[f6y3,f5y3];exact hmj)) O O)) ?_;rintro _ _ ⟨⟨bv,⟨N,AN,cN⟩,ZN⟩,Z',rfl,⟨hI1,hI2⟩,hold,hnew,rfl⟩;dsimp only[List.cons_append,List.nil_append] at hI1 hI2 ⊢);refine qz ?_;refine RS_blk ?_)
 have hfin: ∀ w',St w (owns (mP g x m)) (Z'::mP g (askX y3) (appM (votM m bv) (N,AN,cN))) w'→ ∃ y:Mm×Asn,(y.1.S.map Prod.fst=m.S.map Prod.fst++((felL x).flatMap (fun n=>[{ms0 with K:=1,F:=x.me,T:=n,tm:=x.term+1,pl:=lastP x}]))∧y.1.i=m.i∧McL (askX y3) y.1∧ ∀ w',K2 D y.2 w'→McR w' (askX y3) y.1)∧St w (owns (mP g x m)) (mP g (askX y3) y.1++[y.2]) w':=fun w' hS=>⟨(appM (votM m bv) (N,AN,cN),Z'),⟨by rw[hy3] at hI1;rw[← (show N.map Prod.fst=(felL x).flatMap (fun n=>[{ms0 with K:=1,F:=x.me,T:=n,tm:=x.term+1,pl:=lastP x}]) from hI1)];exact List.map_append,O,⟨O,hy3L.hpn⟩,fun w2 h2=>⟨(hy3M w2 h2.1).lg.like O O O O O O O O,fun s hs=>by
   rcases List.mem_append.1 hs with hs|hs
   ·exact(h w2 h2.1).ms s hs
   ·exact hI2 w2 (hnew w2 h2) s hs⟩⟩,hS.perm (List.perm_append_comm (l₁:=[Z']))⟩
 first
 |exact hE _ _ fun w' hS=>hfin w' (sub_st (H':=[Z',pt g 89 (mcc (askX y3) (appM (votM m bv) (N,AN,cN))),row 3 1 (appM (votM m bv) (N,AN,cN)).p.vA (appM (votM m bv) (N,AN,cN)).p.vn (appM (votM m bv) (N,AN,cN)).p.vc ((askX y3).votes.map zv),row 112 3 (appM (votM m bv) (N,AN,cN)).p.pA (appM (votM m bv) (N,AN,cN)).p.pn (appM (votM m bv) (N,AN,cN)).p.pc (cellsL pec (askX y3).peers),row 65 12 (appM (votM m bv) (N,AN,cN)).sA (appM (votM m bv) (N,AN,cN)).S.length (appM (votM m bv) (N,AN,cN)).sc (cellsL sgc (appM (votM m bv) (N,AN,cN)).S)]) w' hS)
 |exact hB _ _ _ _ O fun w' hS=>hfin w' (sub_st (H':=[Z',pt g 89 (mcc (askX y3) (appM (votM m bv) (N,AN,cN))),row 3 1 (appM (votM m bv) (N,AN,cN)).p.vA (appM (votM m bv) (N,AN,cN)).p.vn (appM (votM m bv) (N,AN,cN)).p.vc ((askX y3).votes.map zv),row 112 3 (appM (votM m bv) (N,AN,cN)).p.pA (appM (votM m bv) (N,AN,cN)).p.pn (appM (votM m bv) (N,AN,cN)).p.pc (cellsL pec (askX y3).peers),row 65 12 (appM (votM m bv) (N,AN,cN)).sA (appM (votM m bv) (N,AN,cN)).S.length (appM (votM m bv) (N,AN,cN)).sc (cellsL sgc (appM (votM m bv) (N,AN,cN)).S)]) w' hS)
theorem mth_hc {g:Nat} {x x2:Rs} {m:Mm} {ms:List Ms} {D:Kw} {f:FuncId} {args:List Value} {w:World} (hms:m.S=[]) (hmi:m.i=false) (h:Mth g x x2 m ms m.i D f args w):
  Gives Tryz.prog f (.pointer (some ⟨g,0,none⟩)::args) (mP g x m) w (X:=Mm×Asn) (fun _=> .tuple #[]) (fun y=>y.1.S.map Prod.fst=ms∧y.1.i=false∧McL x2 y.1∧ ∀ w',K2 D y.2 w'→McR w' x2 y.1) (fun y=>mP g x2 y.1++[y.2]):=by
 unfold Mth at h
 rw[hms,hmi] at h
 exact h
theorem tick_ok (w:World) (x:Rs) (p:Rp) (h:RfR w x p) (lim:Int) (hck:checkB x=true) (hl4:4≤lim) (hl16:lim≤16) (x2:Rs) (ms:List Ms) (hu2:RsU x2) (hv2:x2.votes.length≤900) (hp2:x2.peers.length≤900)
  (hT: ∀ (w1:World) (g:Nat) (m:Mm) (D:Kw) (bl:Nat),St w1 (owns (mP g x m)) (mP g x m) w1→Kd D (mP g x m) w1→(∀ w',D w'→McR w' x m)→McL x m→m.S=[]→(∀ w':World,D w'→w'.cell? ⟨bl,0,none⟩=some (.int .i64 lim))→Mth g x x2 m ms m.i D 40 [.pointer (some ⟨bl,0,none⟩)] w1):
  Gives Tryz.prog 14 [.agg (rfc x p).toArray,.int .i64 lim] [] w (X:=Mm×Asn) (fun y=> .tuple #[.agg (rfc x2 y.1.p).toArray,.slice y.1.sA y.1.S.length y.1.sc,zi 0]) (fun y=>y.1.S.map Prod.fst=ms∧ ∀ w',y.2.holds w'→SrvR w' x2 y.1) (fun y=>[y.2]):=by
 refine gives_C Tryz.func14 O Tryz.ntmps14 Tryz.results14 (by simp) (St.enter w) (fun B hB=>?_)
 focus (refine qs ?_;(refine qe (E_boxa (cs:=rfc x p) O) ?_;rintro _ _ ⟨b2,rfl,rfl⟩);(refine qe (E_box1 (v:= .int .i64 lim) O O) ?_;rintro _ _ ⟨b3,rfl,rfl⟩);(refine qe (E_alloca O rf_zero) ?_;rintro _ _ ⟨b4,rfl,rfl⟩);refine qp ?_;refine qp ?_;refine qz ?_;refine qq ?_;refine qb ?_;refine qs ?_;refine qt (T_loads (ds:=rfc x p) O O O O O) ?_;refine qh F30 (fun w1 hS1=>rcheck_any w1 x p (h.keep hS1.kpO) true hck) ?_;refine qp ?_;refine qp ?_;refine qz ?_;refine qF ?_;refine qs ?_;(iterate 2 refine qt (T_load O O O O) ?_;refine qf ?_;refine qp ?_);refine qp ?_;refine qz ?_;refine qF ?_;refine qx ?_;refine RS_blk ?_;refine qs ?_;refine qt (T_loads (ds:=rfc x p) O O O O O) ?_;refine qt (T_func O O) ?_;(refine qe (E_hv1 (f:=39) F39 (fun w1 hS1=>turn_any w1 x p (h.keep hS1.kpO) (KL (fun _=>True) [pt b3 3 [.int .i64 lim]]) (Kd.subL (As':=[]) (fun _ _=>trivial) hS1 (by simp)) 40 [.pointer (some ⟨b3,0,none⟩)] F40 x2 ms false hu2 hv2 hp2 (fun w2 g m D hS2 hk hd hml hms hmi=>mth_hc hms hmi (hT w2 g m D b3 hS2 hk (fun w3 h3=>(hd w3 h3).2) hml hms (fun w3 h3=>pt_cell (t:=3) ((hd w3 h3).1.2 (pt b3 3 [.int .i64 lim]) (by simp)))))) O O (fun _=>O)) ?_;rintro _ _ ⟨⟨m2,Z2⟩,rfl,⟨hI1,hI2⟩,rfl⟩;dsimp only at hI1 hI2);(iterate 4 refine qp ?_);(refine qw (E_storew (cs:=rfc x p) (ds:=rfc x2 m2.p) O O O O (rfc_one _ _) O) ?_;rintro _ _ rfl);refine qp ?_;refine qp ?_;refine qn ?_;refine qt (T_loads (ds:=rfc x2 m2.p) O O O O O) ?_;refine qp ?_;(refine qw (E_storew (cs:=rfc rs0 rp0) (ds:=rfc x2 m2.p) O O O O (rfc_one _ _) O) ?_;rintro _ _ rfl);refine qp ?_;refine qp ?_;refine qz ?_)
 refine hB _ _ _ _ _ O (.cell O O O inferInstance O (.tmp O (.tmp O .nil))) fun w' hS=>⟨(m2,zA (pt b3 3 [.int .i64 lim]) Z2),O,⟨hI1,fun w3 h3=>hI2 w3 ⟨⟨trivial,fun A hA=>by
  obtain rfl:A=pt b3 3 [.int .i64 lim]:=by simpa using hA
  exact zA_l h3⟩,zA_r h3⟩⟩,zA_in (sub_st (H':=[pt b3 3 [.int .i64 lim],Z2]) w' hS)⟩
def vtM (m:Mm) (n:Nat) (A:Option Addr) (c:Nat):Mm:=⟨⟨m.p.A,m.p.n,m.p.c,m.p.Q,m.p.cA,m.p.cn,m.p.cc,A,n,c,m.p.pA,m.p.pn,m.p.pc⟩,m.S,m.sA,m.sc,m.i⟩
theorem vts_len (l:List Int) (n:Int):(vtsL l n).length≤l.length+1:=by
 unfold vtsL
 split
 ·omega
 ·have:=C.cut_le l n
  simp
  omega
theorem bins_k (w:World) (A:Option Addr) (n c:Nat) (ms:List Int) (m:Int) (h:Rd w All 1 A n (ms.map zv)) (hn:n≤1000) (hu:C.Up_ ms) (r:Bool) (hr:decide (m∈ms)=r):
  Gives Tryz.prog 163 [.slice A n c,zv m] [] w (X:=Unit) (fun _=> .tuple #[.int .i64 (C.cut ms m:Int),.bool r]) (fun _=>True) (fun _=>[]):=hr▸C.bins_any w A n c ms m h hn hu
theorem grant_any (w:World) (g:Nat) (x:Rs) (m:Mm) (hS0:St w (owns (mP g x m)) (mP g x m) w) (D:Kw) (hD:Kd D (mP g x m) w) (h: ∀ w',D w'→McR w' x m) (hl:McL x m) (h5:(nowL x).length≤5) (hup:C.Up_ x.votes) (hvm:x.votes.length≤900) (who:Int) (r:Bool) (hr:C.majB (nowL x) (vtsL x.votes who)=r):
  Gives Tryz.prog 172 [.pointer (some ⟨g,0,none⟩),.int .i64 who] (mP g x m) w (X:=(Option Addr×Nat)×Asn) (fun _=> .bool r) (fun _=>True) (fun y=>mP g {x with votes:=vtsL x.votes who} (vtM m (vtsL x.votes who).length y.1.1 y.1.2)++[y.2]):=by
 refine gives_S Tryz.func172 O Tryz.ntmps172 Tryz.results172 (by simp) hS0 (fun B hB=>?_)
 have hvn:=hl.hvn
 have hvl:=vts_len x.votes who
 have hcl:C.cut x.votes who≤m.p.vn:=by rw[← hvn];exact C.cut_le _ _
 cases hin:decide (who∈x.votes)
 ·have e1:vtsL x.votes who=x.votes.take (C.cut x.votes who)++who::x.votes.drop (C.cut x.votes who):=if_neg (of_decide_eq_false hin)
  have e2:(vtsL x.votes who).length=m.p.vn+1:=by rw[e1];simp;omega
  have e3:(vtsL x.votes who).map zv=(x.votes.map zv).take (C.cut x.votes who)++zv who::(x.votes.map zv).drop (C.cut x.votes who):=by rw[e1,List.map_append,List.map_cons,List.map_take,List.map_drop]
  focus (refine qs ?_;refine qp ?_;refine qn ?_;refine qp ?_;refine qt (T_nilCheck O) ?_;refine qp ?_;refine qp ?_;refine qt (T_load O O O O) ?_;refine qp ?_;refine qh F163 (fun w1 hS1=>bins_k w1 m.p.vA m.p.vn m.p.vc x.votes who (row_rd (hS1.at_ (A:=row 3 1 m.p.vA m.p.vn m.p.vc (x.votes.map zv)) (by simp))) (by omega) hup _ hin) ?_;(iterate 5 refine qp ?_);refine qz ?_;refine qq ?_;refine qs ?_;refine qp ?_;refine qt (T_not O) ?_;refine qz ?_;refine qT ?_;refine qr ?_;refine qp ?_;refine qp ?_;refine qt (T_nilCheck O) ?_;refine qp ?_;refine qp ?_;refine qt (T_load O O O O) ?_;refine qp ?_;refine qp ?_;(refine qe (E_lit1 (m:=1) (vs:=[zv who]) O O O O O O O (by simp[zv,Value.oneCell']) (by decide)) ?_;rintro _ _ ⟨vb,rfl,rfl⟩);(refine qe (E_ht2 (A1:=row 3 1 m.p.vA m.p.vn m.p.vc (x.votes.map zv)) (A2:=pt vb 3 [zv who]) (f:=184) F184 (fun w1 hS1 hS2=>C.insert_any w1 m.p.vA m.p.vn m.p.vc vb (C.cut x.votes who) (x.votes.map zv) (zv who) hcl (by omega) (C.zv_ones _) O hS2) O O (fun _=>O)) ?_;rintro _ _ ⟨⟨AV,cV⟩,rfl,_,rfl⟩);refine qt (T_nilCheck O) ?_;refine qp ?_;refine qp ?_;(refine qw (E_storeA1 (cs:=mcc x m) (cs':=mcc x (vtM m (m.p.vn+1) AV cV)) O O O O O O (by show _<16;omega)) ?_;rintro _ _ rfl);refine qz ?_;refine qq ?_)
  rw[← e3]
  rw[← e2]
  refine S_draw ([pt g 89 (mcc x (vtM m (vtsL x.votes who).length AV cV))]) sub_st (by kernel_rfl) O (by kernel_rfl) (by kernel_rfl:_=9) ?_
  refine dp 0 ?_
  refine dp 2 ?_
  refine dt 3 O (T_nilCheck O) ?_
  refine dp 4 ?_
  refine dp 5 ?_
  refine dl 6 ?_
  refine D_one 1 O (E_hv1 (f:=43) F43 (fun w1 hS1=>mforce_k w1 g x (vtM m (vtsL x.votes who).length AV cV) (mcB_st hS1 (by simp)) D (hD.call0 hS1) (fun w2 h2=>(h w2 h2).lg.like O O O O O O O O) (nowL x) O) O O (fun _=>O)) ?_ O O (by kernel_rfl)
  rintro _ _ ⟨⟨⟨A3,K3,c3⟩,Z3⟩,rfl,hI3,rfl⟩
  refine nx ?_
  refine D_one 7 O (E_hv0 (f:=111) F111 (fun w1 hS1=>maj_k w1 A3 AV (nowL x).length c3 (vtsL x.votes who).length cV (nowL x) (vtsL x.votes who) (hI3 w1 ⟨hD.at_ hS1,hS1.at_ (A:=Z3) (by simp)⟩) (row_rd (hS1.at_ (A:=row 3 1 AV (vtsL x.votes who).length cV ((vtsL x.votes who).map zv)) (by simp))) (by omega) (by omega) _ hr) O O (fun _=>O)) ?_ O O (by kernel_rfl)
  rintro _ _ ⟨_,rfl,_,rfl⟩
  refine nx ?_
  refine dp 8 ?_
  refine dn ?_
  skip
  skip
  have hfin: ∀ w',St w (owns (mP g x m)) [Z3,pt g 89 (mcc x (vtM m (vtsL x.votes who).length AV cV)),row 3 1 AV (vtsL x.votes who).length cV ((vtsL x.votes who).map zv),row 112 3 m.p.pA m.p.pn m.p.pc (cellsL pec x.peers),row 65 12 m.sA m.S.length m.sc (cellsL sgc m.S)] w'→ ∃ y:(Option Addr×Nat)×Asn,.bool r=Value.bool r∧True∧St w (owns (mP g x m)) (mP g {x with votes:=vtsL x.votes who} (vtM m (vtsL x.votes who).length y.1.1 y.1.2)++[y.2]) w':=fun w' hS=>⟨((AV,cV),Z3),O,trivial,hS.perm (List.perm_append_comm (l₁:=[Z3]))⟩
  exact hB _ _ _ _ _ O O fun w' hS=>hfin w' (sub_st (H':=[Z3,pt g 89 (mcc x (vtM m (vtsL x.votes who).length AV cV)),row 3 1 AV (vtsL x.votes who).length cV ((vtsL x.votes who).map zv),row 112 3 m.p.pA m.p.pn m.p.pc (cellsL pec x.peers),row 65 12 m.sA m.S.length m.sc (cellsL sgc m.S)]) w' hS)
 ·have e1:vtsL x.votes who=x.votes:=if_pos (of_decide_eq_true hin)
  obtain⟨AV,hAV⟩: ∃ A,m.p.vA=A:=⟨_,O⟩
  obtain⟨cV,hcV⟩: ∃ A,m.p.vc=A:=⟨_,O⟩
  have e4:vtM m (vtsL x.votes who).length AV cV=m:=by rw[e1,hvn, ← hAV, ← hcV];rfl
  focus (refine qs ?_;refine qp ?_;refine qn ?_;refine qp ?_;refine qt (T_nilCheck O) ?_;refine qp ?_;refine qp ?_;refine qt (T_load O O O O) ?_;refine qp ?_;refine qh F163 (fun w1 hS1=>bins_k w1 m.p.vA m.p.vn m.p.vc x.votes who (row_rd (hS1.at_ (A:=row 3 1 m.p.vA m.p.vn m.p.vc (x.votes.map zv)) (by simp))) (by omega) hup _ hin) ?_;refine qp ?_;(iterate 2 refine qp ?_;refine qd ?_);refine qz ?_;refine qq ?_;refine qs ?_;refine qd ?_;refine qt (T_not O) ?_;refine qz ?_;refine qF ?_;refine qx ?_;refine qq ?_)
  refine RS_mem (H':=[pt g 89 (mcc x (vtM m (vtsL x.votes who).length AV cV)),row 3 1 AV (vtsL x.votes who).length cV ((vtsL x.votes who).map zv),row 112 3 m.p.pA m.p.pn m.p.pc (cellsL pec x.peers),row 65 12 m.sA m.S.length m.sc (cellsL sgc m.S)]) (fun w1 hS1=>?_) ?_
  ·rw[e4,e1,hvn, ← hAV, ← hcV]
   exact sub_st (H':=[pt g 89 (mcc x m),row 3 1 m.p.vA m.p.vn m.p.vc (x.votes.map zv),row 112 3 m.p.pA m.p.pn m.p.pc (cellsL pec x.peers),row 65 12 m.sA m.S.length m.sc (cellsL sgc m.S)]) w1 hS1
  refine S_draw ([pt g 89 (mcc x (vtM m (vtsL x.votes who).length AV cV))]) sub_st (by kernel_rfl) O (by kernel_rfl) (by kernel_rfl:_=9) ?_
  refine dp 0 ?_
  refine dp 2 ?_
  refine dt 3 O (T_nilCheck O) ?_
  refine dp 4 ?_
  refine dp 5 ?_
  refine dl 6 ?_
  refine D_one 1 O (E_hv1 (f:=43) F43 (fun w1 hS1=>mforce_k w1 g x (vtM m (vtsL x.votes who).length AV cV) (mcB_st hS1 (by simp)) D (hD.call0 hS1) (fun w2 h2=>(h w2 h2).lg.like O O O O O O O O) (nowL x) O) O O (fun _=>O)) ?_ O O (by kernel_rfl)
  rintro _ _ ⟨⟨⟨A3,K3,c3⟩,Z3⟩,rfl,hI3,rfl⟩
  refine nx ?_
  refine D_one 7 O (E_hv0 (f:=111) F111 (fun w1 hS1=>maj_k w1 A3 AV (nowL x).length c3 (vtsL x.votes who).length cV (nowL x) (vtsL x.votes who) (hI3 w1 ⟨hD.at_ hS1,hS1.at_ (A:=Z3) (by simp)⟩) (row_rd (hS1.at_ (A:=row 3 1 AV (vtsL x.votes who).length cV ((vtsL x.votes who).map zv)) (by simp))) (by omega) (by omega) _ hr) O O (fun _=>O)) ?_ O O (by kernel_rfl)
  rintro _ _ ⟨_,rfl,_,rfl⟩
  refine nx ?_
  refine dp 8 ?_
  refine dn ?_
  skip
  skip
  have hfin: ∀ w',St w (owns (mP g x m)) [Z3,pt g 89 (mcc x (vtM m (vtsL x.votes who).length AV cV)),row 3 1 AV (vtsL x.votes who).length cV ((vtsL x.votes who).map zv),row 112 3 m.p.pA m.p.pn m.p.pc (cellsL pec x.peers),row 65 12 m.sA m.S.length m.sc (cellsL sgc m.S)] w'→ ∃ y:(Option Addr×Nat)×Asn,.bool r=Value.bool r∧True∧St w (owns (mP g x m)) (mP g {x with votes:=vtsL x.votes who} (vtM m (vtsL x.votes who).length y.1.1 y.1.2)++[y.2]) w':=fun w' hS=>⟨((AV,cV),Z3),O,trivial,hS.perm (List.perm_append_comm (l₁:=[Z3]))⟩
  exact hB _ _ _ _ _ O O fun w' hS=>hfin w' (sub_st (H':=[Z3,pt g 89 (mcc x (vtM m (vtsL x.votes who).length AV cV)),row 3 1 AV (vtsL x.votes who).length cV ((vtsL x.votes who).map zv),row 112 3 m.p.pA m.p.pn m.p.pc (cellsL pec x.peers),row 65 12 m.sA m.S.length m.sc (cellsL sgc m.S)]) w' hS)
theorem would_stand (w:World) (g:Nat) (x:Rs) (m:Mm) (hS0:St w (owns (mP g x m)) (mP g x m) w) (D:Kw) (hD:Kd D (mP g x m) w) (h: ∀ w',D w'→McR w' x m) (hl:McL x m) (h5:(nowL x).length≤5) (hup:C.Up_ x.votes) (hvm:x.votes.length≤900) (htm:x.term≤4611686018427387904) (y:Ms) (q:Mp) (hr2:x.role=2) (hok:y.ok=true) (hyt:y.tm=x.term+1) (hmj:C.majB (nowL x) (vtsL x.votes y.F)=true) (hmj2:C.majB (nowL x) [x.me]=false) (hSm:m.S.length≤800):Mth g x (stdX {x with votes:=vtsL x.votes y.F}) m ((felL x).flatMap (fun n=>[{ms0 with K:=3,F:=x.me,T:=n,tm:=x.term+1,pl:=lastP x}])) m.i D 143 [.agg (mgc y q).toArray] w:=by
 unfold Mth
 refine gives_N2 Tryz.func143 O Tryz.ntmps143 Tryz.results143 (by simp) hS0 (fun B hE hB=>?_)
 rw[show mgc y q=mgc {y with ok:=true} q by rw[← hok]]
 refine RS_zN ?_
 focus (refine qs ?_;(refine qe (E_boxa (cs:=mgc {y with ok:=true} q) O) ?_;rintro _ _ ⟨b3,rfl,rfl⟩);refine qz ?_;refine qq ?_)
 refine S_draw ([pt b3 65 (mgc {y with ok:=true} q),pt g 89 (mcc x m)]) sub_st (by kernel_rfl) O (by kernel_rfl) (by kernel_rfl:_=27) ?_
 refine dp 0 ?_
 refine dt 1 O (T_nilCheck O) ?_
 refine dp 2 ?_
 refine dp 3 ?_
 refine dl 4 ?_
 refine dqT 5 ?_
 refine dp 6 ?_
 refine dp 7 ?_
 refine dl 8 ?_
 refine dp 9 ?_
 refine dp 10 ?_
 refine dp 11 ?_
 refine dt 12 O (T_load (v:= .int .u64 (y.tm:Int)) O O O O) ?_
 refine dp 13 ?_
 refine dt 14 O (T_nilCheck O) ?_
 refine dp 15 ?_
 refine dp 16 ?_
 refine dl 17 ?_
 (refine dt 18 O (T_addN O O (by unfold fits;omega)) ?_)
 refine dqT 19 ?_
 refine dp 20 ?_
 refine dp 21 ?_
 refine dp 22 ?_
 refine dp 23 ?_
 refine dt 24 O (T_load (v:= .int .i64 y.F) O O O O) ?_
 refine D_one 25 O (E_mthL (f:=172) (D:=D) (Z:=zN) (mP g x m) (fun z:(Option Addr×Nat)×Asn=>mP g {x with votes:=vtsL x.votes y.F} (vtM m (vtsL x.votes y.F).length z.1.1 z.1.2)) hD F172 (fun w1 _ hk hS1=>grant_any w1 g x m hS1 (K2 D zN) hk (fun w2 h2=>h w2 h2.1) hl h5 hup hvm y.F true hmj) O O) ?_ O O (by kernel_rfl)
 rintro _ _ ⟨⟨⟨AV,cV⟩,ZV⟩,Z1,rfl,_,hold,hnew,rfl⟩;dsimp only[List.cons_append,List.nil_append]
 refine Nx_pivot (by kernel_rfl) ?_
 refine dp 26 ?_
 refine dn ?_
 skip
 focus (refine qT ?_;refine qr ?_;refine qp ?_;(refine qe (E_mthL (f:=112) (D:=D) (Z:=Z1) (mP g {x with votes:=vtsL x.votes y.F} (vtM m (vtsL x.votes y.F).length AV cV)) (fun z:Nat×(List (Ms×Mp)×Option Addr×Nat)×Asn=>mP g (stdX {x with votes:=vtsL x.votes y.F}) (appM (votM (vtM m (vtsL x.votes y.F).length AV cV) z.1) z.2.1)) hD F112 (fun w1 _ hk hS1=>stand_no w1 g {x with votes:=vtsL x.votes y.F} (vtM m (vtsL x.votes y.F).length AV cV) hS1 (K2 D Z1) hk (fun w2 h2=>⟨(h w2 h2.1).lg.like O O O O O O O O,(h w2 h2.1).ms⟩) ⟨O,hl.hpn⟩ htm h5 hSm hmj2) O O) ?_;rintro _ _ ⟨⟨bv,⟨N,AN,cN⟩,ZN⟩,Z',rfl,⟨hI1,hI2⟩,hold2,hnew2,rfl⟩;dsimp only[List.cons_append,List.nil_append] at hI1 hI2 ⊢);refine qz ?_)
 have hfin: ∀ w',St w (owns (mP g x m)) (Z'::mP g (stdX {x with votes:=vtsL x.votes y.F}) (appM (votM (vtM m (vtsL x.votes y.F).length AV cV) bv) (N,AN,cN))) w'→ ∃ z:Mm×Asn,(z.1.S.map Prod.fst=m.S.map Prod.fst++((felL x).flatMap (fun n=>[{ms0 with K:=3,F:=x.me,T:=n,tm:=x.term+1,pl:=lastP x}]))∧z.1.i=m.i∧McL (stdX {x with votes:=vtsL x.votes y.F}) z.1∧ ∀ w',K2 D z.2 w'→McR w' (stdX {x with votes:=vtsL x.votes y.F}) z.1)∧St w (owns (mP g x m)) (mP g (stdX {x with votes:=vtsL x.votes y.F}) z.1++[z.2]) w':=fun w' hS=>⟨((appM (votM (vtM m (vtsL x.votes y.F).length AV cV) bv) (N,AN,cN)),Z'),⟨by rw[← (show N.map Prod.fst=(felL x).flatMap (fun n=>[{ms0 with K:=3,F:=x.me,T:=n,tm:=x.term+1,pl:=lastP x}]) from hI1)];exact List.map_append,O,⟨O,hl.hpn⟩,fun w2 h2=>⟨(h w2 h2.1).lg.like O O O O O O O O,fun s hs=>by
   rcases List.mem_append.1 hs with hs|hs
   ·exact(h w2 h2.1).ms s hs
   ·exact hI2 w2 (hnew2 w2 h2) s hs⟩⟩,hS.perm (List.perm_append_comm (l₁:=[Z']))⟩
 first
 |exact hE _ _ fun w' hS=>hfin w' (sub_st (H':=[Z',pt g 89 (mcc (stdX {x with votes:=vtsL x.votes y.F}) (appM (votM (vtM m (vtsL x.votes y.F).length AV cV) bv) (N,AN,cN))),row 3 1 (appM (votM (vtM m (vtsL x.votes y.F).length AV cV) bv) (N,AN,cN)).p.vA (appM (votM (vtM m (vtsL x.votes y.F).length AV cV) bv) (N,AN,cN)).p.vn (appM (votM (vtM m (vtsL x.votes y.F).length AV cV) bv) (N,AN,cN)).p.vc ((stdX {x with votes:=vtsL x.votes y.F}).votes.map zv),row 112 3 (appM (votM (vtM m (vtsL x.votes y.F).length AV cV) bv) (N,AN,cN)).p.pA (appM (votM (vtM m (vtsL x.votes y.F).length AV cV) bv) (N,AN,cN)).p.pn (appM (votM (vtM m (vtsL x.votes y.F).length AV cV) bv) (N,AN,cN)).p.pc (cellsL pec (stdX {x with votes:=vtsL x.votes y.F}).peers),row 65 12 (appM (votM (vtM m (vtsL x.votes y.F).length AV cV) bv) (N,AN,cN)).sA (appM (votM (vtM m (vtsL x.votes y.F).length AV cV) bv) (N,AN,cN)).S.length (appM (votM (vtM m (vtsL x.votes y.F).length AV cV) bv) (N,AN,cN)).sc (cellsL sgc (appM (votM (vtM m (vtsL x.votes y.F).length AV cV) bv) (N,AN,cN)).S)]) w' hS)
 |exact hB _ _ _ _ O fun w' hS=>hfin w' (sub_st (H':=[Z',pt g 89 (mcc (stdX {x with votes:=vtsL x.votes y.F}) (appM (votM (vtM m (vtsL x.votes y.F).length AV cV) bv) (N,AN,cN))),row 3 1 (appM (votM (vtM m (vtsL x.votes y.F).length AV cV) bv) (N,AN,cN)).p.vA (appM (votM (vtM m (vtsL x.votes y.F).length AV cV) bv) (N,AN,cN)).p.vn (appM (votM (vtM m (vtsL x.votes y.F).length AV cV) bv) (N,AN,cN)).p.vc ((stdX {x with votes:=vtsL x.votes y.F}).votes.map zv),row 112 3 (appM (votM (vtM m (vtsL x.votes y.F).length AV cV) bv) (N,AN,cN)).p.pA (appM (votM (vtM m (vtsL x.votes y.F).length AV cV) bv) (N,AN,cN)).p.pn (appM (votM (vtM m (vtsL x.votes y.F).length AV cV) bv) (N,AN,cN)).p.pc (cellsL pec (stdX {x with votes:=vtsL x.votes y.F}).peers),row 65 12 (appM (votM (vtM m (vtsL x.votes y.F).length AV cV) bv) (N,AN,cN)).sA (appM (votM (vtM m (vtsL x.votes y.F).length AV cV) bv) (N,AN,cN)).S.length (appM (votM (vtM m (vtsL x.votes y.F).length AV cV) bv) (N,AN,cN)).sc (cellsL sgc (appM (votM (vtM m (vtsL x.votes y.F).length AV cV) bv) (N,AN,cN)).S)]) w' hS)
section
variable {P:Program} {n:Nat} {w0:World} {M:Nat→Prop} {T:Slots} {As H H1 Hr:List Asn} {dd:Option Tmp} {tt:TypeId} {pos:String} {af:Array Edge} {g:Option (Nat×Bool)} {x y z:Operand} {ts:Array TypeId} {f:FuncId} {xs:Array Operand} {vs vs':List Value} {X:Type} {V:X→Value} {I:X→Prop} {Z:Asn} {C:X→Asn} {D:Kw}
theorem E_insZ [HasTab P] {t kt et:TypeId} {b:Nat} {f:Int→Option Value} {s:Int} {v:Value} {i ki:Ti} (hx:oget T x=some (.map (some b))) (hy:oget T y=some (zk s)) (hz:oget T z=some v) (ht:ty P t=some i) (hi:i.desc= .map kt et) (hk:ty P kt=some ki) (hki:ki.desc= .int .i64):
  Ef P n w0 M T (mpZ b f::H) ⟨none,.insert t x y z,tt,pos,af,g⟩ (fun _ H'=>H'=mpZ b (fun r=>if r=s then some v else f r)::H):=(E_mapsetZ (hr:=inferInstance) (tt:=tt) (pos:=pos) (af:=af) (g:=g) hx hy hz ht hi hk hki).same fun a w ha=>O
theorem E_cloB {first:List Value} {E:Value→List Asn→Prop} (hx:oget T x=some (.func (.func f) first.toArray #[])) (h:Ef P n w0 M T H ⟨dd,.call ⟨.value (.func f),(first.map Operand.const).toArray++xs,ts⟩,tt,pos,af,g⟩ E):
  Ef P n w0 M T H ⟨dd,.call ⟨.value x,xs,ts⟩,tt,pos,af,g⟩ E:=h.same fun a w ha=>by
 have e3:(first.map Operand.const).map a.eval=first:=by
  rw[List.map_map]
  conv=>rhs;rw[← List.map_id first]
  rfl
 have e2:(((first.map Operand.const).toArray++xs).map a.eval)=first.toArray++xs.map a.eval:=by
  rw[Array.map_append,List.map_toArray,e3]
 have e1:(a.eval (.func f))= .func (.func f) #[] #[]:=rfl
 simp[execOp,resolve,Deferred.ofValue,invoke,ha.eval hx,e2,e1]
theorem ogets_first (T:Slots) (us:List Value) (xs:Array Operand) (first:List Value) (hx:ogets T xs.toList=some us):ogets T ((first.map Operand.const).toArray++xs).toList=some (first++us):=by
 rw[Array.toList_append]
 induction first with
 |nil=>simpa using hx
 |cons u l ih=>
  have ih':ogets T ((l.map Operand.const)++xs.toList)=some (l++us):=by simpa using ih
  simp[ogets,oget,ih']
theorem E_mthB (first:List Value) (L:List Asn) (Q:X→List Asn) [h1:RemL H L H1] [h2:RemC H1 Z Hr] (hD:Kd D As w0) (hf:Fn_ P f) (hx0:oget T x=some (.func (.func f) first.toArray #[]))
  (hc: ∀ w1,St w0 (owns As) (L++Z::Hr) w1→Kd (K2 D Z) L w1→St w1 (owns L) L w1→Gives P f vs' L w1 V I (fun x=>Q x++[C x])) (hx:ogets T ((first.map Operand.const).toArray++xs).toList=some vs) (hv:vs=vs'):
  Ef P n w0 (owns As) T H ⟨dd,.call ⟨.value x,xs,ts⟩,tt,pos,af,g⟩ (fun u H'=> ∃ x Z',u=V x∧I x∧(∀ w,K2 D Z' w→K2 D Z w)∧(∀ w,K2 D Z' w→K2 (K2 D Z) (C x) w)∧H'=Q x++Z'::Hr):=
 E_cloB hx0 (E_mthL L Q hD hf hc hx hv)
theorem T_ldqs [HasTab P] {s:TypeId} {gb off m:Nat} {xs ds:List Value} {i:Ti} (hx:oget T x=some (.pointer (some ⟨gb,off,none⟩))) (hs:ty P s=some i) (hi:aggB i.desc=true) (hr: ∀ w,St w0 M H w→Rd w All 1 (some ⟨gb,0,none⟩) m xs) (hl:ds.length=i.size) (h0:0<m) (hd:(xs.drop off).take i.size=ds):
  Tk P n w0 M T H ⟨dd,.load s x,tt,pos,af,g⟩ (.agg ds.toArray):= .mk fun a w ha hS=>
 (T_loadgs (w0:=w) (M:=owns []) (H:=[]) (n:=n) (T:=T) hx hs hi (hr w hS) (fun k _=>noOwns k) hl h0 hd).run a w ha (St.enter w)
theorem rd_cq {w:World} {b m j:Nat} {xs:List Value} {v:Value} (h:Rd w All 1 (some ⟨b,0,none⟩) m xs) (hv:xs[j]? =some v):w.cell? ⟨b,j,none⟩=some v:=by
 have hl:=(List.getElem?_eq_some_iff.1 hv).1
 obtain⟨ad,e,_,hc⟩:=h.2 (by have:=h.1;omega)
 injection e with e
 subst e
 have:=hc j v hv
 rwa [add_plain,Nat.zero_add] at this
end
theorem does_any (w:World) (g:Nat):
  Gives Tryz.prog 73 [.pointer (some ⟨g,0,none⟩)] [] w (X:=Nat) (fun b=> .map (some b)) (fun _=>True) (fun b=>[mpZ b (fun r=>if r=7 then some (Value.func (.func 148) #[.pointer (some ⟨g,0,none⟩)] #[]) else if r=6 then some (Value.func (.func 147) #[.pointer (some ⟨g,0,none⟩)] #[]) else if r=5 then some (Value.func (.func 146) #[.pointer (some ⟨g,0,none⟩)] #[]) else if r=4 then some (Value.func (.func 145) #[.pointer (some ⟨g,0,none⟩)] #[]) else if r=3 then some (Value.func (.func 144) #[.pointer (some ⟨g,0,none⟩)] #[]) else if r=2 then some (Value.func (.func 143) #[.pointer (some ⟨g,0,none⟩)] #[]) else if r=1 then some (Value.func (.func 142) #[.pointer (some ⟨g,0,none⟩)] #[]) else none)]):=by
 refine gives_S Tryz.func73 O Tryz.ntmps73 Tryz.results73 (by simp) (St.enter w) (fun B hB=>?_)
 repeat' (first|refine R_p O ?_ O O|refine R_nil ?_|refine R_take (T_func O O) ?_ O O|refine S_seq O ?_|refine S_region O O ?_|(refine R_eff E_mkmapZ ?_ O O;rintro _ _ ⟨b3,rfl,rfl⟩)|(refine R_eff0 (E_insZ O O O O O O O) ?_ O;rintro _ _ rfl))
 exact hB _ _ _ _ _ O O fun w' hS=>⟨b3,O,trivial,hS⟩
theorem take1_same (w:World) (g:Nat) (x:Rs) (m:Mm) (hS0:St w (owns (mP g x m)) (mP g x m) w) (D:Kw) (hD:Kd D (mP g x m) w) (h: ∀ w',D w'→McR w' x m) (hl:McL x m) (y:Ms) (q:Mp) (bx:Nat) (hbx: ∀ w',D w'→Rd w' All 1 (some ⟨bx,0,none⟩) 12 (mgc y q)) (hn: ¬ x.term<y.tm∨y.K=1∨(y.K=2∧y.ok=true)) (x2:Rs) (ms:List Ms) (ib:Bool) (fk:FuncId) (hfk:Fn_ Tryz.prog fk) (hfv:(((fun r:Int=>if r=7 then some (Value.func (.func 148) #[.pointer (some ⟨g,0,none⟩)] #[]) else if r=6 then some (Value.func (.func 147) #[.pointer (some ⟨g,0,none⟩)] #[]) else if r=5 then some (Value.func (.func 146) #[.pointer (some ⟨g,0,none⟩)] #[]) else if r=4 then some (Value.func (.func 145) #[.pointer (some ⟨g,0,none⟩)] #[]) else if r=3 then some (Value.func (.func 144) #[.pointer (some ⟨g,0,none⟩)] #[]) else if r=2 then some (Value.func (.func 143) #[.pointer (some ⟨g,0,none⟩)] #[]) else if r=1 then some (Value.func (.func 142) #[.pointer (some ⟨g,0,none⟩)] #[]) else none):Int→Option Value) y.K).getD .nilFunc= .func (.func fk) #[.pointer (some ⟨g,0,none⟩)] #[])
  (hM: ∀ (w1:World) (D1:Kw),St w1 (owns (mP g x m)) (mP g x m) w1→Kd D1 (mP g x m) w1→(∀ w',D1 w'→D w')→Mth g x x2 m ms ib D1 fk [.agg (mgc y q).toArray] w1):Mth g x x2 m ms ib D 71 [.pointer (some ⟨bx,0,none⟩)] w:=by
 unfold Mth
 refine gives_N2 Tryz.func71 O Tryz.ntmps71 Tryz.results71 (by simp) hS0 (fun B hE hB=>?_)
 refine RS_zN ?_
 rcases hn with hn|hn|⟨hn,hok⟩
 ·skip
  focus (refine qq ?_;refine qq ?_;(refine S_draw _ (fun _ h=>h) (by kernel_rfl) O (by kernel_rfl) (rfl:_=23) ?_;(refine dp 0 ?_);(refine dt 1 O (T_ldq (v:= .int .u64 (y.tm:Int)) O O O (fun w1 hS1=>rd_cq (j:=3) (hbx w1 (hD.at_ hS1)) O)) ?_);(refine dp 2 ?_);(refine dt 3 O (T_nilCheck O) ?_);(refine dp 4 ?_);(refine dp 5 ?_);(refine dl 6 ?_);(refine dqF 7 ?_);(refine dp 8 ?_);(refine dk 9 ?_);(refine dk 10 ?_);(refine dk 11 ?_);(refine dp 12 ?_);(refine dp 13 ?_);(refine dk 14 ?_);(refine dk 15 ?_);(refine dk 16 ?_);(refine dk 17 ?_);(refine dk 18 ?_);(refine dk 19 ?_);(refine dk 20 ?_);(refine dk 21 ?_);(refine dp 22 ?_);refine dn ?_);refine qF ?_;refine qx ?_)
  refine S_draw ([]) sub_st (by kernel_rfl) O (by kernel_rfl) (by kernel_rfl:_=7) ?_
  refine dp 0 ?_
  refine dp 2 ?_
  refine dt 3 O (T_ldq (v:= .int .i64 y.K) O O O (fun w1 hS1=>rd_cq (j:=0) (hbx w1 (hD.at_ hS1)) O)) ?_
  refine dt 5 O (T_ldqs (m:=12) (xs:=mgc y q) (ds:=mgc y q) O O O (fun w1 hS1=>hbx w1 (hD.at_ hS1)) O (by decide) O) ?_
  refine D_one 1 O (E_hv1 (f:=73) F73 (fun w1 hS1=>does_any w1 g) O O (fun _=>O)) ?_ O O (by kernel_rfl)
  rintro _ _ ⟨bm,rfl,_,rfl⟩
  refine Nx_all sub_st ?_
  refine dt 4 O (T_mapgetZ (b:=bm) (s:=y.K) (f:=fun r=>if r=7 then some (Value.func (.func 148) #[.pointer (some ⟨g,0,none⟩)] #[]) else if r=6 then some (Value.func (.func 147) #[.pointer (some ⟨g,0,none⟩)] #[]) else if r=5 then some (Value.func (.func 146) #[.pointer (some ⟨g,0,none⟩)] #[]) else if r=4 then some (Value.func (.func 145) #[.pointer (some ⟨g,0,none⟩)] #[]) else if r=3 then some (Value.func (.func 144) #[.pointer (some ⟨g,0,none⟩)] #[]) else if r=2 then some (Value.func (.func 143) #[.pointer (some ⟨g,0,none⟩)] #[]) else if r=1 then some (Value.func (.func 142) #[.pointer (some ⟨g,0,none⟩)] #[]) else none) O O O O O O O hfv) ?_
  refine D_one 6 O (E_mthB (D:=D) (Z:=zN) (f:=fk) [.pointer (some ⟨g,0,none⟩)] (mP g x m) (fun z:Mm×Asn=>mP g x2 z.1) hD hfk O (fun w1 _ hk hS1=>hM w1 (K2 D zN) hS1 hk (fun w2 h2=>h2.1)) (ogets_first _ [.agg (mgc y q).toArray] _ [.pointer (some ⟨g,0,none⟩)] O) O) ?_ O O (by kernel_rfl)
  rintro _ _ ⟨⟨m2,Z2⟩,Z',rfl,⟨hI1,hI2,hI3,hI4⟩,hold,hnew,rfl⟩;dsimp only[List.cons_append,List.nil_append] at hI1 hI2 hI3 hI4 ⊢
  refine Nx_pivot (by kernel_rfl) ?_
  refine dn ?_
  skip
  skip
  have hfin: ∀ w',St w (owns (mP g x m)) (Z'::mP g x2 m2) w'→ ∃ z:Mm×Asn,(z.1.S.map Prod.fst=m.S.map Prod.fst++ms∧z.1.i=ib∧McL x2 z.1∧ ∀ w',K2 D z.2 w'→McR w' x2 z.1)∧St w (owns (mP g x m)) (mP g x2 z.1++[z.2]) w':=fun w' hS=>⟨(m2,Z'),⟨hI1,hI2,hI3,fun w3 h3=>hI4 w3 (hnew w3 h3)⟩,hS.perm (List.perm_append_comm (l₁:=[Z']))⟩
  first
  |exact hE _ _ fun w' hS=>hfin w' (sub_st (H':=[Z',pt g 89 (mcc x2 m2),row 3 1 m2.p.vA m2.p.vn m2.p.vc (x2.votes.map zv),row 112 3 m2.p.pA m2.p.pn m2.p.pc (cellsL pec x2.peers),row 65 12 m2.sA m2.S.length m2.sc (cellsL sgc m2.S)]) w' hS)
  |exact hB _ _ _ _ O fun w' hS=>hfin w' (sub_st (H':=[Z',pt g 89 (mcc x2 m2),row 3 1 m2.p.vA m2.p.vn m2.p.vc (x2.votes.map zv),row 112 3 m2.p.pA m2.p.pn m2.p.pc (cellsL pec x2.peers),row 65 12 m2.sA m2.S.length m2.sc (cellsL sgc m2.S)]) w' hS)
 ·skip
  by_cases hlt:x.term<y.tm
  ·focus (refine qq ?_;refine qq ?_;(refine S_draw _ (fun _ h=>h) (by kernel_rfl) O (by kernel_rfl) (rfl:_=23) ?_;(refine dp 0 ?_);(refine dt 1 O (T_ldq (v:= .int .u64 (y.tm:Int)) O O O (fun w1 hS1=>rd_cq (j:=3) (hbx w1 (hD.at_ hS1)) O)) ?_);(refine dp 2 ?_);(refine dt 3 O (T_nilCheck O) ?_);(refine dp 4 ?_);(refine dp 5 ?_);(refine dl 6 ?_);(refine dqT 7 ?_);(refine dp 8 ?_);(refine dp 9 ?_);(refine dt 10 O (T_ldq (v:= .int .i64 y.K) O O O (fun w1 hS1=>rd_cq (j:=0) (hbx w1 (hD.at_ hS1)) O)) ?_);(refine dqF 11 ?_);(refine dp 12 ?_);(refine dp 13 ?_);(refine dk 14 ?_);(refine dk 15 ?_);(refine dk 16 ?_);(refine dk 17 ?_);(refine dk 18 ?_);(refine dk 19 ?_);(refine dk 20 ?_);(refine dk 21 ?_);(refine dp 22 ?_);refine dn ?_);refine qF ?_;refine qx ?_)
   refine S_draw ([]) sub_st (by kernel_rfl) O (by kernel_rfl) (by kernel_rfl:_=7) ?_
   refine dp 0 ?_
   refine dp 2 ?_
   refine dt 3 O (T_ldq (v:= .int .i64 y.K) O O O (fun w1 hS1=>rd_cq (j:=0) (hbx w1 (hD.at_ hS1)) O)) ?_
   refine dt 5 O (T_ldqs (m:=12) (xs:=mgc y q) (ds:=mgc y q) O O O (fun w1 hS1=>hbx w1 (hD.at_ hS1)) O (by decide) O) ?_
   refine D_one 1 O (E_hv1 (f:=73) F73 (fun w1 hS1=>does_any w1 g) O O (fun _=>O)) ?_ O O (by kernel_rfl)
   rintro _ _ ⟨bm,rfl,_,rfl⟩
   refine Nx_all sub_st ?_
   refine dt 4 O (T_mapgetZ (b:=bm) (s:=y.K) (f:=fun r=>if r=7 then some (Value.func (.func 148) #[.pointer (some ⟨g,0,none⟩)] #[]) else if r=6 then some (Value.func (.func 147) #[.pointer (some ⟨g,0,none⟩)] #[]) else if r=5 then some (Value.func (.func 146) #[.pointer (some ⟨g,0,none⟩)] #[]) else if r=4 then some (Value.func (.func 145) #[.pointer (some ⟨g,0,none⟩)] #[]) else if r=3 then some (Value.func (.func 144) #[.pointer (some ⟨g,0,none⟩)] #[]) else if r=2 then some (Value.func (.func 143) #[.pointer (some ⟨g,0,none⟩)] #[]) else if r=1 then some (Value.func (.func 142) #[.pointer (some ⟨g,0,none⟩)] #[]) else none) O O O O O O O hfv) ?_
   refine D_one 6 O (E_mthB (D:=D) (Z:=zN) (f:=fk) [.pointer (some ⟨g,0,none⟩)] (mP g x m) (fun z:Mm×Asn=>mP g x2 z.1) hD hfk O (fun w1 _ hk hS1=>hM w1 (K2 D zN) hS1 hk (fun w2 h2=>h2.1)) (ogets_first _ [.agg (mgc y q).toArray] _ [.pointer (some ⟨g,0,none⟩)] O) O) ?_ O O (by kernel_rfl)
   rintro _ _ ⟨⟨m2,Z2⟩,Z',rfl,⟨hI1,hI2,hI3,hI4⟩,hold,hnew,rfl⟩;dsimp only[List.cons_append,List.nil_append] at hI1 hI2 hI3 hI4 ⊢
   refine Nx_pivot (by kernel_rfl) ?_
   refine dn ?_
   skip
   skip
   have hfin: ∀ w',St w (owns (mP g x m)) (Z'::mP g x2 m2) w'→ ∃ z:Mm×Asn,(z.1.S.map Prod.fst=m.S.map Prod.fst++ms∧z.1.i=ib∧McL x2 z.1∧ ∀ w',K2 D z.2 w'→McR w' x2 z.1)∧St w (owns (mP g x m)) (mP g x2 z.1++[z.2]) w':=fun w' hS=>⟨(m2,Z'),⟨hI1,hI2,hI3,fun w3 h3=>hI4 w3 (hnew w3 h3)⟩,hS.perm (List.perm_append_comm (l₁:=[Z']))⟩
   first
   |exact hE _ _ fun w' hS=>hfin w' (sub_st (H':=[Z',pt g 89 (mcc x2 m2),row 3 1 m2.p.vA m2.p.vn m2.p.vc (x2.votes.map zv),row 112 3 m2.p.pA m2.p.pn m2.p.pc (cellsL pec x2.peers),row 65 12 m2.sA m2.S.length m2.sc (cellsL sgc m2.S)]) w' hS)
   |exact hB _ _ _ _ O fun w' hS=>hfin w' (sub_st (H':=[Z',pt g 89 (mcc x2 m2),row 3 1 m2.p.vA m2.p.vn m2.p.vc (x2.votes.map zv),row 112 3 m2.p.pA m2.p.pn m2.p.pc (cellsL pec x2.peers),row 65 12 m2.sA m2.S.length m2.sc (cellsL sgc m2.S)]) w' hS)
  ·focus (refine qq ?_;refine qq ?_;(refine S_draw _ (fun _ h=>h) (by kernel_rfl) O (by kernel_rfl) (rfl:_=23) ?_;(refine dp 0 ?_);(refine dt 1 O (T_ldq (v:= .int .u64 (y.tm:Int)) O O O (fun w1 hS1=>rd_cq (j:=3) (hbx w1 (hD.at_ hS1)) O)) ?_);(refine dp 2 ?_);(refine dt 3 O (T_nilCheck O) ?_);(refine dp 4 ?_);(refine dp 5 ?_);(refine dl 6 ?_);(refine dqF 7 ?_);(refine dp 8 ?_);(refine dk 9 ?_);(refine dk 10 ?_);(refine dk 11 ?_);(refine dp 12 ?_);(refine dp 13 ?_);(refine dk 14 ?_);(refine dk 15 ?_);(refine dk 16 ?_);(refine dk 17 ?_);(refine dk 18 ?_);(refine dk 19 ?_);(refine dk 20 ?_);(refine dk 21 ?_);(refine dp 22 ?_);refine dn ?_);refine qF ?_;refine qx ?_)
   refine S_draw ([]) sub_st (by kernel_rfl) O (by kernel_rfl) (by kernel_rfl:_=7) ?_
   refine dp 0 ?_
   refine dp 2 ?_
   refine dt 3 O (T_ldq (v:= .int .i64 y.K) O O O (fun w1 hS1=>rd_cq (j:=0) (hbx w1 (hD.at_ hS1)) O)) ?_
   refine dt 5 O (T_ldqs (m:=12) (xs:=mgc y q) (ds:=mgc y q) O O O (fun w1 hS1=>hbx w1 (hD.at_ hS1)) O (by decide) O) ?_
   refine D_one 1 O (E_hv1 (f:=73) F73 (fun w1 hS1=>does_any w1 g) O O (fun _=>O)) ?_ O O (by kernel_rfl)
   rintro _ _ ⟨bm,rfl,_,rfl⟩
   refine Nx_all sub_st ?_
   refine dt 4 O (T_mapgetZ (b:=bm) (s:=y.K) (f:=fun r=>if r=7 then some (Value.func (.func 148) #[.pointer (some ⟨g,0,none⟩)] #[]) else if r=6 then some (Value.func (.func 147) #[.pointer (some ⟨g,0,none⟩)] #[]) else if r=5 then some (Value.func (.func 146) #[.pointer (some ⟨g,0,none⟩)] #[]) else if r=4 then some (Value.func (.func 145) #[.pointer (some ⟨g,0,none⟩)] #[]) else if r=3 then some (Value.func (.func 144) #[.pointer (some ⟨g,0,none⟩)] #[]) else if r=2 then some (Value.func (.func 143) #[.pointer (some ⟨g,0,none⟩)] #[]) else if r=1 then some (Value.func (.func 142) #[.pointer (some ⟨g,0,none⟩)] #[]) else none) O O O O O O O hfv) ?_
   refine D_one 6 O (E_mthB (D:=D) (Z:=zN) (f:=fk) [.pointer (some ⟨g,0,none⟩)] (mP g x m) (fun z:Mm×Asn=>mP g x2 z.1) hD hfk O (fun w1 _ hk hS1=>hM w1 (K2 D zN) hS1 hk (fun w2 h2=>h2.1)) (ogets_first _ [.agg (mgc y q).toArray] _ [.pointer (some ⟨g,0,none⟩)] O) O) ?_ O O (by kernel_rfl)
   rintro _ _ ⟨⟨m2,Z2⟩,Z',rfl,⟨hI1,hI2,hI3,hI4⟩,hold,hnew,rfl⟩;dsimp only[List.cons_append,List.nil_append] at hI1 hI2 hI3 hI4 ⊢
   refine Nx_pivot (by kernel_rfl) ?_
   refine dn ?_
   skip
   skip
   have hfin: ∀ w',St w (owns (mP g x m)) (Z'::mP g x2 m2) w'→ ∃ z:Mm×Asn,(z.1.S.map Prod.fst=m.S.map Prod.fst++ms∧z.1.i=ib∧McL x2 z.1∧ ∀ w',K2 D z.2 w'→McR w' x2 z.1)∧St w (owns (mP g x m)) (mP g x2 z.1++[z.2]) w':=fun w' hS=>⟨(m2,Z'),⟨hI1,hI2,hI3,fun w3 h3=>hI4 w3 (hnew w3 h3)⟩,hS.perm (List.perm_append_comm (l₁:=[Z']))⟩
   first
   |exact hE _ _ fun w' hS=>hfin w' (sub_st (H':=[Z',pt g 89 (mcc x2 m2),row 3 1 m2.p.vA m2.p.vn m2.p.vc (x2.votes.map zv),row 112 3 m2.p.pA m2.p.pn m2.p.pc (cellsL pec x2.peers),row 65 12 m2.sA m2.S.length m2.sc (cellsL sgc m2.S)]) w' hS)
   |exact hB _ _ _ _ O fun w' hS=>hfin w' (sub_st (H':=[Z',pt g 89 (mcc x2 m2),row 3 1 m2.p.vA m2.p.vn m2.p.vc (x2.votes.map zv),row 112 3 m2.p.pA m2.p.pn m2.p.pc (cellsL pec x2.peers),row 65 12 m2.sA m2.S.length m2.sc (cellsL sgc m2.S)]) w' hS)
 ·skip
  by_cases hlt:x.term<y.tm
  ·focus (refine qq ?_;refine qq ?_;(refine S_draw _ (fun _ h=>h) (by kernel_rfl) O (by kernel_rfl) (rfl:_=23) ?_;(refine dp 0 ?_);(refine dt 1 O (T_ldq (v:= .int .u64 (y.tm:Int)) O O O (fun w1 hS1=>rd_cq (j:=3) (hbx w1 (hD.at_ hS1)) O)) ?_);(refine dp 2 ?_);(refine dt 3 O (T_nilCheck O) ?_);(refine dp 4 ?_);(refine dp 5 ?_);(refine dl 6 ?_);(refine dqT 7 ?_);(refine dp 8 ?_);(refine dp 9 ?_);(refine dt 10 O (T_ldq (v:= .int .i64 y.K) O O O (fun w1 hS1=>rd_cq (j:=0) (hbx w1 (hD.at_ hS1)) O)) ?_);(refine dqT 11 ?_);(refine dp 12 ?_);(refine dp 13 ?_);(refine dp 14 ?_);(refine dt 15 O (T_ldq (v:= .int .i64 y.K) O O O (fun w1 hS1=>rd_cq (j:=0) (hbx w1 (hD.at_ hS1)) O)) ?_);(refine dqT 16 ?_);(refine dp 17 ?_);(refine dp 18 ?_);((refine dt 19 O (T_ldq (v:= .bool true) O O O (fun w1 hS1=>rd_cq (j:=8) (hbx w1 (hD.at_ hS1)) (by rw[← hok];rfl))) ?_));(refine dp 20 ?_);(refine dt 21 O (T_not O) ?_);(refine dp 22 ?_);refine dn ?_);refine qF ?_;refine qx ?_)
   refine S_draw ([]) sub_st (by kernel_rfl) O (by kernel_rfl) (by kernel_rfl:_=7) ?_
   refine dp 0 ?_
   refine dp 2 ?_
   refine dt 3 O (T_ldq (v:= .int .i64 y.K) O O O (fun w1 hS1=>rd_cq (j:=0) (hbx w1 (hD.at_ hS1)) O)) ?_
   refine dt 5 O (T_ldqs (m:=12) (xs:=mgc y q) (ds:=mgc y q) O O O (fun w1 hS1=>hbx w1 (hD.at_ hS1)) O (by decide) O) ?_
   refine D_one 1 O (E_hv1 (f:=73) F73 (fun w1 hS1=>does_any w1 g) O O (fun _=>O)) ?_ O O (by kernel_rfl)
   rintro _ _ ⟨bm,rfl,_,rfl⟩
   refine Nx_all sub_st ?_
   refine dt 4 O (T_mapgetZ (b:=bm) (s:=y.K) (f:=fun r=>if r=7 then some (Value.func (.func 148) #[.pointer (some ⟨g,0,none⟩)] #[]) else if r=6 then some (Value.func (.func 147) #[.pointer (some ⟨g,0,none⟩)] #[]) else if r=5 then some (Value.func (.func 146) #[.pointer (some ⟨g,0,none⟩)] #[]) else if r=4 then some (Value.func (.func 145) #[.pointer (some ⟨g,0,none⟩)] #[]) else if r=3 then some (Value.func (.func 144) #[.pointer (some ⟨g,0,none⟩)] #[]) else if r=2 then some (Value.func (.func 143) #[.pointer (some ⟨g,0,none⟩)] #[]) else if r=1 then some (Value.func (.func 142) #[.pointer (some ⟨g,0,none⟩)] #[]) else none) O O O O O O O hfv) ?_
   refine D_one 6 O (E_mthB (D:=D) (Z:=zN) (f:=fk) [.pointer (some ⟨g,0,none⟩)] (mP g x m) (fun z:Mm×Asn=>mP g x2 z.1) hD hfk O (fun w1 _ hk hS1=>hM w1 (K2 D zN) hS1 hk (fun w2 h2=>h2.1)) (ogets_first _ [.agg (mgc y q).toArray] _ [.pointer (some ⟨g,0,none⟩)] O) O) ?_ O O (by kernel_rfl)
   rintro _ _ ⟨⟨m2,Z2⟩,Z',rfl,⟨hI1,hI2,hI3,hI4⟩,hold,hnew,rfl⟩;dsimp only[List.cons_append,List.nil_append] at hI1 hI2 hI3 hI4 ⊢
   refine Nx_pivot (by kernel_rfl) ?_
   refine dn ?_
   skip
   skip
   have hfin: ∀ w',St w (owns (mP g x m)) (Z'::mP g x2 m2) w'→ ∃ z:Mm×Asn,(z.1.S.map Prod.fst=m.S.map Prod.fst++ms∧z.1.i=ib∧McL x2 z.1∧ ∀ w',K2 D z.2 w'→McR w' x2 z.1)∧St w (owns (mP g x m)) (mP g x2 z.1++[z.2]) w':=fun w' hS=>⟨(m2,Z'),⟨hI1,hI2,hI3,fun w3 h3=>hI4 w3 (hnew w3 h3)⟩,hS.perm (List.perm_append_comm (l₁:=[Z']))⟩
   first
   |exact hE _ _ fun w' hS=>hfin w' (sub_st (H':=[Z',pt g 89 (mcc x2 m2),row 3 1 m2.p.vA m2.p.vn m2.p.vc (x2.votes.map zv),row 112 3 m2.p.pA m2.p.pn m2.p.pc (cellsL pec x2.peers),row 65 12 m2.sA m2.S.length m2.sc (cellsL sgc m2.S)]) w' hS)
   |exact hB _ _ _ _ O fun w' hS=>hfin w' (sub_st (H':=[Z',pt g 89 (mcc x2 m2),row 3 1 m2.p.vA m2.p.vn m2.p.vc (x2.votes.map zv),row 112 3 m2.p.pA m2.p.pn m2.p.pc (cellsL pec x2.peers),row 65 12 m2.sA m2.S.length m2.sc (cellsL sgc m2.S)]) w' hS)
  ·focus (refine qq ?_;refine qq ?_;(refine S_draw _ (fun _ h=>h) (by kernel_rfl) O (by kernel_rfl) (rfl:_=23) ?_;(refine dp 0 ?_);(refine dt 1 O (T_ldq (v:= .int .u64 (y.tm:Int)) O O O (fun w1 hS1=>rd_cq (j:=3) (hbx w1 (hD.at_ hS1)) O)) ?_);(refine dp 2 ?_);(refine dt 3 O (T_nilCheck O) ?_);(refine dp 4 ?_);(refine dp 5 ?_);(refine dl 6 ?_);(refine dqF 7 ?_);(refine dp 8 ?_);(refine dk 9 ?_);(refine dk 10 ?_);(refine dk 11 ?_);(refine dp 12 ?_);(refine dp 13 ?_);(refine dk 14 ?_);(refine dk 15 ?_);(refine dk 16 ?_);(refine dk 17 ?_);(refine dk 18 ?_);(refine dk 19 ?_);(refine dk 20 ?_);(refine dk 21 ?_);(refine dp 22 ?_);refine dn ?_);refine qF ?_;refine qx ?_)
   refine S_draw ([]) sub_st (by kernel_rfl) O (by kernel_rfl) (by kernel_rfl:_=7) ?_
   refine dp 0 ?_
   refine dp 2 ?_
   refine dt 3 O (T_ldq (v:= .int .i64 y.K) O O O (fun w1 hS1=>rd_cq (j:=0) (hbx w1 (hD.at_ hS1)) O)) ?_
   refine dt 5 O (T_ldqs (m:=12) (xs:=mgc y q) (ds:=mgc y q) O O O (fun w1 hS1=>hbx w1 (hD.at_ hS1)) O (by decide) O) ?_
   refine D_one 1 O (E_hv1 (f:=73) F73 (fun w1 hS1=>does_any w1 g) O O (fun _=>O)) ?_ O O (by kernel_rfl)
   rintro _ _ ⟨bm,rfl,_,rfl⟩
   refine Nx_all sub_st ?_
   refine dt 4 O (T_mapgetZ (b:=bm) (s:=y.K) (f:=fun r=>if r=7 then some (Value.func (.func 148) #[.pointer (some ⟨g,0,none⟩)] #[]) else if r=6 then some (Value.func (.func 147) #[.pointer (some ⟨g,0,none⟩)] #[]) else if r=5 then some (Value.func (.func 146) #[.pointer (some ⟨g,0,none⟩)] #[]) else if r=4 then some (Value.func (.func 145) #[.pointer (some ⟨g,0,none⟩)] #[]) else if r=3 then some (Value.func (.func 144) #[.pointer (some ⟨g,0,none⟩)] #[]) else if r=2 then some (Value.func (.func 143) #[.pointer (some ⟨g,0,none⟩)] #[]) else if r=1 then some (Value.func (.func 142) #[.pointer (some ⟨g,0,none⟩)] #[]) else none) O O O O O O O hfv) ?_
   refine D_one 6 O (E_mthB (D:=D) (Z:=zN) (f:=fk) [.pointer (some ⟨g,0,none⟩)] (mP g x m) (fun z:Mm×Asn=>mP g x2 z.1) hD hfk O (fun w1 _ hk hS1=>hM w1 (K2 D zN) hS1 hk (fun w2 h2=>h2.1)) (ogets_first _ [.agg (mgc y q).toArray] _ [.pointer (some ⟨g,0,none⟩)] O) O) ?_ O O (by kernel_rfl)
   rintro _ _ ⟨⟨m2,Z2⟩,Z',rfl,⟨hI1,hI2,hI3,hI4⟩,hold,hnew,rfl⟩;dsimp only[List.cons_append,List.nil_append] at hI1 hI2 hI3 hI4 ⊢
   refine Nx_pivot (by kernel_rfl) ?_
   refine dn ?_
   skip
   skip
   have hfin: ∀ w',St w (owns (mP g x m)) (Z'::mP g x2 m2) w'→ ∃ z:Mm×Asn,(z.1.S.map Prod.fst=m.S.map Prod.fst++ms∧z.1.i=ib∧McL x2 z.1∧ ∀ w',K2 D z.2 w'→McR w' x2 z.1)∧St w (owns (mP g x m)) (mP g x2 z.1++[z.2]) w':=fun w' hS=>⟨(m2,Z'),⟨hI1,hI2,hI3,fun w3 h3=>hI4 w3 (hnew w3 h3)⟩,hS.perm (List.perm_append_comm (l₁:=[Z']))⟩
   first
   |exact hE _ _ fun w' hS=>hfin w' (sub_st (H':=[Z',pt g 89 (mcc x2 m2),row 3 1 m2.p.vA m2.p.vn m2.p.vc (x2.votes.map zv),row 112 3 m2.p.pA m2.p.pn m2.p.pc (cellsL pec x2.peers),row 65 12 m2.sA m2.S.length m2.sc (cellsL sgc m2.S)]) w' hS)
   |exact hB _ _ _ _ O fun w' hS=>hfin w' (sub_st (H':=[Z',pt g 89 (mcc x2 m2),row 3 1 m2.p.vA m2.p.vn m2.p.vc (x2.votes.map zv),row 112 3 m2.p.pA m2.p.pn m2.p.pc (cellsL pec x2.peers),row 65 12 m2.sA m2.S.length m2.sc (cellsL sgc m2.S)]) w' hS)
theorem pt_rd {b t:Nat} {y:Ms} {q:Mp} {w:World} (h:(pt b t (mgc y q)).holds w):Rd w All 1 (some ⟨b,0,none⟩) 12 (mgc y q):=
 (Srd.pt (w0:=w) (M:=fun k=>k=b) (H:=[pt b t (mgc y q)]) (g:=b) (t:=t) (n:=12) (size:=1) (off:=0) (cs:=mgc y q) (ds:=mgc y q) O (fun j u hj=>by rw[Nat.zero_add];exact hj)).rd w ⟨Kp.refl _ _,fun A hA=>by
  obtain rfl:A=pt b t (mgc y q):=by simpa using hA
  refine⟨h,fun k hk=>?_⟩
  obtain rfl:k=b:=hk
  exact⟨.inl O,(Array.getElem?_eq_some_iff.1 h).1⟩,List.pairwise_singleton _ _⟩
theorem mth_hc2 {g:Nat} {x x2:Rs} {m:Mm} {ms:List Ms} {ib:Bool} {D:Kw} {f:FuncId} {args:List Value} {w:World} (hms:m.S=[]) (h:Mth g x x2 m ms ib D f args w):
  Gives Tryz.prog f (.pointer (some ⟨g,0,none⟩)::args) (mP g x m) w (X:=Mm×Asn) (fun _=> .tuple #[]) (fun y=>y.1.S.map Prod.fst=ms∧y.1.i=ib∧McL x2 y.1∧ ∀ w',K2 D y.2 w'→McR w' x2 y.1) (fun y=>mP g x2 y.1++[y.2]):=by
 unfold Mth at h
 rw[hms] at h
 exact h
def goodB (x:Rs) (y:Ms):Bool:=rightM y&&decide (y.T=x.me)&&soundB y.es&&(!decide (y.K=7)||C.right y.cf)
theorem good_any (w:World) (x:Rs) (p:Rp) (y:Ms) (q:Mp) (hm:MsR w y q) (hd: ∀ m∈q.Q,m.2.2.2.2.length≤100000) (hqn:q.n≤100000) (hcn:q.cn≤100000) (r:Bool) (hr:goodB x y=r):
  Gives Tryz.prog 70 [.agg (rfc x p).toArray,.agg (mgc y q).toArray] [] w (X:=Unit) (fun _=> .bool r) (fun _=>True) (fun _=>[]):=by
 refine gives_S Tryz.func70 O Tryz.ntmps70 Tryz.results70 (by simp) (St.enter w) (fun B hB=>?_)
 unfold goodB at hr
 cases h1:rightM y
 ·obtain rfl:r=false:=by rw[← hr,h1];rfl
  repeat' (first|refine R_p O ?_ O O|refine R_nil ?_|refine R_skip ?_ O O|refine R_take (T_loads (ds:=mgc y q) O O O O O) ?_ O O|refine S_seq O ?_|refine S_region O O ?_|(refine R_eff (E_boxa (cs:=rfc x p) O) ?_ O O;rintro _ _ ⟨b2,rfl,rfl⟩)|(refine R_eff (E_boxa (cs:=mgc y q) O) ?_ O O;rintro _ _ ⟨b3,rfl,rfl⟩)|(refine R_eff (E_hv0 (f:=45) F45 (fun w hS=>checkM_any w y q (hm.keep hS.kpO) _ h1) O O (fun _=>O)) ?_ O O;rintro _ _ ⟨_,rfl,_,rfl⟩))
  exact hB _ _ _ _ _ O O (qE O)
 by_cases h4:y.T=x.me
 rotate_left
 ·obtain rfl:r=false:=by rw[← hr,decide_eq_false h4];simp
  repeat' (first|refine R_take (T_decF O (by omega)) ?_ O O|refine R_p O ?_ O O|refine R_nil ?_|refine R_skip ?_ O O|refine R_take (T_loads (ds:=mgc y q) O O O O O) ?_ O O|refine R_take (T_load O O O O) ?_ O O|refine S_seq O ?_|refine S_region O O ?_|(refine R_eff (E_boxa (cs:=rfc x p) O) ?_ O O;rintro _ _ ⟨b2,rfl,rfl⟩)|(refine R_eff (E_boxa (cs:=mgc y q) O) ?_ O O;rintro _ _ ⟨b3,rfl,rfl⟩)|(refine R_eff (E_hv0 (f:=45) F45 (fun w hS=>checkM_any w y q (hm.keep hS.kpO) _ h1) O O (fun _=>O)) ?_ O O;rintro _ _ ⟨_,rfl,_,rfl⟩))
  exact hB _ _ _ _ _ O O (qE O)
 cases h2:soundB y.es
 ·obtain rfl:r=false:=by rw[← hr,h2];simp
  repeat' (first|refine R_take (T_decT O (by omega)) ?_ O O|refine R_p O ?_ O O|refine R_nil ?_|refine R_skip ?_ O O|refine R_take (T_loads (ds:=mgc y q) O O O O O) ?_ O O|refine R_take (T_load O O O O) ?_ O O|refine S_seq O ?_|refine S_region O O ?_|(refine R_eff (E_boxa (cs:=rfc x p) O) ?_ O O;rintro _ _ ⟨b2,rfl,rfl⟩)|(refine R_eff (E_boxa (cs:=mgc y q) O) ?_ O O;rintro _ _ ⟨b3,rfl,rfl⟩)|(refine R_eff (E_hv0 (f:=45) F45 (fun w hS=>checkM_any w y q (hm.keep hS.kpO) _ h1) O O (fun _=>O)) ?_ O O;rintro _ _ ⟨_,rfl,_,rfl⟩)|(refine R_eff (E_hv0 (f:=96) F96 (fun w hS=>rsound_k w q.A q.c q.n q.Q y.es hm.hn hm.hQ (hm.keep hS.kpO).rq (hm.keep hS.kpO).bq hd (by omega) _ h2) O O (fun _=>O)) ?_ O O;rintro _ _ ⟨_,rfl,_,rfl⟩))
  exact hB _ _ _ _ _ O O (qE O)
 by_cases h7:y.K=7
 rotate_left
 ·obtain rfl:r=true:=by rw[← hr,h1,decide_eq_true h4,h2,decide_eq_false h7];rfl
  repeat' (first|refine R_take (T_decT O (by omega)) ?_ O O|refine R_p O ?_ O O|refine R_nil ?_|refine R_skip ?_ O O|refine R_take (T_loads (ds:=mgc y q) O O O O O) ?_ O O|refine R_take (T_load O O O O) ?_ O O|refine S_seq O ?_|refine S_region O O ?_|(refine R_eff (E_boxa (cs:=rfc x p) O) ?_ O O;rintro _ _ ⟨b2,rfl,rfl⟩)|(refine R_eff (E_boxa (cs:=mgc y q) O) ?_ O O;rintro _ _ ⟨b3,rfl,rfl⟩)|(refine R_eff (E_hv0 (f:=45) F45 (fun w hS=>checkM_any w y q (hm.keep hS.kpO) _ h1) O O (fun _=>O)) ?_ O O;rintro _ _ ⟨_,rfl,_,rfl⟩)|(refine R_eff (E_hv0 (f:=96) F96 (fun w hS=>rsound_k w q.A q.c q.n q.Q y.es hm.hn hm.hQ (hm.keep hS.kpO).rq (hm.keep hS.kpO).bq hd (by omega) _ h2) O O (fun _=>O)) ?_ O O;rintro _ _ ⟨_,rfl,_,rfl⟩))
  exact hB _ _ _ _ _ O O (qE O)
 cases h3:C.right y.cf
 ·obtain rfl:r=false:=by rw[← hr,h3,decide_eq_true h7];simp
  focus (refine qs ?_;(refine qe (E_boxa (cs:=rfc x p) O) ?_;rintro _ _ ⟨b2,rfl,rfl⟩);(refine qe (E_boxa (cs:=mgc y q) O) ?_;rintro _ _ ⟨b3,rfl,rfl⟩);refine qp ?_;refine qn ?_;refine qt (T_loads (ds:=mgc y q) O O O O O) ?_;refine qh F45 (fun w hS=>checkM_any w y q (hm.keep hS.kpO) _ h1) ?_;(iterate 3 refine qp ?_);refine qt (T_load O O O O) ?_;refine qp ?_;refine qt (T_load O O O O) ?_;(iterate 3 refine qd ?_);refine qp ?_;refine qt (T_load O O O O) ?_;refine qh F96 (fun w hS=>rsound_k w q.A q.c q.n q.Q y.es hm.hn hm.hQ (hm.keep hS.kpO).rq (hm.keep hS.kpO).bq hd (by omega) _ h2) ?_;refine qd ?_;refine qd ?_;refine qp ?_;refine qt (T_load O O O O) ?_;refine qf ?_;refine qp ?_;refine qp ?_;refine qt (T_loads (ds:=[.slice q.cA q.cn q.cc]) O O O O O) ?_;refine qh F95 (fun w hS=>rchk_k w q.cA q.cn q.cc y.cf (hm.keep hS.kpO).rc (by omega) _ h3) ?_;(iterate 4 refine qp ?_);refine qz ?_)
  exact hB _ _ _ _ _ O O (qE O)
 ·obtain rfl:r=true:=by rw[← hr,h1,decide_eq_true h4,h2,h3];simp
  focus (refine qs ?_;(refine qe (E_boxa (cs:=rfc x p) O) ?_;rintro _ _ ⟨b2,rfl,rfl⟩);(refine qe (E_boxa (cs:=mgc y q) O) ?_;rintro _ _ ⟨b3,rfl,rfl⟩);refine qp ?_;refine qn ?_;refine qt (T_loads (ds:=mgc y q) O O O O O) ?_;refine qh F45 (fun w hS=>checkM_any w y q (hm.keep hS.kpO) _ h1) ?_;(iterate 3 refine qp ?_);refine qt (T_load O O O O) ?_;refine qp ?_;refine qt (T_load O O O O) ?_;(iterate 3 refine qd ?_);refine qp ?_;refine qt (T_load O O O O) ?_;refine qh F96 (fun w hS=>rsound_k w q.A q.c q.n q.Q y.es hm.hn hm.hQ (hm.keep hS.kpO).rq (hm.keep hS.kpO).bq hd (by omega) _ h2) ?_;refine qd ?_;refine qd ?_;refine qp ?_;refine qt (T_load O O O O) ?_;refine qf ?_;refine qp ?_;refine qp ?_;refine qt (T_loads (ds:=[.slice q.cA q.cn q.cc]) O O O O O) ?_;refine qh F95 (fun w hS=>rchk_k w q.cA q.cn q.cc y.cf (hm.keep hS.kpO).rc (by omega) _ h3) ?_;(iterate 4 refine qp ?_);refine qz ?_)
  exact hB _ _ _ _ _ O O (qE O)
theorem take_ok (w:World) (x:Rs) (p:Rp) (h:RfR w x p) (y:Ms) (q:Mp) (Dm:Kw) (hDm:Kd Dm [] w) (hm: ∀ w',Dm w'→MsR w' y q) (hd: ∀ m∈q.Q,m.2.2.2.2.length≤100000) (hqn:q.n≤100000) (hcn:q.cn≤100000) (hck:checkB x=true) (hgd:goodB x y=true) (x2:Rs) (ms:List Ms) (ib:Bool) (hu2:RsU x2) (hv2:x2.votes.length≤900) (hp2:x2.peers.length≤900)
  (hT: ∀ (w1:World) (g:Nat) (m:Mm) (D:Kw) (bx:Nat),St w1 (owns (mP g x m)) (mP g x m) w1→Kd D (mP g x m) w1→(∀ w',D w'→McR w' x m)→McL x m→m.S=[]→m.i=false→(∀ w',D w'→Rd w' All 1 (some ⟨bx,0,none⟩) 12 (mgc y q))→(∀ w',D w'→MsR w' y q)→Mth g x x2 m ms ib D 71 [.pointer (some ⟨bx,0,none⟩)] w1):
  Gives Tryz.prog 24 [.agg (rfc x p).toArray,.agg (mgc y q).toArray] [] w (X:=Mm×Asn) (fun z=> .tuple #[.agg (rfc x2 z.1.p).toArray,.slice z.1.sA z.1.S.length z.1.sc,.bool ib,zi 0]) (fun z=>z.1.S.map Prod.fst=ms∧ ∀ w',K2 Dm z.2 w'→SrvR w' x2 z.1) (fun z=>[z.2]):=by
 refine gives_C Tryz.func24 O Tryz.ntmps24 Tryz.results24 (by simp) (St.enter w) (fun B hB=>?_)
 focus (refine qs ?_;(refine qe (E_boxa (cs:=rfc x p) O) ?_;rintro _ _ ⟨b2,rfl,rfl⟩);(refine qe (E_boxa (cs:=mgc y q) O) ?_;rintro _ _ ⟨b3,rfl,rfl⟩);(refine qe (E_alloca O rf_zero) ?_;rintro _ _ ⟨b4,rfl,rfl⟩);(iterate 3 refine qp ?_);refine qz ?_;refine qq ?_;refine qb ?_;refine qs ?_;refine qt (T_loads (ds:=rfc x p) O O O O O) ?_;refine qh F30 (fun w1 hS1=>rcheck_any w1 x p (h.keep hS1.kpO) true hck) ?_;refine qp ?_;refine qp ?_;refine qz ?_;refine qF ?_;refine qs ?_;refine qt (T_loads (ds:=rfc x p) O O O O O) ?_;refine qt (T_loads (ds:=mgc y q) O O O O O) ?_;refine qh F70 (fun w1 hS1=>good_any w1 x p y q (hm w1 (hDm.at_ hS1)) hd hqn hcn true hgd) ?_;refine qt (T_not O) ?_;refine qp ?_;refine qz ?_;refine qF ?_;refine qx ?_;refine RS_blk ?_;refine qs ?_;refine qt (T_loads (ds:=rfc x p) O O O O O) ?_;refine qt (T_func O O) ?_;(refine qe (E_hv1 (f:=39) F39 (fun w1 hS1=>turn_any w1 x p (h.keep hS1.kpO) (KL Dm [pt b3 65 (mgc y q)]) (Kd.subL (As':=[]) hDm hS1 (by simp)) 71 [.pointer (some ⟨b3,0,none⟩)] F71 x2 ms ib hu2 hv2 hp2 (fun w2 g m D hS2 hk hd2 hml hms hmi=>mth_hc2 hms (hT w2 g m D b3 hS2 hk (fun w3 h3=>(hd2 w3 h3).2) hml hms hmi (fun w3 h3=>pt_rd ((hd2 w3 h3).1.2 (pt b3 65 (mgc y q)) (by simp))) (fun w3 h3=>hm w3 (hd2 w3 h3).1.1)))) O O (fun _=>O)) ?_;rintro _ _ ⟨⟨m2,Z2⟩,rfl,⟨hI1,hI2⟩,rfl⟩;dsimp only at hI1 hI2);(iterate 4 refine qp ?_);(refine qw (E_storew (cs:=rfc x p) (ds:=rfc x2 m2.p) O O O O (rfc_one _ _) O) ?_;rintro _ _ rfl);refine qp ?_;refine qp ?_;refine qn ?_;refine qt (T_loads (ds:=rfc x2 m2.p) O O O O O) ?_;refine qp ?_;refine qp ?_;(refine qw (E_storew (cs:=rfc rs0 rp0) (ds:=rfc x2 m2.p) O O O O (rfc_one _ _) O) ?_;rintro _ _ rfl);(iterate 3 refine qp ?_);refine qz ?_)
 refine hB _ _ _ _ _ O (.cell O O O inferInstance O (.tmp O (.tmp O (.tmp O .nil)))) fun w' hS=>⟨(m2,zA (pt b3 65 (mgc y q)) Z2),O,⟨hI1,fun w3 h3=>hI2 w3 ⟨⟨h3.1,fun A hA=>by
  obtain rfl:A=pt b3 65 (mgc y q):=by simpa using hA
  exact zA_l h3.2⟩,zA_r h3.2⟩⟩,zA_in (sub_st (H':=[pt b3 65 (mgc y q),Z2]) w' hS)⟩
deriving instance DecidableEq for Rs
deriving instance DecidableEq for Ms
def yW:Ms:=⟨2,2,1,1,(0,0),[],0,true,0,[],[]⟩
def qW:Mp:=⟨none,0,0,none,0,0,none,0,0,[]⟩
theorem mg_builtW:Tryz.prog.built 65 [(0,.int .i64 2),(1,.int .i64 2),(2,.int .i64 1),(3,.int .u64 1),(7,.bool true)]=some (mgc yW qW).toArray:=by kernel_rfl
theorem msr_nil (w:World) {x:Ms} (h1:x.es=[]) (h2:x.cf=[]) (h3:x.dt=[]):MsR w x qW:=by
 obtain⟨a1,a2,a3,a4,a5,es,a7,a8,a9,cf,dt⟩:=x
 dsimp only at h1 h2 h3
 subst h1 h2 h3
 exact⟨O,Nat.zero_le _,O,Rd.none_,fun m hm=>absurd hm (by simp[qW]),O,Nat.zero_le _,Rd.none_,Bs.nil _ _⟩
def wkX (i:Nat):Rs:=if i<4 then ⟨1,0,0,(0,0),[],[1,2,3],0,1,0,(i:Int),4,[],[]⟩ else ⟨1,0,0,(0,0),[],[1,2,3],0,2,0,0,4,[1],[]⟩
def wkM (i:Nat):List Ms:=if i<4 then [] else [{ms0 with K:=1,F:=1,T:=2,tm:=1},{ms0 with K:=1,F:=1,T:=3,tm:=1}]
def wkU:Rs:=⟨1,1,1,(0,0),[],[1,2,3],0,3,0,0,4,[1],[]⟩
def wkN:List Ms:=[{ms0 with K:=3,F:=1,T:=2,tm:=1},{ms0 with K:=3,F:=1,T:=3,tm:=1}]
theorem wkX_u (i:Nat) (h:i≤4):RsU (wkX i):=by
 have:i=0∨i=1∨i=2∨i=3∨i=4:=by omega
 rcases this with rfl|rfl|rfl|rfl|rfl<;>exact⟨by decide,by decide,by decide,by decide,fun p hp=>absurd hp (by decide+revert)⟩
theorem wake_tick (w:World) (i:Nat) (hi:i<4) (p:Rp) (h:RfR w (wkX i) p):
  Gives Tryz.prog 14 [.agg (rfc (wkX i) p).toArray,.int .i64 4] [] w (X:=Mm×Asn) (fun y=> .tuple #[.agg (rfc (wkX (i+1)) y.1.p).toArray,.slice y.1.sA y.1.S.length y.1.sc,zi 0]) (fun y=>y.1.S.map Prod.fst=wkM (i+1)∧ ∀ w',y.2.holds w'→SrvR w' (wkX (i+1)) y.1) (fun y=>[y.2]):=by
 have:i=0∨i=1∨i=2∨i=3:=by omega
 rcases this with rfl|rfl|rfl|rfl
 ·refine tick_ok w (wkX 0) p h 4 (by decide+kernel) (by decide) (by decide) (wkX 1) (wkM 1) (wkX_u _ (by decide)) (by decide) (by decide) (fun w1 g m D bl hS hD hM hL hm0 hbl=>?_)
  rw[show wkX 1={wkX 0 with clock:=(wkX 0).clock+1} from by decide+kernel]
  exact tick_idle w1 g (wkX 0) m hS D hD hM hL bl 4 hbl (by decide) (by decide) (by decide) (by decide)
 ·refine tick_ok w (wkX 1) p h 4 (by decide+kernel) (by decide) (by decide) (wkX 2) (wkM 2) (wkX_u _ (by decide)) (by decide) (by decide) (fun w1 g m D bl hS hD hM hL hm0 hbl=>?_)
  rw[show wkX 2={wkX 1 with clock:=(wkX 1).clock+1} from by decide+kernel]
  exact tick_idle w1 g (wkX 1) m hS D hD hM hL bl 4 hbl (by decide) (by decide) (by decide) (by decide)
 ·refine tick_ok w (wkX 2) p h 4 (by decide+kernel) (by decide) (by decide) (wkX 3) (wkM 3) (wkX_u _ (by decide)) (by decide) (by decide) (fun w1 g m D bl hS hD hM hL hm0 hbl=>?_)
  rw[show wkX 3={wkX 2 with clock:=(wkX 2).clock+1} from by decide+kernel]
  exact tick_idle w1 g (wkX 2) m hS D hD hM hL bl 4 hbl (by decide) (by decide) (by decide) (by decide)
 ·refine tick_ok w (wkX 3) p h 4 (by decide+kernel) (by decide) (by decide) (wkX 4) (wkM 4) (wkX_u _ (by decide)) (by decide) (by decide) (fun w1 g m D bl hS hD hM hL hm0 hbl=>?_)
  rw[show wkX 4=askX {wkX 3 with clock:=0,limit:=4} from by decide+kernel,show wkM 4=(felL (wkX 3)).flatMap (fun n=>[{ms0 with K:=1,F:=(wkX 3).me,T:=n,tm:=(wkX 3).term+1,pl:=lastP (wkX 3)}]) from by decide+kernel]
  exact tick_ask w1 g (wkX 3) m hS D hD hM hL bl 4 hbl (by decide) (by decide) (by decide) (by decide) (by decide+kernel) (by decide+kernel) (by decide) (by decide+kernel) (by rw[hm0];decide)
theorem wake_take (w:World) (p:Rp) (h:RfR w (wkX 4) p):
  Gives Tryz.prog 24 [.agg (rfc (wkX 4) p).toArray,.agg (mgc yW qW).toArray] [] w (X:=Mm×Asn) (fun z=> .tuple #[.agg (rfc wkU z.1.p).toArray,.slice z.1.sA z.1.S.length z.1.sc,.bool false,zi 0]) (fun z=>z.1.S.map Prod.fst=wkN∧ ∀ w',K2 (fun _=>True) z.2 w'→SrvR w' wkU z.1) (fun z=>[z.2]):=by
 refine take_ok w (wkX 4) p h yW qW (fun _=>True) (fun _ _=>trivial) (fun w' _=>msr_nil w' O O O) (fun m hm=>absurd hm (by simp[qW])) (by decide) (by decide) (by decide+kernel) (by decide+kernel) wkU wkN false ⟨by decide,by decide,by decide,by decide,fun p hp=>absurd hp (by simp[wkU])⟩ (by decide) (by decide) (fun w1 g m D bx hS hD hM hL hm0 hmi hbx hmq=>?_)
 refine take1_same w1 g (wkX 4) m hS D hD hM hL yW qW bx hbx (.inr (.inr ⟨O,O⟩)) wkU wkN false 143 F143 O (fun w2 D2 hS2 hD2 hk2=>?_)
 rw[show wkU=stdX {wkX 4 with votes:=vtsL (wkX 4).votes yW.F} from by decide+kernel,show wkN=(felL (wkX 4)).flatMap (fun n=>[{ms0 with K:=3,F:=(wkX 4).me,T:=n,tm:=(wkX 4).term+1,pl:=lastP (wkX 4)}]) from by decide+kernel, ← hmi]
 exact would_stand w2 g (wkX 4) m hS2 D2 hD2 (fun w' h'=>hM w' (hk2 w' h')) hL (by decide+kernel) (by simp[C.Up_,wkX]) (by decide) (by decide) yW qW (by decide) O (by decide) (by decide+kernel) (by decide+kernel) (by rw[hm0];decide)
theorem three_any (w:World):
  Gives Tryz.prog 36 [] [] w (X:=Option Addr×Nat) (fun x=>C.cfv x.1 3 x.2) (fun _=>True) (fun x=>[row 3 1 x.1 3 x.2 (([1,2,3]:List Int).map zv)]):=by
 refine gives_C Tryz.func36 O Tryz.ntmps36 Tryz.results36 (by simp) (St.enter w) (fun B hB=>?_)
 focus (refine qs ?_;(refine qe (E_alloca O C.cf_alloc) ?_;rintro _ _ ⟨b4,rfl,rfl⟩);refine qn ?_;(refine qe (E_litr (m:=3) (vs:=[zv 1,zv 2,zv 3]) O O O O O O O (by simp[zv,Value.oneCell']) (by decide) O) ?_;rintro _ _ ⟨bl,rfl,rfl⟩);refine qt (T_build1 O (C.cf_built1 _ _ _)) ?_;(refine qw (E_storew (cs:=[.slice none 0 0]) (ds:=[.slice (some ⟨bl,0,none⟩) 3 3]) O O O O (C.sl_one _ _ _) O) ?_;rintro _ _ rfl);refine qz ?_)
 refine hB _ _ _ _ _ O (.cell O O O inferInstance O .nil) fun w' hS=>⟨(some ⟨bl,0,none⟩,3),O,trivial,sub_st (H':=[row 3 1 (some ⟨bl,0,none⟩) 3 3 [zv 1,zv 2,zv 3]]) w' hS⟩
theorem wake_start (w:World) (cA:Option Addr) (cc:Nat) (h:Rd w All 1 cA 3 (([1,2,3]:List Int).map zv)):
  Gives Tryz.prog 10 [.int .i64 1,.int .u64 0,.int .i64 0,.agg (lgc (0,0) none 0 0).toArray,C.cfv cA 3 cc,.int .i64 4] [] w (X:=Rp×Asn) (fun y=> .tuple #[.agg (rfc (wkX 0) y.1).toArray,zi 0]) (fun y=> ∀ w',y.2.holds w'→RfR w' (wkX 0) y.1) (fun y=>[y.2]):=
 (start_ok w 1 0 0 (0,0) [] [1,2,3] 4 none 0 0 [] cA 3 cc ⟨⟨O,Nat.le_of_ble_eq_true O,Nat.le_refl _,O,Rd.none_,fun m hm=>absurd hm (by simp),fun m hm=>absurd hm (by simp),O,Nat.le_of_ble_eq_true O,h⟩,O,Nat.le_of_ble_eq_true O,Rd.none_,O,Nat.le_of_ble_eq_true O,Rd.none_,wkX_u 0 (by decide)⟩ (by decide+kernel)).mono fun u w' ⟨q,he,⟨hq,h1,h2,h3,h4⟩,hS⟩=>⟨(q,bun (rfO (wkX 0) q)),he,fun w2 h5=>rfO_rf (bun_all h5) hq (by rw[h1];decide) (by rw[h2];decide) (by rw[h3];decide) (by rw[h4];decide) (fun e he=>absurd he (by simp[wkX])) (wkX_u 0 (by decide)),bun_in (L:=rfO (wkX 0) q) (H:=[]) hS⟩
theorem s_at {S:List (Ms×Mp)} {l:List Ms} (h:S.map Prod.fst=l) (j:Nat) (y:Ms) (hy:l[j]? =some y):(cellsL sgc S)[j*12]? =some (.int .i64 y.K)∧(cellsL sgc S)[j*12+3]? =some (.int .u64 (y.tm:Int)):=by
 have hj:j<S.length:=by
  have:=(List.getElem?_eq_some_iff.1 hy).1
  rw[← h,List.length_map] at this
  exact this
 have e:(S.getD j (ms0,qW)).1=y:=by
  rw[← h,List.getElem?_map] at hy
  simp[List.getD,hj] at hy ⊢
  exact hy
 have h0:=cellsL_at (f:=sgc) sgc_len S (ms0,qW) j hj 0 (.int .i64 y.K) (by rw[← e];rfl)
 exact⟨h0,cellsL_at (f:=sgc) sgc_len S (ms0,qW) j hj 3 (.int .u64 (y.tm:Int)) (by rw[← e];rfl)⟩
theorem s_len {S:List (Ms×Mp)} {l:List Ms} (h:S.map Prod.fst=l):S.length=l.length:=by rw[← h,List.length_map]
theorem wake_take2 (w:World) (p:Rp) (h:RfR w (wkX 4) p):
  Gives Tryz.prog 24 [.agg (rfc (wkX 4) p).toArray,.agg (mgc yW qW).toArray] [] w (X:=Mm×Asn) (fun z=> .tuple #[.agg (rfc wkU z.1.p).toArray,.slice z.1.sA z.1.S.length z.1.sc,.bool false,zi 0]) (fun z=>z.1.S.map Prod.fst=wkN∧(∀ w',K2 (fun _=>True) z.2 w'→SrvR w' wkU z.1)∧z.1.sA≠none) (fun z=>[z.2]):=
 (wake_take w p h).mono fun u w' ⟨z,he,⟨hm,hR⟩,hS⟩=>⟨z,he,⟨hm,hR,by
  obtain⟨ad,e,_⟩:=((hR w' ⟨trivial,hS.at_ (A:=z.2) (by simp)⟩).rs).2 (by rw[s_len hm];decide)
  rw[e];simp⟩,hS⟩
theorem wakes15_any (w:World):Gives Tryz.prog 9 [] [] w (X:=Unit) (fun _=> .bool true) (fun _=>True) (fun _=>[]):=by
 refine gives_S Tryz.func9 O Tryz.ntmps9 Tryz.results9 (by simp) (St.enter w) (fun B hB=>?_)
 focus (refine qs ?_;refine qp ?_;refine qn ?_;refine qt (T_build0 lg_built0) ?_;(refine qe (E_hv1 (f:=36) F36 (fun w hS=>three_any w) O O (fun _=>O)) ?_;rintro _ _ ⟨⟨cA,cc⟩,rfl,_,rfl⟩);(refine qe (E_hv1 (f:=10) F10 (fun w1 hS1=>wake_start w1 cA cc (row_rd (hS1.at_ (A:=row 3 1 cA 3 cc (([1,2,3]:List Int).map zv)) (by simp)))) O O (fun _=>O)) ?_;rintro _ _ ⟨⟨q0,Z0⟩,rfl,hq0,rfl⟩;dsimp only at hq0);(iterate 3 refine qp ?_);(refine qe (E_alloca O rf_zero) ?_;rintro _ _ ⟨b1,rfl,rfl⟩);(refine qw (E_storew (cs:=rfc rs0 rp0) (ds:=rfc (wkX 0) q0) O O O O (rfc_one _ _) O) ?_;rintro _ _ rfl);refine qp ?_;refine qz ?_;refine qq ?_;refine qs ?_;refine qp ?_;refine qf ?_;refine qz ?_;refine qF ?_;refine qx ?_;refine qs ?_;refine qp ?_;refine qz ?_;refine qq ?_;refine qs ?_;refine qp ?_;refine qz ?_;refine qb ?_)
 refine S_loop (X:=Nat×(Rp×Option Addr×Nat×List Value)×Asn) (fun z=>[(1,.pointer (some ⟨b1,0,none⟩)),(3,.slice z.2.1.2.1 (wkM z.1).length z.2.1.2.2.1),(12,.int .i64 (z.1:Int))]) (fun z=>[z.2.2,pt b1 42 (rfc (wkX z.1) z.2.1.1)]) (fun z=>z.1≤4∧(∀ w',z.2.2.holds w'→RfR w' (wkX z.1) z.2.1.1)∧(z.1=4→(∀ w',z.2.2.holds w'→Rd w' All 12 z.2.1.2.1 2 z.2.1.2.2.2)∧z.2.1.2.2.2[0]? =some (.int .i64 1)∧z.2.1.2.2.2[3]? =some (.int .u64 1))) (fun z=>4-z.1) O (0,(q0,none,0,[]),Z0) ⟨Nat.zero_le _,hq0,fun h=>absurd (show 0=4 from h) (by decide)⟩ (Sub.cons O (Sub.cons O (Sub.cons O Sub.nil))) (fun w hS=>sub_st (H':=[Z0,pt b1 42 (rfc (wkX 0) q0)]) w hS) ?_
 rintro⟨i,⟨q,A,c,xs⟩,Z⟩ ⟨hi,hR,h4⟩ J hJ
 dsimp only at hi hR h4 ⊢
 rcases Nat.lt_or_ge i 4 with hil|hil
 ·skip
  focus (refine qs ?_;refine qd ?_;refine qz ?_;refine qq ?_;refine qT ?_;refine qx ?_;refine qq ?_;refine qb ?_;refine qs ?_;refine qt (T_loads (ds:=rfc (wkX i) q) O O O O O) ?_;(refine qe (E_hv1 (f:=14) F14 (fun w1 hS1=>wake_tick w1 i hil q (hR w1 (hS1.at_ (A:=Z) (by simp)))) O O (fun _=>O)) ?_;rintro _ _ ⟨⟨m,Z2⟩,rfl,⟨hm,hR2⟩,rfl⟩;dsimp only at hm hR2);(iterate 4 refine qp ?_);(refine qw (E_storew (cs:=rfc (wkX i) q) (ds:=rfc (wkX (i+1)) m.p) O O O O (rfc_one _ _) O) ?_;rintro _ _ rfl);refine qp ?_;refine qp ?_;refine qn ?_;refine qp ?_;refine qf ?_;refine qz ?_;refine qF ?_;refine qx ?_;refine RS_blk ?_;refine qr ?_;refine qt (T_addN O O (by unfold fits;omega)) ?_;refine qp ?_;refine qz ?_)
  have hml:=s_len hm
  rw[hml]
  refine hJ (i+1,(m.p,m.sA,m.sc,cellsL sgc m.S),Z2) _ _ ⟨by dsimp only;omega,fun w' h'=>(hR2 w' h').rf,fun h5=>?_⟩ (Sub.cons O (Sub.cons O (Sub.cons O Sub.nil))) (fun w' hS=>sub_st (H':=[Z2,pt b1 42 (rfc (wkX (i+1)) m.p)]) w' hS) (by show 4-(i+1)<_;omega)
  have h5:i+1=4:=h5
  rw[h5] at hm hR2 hml
  refine⟨fun w' h'=>?_,(s_at hm 0 _ O).1,(s_at hm 0 _ O).2⟩
  have:=(hR2 w' h').rs
  rwa [hml] at this
 obtain rfl:i=4:=by omega
 obtain⟨h41,h42,h43⟩:=h4 O
 obtain⟨hTr⟩:Nonempty (Kd (fun _=>True) [] w):=⟨fun _ _=>trivial⟩
 refine RS_fact (fun w' hS=>by obtain⟨ad,e,_⟩:=(h41 w' (hS.at_ (A:=Z) (by simp))).2 (by decide);exact(show A≠none by rw[e];simp)) fun hne=>?_
 repeat' (first|refine R_take (T_decF O (by omega)) ?_ O O|refine R_p O ?_ O O|refine R_nil ?_|refine R_take (T_ixM (sz:=12) O O O O O O hne (by decide)) ?_ O O|refine R_take (T_fap O O O O O hne) ?_ O O|refine R_take (T_ldr O O O (Srd.kn (As:=[]) (D:=fun _=>True) (Z:=Z) hTr (fun w' h'=>h41 w' h'.2)) (by decide) h42) ?_ O O|refine R_take (T_ldr O O O (Srd.kn (As:=[]) (D:=fun _=>True) (Z:=Z) hTr (fun w' h'=>h41 w' h'.2)) (by decide) h43) ?_ O O|refine S_seq O ?_|refine S_region O O ?_|refine S_false O O ?_|refine S_exit O O ?_|refine S_skip O ?_)
 focus (refine qt (T_loads (ds:=rfc (wkX 4) q) O O O O O) ?_;refine qt (T_build5 O O O O O mg_builtW) ?_;(refine qe (E_hv1 (f:=24) F24 (fun w1 hS1=>wake_take2 w1 q (hR w1 (hS1.at_ (A:=Z) (by simp)))) O O (fun _=>O)) ?_;rintro _ _ ⟨⟨m,Z2⟩,rfl,⟨hm,hR2,hne2⟩,rfl⟩;dsimp only at hm hR2 hne2 ⊢;rw[(s_len hm:m.S.length=2)]);(iterate 5 refine qp ?_);(refine qw (E_storew (cs:=rfc (wkX 4) q) (ds:=rfc wkU m.p) O O O O (rfc_one _ _) O) ?_;rintro _ _ rfl);refine qp ?_;refine qp ?_;refine qn ?_;refine qp ?_;refine qd ?_;(iterate 7 refine qp ?_))
 have hml:m.S.length=2:=s_len hm
 have h51: ∀ w',K2 (fun _=>True) Z2 w'→Rd w' All 12 m.sA 2 (cellsL sgc m.S):=fun w' h'=>by
  have:=(hR2 w' h').rs
  rwa [hml] at this
 have h52:=(s_at hm 1 _ O).1
 focus (refine qt (T_ixM (sz:=12) O O O O O O hne2 (by decide)) ?_;refine qt (T_fap O O O O O hne2) ?_;refine qt (T_ldr O O O (Srd.kn (As:=[]) (D:=fun _=>True) (Z:=Z2) hTr h51) (by decide) h52) ?_;(iterate 4 refine qp ?_);refine qt (T_load (v:= .int .u64 1) O O O O) ?_;refine qd ?_;refine qp ?_;refine qp ?_;refine qz ?_)
 exact hB _ _ _ _ _ O O (qE O)
end Go.Proofs.YtdeffdldifepkaaGreat
