/- Lemmas of the proof, part 1. -/
import Derived.WalkKit
import Derived.Deep.Draws
import Derived.Deep.AppendLies
import Derived.Maps.AppendAt
import Derived.Lib.Hide
import Derived.Deep.QuietTactic
import Derived.Laws.CopyOwn
import Derived.Laws.OwnMore
import Derived.OrdersHeld
import Derived.KernelRfl
import Derived.Scope
import Derived.Deep.LoopGhost
import Derived.Sort.LoopGhostIn
import Derived.TacticsIn
import Derived.OrdersIn
import Derived.IntWalk
import Derived.Deep.MidRow
import Derived.Test.YtdeffdldifepkaaGreatProg
import Derived.Lib.ConvBytes
import Derived.Lib.AppendStr
import Derived.ChangeKeysEq
import Derived.Laws.Tables
import Derived.Laws.CopyRow
import Derived.Laws.RangeString
import Derived.Lib.Overlaps
import Derived.Lib.AppendZerosOnto
import Derived.Lib.SliceRun
import Derived.MapKept
import Derived.RangeFuncLeaves
import Derived.RangeFuncRecord
import Derived.RangeFuncSeq
import Derived.BigQuiet
import Derived.ProofKit
import Derived.OpenShut
import Derived.ShutString
import Derived.ChangeOld
import Derived.Laws.StructEq
set_option maxRecDepth 100000
set_option maxHeartbeats 4000000
namespace Go.Proofs.YtdeffdldifepkaaGreat
theorem O.{u} {α : Sort u} {a : α} : a = a := rfl
abbrev U := true
abbrev Y := false
end Go.Proofs.YtdeffdldifepkaaGreat
namespace Go.Proofs.YtdeffdldifepkaaGreat
open Go.RowKit
theorem dv (a:Addr) (n:Nat):(a.add n).block=a.block:=by unfold Addr.add;split<;>rfl
theorem gD (a:Addr) (i j:Nat):(a.add i).add j=a.add (i+j):=by
 unfold Addr.add
 by_cases hi:i=0<;>by_cases hj:j=0<;>simp[hi,hj,Nat.add_assoc]
structure Kp (F:Nat→Prop) (w w':World):Prop where
 os:w'.os=w.os
 tape:w'.tape=w.tape
 output:w'.output=w.output
 size:w.heap.size≤w'.heap.size
 block: ∀ k,F k→k<w.heap.size→w'.heap[k]? =w.heap[k]?
def bC:Nat→Prop:=fun _=>True
theorem Kp.refl (F:Nat→Prop) (w:World):Kp F w w:=⟨O,O,O,Nat.le_refl _,fun _ _ _=>O⟩
theorem Kp.trans {F:Nat→Prop} {a b c:World} (h:Kp F a b) (k:Kp F b c):Kp F a c:=
 ⟨k.os.trans h.os,k.tape.trans h.tape,k.output.trans h.output,Nat.le_trans h.size k.size,fun i hF hi=>(k.block i hF (Nat.lt_of_lt_of_le hi h.size)).trans (h.block i hF hi)⟩
theorem Kp.mono {F G:Nat→Prop} {a b:World} (h:Kp F a b) (hG: ∀ k,G k→k<a.heap.size→F k):Kp G a b:=
 ⟨h.os,h.tape,h.output,h.size,fun i hg hi=>h.block i (hG i hg hi) hi⟩
theorem Kp.all {G:Nat→Prop} {a b:World} (h:Kp bC a b):Kp G a b:=h.mono fun _ _ _=>trivial
theorem Kp.drew {F:Nat→Prop} (w:World):Kp F w w.drew:=⟨O,O,O,Nat.le_refl _,fun _ _ _=>O⟩
theorem Kp.alloc {F:Nat→Prop} (w:World) (o:Obj):Kp F w (w.alloc o):=⟨O,O,O,by simp,fun i _ hi=>Below.heap_alloc w o i hi⟩
theorem Kp.of_grown {w w':World} {row:Option Nat} (h:w.grownBy w' row):Kp (fun k=>some k≠row) w w':=
 ⟨h.os,h.tape,h.output,h.size,fun i hF hi=>h.block i hi hF⟩
theorem Kp.below {w w':World} (h:Kp bC w w'):Below w.heap.size w w':=⟨h.os,h.tape,h.output,h.size,fun k hk=>h.block k trivial hk⟩
theorem Kp.since {F:Nat→Prop} {a b c:World} (h:Kp bC a b) (k:Kp F b c) (hF: ∀ i,i<a.heap.size→F i):Kp bC a c:=
 ⟨k.os.trans h.os,k.tape.trans h.tape,k.output.trans h.output,Nat.le_trans h.size k.size,fun i _ hi=>(k.block i (hF i hi) (Nat.lt_of_lt_of_le hi h.size)).trans (h.block i trivial hi)⟩
theorem Kp.cell {F:Nat→Prop} {w w':World} (h:Kp F w w') {p:Addr} {u:Value} (hF:F p.block) (hc:w.cell? p=some u):w'.cell? p=some u:=
 (World.cell?_of_block (w:=w) (h.block p.block hF (World.block_lt_of_cell? w p hc))).trans hc
def Rd (w:World) (F:Nat→Prop) (size:Nat) (A:Option Addr) (n:Nat) (xs:List Value):Prop:=
 xs.length=n*size∧(0<n→ ∃ ad,A=some ad∧F ad.block∧ ∀ j u,xs[j]? =some u→w.cell? (ad.add j)=some u)
section
variable {w w':World} {F G:Nat→Prop} {size n:Nat} {A:Option Addr} {xs:List Value}
theorem Rd.none_:Rd w F size A 0 []:=⟨by simp,fun h=>absurd h (by omega)⟩
theorem Rd.at_ {k:Nat} (h:Rd w F 1 A n xs) (hk:k<n): ∃ ad u,A=some ad∧F ad.block∧xs[k]? =some u∧w.cell? (ad.add k)=some u:=by
 obtain⟨ad,e,hb,hc⟩:=h.2 (by omega)
 have hl:k<xs.length:=by have:=h.1;omega
 exact⟨ad,xs[k],e,hb,List.getElem?_eq_getElem hl,hc k _ (List.getElem?_eq_getElem hl)⟩
theorem Rd.keep (h:Rd w F size A n xs) (hk:Kp F w w'):Rd w' F size A n xs:=
 ⟨h.1,fun hn=>by
  obtain⟨ad,e,hb,hc⟩:=h.2 hn
  exact⟨ad,e,hb,fun j u hu=>hk.cell (by rw[dv];exact hb) (hc j u hu)⟩⟩
theorem Rd.more (h:Rd w F size A n xs) (hG: ∀ k,F k→G k):Rd w G size A n xs:=
 ⟨h.1,fun hn=>by
  obtain⟨ad,e,hb,hc⟩:=h.2 hn
  exact⟨ad,e,hG _ hb,hc⟩⟩
end
def bv (x:UInt8):Value:= .int .u8 (x.toNat:Int)
structure Bs (w:World) (F:Nat→Prop) (A:Option Addr) (n c:Nat) (l:List UInt8):Prop where
 len:n=l.length
 cap:n≤c
 capm:c≤maxLen
 rd:Rd w F 1 A n (l.map bv)
theorem Bs.keep {w w':World} {F:Nat→Prop} {A:Option Addr} {n c:Nat} {l:List UInt8} (h:Bs w F A n c l) (hk:Kp F w w'):Bs w' F A n c l:=
 ⟨h.len,h.cap,h.capm,h.rd.keep hk⟩
theorem Bs.at_ {w:World} {F:Nat→Prop} {A:Option Addr} {n c:Nat} {l:List UInt8} (h:Bs w F A n c l) {k:Nat} (hk:k<n):
  ∃ ad,A=some ad∧F ad.block∧w.cell? (ad.add k)=some (.int .u8 ((l.getD k 0).toNat:Int)):=by
 obtain⟨ad,u,e,hb,hx,hc⟩:=h.rd.at_ hk
 have hl:k<l.length:=by have:=h.len;omega
 refine⟨ad,e,hb,?_⟩
 rw[hc]
 simp[hl,bv] at hx ⊢
 exact hx.symm
section
variable {w w':World} {F:Nat→Prop} {size n:Nat} {A:Option Addr} {xs:List Value}
theorem Rd.cut (h:Rd w F size A n xs) {k cap:Nat} (hk:k≤n) (hc:n≤cap):
  Rd w F size (if cap=k then A else A.map (·.add (k*size))) (n-k) (xs.drop (k*size)):=by
 refine⟨by rw[List.length_drop,h.1,Nat.sub_mul],fun hn=>?_⟩
 obtain⟨ad,rfl,hb,hcell⟩:=h.2 (by omega)
 rw[if_neg (by omega)]
 refine⟨ad.add (k*size),O,by rw[dv];exact hb,fun j u hu=>?_⟩
 rw[gD]
 exact hcell _ u (by rw[← hu,List.getElem?_drop])
theorem Rd.head (h:Rd w F size A n xs) {k:Nat} (hk:k≤n):Rd w F size A k (xs.take (k*size)):=by
 have hle:k*size≤n*size:=Nat.mul_le_mul_right _ hk
 refine⟨by rw[List.length_take,h.1];omega,fun hn=>?_⟩
 obtain⟨ad,rfl,hb,hcell⟩:=h.2 (by omega)
 refine⟨ad,O,hb,fun j u hu=>hcell j u ?_⟩
 rw[List.getElem?_take] at hu
 split at hu
 ·exact hu
 ·cases hu
theorem Rd.of_own {base:Nat} {e:TypeId} {c:Nat} (h:w.ownsRow base e size (.slice A n c) n xs):Rd w (fun k=>base≤k) size A n xs:=by
 refine⟨h.1,fun hn=>?_⟩
 rcases h.2 with⟨_,h0⟩|⟨g,cap,cur,hv,hb,_⟩
 ·omega
 ·have hA:A=some ⟨g,0,none⟩:=by injection hv
  subst hA
  exact⟨_,O,hb,h.cells (g:=g) O⟩
end
theorem lP {w:World} {base:Nat} {e:TypeId} {size n:Nat} {v:Value} {xs:List Value} (h:w.ownsRow base e size v n xs): ∃ A c,v= .slice A n c∧n≤c∧c≤maxLen:=by
 rcases h.2 with⟨rfl,rfl⟩|⟨g,cap,cur,rfl,_,_,hn,hc,_⟩
 ·exact⟨none,0,O,Nat.le_refl _,by simp⟩
 ·exact⟨_,cap,O,hn,hc⟩
theorem po {w w':World} {base:Nat} {e:TypeId} {size n:Nat} {v:Value} {xs:List Value} {F:Nat→Prop} (h:w.ownsRow base e size v n xs) (hk:Kp F w w') (hF: ∀ g,v.ownBlock=some g→F g):w'.ownsRow base e size v n xs:=by
 refine⟨h.1,?_⟩
 rcases h.2 with hn|⟨g,cap,cur,rfl,hb,hgg,rest⟩
 ·exact .inl hn
 ·refine .inr ⟨g,cap,cur,O,hb,?_,rest⟩
  rw[hk.block g (hF g O) (Array.getElem?_eq_some_iff.1 hgg).1]
  exact hgg
theorem tZ {w:World} {base base':Nat} {e:TypeId} {size n:Nat} {v:Value} {xs:List Value} (h:w.ownsRow base e size v n xs) (hb:base'≤base):w.ownsRow base' e size v n xs:=by
 refine⟨h.1,?_⟩
 rcases h.2 with hn|⟨g,cap,cur,rfl,hbb,rest⟩
 ·exact .inl hn
 ·exact .inr ⟨g,cap,cur,O,by omega,rest⟩
theorem Bs.of_own {w:World} {base:Nat} {e:TypeId} {A:Option Addr} {n c:Nat} {l:List UInt8} (h:w.ownsRow base e 1 (.slice A n c) n (l.map bv)):Bs w (fun k=>base≤k) A n c l:=by
 obtain⟨A',c',hv,h1,h2⟩:=lP h
 injection hv with e1 e2 e3
 subst e3
 exact⟨by have:=h.1;simp at this;omega,h1,h2,Rd.of_own h⟩
theorem Bs.nil (w:World) (F:Nat→Prop):Bs w F none 0 0 []:=⟨O,Nat.le_refl _,by simp,Rd.none_⟩
theorem Bs.head {w:World} {F:Nat→Prop} {A:Option Addr} {n c:Nat} {l:List UInt8} (h:Bs w F A n c l) {k:Nat} (hk:k≤n):Bs w F A k c (l.take k):=by
 refine⟨by have:=h.len;rw[List.length_take];omega,by have:=h.cap;omega,h.capm,?_⟩
 have:=h.rd.head hk
 rwa [Nat.mul_one, ← List.map_take] at this
theorem Bs.cut {w:World} {F:Nat→Prop} {A:Option Addr} {n c:Nat} {l:List UInt8} (h:Bs w F A n c l) {k:Nat} (hk:k≤n):Bs w F (if c=k then A else A.map (·.add k)) (n-k) (c-k) (l.drop k):=by
 have hc:=h.cap
 refine⟨by have:=h.len;rw[List.length_drop];omega,by omega,by have:=h.capm;omega,?_⟩
 have:=h.rd.cut hk hc
 rwa [Nat.mul_one, ← List.map_drop] at this
theorem Bs.more {w:World} {F G:Nat→Prop} {A:Option Addr} {n c:Nat} {l:List UInt8} (h:Bs w F A n c l) (hG: ∀ k,F k→G k):Bs w G A n c l:=⟨h.len,h.cap,h.capm,h.rd.more hG⟩
section
variable {P:Program} (w:World)
theorem j0 (base:Nat) (t ty e:TypeId) (i:TypeInfo) (size:Nat) (ht:P.underlying t=some (.slice e)) (hi:P.info? e=some i)
  (v:Value) (n:Nat) (xs:List Value) (hown:w.ownsRow base e size v n xs) (c:Nat):(Builtin.append_ #[t,t] ty #[v,.slice none 0 c]).run P w= .ok v w:=by
 rcases hown.2 with⟨rfl,rfl⟩|⟨g,cap,cur,rfl,_,_,hnc,_⟩
 ·simp[Builtin.append_,run_underlying ht,sizeOf,typeInfo,hi,Builtin.lenOf,Builtin.firstCells]
 ·simp[Builtin.append_,run_underlying ht,sizeOf,typeInfo,hi,Builtin.lenOf,Builtin.firstCells,hnc,storeCells]
theorem mC (base:Nat) (t ty e:TypeId) (i:TypeInfo) (z:Value) (size bytes:Nat) (ht:P.underlying t=some (.slice e)) (hi:P.info? e=some i) (hz:i.zero=some z)
  (hsize:i.size=size) (hby:i.bytes=bytes) (hzs:z.cells.size=size) (hsz:0<size)
  (v:Value) (n:Nat) (xs:List Value) (hown:w.ownsRow base e size v n xs)
  (F:Nat→Prop) (A:Option Addr) (m c:Nat) (news:List Value) (hr:Rd w F size A m news) (h1: ∀ u∈news,u.oneCell'=true)
  (h63:n+m≤maxLen) (hbytes:(n+m)*bytes≤140737488355328) (hbase:base≤w.heap.size):
  ∃ v' w',(Builtin.append_ #[t,t] ty #[v,.slice A m c]).run P w= .ok v' w'∧w'.ownsRow base e size v' (n+m) (xs++news)∧Kp (fun k=>some k≠v.ownBlock) w w'∧
   (v'.ownBlock=v.ownBlock∨v'.ownBlock=some w.heap.size):=by
 rcases A with _|ad
 ·have hm:m=0:=by
   rcases Nat.eq_zero_or_pos m with h0|h0
   ·exact h0
   ·obtain⟨ad,h,_⟩:=hr.2 h0
    cases h
  subst hm
  have hn:news=[]:=List.eq_nil_of_length_eq_zero (by simpa using hr.1)
  subst hn
  exact⟨v,w,j0 w base t ty e i size ht hi v n xs hown c,by simpa using hown,Kp.refl _ w,.inl O⟩
 ·have hcells: ∀ j u,news[j]? =some u→w.cell? (ad.add j)=some u:=by
   intro j u hu
   rcases Nat.eq_zero_or_pos m with h0|h0
   ·subst h0
    have hn:news=[]:=List.eq_nil_of_length_eq_zero (by simpa using hr.1)
    subst hn
    simp at hu
   ·obtain⟨ad',h,_,hc⟩:=hr.2 h0
    injection h with h
    subst h
    exact hc j u hu
  obtain⟨v',w',hrun,h2,h3,_,h5⟩:=run_append_own_at (P:=P) w base t ty e i z size bytes ht hi hz hsize hby hzs hsz v n xs hown ad m c news hr.1 hcells h1 h63 hbytes hbase
  exact⟨v',w',hrun,h2,Kp.of_grown h3,h5⟩
theorem ni {o:Oper} {a:Act} {K:Act→World→Prop} {Q:Exit→Act→World→Prop} (s x:Operand) (t:TypeId)
  (ho:o.op= .call {callee:= .builtin .append,args:=#[s,x],argTypes:=#[t,t]})
  (base:Nat) (e:TypeId) (i:TypeInfo) (z:Value) (size bytes:Nat) (ht:P.underlying t=some (.slice e)) (hi:P.info? e=some i) (hz:i.zero=some z)
  (hsize:i.size=size) (hby:i.bytes=bytes) (hzs:z.cells.size=size) (hsz:0<size)
  (v:Value) (n:Nat) (xs:List Value) (hs:a.eval s=v) (hown:w.ownsRow base e size v n xs)
  (F:Nat→Prop) (A:Option Addr) (m c:Nat) (news:List Value) (hx:a.eval x= .slice A m c) (hr:Rd w F size A m news) (h1: ∀ u∈news,u.oneCell'=true)
  (h63:n+m≤maxLen) (hbytes:(n+m)*bytes≤140737488355328) (hbase:base≤w.heap.size)
  (h: ∀ A' c' w',w'.ownsRow base e size (.slice A' (n+m) c') (n+m) (xs++news)→Kp (fun k=>some k≠v.ownBlock) w w'→((Value.slice A' (n+m) c').ownBlock=v.ownBlock∨(Value.slice A' (n+m) c').ownBlock=some w.heap.size)→K (a.put o.dst (.slice A' (n+m) c')) w'):o.wp P a w K Q:=by
 obtain⟨v',w',hrun,h2,h3,h4⟩:=mC (P:=P) w base t o.type e i z size bytes ht hi hz hsize hby hzs hsz v n xs hown F A m c news hr h1 h63 hbytes hbase
 obtain⟨A',c',rfl,_,_⟩:=lP h2
 unfold Oper.wp execOp
 simp only[ho,resolve,invoke,builtin,Sem.run_bind,Sem.run_pure,Result.andThen_ok,List.map_toArray,List.map_cons,List.map_nil,hs,hx,hrun]
 exact h A' c' w' h2 h3 h4
end
def Blk (w:World) (g:Nat) (t:TypeId) (cs:Array Value):Prop:=w.heap[g]? =some (.cells cs t (0,0))
section
variable {w w':World} {g:Nat} {t:TypeId} {cs:Array Value}
theorem Blk.lt (h:Blk w g t cs):g<w.heap.size:=by
 rcases Nat.lt_or_ge g w.heap.size with hlt|hge
 ·exact hlt
 ·unfold Blk at h;rw[Array.getElem?_eq_none hge] at h;cases h
theorem Blk.cell (h:Blk w g t cs) (i:Nat):w.cell? ⟨g,i,none⟩=cs[i]? :=cell_of_row w g i cs t (0,0) h
theorem Blk.frozen (h:Blk w g t cs) (i:Nat):w.frozen? ⟨g,i,none⟩=false:=by
 unfold Blk at h
 simp[World.frozen?,h]
theorem Blk.new (w:World) (t:TypeId) (cs:Array Value):Blk (w.alloc (.cells cs t)) w.heap.size t cs:=heap_alloc_new w _
theorem Blk.kp {F:Nat→Prop} (h:Blk w g t cs) (hk:Kp F w w') (hF:F g):Blk w' g t cs:=(hk.block g hF h.lt).trans h
theorem Blk.alloc (h:Blk w g t cs) (o:Obj):Blk (w.alloc o) g t cs:=h.kp (F:=bC) (Kp.alloc w o) trivial
theorem Blk.own {base n c size:Nat} {xs:List Value} (h:Blk w g t cs) (hb:base≤g) (hn:n≤c) (hc:c≤maxLen) (hs:cs.size=c*size) (ht:cs.toList.take (n*size)=xs):w.ownsRow base t size (.slice (some ⟨g,0,none⟩) n c) n xs:=by
 refine⟨?_,.inr ⟨g,c,cs,O,hb,h,hn,hc,hs,ht⟩⟩
 rw[← ht,List.length_take,Array.length_toList,hs,Nat.min_eq_left (Nat.mul_le_mul_right _ hn)]
end
theorem wQ {w:World} {base:Nat} {e:TypeId} {size n c:Nat} {A:Option Addr} {xs:List Value} (h:w.ownsRow base e size (.slice A n c) n xs) (hn:0<n):
  ∃ g cs,A=some ⟨g,0,none⟩∧base≤g∧Blk w g e cs∧cs.size=c*size∧cs.toList.take (n*size)=xs:=by
 rcases h.2 with⟨_,h0⟩|⟨g,cap,cur,hv,hb,hh,_,_,hs,ht⟩
 ·omega
 ·injection hv with e1 e2 e3
  subst e1;subst e3
  exact⟨g,cur,O,hb,hh,hs,ht⟩
theorem Kp.setRow {w:World} (g:Nat) (cs:Array Value):Kp (fun k=>k≠g) w (w.setRow g cs):=
 ⟨O,O,O,by simp,fun i hF _=>setRow_other w g i cs hF⟩
section
variable {P:Program} (w:World)
end
end Go.Proofs.YtdeffdldifepkaaGreat
namespace Go.Proofs.YtdeffdldifepkaaGreat
open Go.RowKit
set_option linter.unusedVariables false
set_option linter.unusedSimpArgs false
abbrev aF:=List (Nat×Value)
def gT:aF→Nat→Option Value
 |[],_=>none
 |(i,v)::T,j=>bif Nat.beq i j then some v else gT T j
def az (T:aF):Operand→Option Value
 | .tmp t=>gT T t
 | .const v=>some v
 | .global g=>some (.pointer (some ⟨g,0,none⟩))
 | .func f=>some (.func (.func f) #[] #[])
structure Tm (n:Nat) (a:Act) (T:aF):Prop where
 size:a.tmps.size=n
 at_: ∀ i v,gT T i=some v→a.tmps[i]? =some v
theorem Tm.eval {n:Nat} {a:Act} {T:aF} (h:Tm n a T) {x:Operand} {v:Value} (hx:az T x=some v):a.eval x=v:=by
 cases x with
 |tmp t=>
  have:=h.at_ t v hx
  simp[Act.eval,this]
 |const u=>simpa[az,Act.eval] using hx
 |global g=>simpa[az,Act.eval] using hx
 |func f=>simpa[az,Act.eval] using hx
def gU (d:Option Tmp) (v:Value) (T:aF):aF:=
 match d with
 |some d=>(d,v)::T
 |none=>T
def i1 (n:Nat) (d:Option Tmp):Bool:=
 match d with
 |some d=>Nat.blt d n
 |none=>true
theorem hO (i:Nat) (v:Value) (T:aF) (j:Nat):gT ((i,v)::T) j=if i=j then some v else gT T j:=by
 by_cases h:i=j
 ·subst h;simp[gT]
 ·have:Nat.beq i j=false:=by
   rw[Bool.eq_false_iff]
   intro h'
   exact h (Nat.eq_of_beq_eq_true h')
  simp[gT,this,h]
theorem Tm.put {n:Nat} {a:Act} {T:aF} {d:Option Tmp} {v:Value} (h:Tm n a T) (hd:i1 n d=true):Tm n (a.put d v) (gU d v T):=by
 cases d with
 |none=>exact h
 |some d=>
  have hlt:d<n:=by
   have:=hd
   simp only[i1,Nat.blt] at this
   exact Nat.le_of_ble_eq_true this
  refine⟨by simp[Act.put,h.size],fun i u hi=>?_⟩
  simp only[gU,hO] at hi
  simp only[Act.put,Array.getElem?_setIfInBounds]
  by_cases hdi:d=i
  ·rw[if_pos hdi] at hi
   rw[if_pos hdi,if_pos (by rw[h.size];exact hlt)]
   exact hi
  ·rw[if_neg hdi] at hi
   rw[if_neg hdi]
   exact h.at_ i u hi
def Sub (T' T:aF):Prop:= ∀ i v,gT T' i=some v→gT T i=some v
theorem Sub.nil {T:aF}:Sub [] T:=fun _ _ h=>by cases h
theorem Sub.cons {T' T:aF} {i:Nat} {v:Value} (h:gT T i=some v) (hs:Sub T' T):Sub ((i,v)::T') T:=fun j u hj=>by
 rw[hO] at hj
 split at hj
 ·rename_i e;subst e;rw[h];exact hj
 ·exact hs j u hj
theorem Sub.refl (T:aF):Sub T T:=fun _ _ h=>h
theorem Tm.sub {n:Nat} {a:Act} {T T':aF} (h:Tm n a T) (hs:Sub T' T):Tm n a T':=⟨h.size,fun i v hi=>h.at_ i v (hs i v hi)⟩
def jL:Nat→List Value→aF
 |_,[]=>[]
 |k,v::vs=>(k,v)::jL (k+1) vs
theorem iC: ∀ (vs:List Value) (k i:Nat) (v:Value),gT (jL k vs) i=some v→k≤i∧vs[i-k]? =some v
 |[],_,_,_,h=>by cases h
 |u::us,k,i,v,h=>by
  rw[jL,hO] at h
  split at h
  ·rename_i e;subst e;exact⟨Nat.le_refl _,by simpa using h⟩
  ·rename_i hne
   obtain⟨h1,h2⟩:=iC us (k+1) i v h
   refine⟨by omega,?_⟩
   rw[show i-k=(i-(k+1))+1 by omega,List.getElem?_cons_succ]
   exact h2
inductive Asn where
 |pt (g:Nat) (t:TypeId) (cs:List Value)
 |row (e:TypeId) (size:Nat) (A:Option Addr) (n c:Nat) (xs:List Value)
 |rb (A:Option Addr) (n c:Nat) (l:List UInt8)
 |any (own:Nat→Prop) (holds:World→Prop) (stable: ∀ w w',Kp own w w'→holds w→holds w')
def Asn.own:Asn→Nat→Prop
 | .pt g _ _,k=>k=g
 | .row _ _ A n c _,k=>(Value.slice A n c).ownBlock=some k
 | .rb A _ _ _,k=> ∃ ad,A=some ad∧k=ad.block
 | .any o _ _,k=>o k
def Asn.holds:Asn→World→Prop
 | .pt g t cs,w=>Blk w g t cs.toArray
 | .row e size A n c xs,w=>w.ownsRow 0 e size (.slice A n c) n xs
 | .rb A n c l,w=>Bs w (fun k=> ∃ ad,A=some ad∧k=ad.block) A n c l
 | .any _ h _,w=>h w
theorem Asn.stable (A:Asn) (w w':World) (hk:Kp A.own w w') (h:A.holds w):A.holds w':=by
 cases A with
 |pt g t cs=>exact Blk.kp h hk O
 |row e size A n c xs=>exact po h hk (fun g hg=>hg)
 |rb A n c l=>exact Bs.keep h hk
 |any o hh s=>exact s w w' hk h
open Asn (pt row rb)
def Apart (A B:Asn):Prop:= ∀ k,A.own k→B.own k→False
structure St (w0:World) (M:Nat→Prop) (H:List Asn) (w:World):Prop where
 kp:Kp (fun k=> ¬ M k) w0 w
 all: ∀ A,A∈H→A.holds w∧ ∀ k,A.own k→(M k∨w0.heap.size≤k)∧k<w.heap.size
 apart:H.Pairwise Apart
theorem Apart.symm {A B:Asn} (h:Apart A B):Apart B A:=fun k a b=>h k b a
section
variable {w0 w w':World} {M:Nat→Prop} {H H':List Asn} {A A':Asn}
theorem St.nil (h:Kp bC w0 w):St w0 (fun _=>False) [] w:=⟨h.all,fun _ h=>(by cases h),List.Pairwise.nil⟩
theorem St.sublist (h:St w0 M H w) (hs:H'.Sublist H):St w0 M H' w:=⟨h.kp,fun A hA=>h.all A (hs.mem hA),h.apart.sublist hs⟩
theorem St.tail (h:St w0 M (A::H) w):St w0 M H w:=h.sublist (List.sublist_cons_self _ _)
theorem St.perm (h:St w0 M H w) (hp:H.Perm H'):St w0 M H' w:=⟨h.kp,fun A hA=>h.all A (hp.mem_iff.2 hA),hp.pairwise h.apart fun h=>Apart.symm h⟩
theorem St.step (h:St w0 M H w) (hk:Kp bC w w'):St w0 M H w':=
 ⟨h.kp.trans hk.all,fun A hA=>⟨A.stable w w' hk.all (h.all A hA).1,fun k hk'=>⟨((h.all A hA).2 k hk').1,Nat.lt_of_lt_of_le ((h.all A hA).2 k hk').2 hk.size⟩⟩,h.apart⟩
theorem St.add (h:St w0 M H w) (hk:Kp bC w w') (hA:A.holds w') (ho: ∀ k,A.own k→w.heap.size≤k∧k<w'.heap.size):St w0 M (A::H) w':=by
 have h':=h.step hk
 refine⟨h'.kp,fun B hB=>?_,List.Pairwise.cons (fun B hB k a b=>?_) h'.apart⟩
 ·rcases List.mem_cons.1 hB with rfl|hB
  ·exact⟨hA,fun k hk'=>⟨.inr (Nat.le_trans h.kp.size (ho k hk').1),(ho k hk').2⟩⟩
  ·exact h'.all B hB
 ·have:=((h.all B hB).2 k b).2
  have:=(ho k a).1
  omega
inductive Upd:List Asn→Asn→Asn→List Asn→Prop
 |here {A A':Asn} {H:List Asn}:Upd (A::H) A A' (A'::H)
 |there {A A' B:Asn} {H H':List Asn}:Upd H A A' H'→Upd (B::H) A A' (B::H')
theorem Upd.mem (u:Upd H A A' H'):A∈H:=by
 induction u with
 |here=>simp
 |there _ ih=>simp[ih]
theorem Upd.ind (u:Upd H A A' H'): ∀ B∈H',B=A'∨(B∈H∧(H.Pairwise Apart→Apart A B)):=by
 induction u with
 |here=>
  intro B hB
  rcases List.mem_cons.1 hB with rfl|hB
  ·exact .inl O
  ·exact .inr ⟨by simp[hB],fun hp=>(List.pairwise_cons.1 hp).1 B hB⟩
 |there u ih=>
  intro B hB
  rcases List.mem_cons.1 hB with rfl|hB
  ·exact .inr ⟨by simp,fun hp=>((List.pairwise_cons.1 hp).1 _ u.mem).symm⟩
  ·rcases ih B hB with h|⟨h1,h2⟩
   ·exact .inl h
   ·exact .inr ⟨by simp[h1],fun hp=>h2 (List.pairwise_cons.1 hp).2⟩
theorem Upd.pair (u:Upd H A A' H') (hp:H.Pairwise Apart) (ho: ∀ k,A'.own k→A.own k):H'.Pairwise Apart:=by
 induction u with
 |here=>
  obtain⟨h1,h2⟩:=List.pairwise_cons.1 hp
  exact List.Pairwise.cons (fun B hB k a b=>h1 B hB k (ho k a) b) h2
 |there u ih=>
  obtain⟨h1,h2⟩:=List.pairwise_cons.1 hp
  refine List.Pairwise.cons (fun B hB=>?_) (ih h2 ho)
  rcases u.ind B hB with rfl|⟨hm,_⟩
  ·exact fun k a b=>h1 _ u.mem k a (ho k b)
  ·exact h1 B hm
theorem St.upd (h:St w0 M H w) (u:Upd H A A' H') (hk:Kp (fun k=> ¬ A.own k) w w') (hA:A'.holds w') (ho: ∀ k,A'.own k→A.own k):St w0 M H' w':=by
 have hAm:=h.all A u.mem
 refine⟨?_,fun B hB=>?_,u.pair h.apart ho⟩
 ·have h2:Kp (fun k=> ¬ M k) w0 w':=by
   refine⟨h.kp.os▸hk.os,h.kp.tape▸hk.tape,h.kp.output▸hk.output,Nat.le_trans h.kp.size hk.size,fun k hM hlt=>?_⟩
   rw[hk.block k ?_ (Nat.lt_of_lt_of_le hlt h.kp.size)]
   ·exact h.kp.block k hM hlt
   ·intro hown
    rcases(hAm.2 k hown).1 with hm|hs
    ·exact hM hm
    ·omega
  exact h2
 ·rcases u.ind B hB with rfl|⟨hm,hap⟩
  ·exact⟨hA,fun k hb=>⟨(hAm.2 k (ho k hb)).1,Nat.lt_of_lt_of_le (hAm.2 k (ho k hb)).2 hk.size⟩⟩
  ·have hB':=h.all B hm
   refine⟨B.stable w w' (hk.mono fun k hb _ ha=>hap h.apart k ha hb) hB'.1,fun k hb=>⟨(hB'.2 k hb).1,Nat.lt_of_lt_of_le (hB'.2 k hb).2 hk.size⟩⟩
theorem St.turn (h:St w0 M H w) (u:Upd H A A' H') (hA:A.holds w→A'.holds w) (ho: ∀ k,A'.own k→A.own k):St w0 M H' w:=by
 refine h.upd u (Kp.refl _ _) (hA (h.all A u.mem).1) ho
end
class Hat (H:List Asn) (g:Nat) (t:outParam TypeId) (cs:outParam (List Value)):Prop where
 mem:pt g t cs∈H
instance (priority:=high) Hat.here {g:Nat} {t:TypeId} {cs:List Value} {H:List Asn}:Hat (pt g t cs::H) g t cs:=⟨by simp⟩
instance Hat.there {g:Nat} {t:TypeId} {cs:List Value} {A:Asn} {H:List Asn} [h:Hat H g t cs]:Hat (A::H) g t cs:=⟨by simp[h.mem]⟩
class HUp (H:List Asn) (g:Nat) (t:outParam TypeId) (cs:outParam (List Value)) (K:outParam (List Value→List Asn)):Prop where
 upd: ∀ cs',Upd H (pt g t cs) (pt g t cs') (K cs')
instance (priority:=high) HUp.here {g:Nat} {t:TypeId} {cs:List Value} {H:List Asn}:HUp (pt g t cs::H) g t cs (fun cs'=>pt g t cs'::H):=⟨fun _=> .here⟩
instance HUp.there {g:Nat} {t:TypeId} {cs:List Value} {A:Asn} {H:List Asn} {K:List Value→List Asn} [h:HUp H g t cs K]:HUp (A::H) g t cs (fun cs'=>A::K cs'):=⟨fun cs'=> .there (h.upd cs')⟩
class HRow (H:List Asn) (A:Option Addr) (n c:Nat) (e:outParam TypeId) (size:outParam Nat) (xs:outParam (List Value)) (H':outParam (List Asn)):Prop where
 perm:H.Perm (row e size A n c xs::H')
instance (priority:=high) HRow.here {e:TypeId} {size:Nat} {A:Option Addr} {n c:Nat} {xs:List Value} {H:List Asn}:HRow (row e size A n c xs::H) A n c e size xs H:=⟨List.Perm.refl _⟩
instance HRow.there {e:TypeId} {size:Nat} {A:Option Addr} {n c:Nat} {xs:List Value} {B:Asn} {H H':List Asn} [h:HRow H A n c e size xs H']:HRow (B::H) A n c e size xs (B::H'):=⟨(List.Perm.cons _ h.perm).trans (List.Perm.swap _ _ _)⟩
theorem HRow.mem {H H':List Asn} {e:TypeId} {size:Nat} {A:Option Addr} {n c:Nat} {xs:List Value} (h:HRow H A n c e size xs H'):row e size A n c xs∈H:=h.perm.mem_iff.2 (by simp)
def j9:List Oper→Nat→Option Tmp
 |[],_=>none
 |o::_,0=>o.dst
 |_::l,n+1=>j9 l n
def cJ (l:List Oper) (T:aF) (g:Option (Nat×Bool)):Option Bool:=
 match g with
 |none=>some true
 |some (j,b)=>
  match j9 l j with
  |none=>some false
  |some d=>
   match gT T d with
   |some (.bool c)=>some (c==b)
   |some (.tuple _)=>some false
   |_=>none
theorem nZ: ∀ (l:List Oper) (j:Nat),j9 l j=(l.toArray[j]?).bind (·.dst)
 |[],j=>by simp[j9]
 |o::l,0=>by simp[j9]
 |o::l,j+1=>by
  rw[j9,nZ l j]
  simp
theorem ia {n:Nat} {a:Act} {T:aF} (h:Tm n a T) {l:List Oper} {o:Oper} {b:Bool} (hw:cJ l T o.guard=some b):Region.wanted o (yielded l.toArray a.tmps)=b:=by
 unfold cJ at hw
 unfold Region.wanted
 cases hg:o.guard with
 |none=>rw[hg] at hw;simpa using hw
 |some jb=>
  obtain⟨j,want⟩:=jb
  rw[hg] at hw
  simp only at hw ⊢
  unfold yielded
  rw[← nZ]
  cases hd:j9 l j with
  |none=>rw[hd] at hw;simp at hw ⊢;exact hw
  |some d=>
   rw[hd] at hw
   simp only[Option.bind_some] at hw ⊢
   cases ht:gT T d with
   |none=>rw[ht] at hw;simp at hw
   |some v=>
    rw[ht] at hw
    rw[h.at_ d v ht]
    cases v with
    |bool c=>simp at hw ⊢;rw[← hw]
    |tuple vs=>simp at hw ⊢;exact hw
    |_=>simp at hw
inductive It where
 |code (c:Code)
 |blk (id:Nat)
 |back (J:Act→World→Prop)
 |seg
def Fw (ro:Option Nat):Fence:={Fence.wide with round:=ro}
def Bk (ro:Option Nat) (ds:List Deferred):Type:=Exit→Act→World→Prop
section
variable {ro:Option Nat} {ds:List Deferred}
def QS (P:Program) (B:Bk ro ds):List It→Exit→Act→World→Prop
 |[]=>B
 | .code c::k=>Exit.then (fun a w=>c.wpIn (Fw ro) 0 P (QS P B k) a w) (QS P B k)
 | .blk id::k=>Exit.inBlock id (QS P B k)
 | .back J::k=>Exit.then J (QS P B k)
 | .seg::k=>Exit.noGoto (QS P B k)
end
def mK (P:Program) (o:Oper) (a:Act) (w:World) (K:Act→World→Prop) (Q:Exit→Act→World→Prop):Prop:=o.uponIn Fence.wide 0 P a K Q ((execOp a.eval o).run P w)
theorem wR {P:Program} {row:String} {args:Array Value} {w:World} {R:Value→World→Prop} (h:Rows P row args w R):RowsIn Fence.wide 0 P row args w R:=
 fun c cs _=>let ⟨v,w',r,s⟩:=h c cs;⟨v,w',r,stepsIn_wide.2 s⟩
theorem y4 {P:Program} {o:Oper} {a:Act} {w:World} {K:Act→World→Prop} {Q:Exit→Act→World→Prop} (h:o.wp P a w K Q):mK P o a w K Q:=by
 unfold Oper.wp at h
 unfold mK
 generalize (execOp a.eval o).run P w=r at*
 cases r with
 |ok x w'=>
  cases x<;>simp only[Oper.upon,Oper.uponIn] at h ⊢ <;>first
   |exact h
   |exact⟨fun h=>(by cases h),callsIn_wide.2 h⟩
   |exact⟨fun h=>(by cases h),wR h⟩
   |exact h.elim
 |halt x w'=>cases x<;>simp only[Oper.upon,Oper.uponIn] at h ⊢ <;>exact h
theorem i4 {P:Program} {o:Oper} {a:Act} {w:World} {K K':Act→World→Prop} {Q:Exit→Act→World→Prop} (h: ∀ a w,K a w→K' a w) (hh:mK P o a w K Q):mK P o a w K' Q:=by
 unfold mK at*
 generalize (execOp a.eval o).run P w=r at*
 cases r with
 |ok x w'=>
  cases x<;>simp only[Oper.uponIn] at hh ⊢ <;>
   first
    |exact h _ _ hh
    |exact⟨hh.1,CallsIn.mono hh.2 (fun e w'' he=>by cases e<;>first|exact h _ _ he|exact he)⟩
    |exact⟨hh.1,RowsIn.mono hh.2 (fun _ _ he=>h _ _ he)⟩
    |exact⟨hh.1,RoundIn.mono hh.2 (fun e w'' he=>by cases e<;>first|exact h _ _ he|exact he)⟩
 |halt x w'=>cases x<;>simp only[Oper.uponIn] at hh ⊢ <;>exact hh
structure Tk (P:Program) (n:Nat) (w0:World) (M:Nat→Prop) (T:aF) (H:List Asn) (o:Oper) (v:Value):Prop where
 run: ∀ a w,Tm n a T→St w0 M H w→(execOp a.eval o).run P w= .ok (.value v) w
structure Ef (P:Program) (n:Nat) (w0:World) (M:Nat→Prop) (T:aF) (H:List Asn) (o:Oper) (E:Value→List Asn→Prop):Prop where
 mkIn::
 run: ∀ a w,Tm n a T→St w0 M H w→mK P o a w (fun a' w'=> ∃ v H',E v H'∧a'=a.put o.dst v∧St w0 M H' w') (fun _ _ _=>False)
theorem Ef.mk {P:Program} {n:Nat} {w0:World} {M:Nat→Prop} {T:aF} {H:List Asn} {o:Oper} {E:Value→List Asn→Prop} (h: ∀ a w,Tm n a T→St w0 M H w→o.wp P a w (fun a' w'=> ∃ v H',E v H'∧a'=a.put o.dst v∧St w0 M H' w') (fun _ _ _=>False)):Ef P n w0 M T H o E:=
 .mkIn fun a w ha hs=>y4 (h a w ha hs)
section
variable (P:Program) {ro:Option Nat} {ds:List Deferred} (B:Bk ro ds) (n:Nat) (w0:World) (M:Nat→Prop)
structure RS (k:List It) (T:aF) (H:List Asn):Prop where
 mkD::
 runD: ∀ a w,a.defers=ds→Tm n a T→St w0 M H w→QS P B k .normal a w
inductive RG (l:List Oper) (k:List It):List Oper→aF→List Asn→Prop
 |nil {T:aF} {H:List Asn} (h:RS P B n w0 M k T H):RG l k [] T H
 |take {o:Oper} {σ:List Oper} {T:aF} {H:List Asn} {v:Value} (hw:cJ l T o.guard=some true) (hd:i1 n o.dst=true)
   (hr:Tk P n w0 M T H o v) (h:RG l k σ (gU o.dst v T) H):RG l k (o::σ) T H
 |skip {o:Oper} {σ:List Oper} {T:aF} {H:List Asn} (hw:cJ l T o.guard=some false) (hd:i1 n o.dst=true) (h:RG l k σ (gU o.dst undef T) H):RG l k (o::σ) T H
 |eff {o:Oper} {σ:List Oper} {T:aF} {H:List Asn} {E:Value→List Asn→Prop} (hw:cJ l T o.guard=some true) (hd:i1 n o.dst=true)
   (hr:Ef P n w0 M T H o E) (h: ∀ v H',E v H'→RG l k σ (gU o.dst v T) H'):RG l k (o::σ) T H
end
theorem put_defers (a:Act) (d:Option Tmp) (v:Value):(a.put d v).defers=a.defers:=by cases d<;>rfl
theorem mL {P:Program} {o:Oper} {a:Act} {w:World} {K:Act→World→Prop} {Q:Exit→Act→World→Prop} (h:mK P o a w K (fun _ _ _=>False)):mK P o a w K Q:=by
 unfold mK at*
 generalize (execOp a.eval o).run P w=r at*
 cases r with
 |ok x w'=>
  cases x<;>simp only[Oper.uponIn] at h ⊢ <;>first
   |exact h
   |exact⟨h.1,CallsIn.mono h.2 fun e w'' he=>(by cases e<;>first|exact he|exact he.elim|(obtain⟨_,_,hf⟩:=he;exact hf.elim))⟩
   |exact⟨h.1,RoundIn.mono h.2 fun e w'' he=>(by cases e<;>first|exact he|exact he.elim|(obtain⟨_,_,hf⟩:=he;exact hf.elim))⟩
 |halt x w'=>
  cases x<;>simp only[Oper.uponIn] at h
theorem t0 {P:Program} {o:Oper} {a:Act} {w:World} {E:Value→World→Prop} (h:mK P o a w (fun a' w'=> ∃ v,a'=a.put o.dst v∧E v w') (fun _ _ _=>False)): ∀ c,o.op≠ .defer c:=fun c hc=>by
 unfold mK at h
 have he:execOp a.eval o=(do pure (.defer (← resolve a.eval c o.type)):Sem Next):=by
  unfold execOp
  rw[hc]
 rw[he,Sem.run_bind] at h
 generalize (resolve a.eval c o.type).run P w=r at h
 cases r with
 |ok d w'=>
  simp only[Result.andThen_ok,Sem.run_pure,Oper.uponIn] at h
  obtain⟨v,h1,_⟩:=h
  have:=congrArg Act.defers h1
  rw[put_defers,put_defers] at this
  have:=congrArg List.length this
  simp at this
 |halt x w'=>
  cases x<;>simp only[Result.andThen,Oper.uponIn] at h
theorem Az {P:Program} {o:Oper} {a:Act} {w:World} {v:Value} (h:(execOp a.eval o).run P w= .ok (.value v) w): ∀ c,o.op≠ .defer c:=
 t0 (E:=fun _ _=>True) (a:=a) (w:=w) (P:=P) (by unfold mK;rw[h];exact⟨v,O,trivial⟩)
theorem pq {P:Program} {ro:Option Nat} {o:Oper} {a:Act} {w:World} {K:Act→World→Prop} {Q:Exit→Act→World→Prop} (hd:ro=none∨ ∀ c,o.op≠ .defer c) (h:mK P o a w K Q):o.wpIn (Fw ro) 0 P a w K Q:=by
 refine⟨fun _ _=>trivial,?_⟩
 have e:Oper.semAt (Fw ro).round a.eval o=execOp a.eval o:=by
  rcases hd with rfl|hd
  ·rfl
  ·exact Oper.semAt_eq _ _ _ hd
 rw[e]
 unfold mK at h
 generalize (execOp a.eval o).run P w=r at*
 cases r with
 |ok x w'=>cases x<;>exact h
 |halt x w'=>cases x<;>exact h
section
variable {P:Program} {ro:Option Nat} {ds:List Deferred} {B:Bk ro ds} {n:Nat} {w0:World} {M:Nat→Prop} {k:List It} {T:aF} {H:List Asn}
theorem RS.mk (h: ∀ a w,Tm n a T→St w0 M H w→QS P B k .normal a w):RS P B n w0 M k T H:=⟨fun a w _ ha hs=>h a w ha hs⟩
theorem RG.list {l σ:List Oper} (h:RG P B n w0 M l k σ T H): ∀ a w,a.defers=ds→Tm n a T→St w0 M H w→wpListIn (Fw ro) 0 P l.toArray (QS P B k) σ a w:=by
 induction h with
 |nil h=>exact fun a w had ha hw=>wpListIn_nil (h.runD a w had ha hw)
 |take hw hd hr _ ih=>
  intro a w had ha hs
  unfold wpListIn
  rw[if_pos (ia ha hw)]
  have h1:=hr.run a w ha hs
  refine pq (.inr (Az h1)) ?_
  unfold mK
  rw[h1]
  exact ih _ _ (by rw[put_defers];exact had) (ha.put hd) hs
 |skip hw hd _ ih=>
  intro a w had ha hs
  unfold wpListIn
  rw[if_neg (by rw[ia ha hw];simp)]
  exact⟨fun _ _=>trivial,ih _ _ (by rw[put_defers];exact had) (ha.put hd) hs⟩
 | @eff o σ T H E hw hd hr _ ih=>
  intro a w had ha hs
  unfold wpListIn
  rw[if_pos (ia ha hw)]
  have h1:=hr.run a w ha hs
  refine pq (.inr (t0 (E:=fun v w'=> ∃ H',E v H'∧St w0 M H' w') (i4 ?_ h1))) (mL (i4 ?_ h1))
  ·rintro a' w' ⟨v,H',hE,rfl,hs'⟩
   exact⟨v,O,H',hE,hs'⟩
  ·rintro a' w' ⟨v,H',hE,rfl,hs'⟩
   exact ih v H' hE _ _ (by rw[put_defers];exact had) (ha.put hd) hs'
theorem y5 {x y:Code} (h:RS P B n w0 M (.code x:: .code y::k) T H):RS P B n w0 M (.code (.seq x y)::k) T H:=⟨fun a w had ha hs=>wpIn_seq (h.runD a w had ha hs)⟩
theorem t3 {id:Nat} {c:Code} (h:RS P B n w0 M (.code c:: .blk id::k) T H):RS P B n w0 M (.code (.block id c)::k) T H:=⟨fun a w had ha hs=>wpIn_block (h.runD a w had ha hs)⟩
theorem aK {id:Nat} (h:RS P B n w0 M k T H):RS P B n w0 M (.blk id::k) T H:=⟨fun a w had ha hs=>h.runD a w had ha hs⟩
theorem wS (h:RS P B n w0 M k T H):RS P B n w0 M (.code .skip::k) T H:=⟨fun a w had ha hs=>wpIn_skip (h.runD a w had ha hs)⟩
theorem t4 {i:Nat} (h:RS P B n w0 M k T H):RS P B n w0 M (.code (.label i)::k) T H:=⟨fun a w had ha hs=>wpIn_label (h.runD a w had ha hs)⟩
theorem t5 {B:Bk none ds} {c:Code} (h:RS P B n w0 M (.code c:: .seg::k) T H):RS P B n w0 M (.code (.scope c)::k) T H:=⟨fun a w had ha hs=>wpIn_wide.2 (wp_scope_straight (wpIn_wide.1 (h.runD a w had ha hs)))⟩
theorem sv {id:Nat} {l:List Oper} (h:RG P B n w0 M l k l T H):RS P B n w0 M (.code (.region id l.toArray false)::k) T H:=⟨fun a w had ha hs=>wpIn_region_lit (h.list a w had ha hs)⟩
def mM (id:Nat):List It→Option (List It)
 |[]=>none
 | .blk i::k=>bif Nat.beq i id then some k else mM id k
 |_::k=>mM id k
theorem i5 {id:Nat}: ∀ {k k':List It} {a:Act} {w:World},mM id k=some k'→QS P B k' .normal a w→QS P B k (.exit id) a w
 |[],_,_,_,h,_=>by cases h
 | .blk i::k,k',a,w,h,hq=>by
  simp only[mM] at h
  by_cases hi:i=id
  ·subst hi
   simp at h
   subst h
   simpa[QS,Exit.inBlock] using hq
  ·have hb:Nat.beq i id=false:=by
    rw[Bool.eq_false_iff]
    intro h'
    exact hi (Nat.eq_of_beq_eq_true h')
   rw[hb] at h
   have:=i5 h hq
   have hne: ¬ id=i:=fun e=>hi e.symm
   simpa[QS,Exit.inBlock,hne] using this
 | .code c::k,_,_,_,h,hq=>i5 (k:=k) h hq
 | .back J::k,_,_,_,h,hq=>i5 (k:=k) h hq
 | .seg::k,_,_,_,h,hq=>i5 (k:=k) h hq
theorem wT {id:Nat} {k':List It} (hp:mM id k=some k') (h:RS P B n w0 M k' T H):RS P B n w0 M (.code (.exit id)::k) T H:=⟨fun a w had ha hs=>wpIn_exit (i5 hp (h.runD a w had ha hs))⟩
theorem qN {c:Operand} {x y:Code} (hc:az T c=some (.bool true)) (h:RS P B n w0 M (.code x::k) T H):RS P B n w0 M (.code (.cond c x y)::k) T H:=⟨fun a w had ha hs=>wpIn_cond_true (ha.eval hc) (h.runD a w had ha hs)⟩
theorem n0 {c:Operand} {x y:Code} (hc:az T c=some (.bool false)) (h:RS P B n w0 M (.code y::k) T H):RS P B n w0 M (.code (.cond c x y)::k) T H:=⟨fun a w had ha hs=>wpIn_cond (t:=false) (ha.eval hc) (h.runD a w had ha hs)⟩
theorem qO {c:Operand} {x y:Code} {b:Bool} (hc:az T c=some (.bool b)) (h1:b=true→RS P B n w0 M (.code x::k) T H) (h2:b=false→RS P B n w0 M (.code y::k) T H):RS P B n w0 M (.code (.cond c x y)::k) T H:=by
 cases b
 ·exact n0 hc (h2 O)
 ·exact qN hc (h1 O)
theorem AA {c:Operand} {x y:Code} {p:Prop} {i:Decidable p} (hc:az T c=some (.bool (@decide p i))) (h1:p→RS P B n w0 M (.code x::k) T H) (h2: ¬ p→RS P B n w0 M (.code y::k) T H):RS P B n w0 M (.code (.cond c x y)::k) T H:=
 qO hc (fun h=>h1 (of_decide_eq_true h)) (fun h=>h2 (of_decide_eq_false h))
theorem gE {a:Act} {w:World}: ∀ {k:List It},(∀ it∈k,it≠ .seg∨True)→B .ret a w→QS P B k .ret a w
 |[],_,h=>h
 | .code _::k,hk,h=>gE (k:=k) (fun _ _=> .inr trivial) h
 | .blk _::k,hk,h=>gE (k:=k) (fun _ _=> .inr trivial) h
 | .back _::k,hk,h=>gE (k:=k) (fun _ _=> .inr trivial) h
 | .seg::k,hk,h=>gE (k:=k) (fun _ _=> .inr trivial) h
def mD (rs:List ResultVar) (T:aF):Option (List Value):=
 match rs with
 |[]=>some []
 | .tmp t::rs=>match gT T t,mD rs T with
  |some v,some vs=>some (v::vs)
  |_,_=>none
 | .cell _ _::_=>none
def jF:List Value→Value
 |[v]=>v
 |vs=> .tuple vs.toArray
theorem qP {a:Act} (h:Tm n a T) (P:Program) (w:World): ∀ {rs:List ResultVar} {vs:List Value},mD rs T=some vs→
  (rs.mapM (fun|ResultVar.tmp t=>(pure (a.tmps.getD t undef):Sem Value)|ResultVar.cell a' t=>do loadVar t (← asAddr (a.tmps.getD a' undef)))).run P w=Result.ok vs w
 |[],vs,hr=>by simp[mD] at hr;subst hr;simp
 | .tmp t::rs,vs,hr=>by
  simp only[mD] at hr
  split at hr
  ·rename_i v us hv hus
   injection hr with hr
   subst hr
   have h1:=qP h P w hus
   have h2:a.tmps.getD t undef=v:=by have:=h.at_ t v hv;simp[this]
   simp only[List.mapM_cons,Sem.run_bind,Sem.run_pure,Result.andThen_ok,h1,h2]
  ·cases hr
 | .cell _ _::_,_,hr=>by simp[mD] at hr
def sx (P:Program) {ro:Option Nat} {ds:List Deferred} (B:Bk ro ds) (n:Nat) (w0:World) (M:Nat→Prop) (rs:List ResultVar) (R:Ending→World→Prop):Prop:=
 ∀ a w v,a.defers=ds→(∀ fn:Func,fn.results=rs.toArray→(results fn a.tmps).run P w= .ok v w)→R (.returned v) w→B .ret a w∧B .normal a w
theorem qQ {a:Act} (h:Tm n a T) {rs:List ResultVar} {vs:List Value} (hr:mD rs T=some vs) (w:World): ∀ fn:Func,fn.results=rs.toArray→(results fn a.tmps).run P w= .ok (jF vs) w:=fun fn hf=>by
 have h1:=qP h P w hr
 simp only[results,hf,List.mapM_toArray,Sem.run_bind,Sem.run_map]
 erw [h1]
 rcases vs with _|⟨v,_|⟨u,us⟩⟩<;>simp[jF]
theorem y6 {rs:List ResultVar} {R:Ending→World→Prop} {vs:List Value} (hB:sx P B n w0 M rs R) (hr:mD rs T=some vs) (h: ∀ w,St w0 M H w→R (.returned (jF vs)) w):RS P B n w0 M (.code .ret::k) T H:=⟨fun a w had ha hs=>
 wpIn_ret (gE (fun _ _=> .inr trivial) (hB a w _ had (qQ ha hr w) (h w hs)).1)⟩
theorem t6 {rs:List ResultVar} {R:Ending→World→Prop} {vs:List Value} (hB:sx P B n w0 M rs R) (hr:mD rs T=some vs) (h: ∀ w,St w0 M H w→R (.returned (jF vs)) w):RS P B n w0 M [] T H:=⟨fun a w had ha hs=>
 (hB a w _ had (qQ ha hr w) (h w hs)).2⟩
theorem ka {f:FuncId} {fn:Func} {c:Code} {vs:List Value} {rs:List ResultVar} {w:World} {R:Ending→World→Prop} (hf:P.funcs[f]? =some fn) (hb:fn.body=some c) (hn:fn.ntmps=n) (hr:fn.results=rs.toArray)
  (hv:vs.length≤n) (hS:St w0 M H w) (h: ∀ B:Bk none [],sx P B n w0 M rs R→RS P B n w0 M [.code c] (jL 0 vs) H):Calls P f vs.toArray w R:=by
 refine calls_of_wp hf hb ((wpIn_wide (n:=0)).1 ?_)
 have hB:sx P (B:=bodyPost P fn R) (ro:=none) (ds:=[]) n w0 M rs R:=fun a w v hd hrun hR=>⟨⟨hd,v,hrun fn hr,hR⟩,⟨hd,v,hrun fn hr,hR⟩⟩
 refine(h _ hB).runD _ w O ⟨?_,fun i v hi=>?_⟩ hS
 ·simp[hn];omega
 ·obtain⟨_,h2⟩:=iC vs 0 i v hi
  have hlt:=(List.getElem?_eq_some_iff.1 h2).1
  simp only[Nat.sub_zero] at hlt h2
  have h3:(vs.toArray++Array.replicate (fn.ntmps-vs.toArray.size) undef)[i]? =vs[i]? :=by rw[Array.getElem?_append_left (by simpa using hlt)];simp
  exact h3.trans h2
theorem y7 {X:Type} {c:Code} (T':X→aF) (H':X→List Asn) (I:X→Prop)
  (h1: ∀ J,(∀ y T1 H1,I y→Sub (T' y) T1→(∀ w,St w0 M H1 w→St w0 M (H' y) w)→RS P B n w0 M (.back J::k) T1 H1)→RS P B n w0 M (.code c:: .back J::k) T H)
  (h2: ∀ y,I y→RS P B n w0 M k (T' y) (H' y)):RS P B n w0 M (.code c::k) T H:=⟨fun a w had ha hs=>by
 have:=(h1 (fun a w=>a.defers=ds∧ ∃ y,I y∧Tm n a (T' y)∧St w0 M (H' y) w) (fun y T1 H1 hI hT hH=>⟨fun a w had ha hs=>⟨had,y,hI,ha.sub hT,hH w hs⟩⟩)).runD a w had ha hs
 refine wpIn_mono this fun e a' w' hq=>?_
 cases e with
 |normal=>
  obtain⟨had',y,hI,hT,hH⟩:=hq
  exact(h2 y hI).runD a' w' had' hT hH
 |_=>exact hq⟩
theorem wU {X:Type} {c:Code} (T':X→aF) (H':X→List Asn) (I:X→Prop) (μ:X→Nat)
  (x0:X) (h0:I x0) (hT:Sub (T' x0) T) (hH: ∀ w,St w0 M H w→St w0 M (H' x0) w)
  (round: ∀ x,I x→ ∀ J,(∀ y T1 H1,I y→Sub (T' y) T1→(∀ w,St w0 M H1 w→St w0 M (H' y) w)→μ y<μ x→RS P B n w0 M (.back J::k) T1 H1)→RS P B n w0 M (.code c:: .back J::k) (T' x) (H' x)):
  RS P B n w0 M (.code (.loop c)::k) T H:=by
 refine⟨fun a w had ha hs=>?_⟩
 refine wpIn_loop_ghost (fun m a w=> ∃ x,μ x=m∧I x∧a.defers=ds∧Tm n a (T' x)∧St w0 M (H' x) w) (μ x0) ⟨x0,O,h0,had,ha.sub hT,hH w hs⟩ ?_
 rintro m a w ⟨x,rfl,hI,had,hTx,hHx⟩
 have hr:=(round x hI (fun a w=> ∃ y,I y∧μ y<μ x∧a.defers=ds∧Tm n a (T' y)∧St w0 M (H' y) w) (fun y T1 H1 hI hT hH hlt=>⟨fun a w had ha hs=>⟨y,hI,hlt,had,ha.sub hT,hH w hs⟩⟩)).runD a w had hTx hHx
 refine wpIn_mono hr fun e a' w' hq=>?_
 cases e with
 |normal=>
  obtain⟨y,hIy,hlt,had',hTy,hHy⟩:=hq
  exact⟨μ y,hlt,y,O,hIy,had',hTy,hHy⟩
 |_=>exact hq
end
end Go.Proofs.YtdeffdldifepkaaGreat
namespace Go.Proofs.YtdeffdldifepkaaGreat
open Go.RowKit
open Asn (pt row rb)
set_option linter.unusedVariables false
set_option linter.unusedSimpArgs false
structure Ti where
 desc:TypeDesc
 zero:Value
 size:Nat
 bytes:Nat
 fs:List (Nat×Nat)
def t7 {α:Type}:List α→Nat→Option α
 |[],_=>none
 |x::_,0=>some x
 |_::xs,n+1=>t7 xs n
def fieldsOf:TypeDesc→List (Nat×Nat)
 | .struct fs=>fs.toList.map fun f=>(f.offset,f.type)
 |_=>[]
def qR:List (Nat×Ti)→Nat→Option Ti
 |[],_=>none
 |(i,v)::T,j=>bif Nat.beq i j then some v else qR T j
def Ti.of (P:Program) (t:TypeId) (i:Ti):Prop:=P.underlying t=some i.desc∧(P.info? t).map (fun i=>(i.zero,i.size,i.bytes))=some (some i.zero,i.size,i.bytes)∧fieldsOf i.desc=i.fs
def TabOk (P:Program):List (Nat×Ti)→Prop
 |[]=>True
 |(t,i)::l=>Ti.of P t i∧TabOk P l
class HasTab (P:Program) where
 tab:List (Nat×Ti)
 ok:TabOk P tab
theorem TabOk.find {P:Program}: ∀ {l:List (Nat×Ti)} {t:Nat} {i:Ti},TabOk P l→qR l t=some i→Ti.of P t i
 |[],_,_,_,h=>by cases h
 |(u,j)::l,t,i,hl,h=>by
  simp only[qR] at h
  by_cases hu:u=t
  ·subst hu
   simp at h
   subst h
   exact hl.1
  ·have hb:Nat.beq u t=false:=by
    rw[Bool.eq_false_iff]
    intro h'
    exact hu (Nat.eq_of_beq_eq_true h')
   rw[hb] at h
   exact hl.2.find h
def ty (P:Program) [HasTab P] (t:Nat):Option Ti:=qR (HasTab.tab P) t
theorem cH {P:Program} [HasTab P] {t:Nat} {i:Ti} (h:ty P t=some i):P.underlying t=some i.desc:=((HasTab.ok (P:=P)).find h).1
theorem kb {P:Program} [HasTab P] {t:Nat} {i:Ti} (h:ty P t=some i): ∃ j,P.info? t=some j∧j.zero=some i.zero∧j.size=i.size∧j.bytes=i.bytes:=info_parts ((HasTab.ok (P:=P)).find h).2.1
theorem AB {P:Program} [HasTab P] {t:Nat} {i:Ti} (h:ty P t=some i):fieldsOf i.desc=i.fs:=((HasTab.ok (P:=P)).find h).2.2
theorem ev {P:Program} [HasTab P] {t:Nat} {i:Ti} (h:ty P t=some i) (w:World):(sizeOf t).run P w= .ok i.size w:=by
 obtain⟨j,h1,_,h3,_⟩:=kb h
 simp[sizeOf,typeInfo,h1,h3]
theorem kc {P:Program} [HasTab P] {t:Nat} {i:Ti} (h:ty P t=some i) (w:World):(zeroValue t).run P w= .ok i.zero w:=by
 obtain⟨j,h1,h2,_,_⟩:=kb h
 simp[zeroValue,typeInfo,h1,h2]
def fZ:TypeDesc→Bool
 | .struct _=>true
 | .array _ _=>true
 |_=>false
theorem t8 {P:Program} [HasTab P] {t:Nat} {i:Ti} (h:ty P t=some i) (w:World):(isAgg t).run P w= .ok (fZ i.desc) w:=by
 unfold isAgg
 rw[Sem.run_bind,run_underlying (cH h) w]
 cases i.desc<;>simp[fZ]
def cg (T:aF):List Operand→Option (List Value)
 |[]=>some []
 |x::xs=>match az T x,cg T xs with
  |some v,some vs=>some (v::vs)
  |_,_=>none
theorem Tm.evals {n:Nat} {a:Act} {T:aF} (h:Tm n a T): ∀ {xs:List Operand} {vs:List Value},cg T xs=some vs→xs.map a.eval=vs
 |[],vs,hx=>by simp[cg] at hx;subst hx;rfl
 |x::xs,vs,hx=>by
  simp only[cg] at hx
  split at hx
  ·rename_i v us hv hus
   injection hx with hx
   subst hx
   rw[List.map_cons,h.eval hv,h.evals hus]
  ·cases hx
section
variable {P:Program} {ro:Option Nat} {ds:List Deferred} {B:Bk ro ds} {n:Nat} {w0:World} {M:Nat→Prop} {k:List It} {T:aF} {H:List Asn} {l σ:List Oper} {d:Tmp} {dd:Option Tmp} {tt:TypeId} {pos:String} {af:Array Edge} {g:Option (Nat×Bool)}
theorem ax (h:RS P B n w0 M k T H):RG P B n w0 M l k [] T H:= .nil h
theorem aU {op:Op} (h:RG P B n w0 M l k σ ((d,undef)::T) H) (hw:cJ l T g=some false) (hd:i1 n (some d)=true):RG P B n w0 M l k (⟨some d,op,tt,pos,af,g⟩::σ) T H:= .skip hw hd h
theorem iD {T':aF} (hs:Sub T' T) (h:RS P B n w0 M k T' H):RS P B n w0 M k T H:=⟨fun a w had ha hw=>h.runD a w had (ha.sub hs) hw⟩
theorem eu {H':List Asn} (hs: ∀ w,St w0 M H w→St w0 M H' w) (h:RS P B n w0 M k T H'):RS P B n w0 M k T H:=⟨fun a w had ha hw=>h.runD a w had ha (hs w hw)⟩
theorem Sub.put {T' T:aF} (h:Sub T' T) (d:Option Tmp) (v:Value):Sub (gU d v T') (gU d v T):=by
 cases d with
 |none=>exact h
 |some d=>
  intro i u hi
  simp only[gU,hO] at hi ⊢
  split
  ·rename_i e;rw[if_pos e] at hi;exact hi
  ·rename_i e;rw[if_neg e] at hi;exact h i u hi
theorem gy {T' T:aF} (h:Sub T' T) {l:List Oper} {g:Option (Nat×Bool)} {b:Bool} (hw:cJ l T' g=some b):cJ l T g=some b:=by
 unfold cJ at*
 cases g with
 |none=>exact hw
 |some jb=>
  obtain⟨j,want⟩:=jb
  simp only at hw ⊢
  cases hd:j9 l j with
  |none=>rw[hd] at hw;exact hw
  |some d=>
   rw[hd] at hw
   simp only at hw ⊢
   cases ht:gT T' d with
   |none=>rw[ht] at hw;cases hw
   |some v=>rw[ht] at hw;rw[h d v ht];exact hw
theorem RG.sub {T':aF} (h:RG P B n w0 M l k σ T' H): ∀ {T:aF},Sub T' T→RG P B n w0 M l k σ T H:=by
 induction h with
 |nil h=>exact fun hs=> .nil (iD hs h)
 |take hw hd hr _ ih=>exact fun hs=> .take (gy hs hw) hd ⟨fun a w ha hw=>hr.run a w (ha.sub hs) hw⟩ (ih (hs.put _ _))
 |skip hw hd _ ih=>exact fun hs=> .skip (gy hs hw) hd (ih (hs.put _ _))
 |eff hw hd hr _ ih=>exact fun hs=> .eff (gy hs hw) hd ⟨fun a w ha hw=>hr.run a w (ha.sub hs) hw⟩ (fun v H' hE=>ih v H' hE (hs.put _ _))
theorem Sub.same {d:Tmp} {v:Value} (h:gT T d=some v):Sub ((d,v)::T) T:=fun i u hi=>by
 rw[hO] at hi
 split at hi
 ·rename_i e;subst e;rw[h];exact hi
 ·exact hi
def yx (l:List Oper) (g:Option (Nat×Bool)):Option Tmp:=
 match g with
 |none=>none
 |some (j,_)=>j9 l j
theorem nj {c:Bool} {op:Op} {dd:Option Tmp} (hg:yx l g=some d) (hc:gT T d=some (.bool c)) (h1:c=true→RG P B n w0 M l k (⟨dd,op,tt,pos,af,g⟩::σ) ((d,.bool true)::T) H)
  (h2:c=false→RG P B n w0 M l k (⟨dd,op,tt,pos,af,g⟩::σ) ((d,.bool false)::T) H):RG P B n w0 M l k (⟨dd,op,tt,pos,af,g⟩::σ) T H:=by
 cases c
 ·exact(h2 O).sub (Sub.same hc)
 ·exact(h1 O).sub (Sub.same hc)
theorem ie {p:Prop} {i:Decidable p} {op:Op} {dd:Option Tmp} (hg:yx l g=some d) (hc:gT T d=some (.bool (@decide p i))) (h1:p→RG P B n w0 M l k (⟨dd,op,tt,pos,af,g⟩::σ) ((d,.bool true)::T) H)
  (h2: ¬ p→RG P B n w0 M l k (⟨dd,op,tt,pos,af,g⟩::σ) ((d,.bool false)::T) H):RG P B n w0 M l k (⟨dd,op,tt,pos,af,g⟩::σ) T H:=
 nj hg hc (fun h=>h1 (of_decide_eq_true h)) (fun h=>h2 (of_decide_eq_false h))
theorem aa {op:Op} {v:Value} (hr:Tk P n w0 M T H ⟨some d,op,tt,pos,af,g⟩ v) (h:RG P B n w0 M l k σ ((d,v)::T) H)
  (hw:cJ l T g=some true) (hd:i1 n (some d)=true):RG P B n w0 M l k (⟨some d,op,tt,pos,af,g⟩::σ) T H:= .take hw hd hr h
theorem an {op:Op} {E:Value→List Asn→Prop} (hr:Ef P n w0 M T H ⟨some d,op,tt,pos,af,g⟩ E) (h: ∀ v H',E v H'→RG P B n w0 M l k σ ((d,v)::T) H')
  (hw:cJ l T g=some true) (hd:i1 n (some d)=true):RG P B n w0 M l k (⟨some d,op,tt,pos,af,g⟩::σ) T H:= .eff hw hd hr h
theorem bh {op:Op} {E:Value→List Asn→Prop} (hr:Ef P n w0 M T H ⟨none,op,tt,pos,af,g⟩ E) (h: ∀ v H',E v H'→RG P B n w0 M l k σ T H')
  (hw:cJ l T g=some true):RG P B n w0 M l k (⟨none,op,tt,pos,af,g⟩::σ) T H:= .eff hw O hr h
theorem y8 {x:Operand} {v:Value} (hx:az T x=some v):Tk P n w0 M T H ⟨dd,.move x,tt,pos,af,g⟩ (v):=
 .mk (fun a w ha _=>by simp[execOp,ha.eval hx])
theorem t9 {x:Operand} {v:Value} (hx:az T x=some v):Tk P n w0 M T H ⟨dd,.assign x,tt,pos,af,g⟩ (v):=
 .mk (fun a w ha _=>by simp[execOp,ha.eval hx])
def n6:BinOp→IntKind→Int→Int→Option Int
 | .add,k,x,y=>some (k.wrap (x+y))
 | .sub,k,x,y=>some (k.wrap (x-y))
 | .mul,k,x,y=>some (k.wrap (x*y))
 | .and,k,x,y=>some (k.wrap ((BitVec.ofInt k.bits x&&& BitVec.ofInt k.bits y).toNat:Int))
 | .or,k,x,y=>some (k.wrap ((BitVec.ofInt k.bits x|||BitVec.ofInt k.bits y).toNat:Int))
 | .xor,k,x,y=>some (k.wrap ((BitVec.ofInt k.bits x^^^BitVec.ofInt k.bits y).toNat:Int))
 | .andNot,k,x,y=>some (k.wrap ((BitVec.ofInt k.bits x&&& ~~~ BitVec.ofInt k.bits y).toNat:Int))
 |_,_,_,_=>none
theorem sy {op:BinOp} {kk:IntKind} {x y z:Int} (hz:n6 op kk x y=some z) (t:TypeId) (w:World) (u v:Operand):(do eqGuard op t u v (.int kk x) (.int kk y);binOp op t (.int kk x) (.int kk y):Sem Value).run P w= .ok (.int kk z) w:=by
 cases op<;>simp only[n6] at hz<;>first|(cases hz;done)|(injection hz with hz;subst hz;simp[eqGuard,binOp,Op.intArith,Op.intBits])
theorem wV {x y z:Operand} {u:Value} (hc:az T x=some (.bool true)) (hy:az T y=some u):Tk P n w0 M T H ⟨dd,.pick x y z,tt,pos,af,g⟩ u:=
 .mk (fun a w ha _=>by simp[execOp,ha.eval hc,ha.eval hy,asBool])
theorem wW {x y z:Operand} {u:Value} (hc:az T x=some (.bool false)) (hz:az T z=some u):Tk P n w0 M T H ⟨dd,.pick x y z,tt,pos,af,g⟩ u:=
 .mk (fun a w ha _=>by simp[execOp,ha.eval hc,ha.eval hz,asBool])
theorem lI {op:BinOp} {x y:Operand} {t u:TypeId} {kk:IntKind} {i j z:Int} (hx:az T x=some (.int kk i)) (hy:az T y=some (.int kk j)) (hz:n6 op kk i j=some z)
  :Tk P n w0 M T H ⟨dd,.binOp op t x y u,tt,pos,af,g⟩ (.int kk z):=
 .mk (fun a w ha _=>by
  have:=sy (P:=P) hz t w x y
  rw[Sem.run_bind] at this
  simp only[execOp,ha.eval hx,ha.eval hy,Sem.run_bind,this,Result.andThen_ok,Sem.run_pure])
def ua:BinOp→Int→Int→Option Int
 | .add,x,y=>some (x+y)
 | .sub,x,y=>some (x-y)
 | .mul,x,y=>some (x*y)
 |_,_,_=>none
def aH:IntKind→Int→Prop
 | .i64,z=> -9223372036854775808≤z∧z≤9223372036854775807
 | .u64,z=>0≤z∧z≤18446744073709551615
 | .u32,z=>0≤z∧z≤4294967295
 | .u8,z=>0≤z∧z≤255
 | .u16,z=>0≤z∧z≤65535
 | .i32,z=> -2147483648≤z∧z≤2147483647
 | .i16,z=> -32768≤z∧z≤32767
 | .i8,z=> -128≤z∧z≤127
theorem ig {kk:IntKind} {z:Int} (h:aH kk z):kk.wrap z=z:=by
 cases kk with
 |i64=>exact IntWalk.i64_in _ h
 |u64=>exact IntWalk.u64_in _ h
 |u32=>exact IntWalk.u32_in _ h
 |u8=>exact IntWalk.u8_in _ h
 |u16=>exact IntWalk.u16_in _ h
 |i32=>exact IntWalk.i32_in _ h
 |i16=>exact IntWalk.i16_in _ h
 |i8=>exact IntWalk.i8_in _ h
theorem ii {op:BinOp} {x y:Operand} {t u:TypeId} {kk:IntKind} {i j z:Int} (hx:az T x=some (.int kk i)) (hy:az T y=some (.int kk j)) (hz:ua op i j=some z) (hf:aH kk z):
  Tk P n w0 M T H ⟨dd,.binOp op t x y u,tt,pos,af,g⟩ (.int kk z):=by
 refine lI (z:=z) hx hy ?_
 cases op<;>simp only[ua] at hz<;>first|(cases hz;done)|(injection hz with hz;subst hz;simp only[n6,ig hf])
theorem Ek {x y:Operand} {t u:TypeId} {kk:IntKind} {i j:Int} (hx:az T x=some (.int kk i)) (hy:az T y=some (.int kk j))
  :Tk P n w0 M T H ⟨dd,.binOp .eql t x y u,tt,pos,af,g⟩ (.bool (decide (i=j))):=
 .mk (fun a w ha _=>by simp[execOp,ha.eval hx,ha.eval hy,eqGuard,binOp,Op.intCmp];rw[Bool.eq_iff_iff];simp)
theorem Eo {x y:Operand} {t u:TypeId} {kk:IntKind} {i j:Int} (hx:az T x=some (.int kk i)) (hy:az T y=some (.int kk j))
  :Tk P n w0 M T H ⟨dd,.binOp .neq t x y u,tt,pos,af,g⟩ (.bool (decide (¬ i=j))):=
 .mk (fun a w ha _=>by simp[execOp,ha.eval hx,ha.eval hy,eqGuard,binOp,Op.intCmp];rw[Bool.eq_iff_iff];simp)
theorem Ep {x y:Operand} {t u:TypeId} {kk:IntKind} {i j:Int} (hx:az T x=some (.int kk i)) (hy:az T y=some (.int kk j))
  :Tk P n w0 M T H ⟨dd,.binOp .lss t x y u,tt,pos,af,g⟩ (.bool (decide (i<j))):=
 .mk (fun a w ha _=>by simp[execOp,ha.eval hx,ha.eval hy,eqGuard,binOp,Op.intCmp])
theorem Eq {x y:Operand} {t u:TypeId} {kk:IntKind} {i j:Int} (hx:az T x=some (.int kk i)) (hy:az T y=some (.int kk j))
  :Tk P n w0 M T H ⟨dd,.binOp .leq t x y u,tt,pos,af,g⟩ (.bool (decide (i≤j))):=
 .mk (fun a w ha _=>by simp[execOp,ha.eval hx,ha.eval hy,eqGuard,binOp,Op.intCmp])
theorem Er {x y:Operand} {t u:TypeId} {kk:IntKind} {i j:Int} (hx:az T x=some (.int kk i)) (hy:az T y=some (.int kk j))
  :Tk P n w0 M T H ⟨dd,.binOp .gtr t x y u,tt,pos,af,g⟩ (.bool (decide (j<i))):=
 .mk (fun a w ha _=>by simp[execOp,ha.eval hx,ha.eval hy,eqGuard,binOp,Op.intCmp])
theorem Es {x y:Operand} {t u:TypeId} {kk:IntKind} {i j:Int} (hx:az T x=some (.int kk i)) (hy:az T y=some (.int kk j))
  :Tk P n w0 M T H ⟨dd,.binOp .geq t x y u,tt,pos,af,g⟩ (.bool (decide (j≤i))):=
 .mk (fun a w ha _=>by simp[execOp,ha.eval hx,ha.eval hy,eqGuard,binOp,Op.intCmp])
theorem AC {x y:Operand} {t u:TypeId} {kk:IntKind} {i j:Int} (hx:az T x=some (.int kk i)) (hy:az T y=some (.int kk j)) (h0:0≤i) (h1:0<j) (hf:aH kk (i/j))
  :Tk P n w0 M T H ⟨dd,.binOp .quo t x y u,tt,pos,af,g⟩ (.int kk (i/j)):=
 .mk (fun a w ha _=>by
  have hj: ¬ j=0:=by omega
  simp[execOp,ha.eval hx,ha.eval hy,eqGuard,binOp,Op.intDiv,hj,Int.tdiv_eq_ediv_of_nonneg h0,ig hf])
theorem AD {x y:Operand} {t u:TypeId} {kk:IntKind} {i j:Int} (hx:az T x=some (.int kk i)) (hy:az T y=some (.int kk j)) (h0:0≤i) (h1:0<j)
  :Tk P n w0 M T H ⟨dd,.binOp .rem t x y u,tt,pos,af,g⟩ (.int kk (i%j)):=
 .mk (fun a w ha _=>by
  have hj: ¬ j=0:=by omega
  simp[execOp,ha.eval hx,ha.eval hy,eqGuard,binOp,Op.intDiv,hj,Int.tmod_eq_emod_of_nonneg h0])
theorem AE {x y:Operand} {t u:TypeId} {kk kj:IntKind} {i j:Int} (hx:az T x=some (.int kk i)) (hy:az T y=some (.int kj j)) (h0:0≤j)
  :Tk P n w0 M T H ⟨dd,.binOp .shr t x y u,tt,pos,af,g⟩ (.int kk (i.fdiv (2^(min j.toNat kk.bits)))):=
 .mk (fun a w ha _=>by
  have hj: ¬ j<0:=by omega
  simp[execOp,ha.eval hx,ha.eval hy,eqGuard,binOp,Op.shift,hj])
theorem aR {x:Operand} {t:TypeId} {b:Bool} (hx:az T x=some (.bool b)):Tk P n w0 M T H ⟨dd,.unOp .not t x,tt,pos,af,g⟩ (.bool (!b)):=
 .mk (fun a w ha _=>by simp[execOp,ha.eval hx,Op.unary])
theorem wZ (t:TypeId) (b c:Bool) (w:World) (hu:(underlying t).run P w= .ok .bool w):(Op.equal t (.bool b) (.bool c)).run P w= .ok (b==c) w:=by
 unfold Op.equal Op.maxDepth
 generalize hq:9999=q
 have hq':(10000:Nat)=q+1:=by omega
 rw[hq']
 clear hq hq'
 simp only[Op.equalIn,Sem.run_bind,hu,Result.andThen_ok,Sem.run_pure]
theorem AF [HasTab P] {x y:Operand} {t u:TypeId} {b c:Bool} {i:Ti} (hx:az T x=some (.bool b)) (hy:az T y=some (.bool c)) (ht:ty P t=some i) (hi:i.desc= .bool)
  :Tk P n w0 M T H ⟨dd,.binOp .neq t x y u,tt,pos,af,g⟩ (.bool (b !=c)):=
 .mk (fun a w ha _=>by
  have hu:=run_underlying (hi▸cH ht) w
  simp[execOp,ha.eval hx,ha.eval hy,eqGuard,binOp,wZ t b c w hu]
  cases b<;>cases c<;>rfl)
def bl (s:ByteArray):List UInt8:=s.data.toList
theorem AG (s t:ByteArray):(s.toList==t.toList)=decide (bl s=bl t):=by rw[ByteArray.toList_eq,ByteArray.toList_eq,Bool.eq_iff_iff];simp[bl]
def ub:BinOp→List UInt8→List UInt8→Option Bool
 | .eql,x,y=>some (decide (x=y))
 | .neq,x,y=>some (decide (¬ x=y))
 | .lss,x,y=>some (Op.bytesLess x y)
 | .leq,x,y=>some (Op.bytesLess x y||decide (x=y))
 | .gtr,x,y=>some (!(Op.bytesLess x y||decide (x=y)))
 | .geq,x,y=>some (!Op.bytesLess x y)
 |_,_,_=>none
theorem uc {op:BinOp} {x y:Operand} {t u:TypeId} {r s:ByteArray} {b:Bool} (hx:az T x=some (.string r)) (hy:az T y=some (.string s)) (hb:ub op (bl r) (bl s)=some b)
  :Tk P n w0 M T H ⟨dd,.binOp op t x y u,tt,pos,af,g⟩ (.bool b):=
 .mk (fun a w ha _=>by
  have h1:r.toList=bl r:=ByteArray.toList_eq _
  have h2:s.toList=bl s:=ByteArray.toList_eq _
  have h3:=AG r s
  cases op<;>simp only[ub] at hb<;>first|(cases hb;done)|(injection hb with hb;subst hb;simp[execOp,ha.eval hx,ha.eval hy,eqGuard,binOp,Op.stringOp,h1,h2])
  all_goals (first|done|(rw[Bool.eq_iff_iff];simp)))
theorem y9 [HasTab P] {x:Operand} {s t:TypeId} {kk kd:IntKind} {z:Int} {i j:Ti} (hx:az T x=some (.int kk z)) (hs:ty P s=some i) (ht:ty P t=some j) (hj:j.desc= .int kd)
  :Tk P n w0 M T H ⟨dd,.convert s t x,tt,pos,af,g⟩ (.int kd (kd.wrap z)):=
 .mk (fun a w ha _=>by
  have h1:=run_underlying (cH hs) w
  have h2:=run_underlying (hj▸cH ht) w
  simp[execOp,ha.eval hx,convert,h1,h2,Conv.intToInt])
theorem bj [HasTab P] {x:Operand} {s t:TypeId} {kk kd:IntKind} {z:Int} {i j:Ti} (hx:az T x=some (.int kk z)) (hs:ty P s=some i) (ht:ty P t=some j) (hj:j.desc= .int kd) (hf:aH kd z):
  Tk P n w0 M T H ⟨dd,.convert s t x,tt,pos,af,g⟩ (.int kd z):=by
 have:=y9 (n:=n) (w0:=w0) (M:=M) (H:=H) (dd:=dd) (tt:=tt) (pos:=pos) (af:=af) (g:=g) hx hs ht hj
 rwa [ig hf] at this
theorem sB {x:Operand} {vs:Array Value} {v:Value} {j:Nat} (hx:az T x=some (.tuple vs)) (hv:vs[j]? =some v):Tk P n w0 M T H ⟨dd,.extract x j,tt,pos,af,g⟩ (v):=
 .mk (fun a w ha _=>by simp[execOp,ha.eval hx,Instr.extract,hv])
theorem gV {fn:Fn} {first captured:Array Operand} {xs ys:List Value} (h1:cg T first.toList=some xs) (h2:cg T captured.toList=some ys):Tk P n w0 M T H ⟨dd,.makeFunc fn first captured,tt,pos,af,g⟩ (.func fn xs.toArray ys.toArray):=
 .mk (fun a w ha _=>by
  have e1:first.map a.eval=xs.toArray:=by rw[← ha.evals h1, ← Array.toList_map]
  have e2:captured.map a.eval=ys.toArray:=by rw[← ha.evals h2, ← Array.toList_map]
  simp[execOp,Instr.makeFunc,e1,e2])
theorem n7 [HasTab P] {x:Operand} {s:TypeId} {A:Option Addr} {m c:Nat} {i:Ti} {e:TypeId} (hx:az T x=some (.slice A m c)) (ht:ty P s=some i) (hi:i.desc= .slice e)
  :Tk P n w0 M T H ⟨dd,.call ⟨.builtin .len,#[x],#[s]⟩,tt,pos,af,g⟩ (.int .i64 (m:Int)):=
 .mk (fun a w ha _=>by
  have hu:=run_underlying (hi▸cH ht) w
  simp[execOp,resolve,invoke,builtin,ha.eval hx,Builtin.len_,hu,goInt])
theorem nk [HasTab P] {x:Operand} {s:TypeId} {r:ByteArray} {i:Ti} (hx:az T x=some (.string r)) (ht:ty P s=some i) (hi:i.desc= .string)
  :Tk P n w0 M T H ⟨dd,.call ⟨.builtin .len,#[x],#[s]⟩,tt,pos,af,g⟩ (.int .i64 (r.size:Int)):=
 .mk (fun a w ha _=>by
  have hu:=run_underlying (hi▸cH ht) w
  simp[execOp,resolve,invoke,builtin,ha.eval hx,Builtin.len_,hu,goInt])
theorem yy {x y:Operand} {s t:TypeId} {kk:IntKind} {i j:Int} (hx:az T x=some (.int kk i)) (hy:az T y=some (.int kk j))
  :Tk P n w0 M T H ⟨dd,.call ⟨.builtin .min,#[x,y],#[s,t]⟩,tt,pos,af,g⟩ (.int kk (if j<i then j else i)):=
 .mk (fun a w ha _=>by simp[execOp,resolve,invoke,builtin,ha.eval hx,ha.eval hy,Builtin.min_,Builtin.min2])
theorem yz {x y:Operand} {s t:TypeId} {kk:IntKind} {i j:Int} (hx:az T x=some (.int kk i)) (hy:az T y=some (.int kk j))
  :Tk P n w0 M T H ⟨dd,.call ⟨.builtin .max,#[x,y],#[s,t]⟩,tt,pos,af,g⟩ (.int kk (if i<j then j else i)):=
 .mk (fun a w ha _=>by simp[execOp,resolve,invoke,builtin,ha.eval hx,ha.eval hy,Builtin.max_,Builtin.max2])
theorem ac {x:Operand} {A:Addr} (hx:az T x=some (.pointer (some A))):Tk P n w0 M T H ⟨dd,.nilCheck x,tt,pos,af,g⟩ (.pointer (some A)):=
 .mk (fun a w ha _=>by simp[execOp,ha.eval hx])
end
def pa (A:Option Addr) (j:Nat):Option Addr:=A.map (·.add j)
theorem qS {A:Option Addr} (h:A≠none) (j:Nat): ∃ ad,A=some ad∧pa A j=some (ad.add j):=by
 cases A with
 |none=>exact absurd O h
 |some a=>exact⟨a,O,O⟩
theorem d3 (g o j:Nat):(⟨g,o,none⟩:Addr).add j=⟨g,o+j,none⟩:=by
 unfold Addr.add
 split
 ·rename_i h;subst h;rfl
 ·rfl
section
variable {w0 w w':World} {M:Nat→Prop} {H H':List Asn}
theorem St.at_ {A:Asn} (h:St w0 M H w) (hm:A∈H):A.holds w:=(h.all A hm).1
theorem St.cell {g t off:Nat} {cs:List Value} {v:Value} (h:St w0 M H w) (hm:pt g t cs∈H) (hv:cs[off]? =some v):w.cell? ⟨g,off,none⟩=some v:=by
 have hb:Blk w g t cs.toArray:=h.at_ hm
 rw[hb.cell]
 simpa using hv
theorem St.oldCell {p:Addr} {v:Value} (h:St w0 M H w) (hM: ¬ M p.block) (hv:w0.cell? p=some v):w.cell? p=some v:=h.kp.cell hM hv
theorem Blk.setRow {g t:Nat} {cs:Array Value} (h:Blk w g t cs) (ds:Array Value):Blk (w.setRow g ds) g t ds:=setRow_heap w g _ ds t _ h
def ar (As:List Asn):Nat→Prop:=fun k=> ∃ A,A∈As∧A.own k
theorem St.call {As Bs:List Asn} (h:St w0 M (As++H) w) (hc:St w (ar As) Bs w'):St w0 M (Bs++H) w':=by
 have hd: ∀ A,A∈H→ ∀ k,A.own k→ ¬ ar As k:=fun A hA k hk ⟨B,hB,hBk⟩=>(List.pairwise_append.1 h.apart).2.2 B hB A hA k hBk hk
 have hkA: ∀ A,A∈H→A.holds w'∧ ∀ k,A.own k→(M k∨w0.heap.size≤k)∧k<w'.heap.size:=fun A hA=>by
  have h1:=h.all A (List.mem_append_right _ hA)
  exact⟨A.stable w w' (hc.kp.mono fun k hk _=>hd A hA k hk) h1.1,fun k hk=>⟨(h1.2 k hk).1,Nat.lt_of_lt_of_le (h1.2 k hk).2 hc.kp.size⟩⟩
 have howns: ∀ k,ar As k→M k∨w0.heap.size≤k:=fun k ⟨A,hA,hk⟩=>((h.all A (List.mem_append_left _ hA)).2 k hk).1
 refine⟨⟨h.kp.os▸hc.kp.os,h.kp.tape▸hc.kp.tape,h.kp.output▸hc.kp.output,Nat.le_trans h.kp.size hc.kp.size,fun k hM hlt=>?_⟩,fun A hA=>?_,?_⟩
 ·rw[hc.kp.block k (fun ho=>(howns k ho).elim hM (fun hs=>by omega)) (Nat.lt_of_lt_of_le hlt h.kp.size)]
  exact h.kp.block k hM hlt
 ·rcases List.mem_append.1 hA with hA|hA
  ·have h1:=hc.all A hA
   refine⟨h1.1,fun k hk=>⟨?_,(h1.2 k hk).2⟩⟩
   rcases(h1.2 k hk).1 with ho|hs
   ·exact howns k ho
   ·exact .inr (Nat.le_trans h.kp.size hs)
  ·exact hkA A hA
 ·refine List.pairwise_append.2 ⟨hc.apart,(List.pairwise_append.1 h.apart).2.1,fun B hB A hA k hk1 hk2=>?_⟩
  rcases((hc.all B hB).2 k hk1).1 with ho|hs
  ·exact hd A hA k hk2 ho
  ·have:=((h.all A (List.mem_append_right _ hA)).2 k hk2).2
   omega
end
section
variable {P:Program} {ro:Option Nat} {ds:List Deferred} {B:Bk ro ds} {n:Nat} {w0:World} {M:Nat→Prop} {k:List It} {T:aF} {H:List Asn} {l σ:List Oper} {d:Tmp} {dd:Option Tmp} {tt:TypeId} {pos:String} {af:Array Edge} {g:Option (Nat×Bool)}
theorem eF [HasTab P] {s:TypeId} {i:Ti} (hs:ty P s=some i) (hi:fZ i.desc=false) {a:Addr} {v:Value} {w:World} (hc:w.cell? a=some v):(loadVar s a).run P w= .ok v w:=by
 simp[loadVar,t8 hs w,hi,hc]
theorem gW [HasTab P] {s:TypeId} {i:Ti} (hs:ty P s=some i) (hi:fZ i.desc=true) {a:Addr} {ds:List Value} {w:World} (hl:ds.length=i.size) (hc: ∀ j v,ds[j]? =some v→w.cell? (a.add j)=some v):(loadVar s a).run P w= .ok (.agg ds.toArray) w:=by
 have h1:=run_loadCells_list (P:=P) w a ds hc
 rw[hl] at h1
 simp[loadVar,t8 hs w,hi,ev hs w,h1]
theorem ah [HasTab P] {x:Operand} {s:TypeId} {gb off t:Nat} {cs:List Value} {v:Value} {i:Ti} (hx:az T x=some (.pointer (some ⟨gb,off,none⟩))) (hs:ty P s=some i) (hi:fZ i.desc=false) [hm:Hat H gb t cs] (hv:cs[off]? =some v)
  :Tk P n w0 M T H ⟨dd,.load s x,tt,pos,af,g⟩ (v):=
 .mk (fun a w ha hS=>by simp[execOp,ha.eval hx,Instr.loadAt,Instr.sureAddr,eF hs hi (hS.cell hm.mem hv)])
theorem dg [HasTab P] {x:Operand} {s:TypeId} {gb off t:Nat} {cs ds:List Value} {i:Ti} (hx:az T x=some (.pointer (some ⟨gb,off,none⟩))) (hs:ty P s=some i) (hi:fZ i.desc=true) [hm:Hat H gb t cs] (hl:ds.length=i.size) (hv: ∀ j v,ds[j]? =some v→cs[off+j]? =some v)
  :Tk P n w0 M T H ⟨dd,.load s x,tt,pos,af,g⟩ (.agg ds.toArray):=
 .mk (fun a w ha hS=>by
  have:=gW (P:=P) (a:=⟨gb,off,none⟩) hs hi hl (fun j v hj=>by rw[d3];exact hS.cell hm.mem (hv j v hj))
  simp[execOp,ha.eval hx,Instr.loadAt,Instr.sureAddr,this])
theorem w5 [HasTab P] {x:Operand} {s:TypeId} {A:Option Addr} {j sz m:Nat} {F:Nat→Prop} {xs:List Value} {v:Value} {i:Ti} (hx:az T x=some (.pointer (pa A j))) (hs:ty P s=some i) (hi:fZ i.desc=false) (hr:Rd w0 F sz A m xs) (hv:xs[j]? =some v) (hF: ∀ k,F k→ ¬ M k)
  :Tk P n w0 M T H ⟨dd,.load s x,tt,pos,af,g⟩ (v):=
 .mk (fun a w ha hS=>by
  have hlt:=(List.getElem?_eq_some_iff.1 hv).1
  have hm:0<m:=by
   rcases Nat.eq_zero_or_pos m with h0|h0
   ·have h2:=hr.1
    rw[h0,Nat.zero_mul] at h2
    omega
   ·exact h0
  obtain⟨ad,rfl,hb,hc⟩:=hr.2 hm
  have h1:=hS.oldCell (p:=ad.add j) (by rw[dv];exact hF _ hb) (hc j v hv)
  simp[execOp,ha.eval hx,pa,Instr.loadAt,Instr.sureAddr,eF hs hi h1])
theorem ke [HasTab P] {x:Operand} {s:TypeId} {A:Option Addr} {j sz m:Nat} {F:Nat→Prop} {xs ds:List Value} {i:Ti} (hx:az T x=some (.pointer (pa A j))) (hs:ty P s=some i) (hi:fZ i.desc=true) (hr:Rd w0 F sz A m xs) (hl:ds.length=i.size) (h0:0<m) (hv: ∀ e v,ds[e]? =some v→xs[j+e]? =some v) (hF: ∀ k,F k→ ¬ M k)
  :Tk P n w0 M T H ⟨dd,.load s x,tt,pos,af,g⟩ (.agg ds.toArray):=
 .mk (fun a w ha hS=>by
  obtain⟨ad,rfl,hb,hc⟩:=hr.2 h0
  have:=gW (P:=P) (a:=ad.add j) hs hi hl (fun e v he=>by rw[gD];exact hS.oldCell (p:=ad.add (j+e)) (by rw[dv];exact hF _ hb) (hc _ v (hv e v he)))
  simp[execOp,ha.eval hx,pa,Instr.loadAt,Instr.sureAddr,this])
def qU:TypeDesc→Nat→Option (Nat×Nat)
 | .struct fs,j=>(fs[j]?).map fun f=>(f.offset,f.type)
 |_,_=>none
theorem pr {α:Type}: ∀ (l:List α) (j:Nat),t7 l j=l[j]?
 |[],_=>rfl
 |_::_,0=>rfl
 |_::xs,n+1=>by rw[t7,pr xs n];simp
theorem lQ [HasTab P] {s ft:TypeId} {j o:Nat} {i:Ti} (hs:ty P s=some i) (hf:t7 i.fs j=some (o,ft)):qU i.desc j=some (o,ft):=by
 rw[← AB hs,pr] at hf
 cases hd:i.desc with
 |struct fs=>rw[hd] at hf;simpa[fieldsOf,qU] using hf
 |_=>rw[hd] at hf;cases hf
theorem lw [HasTab P] {s ft:TypeId} {j o:Nat} {i fi:Ti} (hs:ty P s=some i) (hf:t7 i.fs j=some (o,ft)) (hft:ty P ft=some fi) (hz:Nat.beq fi.size 0=false) (a:Addr) (w:World):(Instr.fieldAt s (.pointer (some a)) j).run P w= .ok (.pointer (some (a.add o))) w:=by
 have hf:=lQ hs hf
 have hu:=run_underlying (cH hs) w
 have hne:fi.size≠0:=fun e=>by rw[e] at hz;cases hz
 cases hd:i.desc with
 |struct fs=>
  rw[hd] at hf hu
  obtain⟨f,hf1,hf2⟩:=Option.map_eq_some_iff.1 hf
  simp only[Prod.mk.injEq] at hf2
  obtain⟨rfl,rfl⟩:=hf2
  simp[Instr.fieldAt,hu,hf1,Instr.sureAddr,fieldPlace,ev hft w,hne]
 |_=>rw[hd] at hf;cases hf
theorem Et [HasTab P] {x:Operand} {s ft:TypeId} {gb off j o:Nat} {i fi:Ti} (hx:az T x=some (.pointer (some ⟨gb,off,none⟩))) (hs:ty P s=some i) (hf:t7 i.fs j=some (o,ft)) (hft:ty P ft=some fi) (hz:Nat.beq fi.size 0=false)
  :Tk P n w0 M T H ⟨dd,.fieldAddr s x j,tt,pos,af,g⟩ (.pointer (some ⟨gb,off+o,none⟩)):=
 .mk (fun a w ha hS=>by simp[execOp,ha.eval hx,lw hs hf hft hz,d3])
theorem dx [HasTab P] {x:Operand} {s ft:TypeId} {A:Option Addr} {e j o:Nat} {i fi:Ti} (hx:az T x=some (.pointer (pa A e))) (hs:ty P s=some i) (hf:t7 i.fs j=some (o,ft)) (hft:ty P ft=some fi) (hz:Nat.beq fi.size 0=false) (hA:A≠none)
  :Tk P n w0 M T H ⟨dd,.fieldAddr s x j,tt,pos,af,g⟩ (.pointer (pa A (e+o))):=
 .mk (fun a w ha hS=>by
  obtain⟨ad,rfl,_⟩:=qS hA 0
  simp[execOp,ha.eval hx,pa,lw hs hf hft hz,gD])
theorem w7 [HasTab P] {x y:Operand} {s e:TypeId} {A:Option Addr} {m c q:Nat} {kk:IntKind} {i ei:Ti} (hx:az T x=some (.slice A m c)) (hy:az T y=some (.int kk (q:Int))) (hs:ty P s=some i) (hi:i.desc= .slice e) (he:ty P e=some ei) (hA:A≠none) (hq:q<m):
  Tk P n w0 M T H ⟨dd,.indexAddr s x y,tt,pos,af,g⟩ (.pointer (pa A (q*ei.size))):=by
 refine⟨fun a w ha hS=>?_⟩
 have hu:=run_underlying (hi▸cH hs) w
 obtain⟨ad,rfl,_⟩:=qS hA 0
 have h1:(0:Int)≤q∧(q:Int)<m:=by omega
 simp[execOp,ha.eval hx,ha.eval hy,Instr.indexAt,hu,asIntOf,hq,ev he w,pa]
theorem fS [HasTab P] {x y:Operand} {s e:TypeId} {A:Option Addr} {m c q:Nat} {kk:IntKind} {i ei:Ti} (hx:az T x=some (.slice A m c)) (hy:az T y=some (.int kk (q:Int))) (hs:ty P s=some i) (hi:i.desc= .slice e) (he:ty P e=some ei) (h1:ei.size=1) (hA:A≠none) (hq:q<m):
  Tk P n w0 M T H ⟨dd,.indexAddr s x y,tt,pos,af,g⟩ (.pointer (pa A q)):=by
 have:=w7 (n:=n) (w0:=w0) (M:=M) (H:=H) (dd:=dd) (tt:=tt) (pos:=pos) (af:=af) (g:=g) hx hy hs hi he hA hq
 rwa [h1,Nat.mul_one] at this
theorem AH [HasTab P] {x y:Operand} {s:TypeId} {r:ByteArray} {q:Nat} {kk:IntKind} {i:Ti} (hx:az T x=some (.string r)) (hy:az T y=some (.int kk (q:Int))) (hs:ty P s=some i) (hi:i.desc= .string) (hq:q<r.size)
  :Tk P n w0 M T H ⟨dd,.index s x y,tt,pos,af,g⟩ (.int .u8 (((bl r).getD q 0).toNat:Int)):=
 .mk (fun a w ha hS=>by
  have hu:=run_underlying (hi▸cH hs) w
  have h2:r[q]=(bl r).getD q 0:=by simp[bl,List.getD,hq];rfl
  have h3:(Instr.index s (.string r) (.int kk (q:Int))).run P w= .ok (.int .u8 (r[q].toNat:Int)) w:=by simp[Instr.index,hu,asIntOf,hq]
  rw[h2] at h3
  simp only[execOp,ha.eval hx,ha.eval hy,Sem.run_bind,h3,Result.andThen_ok,Sem.run_pure])
def aV:Value→List Value
 | .agg cs=>cs.toList
 |v=>[v]
theorem gz (v:Value):v.cells=(aV v).toArray:=by cases v<;>simp[Value.cells,aV]
theorem yA {o:Oper} {v:Value} {u:TypeId} (hr: ∀ a w,Tm n a T→St w0 M H w→(execOp a.eval o).run P w= .ok (.value (.pointer (some ⟨w.heap.size,0,none⟩))) (w.alloc (.cells (aV v).toArray u))):
  Ef P n w0 M T H o (fun u' H'=> ∃ b,u'= .pointer (some ⟨b,0,none⟩)∧H'=pt b u (aV v)::H):= .mk fun a w ha hS=>by
  unfold Oper.wp
  rw[hr a w ha hS]
  refine⟨_,_,⟨w.heap.size,O,O⟩,O,hS.add (Kp.alloc w _) (Blk.new w u _) (fun k hk=>?_)⟩
  have hk:k=w.heap.size:=hk
  subst hk
  simp
theorem yB {x:Operand} {s:TypeId} {v:Value} (hx:az T x=some v):Ef P n w0 M T H ⟨dd,.box s x,tt,pos,af,g⟩ (fun u' H'=> ∃ b,u'= .pointer (some ⟨b,0,none⟩)∧H'=pt b s (aV v)::H):=
 yA (v:=v) (u:=s) (fun a w ha hS=>by simp[execOp,ha.eval hx,Instr.box,newVar,newRow,gz])
theorem qV [HasTab P] {s:TypeId} {i:Ti} (hs:ty P s=some i):Ef P n w0 M T H ⟨dd,.alloc s,tt,pos,af,g⟩ (fun u' H'=> ∃ b,u'= .pointer (some ⟨b,0,none⟩)∧H'=pt b s (aV i.zero)::H):=
 yA (v:=i.zero) (u:=s) (fun a w ha hS=>by simp[execOp,Instr.alloc,newVar,newRow,gz,kc hs w])
theorem nl [HasTab P] {x y:Operand} {s:TypeId} {gb off t:Nat} {cs ds:List Value} {v:Value} {i:Ti} {H':List Asn} {K:List Value→List Asn} (hx:az T x=some (.pointer (some ⟨gb,off,none⟩))) (hy:az T y=some v) (hs:ty P s=some i) (hds:aV v=ds) (hl:ds.length=i.size) (h1: ∀ u∈ds,u.oneCell'=true) [hu:HUp H gb t cs K] (hH:K (cs.take off++ds++cs.drop (off+ds.length))=H') (hfit:off+ds.length≤cs.length):Ef P n w0 M T H ⟨none,.store s x y,tt,pos,af,g⟩ (fun _ H''=>H''=H'):= .mk fun a w ha hS=>by
  subst hds
  have hup:Upd H (pt gb t cs) (pt gb t (cs.take off++aV v++cs.drop (off+(aV v).length))) H':=hH▸hu.upd _
  have hb:Blk w gb t cs.toArray:=hS.at_ (hu.upd []).mem
  have hrun:=run_storeCells_at P gb off t (aV v) 0 cs.toArray w hb (by simpa using hfit) h1
  simp only[Nat.add_zero] at hrun
  unfold Oper.wp
  have hsz:v.cells.size=i.size:=by rw[gz];simpa using hl
  have:(execOp a.eval ⟨none,.store s x y,tt,pos,af,g⟩).run P w= .ok .skip (w.setRow gb (cs.take off++aV v++cs.drop (off+(aV v).length)).toArray):=by
   have h3:(storeVar s ⟨gb,off,none⟩ v).run P w= .ok () (w.setRow gb (cs.take off++aV v++cs.drop (off+(aV v).length)).toArray):=by
    simp only[storeVar,Sem.run_bind,ev hs w,Result.andThen_ok,hsz,ne_eq,not_true_eq_false,if_false]
    rw[gz]
    simpa using hrun
   simp[execOp,ha.eval hx,ha.eval hy,Instr.storeAt,Instr.sureAddr,h3]
  rw[this]
  refine⟨undef,H',O,O,hS.upd hup (Kp.setRow gb _) ?_ (fun _ h=>h)⟩
  exact hb.setRow _
theorem ey [HasTab P] {x y:Operand} {s:TypeId} {gb off t:Nat} {cs:List Value} {v:Value} {i:Ti} {H':List Asn} {K:List Value→List Asn} (hx:az T x=some (.pointer (some ⟨gb,off,none⟩))) (hy:az T y=some v) (hs:ty P s=some i) (h1:v.oneCell'=true) (hl:i.size=1) [hu:HUp H gb t cs K] (hH:K (cs.set off v)=H') (hfit:off<cs.length):Ef P n w0 M T H ⟨none,.store s x y,tt,pos,af,g⟩ (fun _ H''=>H''=H'):=by
 have hc:aV v=[v]:=by cases v<;>first|rfl|(simp[Value.oneCell'] at h1)
 refine nl (t:=t) (cs:=cs) hx hy hs hc (by simp[hl]) (by simpa using h1) ?_ (by simp;omega)
 rwa [show cs.take off++[v]++cs.drop (off+[v].length)=cs.set off v by rw[List.set_eq_take_append_cons_drop,if_pos hfit];simp]
structure Fn_ (P:Program) (f:FuncId):Prop where
 is: ∃ fn,P.funcs[f]? =some fn∧fn.body.isNone=false∧(fn.name== "runtime.NumGoroutine")=false
theorem gn {f:FuncId} (hf:Fn_ P f) (vs:Array Value) (w:World):(callFunc f vs).run P w= .ok (.enter f vs) w:=by
 obtain⟨fn,h1,h2,h3⟩:=hf.is
 simp only[callFunc,Sem.run_bind,run_program,Result.andThen_ok,h1,h2,h3]
 rfl
def Gives (P:Program) (f:FuncId) (vs:List Value) (As:List Asn) (w:World) {X:Type} (V:X→Value) (I:X→Prop) (A:X→List Asn):Prop:=
 Calls P f vs.toArray w fun e w'=> ∃ x,e= .returned (V x)∧I x∧St w (ar As) (A x) w'
theorem nm {X:Type} {f:FuncId} {xs:Array Operand} {ts:Array TypeId} {vs:List Value} (As Hr:List Asn) (V:X→Value) (I:X→Prop) (A:X→List Asn) (hx:cg T xs.toList=some vs) (hf:Fn_ P f) (hH: ∀ w,St w0 M H w→St w0 M (As++Hr) w)
  (hc: ∀ w,St w0 M (As++Hr) w→Gives P f vs As w V I A):Ef P n w0 M T H ⟨dd,.call ⟨.value (.func f),xs,ts⟩,tt,pos,af,g⟩ (fun u H'=> ∃ x,I x∧u=V x∧H'=A x++Hr):= .mk fun a w ha hS=>by
  have e1:xs.map a.eval=vs.toArray:=by rw[← ha.evals hx, ← Array.toList_map]
  unfold Oper.wp
  have:(execOp a.eval ⟨dd,.call ⟨.value (.func f),xs,ts⟩,tt,pos,af,g⟩).run P w= .ok (.enter f vs.toArray) w:=by
   simp[execOp,resolve,Deferred.ofValue,invoke,Act.eval,e1,gn hf]
  rw[this]
  refine(hc w (hH w hS)).mono fun e w' ⟨x,he,hI,hS'⟩=>?_
  subst he
  exact⟨V x,A x++Hr,⟨x,hI,O,O⟩,O,(hH w hS).call hS'⟩
end
theorem ao (k:Nat): ¬ ar [] k:=fun⟨_,h,_⟩=>by cases h
theorem St.enter (w:World):St w (ar []) [] w:=⟨Kp.refl _ _,fun _ h=>(by cases h),List.Pairwise.nil⟩
theorem St.kpO {w0 w:World} {H:List Asn} (h:St w0 (ar []) H w):Kp bC w0 w:=h.kp.mono fun k _ _=>ao k
end Go.Proofs.YtdeffdldifepkaaGreat
namespace Go.Proofs.YtdeffdldifepkaaGreat
open Go.RowKit
def Gy:Ti:=⟨.func #[] #[] false,.nilFunc,1,8,[]⟩
def Gz:Ti:=⟨.int .i64,.int .i64 0,1,8,[]⟩
def GA:Ti:=⟨.int .i64,.int .i64 0,1,8,[]⟩
def GB:Ti:=⟨.bool,.bool false,1,1,[]⟩
def GC:Ti:=⟨.int .u8,.int .u8 0,1,1,[]⟩
def GD:Ti:=⟨.struct #[⟨"x",2,0,false, "", "runtime",0⟩,⟨"y",3,1,false, "", "runtime",8⟩,⟨"signed",4,2,false, "", "runtime",16⟩,⟨"code",6,3,false, "", "runtime",17⟩],.agg #[.int .i64 0,.int .i64 0,.bool false,.int .u8 0],4,24,[(0,2),(1,3),(2,4),(3,6)]⟩
def GE:Ti:=⟨.string,.string ByteArray.empty,1,16,[]⟩
def Eu:Ti:=⟨.int .u64,.int .u64 0,1,8,[]⟩
def Ew:Ti:=⟨.struct #[⟨"msg",9,0,false, "", "runtime",0⟩,⟨"addr",12,1,false, "", "runtime",16⟩],.agg #[.string ByteArray.empty,.int .u64 0],2,24,[(0,9),(1,12)]⟩
def Ex:Ti:=⟨.int .i32,.int .i32 0,1,4,[]⟩
def Ey:Ti:=⟨.slice 48,.slice none 0 0,1,24,[]⟩
def Ez:Ti:=⟨.func #[] #[4] false,.nilFunc,1,8,[]⟩
def EA:Ti:=⟨.pointer 30,.pointer none,1,8,[]⟩
def EB:Ti:=⟨.map 34 3,.map none,1,8,[]⟩
def EC:Ti:=⟨.map 34 59,.map none,1,8,[]⟩
def ED:Ti:=⟨.slice 42,.slice none 0 0,1,24,[]⟩
def EE:Ti:=⟨.slice 65,.slice none 0 0,1,24,[]⟩
def EF:Ti:=⟨.struct #[⟨"nodes",27,0,false, "", "confluence/confluencelaw15",0⟩,⟨"way",28,1,false, "", "confluence/confluencelaw15",24⟩,⟨"leaders",25,2,false, "", "confluence/confluencelaw15",48⟩,⟨"settled",26,3,false, "", "confluence/confluencelaw15",56⟩],.agg #[.slice none 0 0,.slice none 0 0,.map none,.map none],4,64,[(0,27),(1,28),(2,25),(3,26)]⟩
def EG:Ti:=⟨.struct #[⟨"nodes",27,0,false, "", "confluence/confluencelaw15",0⟩,⟨"way",28,1,false, "", "confluence/confluencelaw15",24⟩,⟨"leaders",25,2,false, "", "confluence/confluencelaw15",48⟩,⟨"settled",26,3,false, "", "confluence/confluencelaw15",56⟩],.agg #[.slice none 0 0,.slice none 0 0,.map none,.map none],4,64,[(0,27),(1,28),(2,25),(3,26)]⟩
def EH:Ti:=⟨.slice 3,.slice none 0 0,1,24,[]⟩
def EI:Ti:=⟨.struct #[⟨"Members",31,0,false, "", "",0⟩],.agg #[.slice none 0 0],1,24,[(0,31)]⟩
def AI:Ti:=⟨.struct #[⟨"Members",31,0,false, "", "",0⟩],.agg #[.slice none 0 0],1,24,[(0,31)]⟩
def EJ:Ti:=⟨.int .u64,.int .u64 0,1,8,[]⟩
def EK:Ti:=⟨.struct #[⟨"Index",34,0,false, "", "",0⟩,⟨"Term",34,1,false, "", "",8⟩],.agg #[.int .u64 0,.int .u64 0],2,16,[(0,34),(1,34)]⟩
def w8:Ti:=⟨.struct #[⟨"Index",34,0,false, "", "",0⟩,⟨"Term",34,1,false, "", "",8⟩],.agg #[.int .u64 0,.int .u64 0],2,16,[(0,34),(1,34)]⟩
def EL:Ti:=⟨.slice 59,.slice none 0 0,1,24,[]⟩
def EM:Ti:=⟨.struct #[⟨"Base",36,0,false, "", "",0⟩,⟨"Entries",37,2,false, "", "",16⟩],.agg #[.int .u64 0,.int .u64 0,.slice none 0 0],3,40,[(0,36),(2,37)]⟩
def AJ:Ti:=⟨.struct #[⟨"Base",36,0,false, "", "",0⟩,⟨"Entries",37,2,false, "", "",16⟩],.agg #[.int .u64 0,.int .u64 0,.slice none 0 0],3,40,[(0,36),(2,37)]⟩
def EN:Ti:=⟨.slice 112,.slice none 0 0,1,24,[]⟩
def EO:Ti:=⟨.struct #[⟨"Me",3,0,false, "", "",0⟩,⟨"Term",34,1,false, "", "",8⟩,⟨"Vote",3,2,false, "", "",16⟩,⟨"Log",39,3,false, "", "",24⟩,⟨"Conf",33,6,false, "", "",64⟩,⟨"Commit",34,7,false, "", "",88⟩,⟨"Role",3,8,false, "", "",96⟩,⟨"Leader",3,9,false, "", "",104⟩,⟨"Clock",3,10,false, "", "",112⟩,⟨"Limit",3,11,false, "", "",120⟩,⟨"Votes",31,12,false, "", "",128⟩,⟨"Peers",40,13,false, "", "",152⟩],.agg #[.int .i64 0,.int .u64 0,.int .i64 0,.int .u64 0,.int .u64 0,.slice none 0 0,.slice none 0 0,.int .u64 0,.int .i64 0,.int .i64 0,.int .i64 0,.int .i64 0,.slice none 0 0,.slice none 0 0],14,176,[(0,3),(1,34),(2,3),(3,39),(6,33),(7,34),(8,3),(9,3),(10,3),(11,3),(12,31),(13,40)]⟩
def AK:Ti:=⟨.struct #[⟨"Me",3,0,false, "", "",0⟩,⟨"Term",34,1,false, "", "",8⟩,⟨"Vote",3,2,false, "", "",16⟩,⟨"Log",39,3,false, "", "",24⟩,⟨"Conf",33,6,false, "", "",64⟩,⟨"Commit",34,7,false, "", "",88⟩,⟨"Role",3,8,false, "", "",96⟩,⟨"Leader",3,9,false, "", "",104⟩,⟨"Clock",3,10,false, "", "",112⟩,⟨"Limit",3,11,false, "", "",120⟩,⟨"Votes",31,12,false, "", "",128⟩,⟨"Peers",40,13,false, "", "",152⟩],.agg #[.int .i64 0,.int .u64 0,.int .i64 0,.int .u64 0,.int .u64 0,.slice none 0 0,.slice none 0 0,.int .u64 0,.int .i64 0,.int .i64 0,.int .i64 0,.int .i64 0,.slice none 0 0,.slice none 0 0],14,176,[(0,3),(1,34),(2,3),(3,39),(6,33),(7,34),(8,3),(9,3),(10,3),(11,3),(12,31),(13,40)]⟩
def EP:Ti:=⟨.int .i64,.int .i64 0,1,8,[]⟩
def EQ:Ti:=⟨.func #[3,34,3,39,33,3] #[42,43] false,.nilFunc,1,8,[]⟩
def ER:Ti:=⟨.slice 5,.slice none 0 0,1,24,[]⟩
def ES:Ti:=⟨.struct #[⟨"Kind",3,0,false, "", "",0⟩,⟨"Node",3,1,false, "", "",8⟩,⟨"N",3,2,false, "", "",16⟩,⟨"Data",46,3,false, "", "",24⟩],.agg #[.int .i64 0,.int .i64 0,.int .i64 0,.slice none 0 0],4,48,[(0,3),(1,3),(2,3),(3,46)]⟩
def AL:Ti:=⟨.struct #[⟨"Kind",3,0,false, "", "",0⟩,⟨"Node",3,1,false, "", "",8⟩,⟨"N",3,2,false, "", "",16⟩,⟨"Data",46,3,false, "", "",24⟩],.agg #[.int .i64 0,.int .i64 0,.int .i64 0,.slice none 0 0],4,48,[(0,3),(1,3),(2,3),(3,46)]⟩
def ET:Ti:=⟨.func #[48] #[4] false,.nilFunc,1,8,[]⟩
def EU:Ti:=⟨.func #[3,22] #[4] false,.nilFunc,1,8,[]⟩
def EV:Ti:=⟨.func #[42,3] #[42,28,43] false,.nilFunc,1,8,[]⟩
def EW:Ti:=⟨.func #[3,42,28] #[4] false,.nilFunc,1,8,[]⟩
def EX:Ti:=⟨.func #[3] #[4] false,.nilFunc,1,8,[]⟩
def EY:Ti:=⟨.func #[42,3,46] #[42,28,36,43] false,.nilFunc,1,8,[]⟩
def EZ:Ti:=⟨.func #[59,59] #[4] false,.nilFunc,1,8,[]⟩
def E0:Ti:=⟨.struct #[⟨"Term",34,0,false, "", "",0⟩,⟨"Kind",3,1,false, "", "",8⟩,⟨"Data",46,2,false, "", "",16⟩],.agg #[.int .u64 0,.int .i64 0,.slice none 0 0],3,40,[(0,34),(1,3),(2,46)]⟩
def AM:Ti:=⟨.struct #[⟨"Term",34,0,false, "", "",0⟩,⟨"Kind",3,1,false, "", "",8⟩,⟨"Data",46,2,false, "", "",16⟩],.agg #[.int .u64 0,.int .i64 0,.slice none 0 0],3,40,[(0,34),(1,3),(2,46)]⟩
def E1:Ti:=⟨.func #[3,31,46] #[4] false,.nilFunc,1,8,[]⟩
def E2:Ti:=⟨.func #[42] #[4] false,.nilFunc,1,8,[]⟩
def E3:Ti:=⟨.func #[42] #[42] false,.nilFunc,1,8,[]⟩
def E4:Ti:=⟨.func #[42,42] #[4] false,.nilFunc,1,8,[]⟩
def E5:Ti:=⟨.struct #[⟨"Kind",3,0,false, "", "",0⟩,⟨"From",3,1,false, "", "",8⟩,⟨"To",3,2,false, "", "",16⟩,⟨"Term",34,3,false, "", "",24⟩,⟨"Place",36,4,false, "", "",32⟩,⟨"Entries",37,6,false, "", "",48⟩,⟨"Commit",34,7,false, "", "",72⟩,⟨"Ok",4,8,false, "", "",80⟩,⟨"Index",34,9,false, "", "",88⟩,⟨"Conf",33,10,false, "", "",96⟩,⟨"Data",46,11,false, "", "",120⟩],.agg #[.int .i64 0,.int .i64 0,.int .i64 0,.int .u64 0,.int .u64 0,.int .u64 0,.slice none 0 0,.int .u64 0,.bool false,.int .u64 0,.slice none 0 0,.slice none 0 0],12,144,[(0,3),(1,3),(2,3),(3,34),(4,36),(6,37),(7,34),(8,4),(9,34),(10,33),(11,46)]⟩
def za:Ti:=⟨.struct #[⟨"Kind",3,0,false, "", "",0⟩,⟨"From",3,1,false, "", "",8⟩,⟨"To",3,2,false, "", "",16⟩,⟨"Term",34,3,false, "", "",24⟩,⟨"Place",36,4,false, "", "",32⟩,⟨"Entries",37,6,false, "", "",48⟩,⟨"Commit",34,7,false, "", "",72⟩,⟨"Ok",4,8,false, "", "",80⟩,⟨"Index",34,9,false, "", "",88⟩,⟨"Conf",33,10,false, "", "",96⟩,⟨"Data",46,11,false, "", "",120⟩],.agg #[.int .i64 0,.int .i64 0,.int .i64 0,.int .u64 0,.int .u64 0,.int .u64 0,.slice none 0 0,.int .u64 0,.bool false,.int .u64 0,.slice none 0 0,.slice none 0 0],12,144,[(0,3),(1,3),(2,3),(3,34),(4,36),(6,37),(7,34),(8,4),(9,34),(10,33),(11,46)]⟩
def E6:Ti:=⟨.func #[37] #[37] false,.nilFunc,1,8,[]⟩
def E8:Ti:=⟨.func #[42,65] #[42,28,4,43] false,.nilFunc,1,8,[]⟩
def E9:Ti:=⟨.func #[42,65] #[4] false,.nilFunc,1,8,[]⟩
def Fa:Ti:=⟨.func #[42,65] #[42,28,4] false,.nilFunc,1,8,[]⟩
def Fb:Ti:=⟨.func #[28,28] #[4] false,.nilFunc,1,8,[]⟩
def Fc:Ti:=⟨.func #[42] #[33,43] false,.nilFunc,1,8,[]⟩
def Fd:Ti:=⟨.func #[42] #[43] false,.nilFunc,1,8,[]⟩
def Fe:Ti:=⟨.func #[33,33] #[4] false,.nilFunc,1,8,[]⟩
def Ff:Ti:=⟨.func #[42] #[33] false,.nilFunc,1,8,[]⟩
def Fg:Ti:=⟨.func #[42,34] #[42,43] false,.nilFunc,1,8,[]⟩
def Fh:Ti:=⟨.func #[42,34] #[42,4] false,.nilFunc,1,8,[]⟩
def Fi:Ti:=⟨.func #[42,59,34] #[4] false,.nilFunc,1,8,[]⟩
def Fj:Ti:=⟨.func #[] #[33] false,.nilFunc,1,8,[]⟩
def Fk:Ti:=⟨.func #[39,39] #[4] false,.nilFunc,1,8,[]⟩
def Fl:Ti:=⟨.func #[42,91] #[42,28,4] false,.nilFunc,1,8,[]⟩
def Fm:Ti:=⟨.pointer 89,.pointer none,1,8,[]⟩
def Fo:Ti:=⟨.struct #[⟨"Raft",42,0,true, "", "",0⟩,⟨"sent",28,14,false, "", "confluence/raft",176⟩,⟨"install",4,15,false, "", "confluence/raft",200⟩],.agg #[.int .i64 0,.int .u64 0,.int .i64 0,.int .u64 0,.int .u64 0,.slice none 0 0,.slice none 0 0,.int .u64 0,.int .i64 0,.int .i64 0,.int .i64 0,.int .i64 0,.slice none 0 0,.slice none 0 0,.slice none 0 0,.bool false],16,208,[(0,42),(14,28),(15,4)]⟩
def Fp:Ti:=⟨.struct #[⟨"Raft",42,0,true, "", "",0⟩,⟨"sent",28,14,false, "", "confluence/raft",176⟩,⟨"install",4,15,false, "", "confluence/raft",200⟩],.agg #[.int .i64 0,.int .u64 0,.int .i64 0,.int .u64 0,.int .u64 0,.slice none 0 0,.slice none 0 0,.int .u64 0,.int .i64 0,.int .i64 0,.int .i64 0,.int .i64 0,.slice none 0 0,.slice none 0 0,.slice none 0 0,.bool false],16,208,[(0,42),(14,28),(15,4)]⟩
def Fq:Ti:=⟨.func #[33,3] #[4] false,.nilFunc,1,8,[]⟩
def Fr:Ti:=⟨.func #[87] #[] false,.nilFunc,1,8,[]⟩
def Fs:Ti:=⟨.func #[65] #[43] false,.nilFunc,1,8,[]⟩
def Fu:Ti:=⟨.func #[43] #[42,28,36,43] false,.nilFunc,1,8,[]⟩
def Fv:Ti:=⟨.func #[46] #[46] false,.nilFunc,1,8,[]⟩
def Fx:Ti:=⟨.func #[59] #[33,4] false,.nilFunc,1,8,[]⟩
def Fy:Ti:=⟨.func #[39,34] #[34,46,4] false,.nilFunc,1,8,[]⟩
def Fz:Ti:=⟨.func #[39] #[36] false,.nilFunc,1,8,[]⟩
def AO:Ti:=⟨.func #[39,34] #[34,4] false,.nilFunc,1,8,[]⟩
def AQ:Ti:=⟨.func #[33,33] #[43] false,.nilFunc,1,8,[]⟩
def AR:Ti:=⟨.func #[42,34] #[33] false,.nilFunc,1,8,[]⟩
def AT:Ti:=⟨.func #[39,59] #[39,36,43] false,.nilFunc,1,8,[]⟩
def AU:Ti:=⟨.func #[54] #[] false,.nilFunc,1,8,[]⟩
def AW:Ti:=⟨.func #[54] #[] false,.nilFunc,1,8,[]⟩
def AX:Ti:=⟨.func #[] #[107] false,.nilFunc,1,8,[]⟩
def AY:Ti:=⟨.pointer 112,.pointer none,1,8,[]⟩
def AZ:Ti:=⟨.func #[3] #[109] false,.nilFunc,1,8,[]⟩
def A0:Ti:=⟨.struct #[⟨"Who",3,0,false, "", "",0⟩,⟨"Next",34,1,false, "", "",8⟩,⟨"Match",34,2,false, "", "",16⟩],.agg #[.int .i64 0,.int .u64 0,.int .u64 0],3,24,[(0,3),(1,34),(2,34)]⟩
def yC:Ti:=⟨.struct #[⟨"Who",3,0,false, "", "",0⟩,⟨"Next",34,1,false, "", "",8⟩,⟨"Match",34,2,false, "", "",16⟩],.agg #[.int .i64 0,.int .u64 0,.int .u64 0],3,24,[(0,3),(1,34),(2,34)]⟩
def Bc:Ti:=⟨.func #[] #[36] false,.nilFunc,1,8,[]⟩
def Bd:Ti:=⟨.func #[3] #[] false,.nilFunc,1,8,[]⟩
def Be:Ti:=⟨.func #[39] #[39] false,.nilFunc,1,8,[]⟩
def Bf:Ti:=⟨.func #[39] #[4] false,.nilFunc,1,8,[]⟩
def Bg:Ti:=⟨.func #[33] #[4] false,.nilFunc,1,8,[]⟩
def Bh:Ti:=⟨.func #[37] #[4] false,.nilFunc,1,8,[]⟩
def Bi:Ti:=⟨.func #[31,3] #[4] false,.nilFunc,1,8,[]⟩
def Bj:Ti:=⟨.func #[65] #[] false,.nilFunc,1,8,[]⟩
def Bl:Ti:=⟨.map 3 120,.map none,1,8,[]⟩
def Bm:Ti:=⟨.func #[] #[121] false,.nilFunc,1,8,[]⟩
def Bo:Ti:=⟨.func #[65] #[4] false,.nilFunc,1,8,[]⟩
def Bp:Ti:=⟨.func #[36,36] #[4] false,.nilFunc,1,8,[]⟩
def Bq:Ti:=⟨.func #[42,65,3,34,4,34] #[28] false,.nilFunc,1,8,[]⟩
def Br:Ti:=⟨.func #[31,3] #[31] false,.nilFunc,1,8,[]⟩
def Bt:Ti:=⟨.func #[33,31] #[4] false,.nilFunc,1,8,[]⟩
def Bu:Ti:=⟨.func #[42] #[42,28] false,.nilFunc,1,8,[]⟩
def Bv:Ti:=⟨.func #[39,36] #[4] false,.nilFunc,1,8,[]⟩
def Bw:Ti:=⟨.func #[39,34] #[39,4] false,.nilFunc,1,8,[]⟩
def Bx:Ti:=⟨.func #[39,36,37] #[39,34,43] false,.nilFunc,1,8,[]⟩
def By:Ti:=⟨.func #[39,39,34] #[4] false,.nilFunc,1,8,[]⟩
def Bz:Ti:=⟨.func #[65,65] #[4] false,.nilFunc,1,8,[]⟩
def BA:Ti:=⟨.struct #[⟨"me",3,0,false, "", "confluence/raft",0⟩,⟨"vote",3,1,false, "", "confluence/raft",8⟩,⟨"role",3,2,false, "", "confluence/raft",16⟩,⟨"leader",3,3,false, "", "confluence/raft",24⟩,⟨"clock",3,4,false, "", "confluence/raft",32⟩,⟨"limit",3,5,false, "", "confluence/raft",40⟩,⟨"term",34,6,false, "", "confluence/raft",48⟩,⟨"commit",34,7,false, "", "confluence/raft",56⟩],.agg #[.int .i64 0,.int .i64 0,.int .i64 0,.int .i64 0,.int .i64 0,.int .i64 0,.int .u64 0,.int .u64 0],8,64,[(0,3),(1,3),(2,3),(3,3),(4,3),(5,3),(6,34),(7,34)]⟩
def BB:Ti:=⟨.struct #[⟨"me",3,0,false, "", "confluence/raft",0⟩,⟨"vote",3,1,false, "", "confluence/raft",8⟩,⟨"role",3,2,false, "", "confluence/raft",16⟩,⟨"leader",3,3,false, "", "confluence/raft",24⟩,⟨"clock",3,4,false, "", "confluence/raft",32⟩,⟨"limit",3,5,false, "", "confluence/raft",40⟩,⟨"term",34,6,false, "", "confluence/raft",48⟩,⟨"commit",34,7,false, "", "confluence/raft",56⟩],.agg #[.int .i64 0,.int .i64 0,.int .i64 0,.int .i64 0,.int .i64 0,.int .i64 0,.int .u64 0,.int .u64 0],8,64,[(0,3),(1,3),(2,3),(3,3),(4,3),(5,3),(6,34),(7,34)]⟩
def BC:Ti:=⟨.func #[42] #[138] false,.nilFunc,1,8,[]⟩
def BD:Ti:=⟨.func #[31,31] #[4] false,.nilFunc,1,8,[]⟩
def BE:Ti:=⟨.func #[40,40] #[4] false,.nilFunc,1,8,[]⟩
def BF:Ti:=⟨.func #[31] #[31] false,.nilFunc,1,8,[]⟩
def BG:Ti:=⟨.func #[39,34] #[43] false,.nilFunc,1,8,[]⟩
def BH:Ti:=⟨.func #[33] #[43] false,.nilFunc,1,8,[]⟩
def BI:Ti:=⟨.func #[42,34] #[4] false,.nilFunc,1,8,[]⟩
def BJ:Ti:=⟨.func #[42] #[34] false,.nilFunc,1,8,[]⟩
def BK:Ti:=⟨.func #[39,34] #[39,43] false,.nilFunc,1,8,[]⟩
def BL:Ti:=⟨.func #[46] #[33,43] false,.nilFunc,1,8,[]⟩
def BM:Ti:=⟨.func #[33,33] #[3] false,.nilFunc,1,8,[]⟩
def BN:Ti:=⟨.func #[42,4] #[28] false,.nilFunc,1,8,[]⟩
def BO:Ti:=⟨.func #[40] #[40] false,.nilFunc,1,8,[]⟩
def BP:Ti:=⟨.func #[33,3] #[3,4] false,.nilFunc,1,8,[]⟩
def BQ:Ti:=⟨.func #[28] #[] true,.nilFunc,1,8,[]⟩
def BR:Ti:=⟨.int .i64,.int .i64 0,1,8,[]⟩
def BS:Ti:=⟨.func #[3] #[155] false,.nilFunc,1,8,[]⟩
def BT:Ti:=⟨.func #[65] #[155] false,.nilFunc,1,8,[]⟩
def BU:Ti:=⟨.func #[31,54] #[4] false,.nilFunc,1,8,[]⟩
def BV:Ti:=⟨.func #[190] #[] false,.nilFunc,1,8,[]⟩
def BW:Ti:=⟨.func #[190] #[] false,.nilFunc,1,8,[]⟩
def BX:Ti:=⟨.func #[39] #[160] false,.nilFunc,1,8,[]⟩
def BY:Ti:=⟨.func #[39,34] #[3,36] false,.nilFunc,1,8,[]⟩
def BZ:Ti:=⟨.func #[33] #[54] false,.nilFunc,1,8,[]⟩
def B3:Ti:=⟨.func #[33,54] #[3] false,.nilFunc,1,8,[]⟩
def B4:Ti:=⟨.func #[59] #[4] false,.nilFunc,1,8,[]⟩
def B5:Ti:=⟨.struct #[⟨"Member",3,0,false, "", "",0⟩,⟨"Index",34,1,false, "", "",8⟩],.agg #[.int .i64 0,.int .u64 0],2,16,[(0,3),(1,34)]⟩
def yD:Ti:=⟨.struct #[⟨"Member",3,0,false, "", "",0⟩,⟨"Index",34,1,false, "", "",8⟩],.agg #[.int .i64 0,.int .u64 0],2,16,[(0,3),(1,34)]⟩
def B6:Ti:=⟨.slice 168,.slice none 0 0,1,24,[]⟩
def B7:Ti:=⟨.func #[33,169] #[34] false,.nilFunc,1,8,[]⟩
def B8:Ti:=⟨.func #[40,172] #[3] false,.nilFunc,1,8,[]⟩
def B9:Ti:=⟨.func #[112] #[4] false,.nilFunc,1,8,[]⟩
def Ca:Ti:=⟨.func #[39,34,3] #[36,37,43] false,.nilFunc,1,8,[]⟩
def Cb:Ti:=⟨.func #[46,46] #[4] false,.nilFunc,1,8,[]⟩
def Cc:Ti:=⟨.func #[37,37,57] #[4] false,.nilFunc,1,8,[]⟩
def Ce:Ti:=⟨.func #[37,34] #[4] false,.nilFunc,1,8,[]⟩
def Cg:Ti:=⟨.func #[39,3] #[36] false,.nilFunc,1,8,[]⟩
def Ch:Ti:=⟨.func #[37,37] #[4] false,.nilFunc,1,8,[]⟩
def Ci:Ti:=⟨.func #[42,65] #[28] false,.nilFunc,1,8,[]⟩
def Cj:Ti:=⟨.func #[42,3] #[3] false,.nilFunc,1,8,[]⟩
def Ck:Ti:=⟨.func #[42,3] #[28] false,.nilFunc,1,8,[]⟩
def Cm:Ti:=⟨.func #[31] #[4] false,.nilFunc,1,8,[]⟩
def Cn:Ti:=⟨.func #[3] #[31] false,.nilFunc,1,8,[]⟩
def Co:Ti:=⟨.func #[28,28] #[28] false,.nilFunc,1,8,[]⟩
def Cq:Ti:=⟨.func #[31,3] #[3,4] false,.nilFunc,1,8,[]⟩
def yE:Ti:=⟨.struct #[⟨"is",4,0,false, "", "confluence/frame",0⟩,⟨"f",155,1,false, "", "confluence/frame",8⟩],.agg #[.bool false,.int .i64 0],2,16,[(0,4),(1,155)]⟩
def Cs:Ti:=⟨.array 7 187,.agg #[.bool false,.int .i64 0,.bool false,.int .i64 0,.bool false,.int .i64 0,.bool false,.int .i64 0,.bool false,.int .i64 0,.bool false,.int .i64 0,.bool false,.int .i64 0],14,112,[]⟩
def Ct:Ti:=⟨.func #[31,54] #[3] false,.nilFunc,1,8,[]⟩
def Cu:Ti:=⟨.func #[3,36] #[4] false,.nilFunc,1,8,[]⟩
def Cv:Ti:=⟨.slice 34,.slice none 0 0,1,24,[]⟩
def Cw:Ti:=⟨.func #[191] #[] false,.nilFunc,1,8,[]⟩
def Cx:Ti:=⟨.func #[36] #[4] false,.nilFunc,1,8,[]⟩
def Cy:Ti:=⟨.func #[31,3] #[3] false,.nilFunc,1,8,[]⟩
def Cz:Ti:=⟨.func #[169,3] #[34] false,.nilFunc,1,8,[]⟩
def CA:Ti:=⟨.int .u64,.int .u64 0,1,8,[]⟩
def CB:Ti:=⟨.func #[3,3] #[4] false,.nilFunc,1,8,[]⟩
def CD:Ti:=⟨.func #[191,3,3,3] #[] false,.nilFunc,1,8,[]⟩
def CE:Ti:=⟨.func #[196] #[3] false,.nilFunc,1,8,[]⟩
def CF:Ti:=⟨.func #[31,3,31] #[31] true,.nilFunc,1,8,[]⟩
def CG:Ti:=⟨.func #[43] #[39,34,43] false,.nilFunc,1,8,[]⟩
def CH:Ti:=⟨.func #[191,3,3] #[] false,.nilFunc,1,8,[]⟩
def CI:Ti:=⟨.int .i64,.int .i64 0,1,8,[]⟩
def CJ:Ti:=⟨.func #[191,3,3] #[3,203] false,.nilFunc,1,8,[]⟩
def CK:Ti:=⟨.func #[191,3,3] #[4] false,.nilFunc,1,8,[]⟩
def CL:Ti:=⟨.func #[34,34] #[4] false,.nilFunc,1,8,[]⟩
def CM:Ti:=⟨.func #[191,3,3,3] #[3] false,.nilFunc,1,8,[]⟩
def CN:Ti:=⟨.func #[191,3,3,3] #[3,4] false,.nilFunc,1,8,[]⟩
def CO:Ti:=⟨.func #[211] #[3] false,.nilFunc,1,8,[]⟩
def CP:Ti:=⟨.int .u32,.int .u32 0,1,4,[]⟩
def CQ:Ti:=⟨.func #[34] #[3] false,.nilFunc,1,8,[]⟩
def CS:Ti:=⟨.func #[31,3] #[] false,.nilFunc,1,8,[]⟩
def CT:Ti:=⟨.int .u64,.int .u64 0,1,8,[]⟩
def CU:Ti:=⟨.func #[3] #[196] false,.nilFunc,1,8,[]⟩
def CV:Ti:=⟨.func #[] #[34] false,.nilFunc,1,8,[]⟩
def CW:Ti:=⟨.func #[191,3,218] #[3] false,.nilFunc,1,8,[]⟩
def CX:Ti:=⟨.pointer 3,.pointer none,1,8,[]⟩
def CY:Ti:=⟨.func #[191,3,3,3,218] #[3] false,.nilFunc,1,8,[]⟩
def CZ:Ti:=⟨.func #[34] #[4] false,.nilFunc,1,8,[]⟩
def C0:Ti:=⟨.pointer 214,.pointer none,1,8,[]⟩
def C1:Ti:=⟨.func #[191,3,3,218] #[3,3] false,.nilFunc,1,8,[]⟩
def C3:Ti:=⟨.func #[31] #[] false,.nilFunc,1,8,[]⟩
def C4:Ti:=⟨.func #[] #[9] false,.nilFunc,1,8,[]⟩
def C5:Ti:=⟨.struct #[⟨"_interface",17,0,false, "", "runtime",0⟩,⟨"concrete",17,1,false, "", "runtime",8⟩,⟨"asserted",17,2,false, "", "runtime",16⟩,⟨"missingMethod",9,3,false, "", "runtime",24⟩],.agg #[.pointer none,.pointer none,.pointer none,.string ByteArray.empty],4,40,[(0,17),(1,17),(2,17),(3,9)]⟩
def C6:Ti:=⟨.array 0 16,.agg #[],0,0,[]⟩
def C7:Ti:=⟨.struct #[⟨"_",228,0,false, "", "runtime",0⟩],.agg #[],0,0,[(0,228)]⟩
def C8:Ti:=⟨.func #[] #[3] false,.nilFunc,1,8,[]⟩
def C9:Ti:=⟨.func #[241,241] #[4] false,.nilFunc,1,8,[]⟩
def Db:Ti:=⟨.pointer 5,.pointer none,1,8,[]⟩
def Dc:Ti:=⟨.struct #[⟨"Size_",12,0,false, "", "",0⟩,⟨"PtrBytes",12,1,false, "", "",8⟩,⟨"Hash",211,2,false, "", "",16⟩,⟨"TFlag",232,3,false, "", "",20⟩,⟨"Align_",5,4,false, "", "",21⟩,⟨"FieldAlign_",5,5,false, "", "",22⟩,⟨"Kind_",233,6,false, "", "",23⟩,⟨"Equal",234,7,false, "", "",24⟩,⟨"GCData",235,8,false, "", "",32⟩,⟨"Str",236,9,false, "", "",40⟩,⟨"PtrToThis",237,10,false, "", "",44⟩],.agg #[.int .u64 0,.int .u64 0,.int .u32 0,.int .u8 0,.int .u8 0,.int .u8 0,.int .u8 0,.nilFunc,.pointer none,.int .i32 0,.int .i32 0],11,48,[(0,12),(1,12),(2,211),(3,232),(4,5),(5,5),(6,233),(7,234),(8,235),(9,236),(10,237)]⟩
def De:Ti:=⟨.func #[155] #[4] false,.nilFunc,1,8,[]⟩
theorem tk {n:TypeId} {i:Ti} (h1:Tryz.prog.underlying n=some i.desc:=by kernel_rfl) (h2:(Tryz.prog.info? n).map (fun i=>(i.zero,i.size,i.bytes))=some (some i.zero,i.size,i.bytes):=by kernel_rfl) (h3:fieldsOf i.desc=i.fs:=by kernel_rfl):Ti.of Tryz.prog n i:=⟨h1,h2,h3⟩
def FA:List (Nat×Ti):=[(1,Gy),(2,Gz),(3,GA),(4,GB),(5,GC),(7,GD),(9,GE),(12,Eu),(13,Ew),(21,Ex),(22,Ey),(23,Ez),(24,EA),(25,EB),(26,EC),(27,ED),(28,EE),(29,EF),(30,EG),(31,EH),(32,EI),(33,AI),(34,EJ),(35,EK),(36,w8),(37,EL),(38,EM),(39,AJ),(40,EN),(41,EO),(42,AK),(43,EP),(45,EQ),(46,ER),(47,ES),(48,AL),(49,ET),(50,EU),(52,EV),(53,EW),(54,EX),(56,EY),(57,EZ),(58,E0),(59,AM),(60,E1),(61,E2),(62,E3),(63,E4),(64,E5),(65,za),(66,E6),(68,E8),(69,E9),(71,Fa),(72,Fb),(74,Fc),(75,Fd),(76,Fe),(77,Ff),(78,Fg),(80,Fh),(81,Fi),(82,Fj),(85,Fk),(86,Fl),(87,Fm),(88,Fo),(89,Fp),(90,Fq),(91,Fr),(92,Fs),(93,Fu),(94,Fv),(96,Fx),(98,Fy),(99,Fz),(101,AO),(102,AQ),(103,AR),(105,AT),(106,AU),(107,AW),(108,AX),(109,AY),(110,AZ),(111,A0),(112,yC),(113,Bc),(114,Bd),(115,Be),(116,Bf),(117,Bg),(118,Bh),(119,Bi),(120,Bj),(121,Bl),(122,Bm),(123,Bo),(124,Bp),(125,Bq),(126,Br),(127,Bt),(129,Bu),(130,Bv),(132,Bw),(134,Bx),(135,By),(136,Bz),(137,BA),(138,BB),(139,BC),(140,BD),(141,BE),(142,BF),(143,BG),(144,BH),(145,BI),(146,BJ),(148,BK),(149,BL),(150,BM),(151,BN),(152,BO),(153,BP),(154,BQ),(155,BR),(156,BS),(157,BT),(158,BU),(159,BV),(160,BW),(161,BX),(163,BY),(164,BZ),(165,B3),(166,B4),(167,B5),(168,yD),(169,B6),(170,B7),(171,B8),(172,B9),(174,Ca),(175,Cb),(176,Cc),(177,Ce),(178,Cg),(179,Ch),(180,Ci),(181,Cj),(182,Ck),(183,Cm),(184,Cn),(185,Co),(186,Cq),(187,yE),(188,Cs),(189,Ct),(190,Cu),(191,Cv),(192,Cw),(193,Cx),(194,Cy),(195,Cz),(196,CA),(197,CB),(198,CD),(199,CE),(200,CF),(201,CG),(202,CH),(203,CI),(205,CJ),(206,CK),(207,CL),(208,CM),(209,CN),(210,CO),(211,CP),(212,CQ),(213,CS),(214,CT),(215,CU),(216,CV),(217,CW),(218,CX),(219,CY),(220,CZ),(221,C0),(223,C1),(224,C3),(225,C4),(226,C5),(228,C6),(229,C7),(231,C8),(234,C9),(235,Db),(238,Dc),(240,De)]
instance:HasTab Tryz.prog:=⟨FA,⟨tk,⟨tk,⟨tk,⟨tk,⟨tk,⟨tk,⟨tk,⟨tk,⟨tk,⟨tk,⟨tk,⟨tk,⟨tk,⟨tk,⟨tk,⟨tk,⟨tk,⟨tk,⟨tk,⟨tk,⟨tk,⟨tk,⟨tk,⟨tk,⟨tk,⟨tk,⟨tk,⟨tk,⟨tk,⟨tk,⟨tk,⟨tk,⟨tk,⟨tk,⟨tk,⟨tk,⟨tk,⟨tk,⟨tk,⟨tk,⟨tk,⟨tk,⟨tk,⟨tk,⟨tk,⟨tk,⟨tk,⟨tk,⟨tk,⟨tk,⟨tk,⟨tk,⟨tk,⟨tk,⟨tk,⟨tk,⟨tk,⟨tk,⟨tk,⟨tk,⟨tk,⟨tk,⟨tk,⟨tk,⟨tk,⟨tk,⟨tk,⟨tk,⟨tk,⟨tk,⟨tk,⟨tk,⟨tk,⟨tk,⟨tk,⟨tk,⟨tk,⟨tk,⟨tk,⟨tk,⟨tk,⟨tk,⟨tk,⟨tk,⟨tk,⟨tk,⟨tk,⟨tk,⟨tk,⟨tk,⟨tk,⟨tk,⟨tk,⟨tk,⟨tk,⟨tk,⟨tk,⟨tk,⟨tk,⟨tk,⟨tk,⟨tk,⟨tk,⟨tk,⟨tk,⟨tk,⟨tk,⟨tk,⟨tk,⟨tk,⟨tk,⟨tk,⟨tk,⟨tk,⟨tk,⟨tk,⟨tk,⟨tk,⟨tk,⟨tk,⟨tk,⟨tk,⟨tk,⟨tk,⟨tk,⟨tk,⟨tk,⟨tk,⟨tk,⟨tk,⟨tk,⟨tk,⟨tk,⟨tk,⟨tk,⟨tk,⟨tk,⟨tk,⟨tk,⟨tk,⟨tk,⟨tk,⟨tk,⟨tk,⟨tk,⟨tk,⟨tk,⟨tk,⟨tk,⟨tk,⟨tk,⟨tk,⟨tk,⟨tk,⟨tk,⟨tk,⟨tk,⟨tk,⟨tk,⟨tk,⟨tk,⟨tk,⟨tk,⟨tk,⟨tk,⟨tk,⟨tk,⟨tk,⟨tk,⟨tk,⟨tk,⟨tk,⟨tk,⟨tk,⟨tk,⟨tk,⟨tk,⟨tk,⟨tk,⟨tk,⟨tk,⟨tk,⟨tk,⟨tk,⟨tk,⟨tk,⟨tk,⟨tk,⟨tk,⟨tk,⟨tk,⟨tk,⟨tk,⟨tk,⟨tk,⟨tk,⟨tk,⟨tk,⟨tk,⟨tk,⟨tk,trivial⟩⟩⟩⟩⟩⟩⟩⟩⟩⟩⟩⟩⟩⟩⟩⟩⟩⟩⟩⟩⟩⟩⟩⟩⟩⟩⟩⟩⟩⟩⟩⟩⟩⟩⟩⟩⟩⟩⟩⟩⟩⟩⟩⟩⟩⟩⟩⟩⟩⟩⟩⟩⟩⟩⟩⟩⟩⟩⟩⟩⟩⟩⟩⟩⟩⟩⟩⟩⟩⟩⟩⟩⟩⟩⟩⟩⟩⟩⟩⟩⟩⟩⟩⟩⟩⟩⟩⟩⟩⟩⟩⟩⟩⟩⟩⟩⟩⟩⟩⟩⟩⟩⟩⟩⟩⟩⟩⟩⟩⟩⟩⟩⟩⟩⟩⟩⟩⟩⟩⟩⟩⟩⟩⟩⟩⟩⟩⟩⟩⟩⟩⟩⟩⟩⟩⟩⟩⟩⟩⟩⟩⟩⟩⟩⟩⟩⟩⟩⟩⟩⟩⟩⟩⟩⟩⟩⟩⟩⟩⟩⟩⟩⟩⟩⟩⟩⟩⟩⟩⟩⟩⟩⟩⟩⟩⟩⟩⟩⟩⟩⟩⟩⟩⟩⟩⟩⟩⟩⟩⟩⟩⟩⟩⟩⟩⟩⟩⟩⟩⟩⟩⟩
end Go.Proofs.YtdeffdldifepkaaGreat
namespace Go.Proofs.YtdeffdldifepkaaGreat
open Go.RowKit
open Asn (pt row rb)
set_option linter.unusedVariables false
set_option linter.unusedSimpArgs false
def kf (ops:Array Oper) (j:Nat):List Nat:=
 match ops[j]? with
 |none=>[]
 |some o=>(o.after.toList.filter fun e=>Region.binds .any e).map (·.on)
def Ak (ops:Array Oper):Nat→List Nat→List Nat→List Nat
 |0,_,seen=>seen
 |_+1,[],seen=>seen
 |f+1,j::todo,seen=>if seen.contains j then Ak ops f todo seen else Ak ops f (kf ops j++todo) (j::seen)
def lx (ops:Array Oper) (j:Nat):Bool:=
 let up:=Ak ops 2000 [j] []
 decide (j<ops.size)&&(List.range ops.size).all fun k=>up.contains k||(Ak ops 2000 [k] []).contains j
inductive Up (ops:Array Oper) (j:Nat):Nat→Prop
 |refl:Up ops j j
 |step {m k:Nat} (h:Up ops j m) (hk:k∈kf ops m):Up ops j k
theorem no {ops:Array Oper} {j:Nat}: ∀ (f:Nat) (todo seen:List Nat),(∀ k∈todo,Up ops j k)→(∀ k∈seen,Up ops j k)→ ∀ k∈Ak ops f todo seen,Up ops j k
 |0,_,_,_,hs,k,hk=>hs k hk
 |_+1,[],_,_,hs,k,hk=>hs k hk
 |f+1,i::todo,seen,ht,hs,k,hk=>by
  unfold Ak at hk
  split at hk
  ·exact no f todo seen (fun k hk=>ht k (by simp[hk])) hs k hk
  ·refine no f _ _ (fun k hk=>?_) (fun k hk=>?_) k hk
   ·rcases List.mem_append.1 hk with hk|hk
    ·exact .step (ht i (by simp)) hk
    ·exact ht k (by simp[hk])
   ·rcases List.mem_cons.1 hk with rfl|hk
    ·exact ht _ (by simp)
    ·exact hs k hk
def jO (ops:Array Oper) (L:Array Bool):Prop:= ∀ m,L.getD m false=true→ ∀ k∈kf ops m,L.getD k false=true
theorem n8 {ops:Array Oper} (n:Nat):jO ops (Array.replicate n false):=fun m hm=>by
 exfalso
 simp only[Array.getD_eq_getD_getElem?,Array.getElem?_replicate] at hm
 split at hm<;>simp at hm
theorem ly {ops:Array Oper} {L:Array Bool} {j:Nat} (hj:j∈Region.ready .any ops L): ∀ k∈kf ops j,L.getD k false=true:=fun k hk=>by
 obtain⟨_,oj,hoj,haj⟩:=mem_ready.1 hj
 simp only[kf,hoj,List.mem_map,List.mem_filter] at hk
 obtain⟨e,⟨he,hb⟩,rfl⟩:=hk
 exact haj e (by simpa using he) hb
theorem iE {ops:Array Oper} {L:Array Bool} {j:Nat} (hc:jO ops L) (hj:j∈Region.ready .any ops L):jO ops (L.setIfInBounds j true):=fun m hm k hk=>by
 have up: ∀ i,L.getD i false=true→(L.setIfInBounds j true).getD i false=true:=fun i hi=>by
  by_cases hij:j=i
  ·subst hij
   simp only[Array.getD_eq_getD_getElem?,Array.getElem?_setIfInBounds] at hi ⊢
   rw[if_pos trivial]
   split
   ·rfl
   ·rename_i h;rw[Array.getElem?_eq_none (by omega)] at hi;exact hi
  ·rwa [getD_set_ne false hij]
 by_cases hij:j=m
 ·subst hij
  exact up k (ly hj k hk)
 ·rw[getD_set_ne false hij] at hm
  exact up k (hc m hm k hk)
theorem qX {ops:Array Oper} {L:Array Bool} {j:Nat} (hc:jO ops L) (hj:j∈Region.ready .any ops L) {k:Nat} (h:Up ops j k):k=j∨L.getD k false=true:=by
 induction h with
 |refl=>exact .inl O
 |step h hk ih=>
  rcases ih with rfl|ih
  ·exact .inr (ly hj _ hk)
  ·exact .inr (hc _ ih _ hk)
theorem pv {ops:Array Oper} {i j:Nat} {L:Array Bool} (hc:jO ops L) (hp:lx ops j=true) (hi:i∈Region.ready .any ops L) (hj:j∈Region.ready .any ops L):i=j:=by
 obtain⟨hiL,oi,hoi,hai⟩:=mem_ready.1 hi
 obtain⟨hjL,oj,hoj,haj⟩:=mem_ready.1 hj
 by_cases hne:i=j
 ·exact hne
 exfalso
 have hil:i<ops.size:=(Array.getElem?_eq_some_iff.1 hoi).1
 simp only[lx,Bool.and_eq_true,List.all_eq_true,List.mem_range] at hp
 have h1:=hp.2 i hil
 have sz: ∀ {k:Nat},L.getD k true=false→L.getD k false=true→False:=fun {k} h0 h1=>by
  rcases Nat.lt_or_ge k L.size with h'|h'
  ·simp[h'] at h0 h1;rw[h0] at h1;cases h1
  ·simp[Array.getElem?_eq_none h'] at h1
 simp only[Bool.or_eq_true,List.contains_iff_mem] at h1
 rcases h1 with h1|h1
 ·have hu:Up ops j i:=no _ _ _ (fun k hk=>(List.mem_singleton.1 hk)▸ .refl) (fun _ h=>by cases h) i h1
  rcases qX hc hj hu with h|h
  ·exact hne h
  ·exact sz hiL h
 ·have hu:Up ops i j:=no _ _ _ (fun k hk=>(List.mem_singleton.1 hk)▸ .refl) (fun _ h=>by cases h) j h1
  rcases qX hc hi hu with h|h
  ·exact hne h.symm
  ·exact sz hjL h
section
variable {P:Program} {ops:Array Oper} {Q:Exit→Act→World→Prop}
def iV (P:Program) (ops:Array Oper) (Q:Exit→Act→World→Prop) (i:Nat) (K:Act→World→Prop) (a:Act) (w:World):Prop:=
 match ops[i]? with
 |none=>K a w
 |some o=>if Region.wanted o (yielded ops a.tmps) then mK P o a w K Q else K (a.put o.dst undef) w
theorem px {i:Nat} {a:Act} {w:World} {K K':Act→World→Prop} (h: ∀ a w,K a w→K' a w) (hh:iV P ops Q i K a w):iV P ops Q i K' a w:=by
 unfold iV at*
 split
 ·exact h _ _ (by simpa[*] using hh)
 ·rename_i o ho
  simp only[ho] at hh
  split
  ·rename_i hw;simp only[hw,if_true] at hh;exact i4 h hh
  ·rename_i hw;simp only[hw] at hh;exact h _ _ hh
theorem qY {S:World→Prop} {i:Nat} {o:Oper} {v:Value} {a:Act} (hi:ops[i]? =some o) (hy:YieldsIf P ops S o v a)
  {K:Act→World→Prop} {w:World} (hS:S w) (h:K (a.put o.dst v) w):iV P ops Q i K a w:=by
 unfold iV
 simp only[hi]
 rcases hy with⟨hw,hv⟩|⟨hw,rfl⟩
 ·simp only[hw,if_true,mK,hv w hS,Oper.uponIn];exact h
 ·simp only[hw,Bool.false_eq_true,if_false];exact h
theorem n9 {S:World→Prop} {j:Nat} {oi oj:Oper} {v:Value} (hj:ops[j]? =some oj) (hap:oi.apart ops oj=true)
  (hsi: ∀ cs b,oi.op≠ .select cs b) (hsj: ∀ cs b,oj.op≠ .select cs b)
  (hQ: ∀ c a w,Q (.panic c) (a.put oi.dst v) w→Q (.panic c) a w) {K:Act→World→Prop} {a:Act} {w:World}
  (hy:YieldsIf P ops S oi v a) (h:iV P ops Q j K (a.put oi.dst v) w):
  iV P ops Q j (fun a' w'=>YieldsIf P ops S oi v a'∧K (a'.put oi.dst v) w') a w:=by
 obtain⟨h1,h2,h3⟩:=Oper.apart_spec hap
 have keep: ∀ (a:Act),YieldsIf P ops S oi v a→ ∀ u,YieldsIf P ops S oi v (a.put oj.dst u):=fun a hy u=>
  hy.of_same (execOp_put oi hsi a oj.dst u h3) (wanted_put oi a oj.dst u h3)
 have keepD: ∀ d,YieldsIf P ops S oi v {a with defers:=d::a.defers}:=fun d=>hy.of_same O O
 unfold iV at*
 simp only[hj] at*
 rw[wanted_put oj a oi.dst v h1] at h
 split
 ·rename_i hw
  simp only[hw,if_true] at h
  unfold mK at*
  rw[execOp_put oj hsj a oi.dst v h1] at h
  generalize (execOp a.eval oj).run P w=r at*
  cases r with
  |ok n w'=>
   cases n<;>simp only[Oper.uponIn] at h ⊢
   case value u=>exact⟨keep a hy u,by rw[← Act.put_comm a v u h2];exact h⟩
   case skip=>exact⟨keep a hy _,by rw[← Act.put_comm a v undef h2];exact h⟩
   case defer d=>
    refine⟨keep _ (keepD d) _,?_⟩
    rw[← Act.put_comm _ v undef h2, ← Act.put_defers]
    exact h
   case enter f args=>
    refine⟨h.1,CallsIn.mono h.2 fun e w'' he=>?_⟩
    cases e with
    |returned u=>exact⟨keep a hy u,by rw[← Act.put_comm a v u h2];exact he⟩
    |panicked c=>exact hQ _ _ _ he
    |outgrown=>exact he
   case row row args=>exact⟨h.1,RowsIn.mono h.2 fun u w'' he=>⟨keep a hy u,by rw[← Act.put_comm a v u h2];exact he⟩⟩
   case round l f tmps aS bd=>
    refine⟨h.1,RoundIn.mono h.2 fun e w'' he=>?_⟩
    cases e with
    |returned u=>exact⟨keep a hy u,by rw[← Act.put_comm a v u h2];exact he⟩
    |panicked c=>exact hQ _ _ _ he
    |outgrown=>exact he
  |halt x w'=>
   cases x<;>simp only[Oper.uponIn] at h ⊢
   case panic u=>exact hQ _ _ _ h
 ·rename_i hw
  simp only[hw] at h
  exact⟨keep a hy _,by rw[← Act.put_comm a v undef h2];exact h⟩
def np (l:List Oper):Bool:=l.all fun o=>match o.op with
 | .defer _=>false
 |_=>true
theorem nq {l:List Oper} (h:np l=true): ∀ (i:Nat) (o:Oper),l.toArray[i]? =some o→ ∀ c,o.op≠ .defer c:=fun i o ho c hc=>by
 have hm:o∈l:=by
  have:=Array.mem_of_getElem? ho
  simpa using this
 have:=List.all_eq_true.1 h o hm
 rw[hc] at this
 cases this
def lR (P:Program) (ops:Array Oper) (Q:Exit→Act→World→Prop):Nat→(World→Prop)→Array Bool→Act→World→Prop
 |0,_,L,a,w=>Region.ready .any ops L=[]∧Q .normal a w
 |f+1,S,L,a,w=>
  (Region.ready .any ops L=[]→Q .normal a w)∧
  ∀ i∈Region.ready .any ops L,iV P ops Q i (fun a' w'=> ∃ S':World→Prop,((∀ w,S' w→S w)∨lx ops i=true)∧S' w'∧lR P ops Q f S' (L.setIfInBounds i true) a' w') a w
theorem w9 {ro:Option Nat} (hd:ro=none∨ ∀ (i:Nat) (o:Oper),ops[i]? =some o→ ∀ c,o.op≠ .defer c) {i:Nat} {K:Act→World→Prop} {a:Act} {w:World} (h:iV P ops Q i K a w):wpOpIn (Fw ro) 0 P ops Q i K a w:=by
 unfold iV at h
 unfold wpOpIn
 cases ho:ops[i]? with
 |none=>rw[ho] at h;exact h
 |some o=>
  rw[ho] at h
  simp only at h ⊢
  split
  ·rename_i hw
   rw[if_pos hw] at h
   exact pq (hd.imp id fun hd=>hd i o ho) h
  ·rename_i hw
   rw[if_neg hw] at h
   exact⟨fun _ _=>trivial,h⟩
theorem lS {ro:Option Nat} (hd:ro=none∨ ∀ (i:Nat) (o:Oper),ops[i]? =some o→ ∀ c,o.op≠ .defer c): ∀ (f:Nat) (S:World→Prop) (L:Array Bool) (a:Act) (w:World),lR P ops Q f S L a w→wpAnyIn (Fw ro) 0 P .any ops Q f L a w
 |0,_,_,_,_,h=>h
 |f+1,S,L,a,w,h=>⟨h.1,fun i hi=>wpOpIn_mono (fun a' w' ⟨S',_,_,h'⟩=>lS hd f S' _ a' w' h') (w9 hd (h.2 i hi))⟩
theorem kg {i:Nat} {oi:Oper} {v:Value} (hi:ops[i]? =some oi) (hsel: ∀ (j:Nat) (o:Oper) cs b,ops[j]? =some o→o.op≠ .select cs b)
  (hQ: ∀ c a w,Q (.panic c) (a.put oi.dst v) w→Q (.panic c) a w):
  ∀ (f:Nat) (S:World→Prop) (L:Array Bool) (a:Act) (w:World),jO ops L→
   (∀ j oj,ops[j]? =some oj→j≠i→L.getD j true=false→(∀ e∈oj.after,Region.binds .any e=true→e.on≠i)→oi.apart ops oj=true)→
   i∈Region.ready .any ops L→YieldsIf P ops S oi v a→S w→
   lR P ops Q f S (L.setIfInBounds i true) (a.put oi.dst v) w→lR P ops Q (f+1) S L a w:=by
 intro f
 induction f with
 |zero=>
  intro S L a w _ _ hr hy hS H
  refine⟨fun h=>(by rw[h] at hr;cases hr),fun j hj=>?_⟩
  by_cases hji:j=i
  ·subst hji;exact qY hi hy hS ⟨S,.inl fun _ h=>h,hS,H⟩
  ·have:=ready_mono hj hji
   rw[H.1] at this
   cases this
 |succ f ih=>
  intro S L a w hcl hfree hr hy hS H
  refine⟨fun h=>(by rw[h] at hr;cases hr),fun j hj=>?_⟩
  by_cases hji:j=i
  ·subst hji;exact qY hi hy hS ⟨S,.inl fun _ h=>h,hS,H⟩
  ·have h1:=H.2 j (ready_mono hj hji)
   obtain⟨hjun,oj,hoj,hall⟩:=mem_ready.1 hj
   have hnot: ∀ e∈oj.after,Region.binds .any e=true→e.on≠i:=fun e he hb heq=>by
    have h1:=hall e he hb
    have h0:=(mem_ready.1 hr).1
    rw[heq] at h1
    rcases Nat.lt_or_ge i L.size with h'|h'
    ·simp[h'] at h0 h1;rw[h0] at h1;cases h1
    ·simp[Array.getElem?_eq_none h'] at h1
   have h2:=n9 hoj (hfree j oj hoj hji hjun hnot) (fun cs b=>hsel i oi cs b hi) (fun cs b=>hsel j oj cs b hoj) hQ hy h1
   have hfree': ∀ k ok,ops[k]? =some ok→k≠i→(L.setIfInBounds j true).getD k true=false→
     (∀ e∈ok.after,Region.binds .any e=true→e.on≠i)→oi.apart ops ok=true:=fun k ok hk hki hun hno=>by
    refine hfree k ok hk hki ?_ hno
    by_cases hjk:j=k
    ·subst hjk;exact hjun
    ·rw[getD_set_ne true hjk] at hun;exact hun
   refine px (fun a' w' ⟨hy',S',hS',hw',h3⟩=>?_) h2
   rcases hS' with hS'|hp
   ·refine⟨S',.inl hS',hw',ih S' (L.setIfInBounds j true) a' w' (iE hcl hj) hfree' (ready_mono hr (Ne.symm hji)) ?_ hw' ?_⟩
    ·exact hy'.imp (fun⟨h1,h2⟩=>⟨h1,fun w hw=>h2 w (hS' w hw)⟩) id
    ·rw[Array.setIfInBounds_comm _ _ hji]
     exact h3
   ·exact absurd (pv hcl hp hr hj).symm hji
end
section
variable (P:Program) {ro:Option Nat} {ds:List Deferred} (B:Bk ro ds) (n:Nat) (w0:World) (M:Nat→Prop)
inductive RD (l:List Oper) (k:List It):Array Bool→List Asn→aF→List Asn→Prop
 |done {L:Array Bool} {C:List Asn} {T:aF} {H:List Asn} (hr:Region.ready .any l.toArray L=[]) (h:RS P B n w0 M k T H):RD l k L C T H
 |take {L:Array Bool} {C:List Asn} {T:aF} {H:List Asn} (i:Nat) {o:Oper} {v:Value} (ho:l[i]? =some o) (hw:cJ l T o.guard=some true) (hd:i1 n o.dst=true) (hf:Region.free .any l.toArray L i=true)
   (hr:(Region.ready .any l.toArray L).contains i=true) (ht:Tk P n w0 M T C o v) (h:RD l k (L.setIfInBounds i true) C (gU o.dst v T) H):RD l k L C T H
 |skip {L:Array Bool} {C:List Asn} {T:aF} {H:List Asn} (i:Nat) {o:Oper} (ho:l[i]? =some o) (hw:cJ l T o.guard=some false) (hd:i1 n o.dst=true) (hf:Region.free .any l.toArray L i=true)
   (hr:(Region.ready .any l.toArray L).contains i=true) (h:RD l k (L.setIfInBounds i true) C (gU o.dst undef T) H):RD l k L C T H
 |all {L:Array Bool} {C:List Asn} {T:aF} {H:List Asn} (rs:List Nat) (hr:Region.ready .any l.toArray L=rs) (hne:rs≠[]) (E:Nat→Value→List Asn→Prop) (C':Nat→Value→List Asn→List Asn)
   (he: ∀ i∈rs, ∃ o,l[i]? =some o∧cJ l T o.guard=some true∧i1 n o.dst=true∧Ef P n w0 M T H o (E i))
   (hc: ∀ i∈rs, ∀ v H',E i v H'→(∀ w,St w0 M H' w→St w0 M (C' i v H') w)∧((∀ w,St w0 M (C' i v H') w→St w0 M C w)∨lx l.toArray i=true))
   (h: ∀ i∈rs, ∀ o,l[i]? =some o→ ∀ v H',E i v H'→RD l k (L.setIfInBounds i true) (C' i v H') (gU o.dst v T) H'):RD l k L C T H
end
def Al (n:Nat) (L:Array Bool):Nat:=((List.range n).filter fun i=>L.getD i true==false).length
theorem nr {n i:Nat} {L:Array Bool} (hi:i<n) (hL:L.getD i true=false):Al n (L.setIfInBounds i true)<Al n L:=by
 have hs:((List.range n).filter fun j=>(L.setIfInBounds i true).getD j true==false).Sublist ((List.range n).filter fun j=>L.getD j true==false):=by
  have he:((List.range n).filter fun j=>(L.setIfInBounds i true).getD j true==false)=((List.range n).filter fun j=>L.getD j true==false).filter fun j=>(L.setIfInBounds i true).getD j true==false:=by
   rw[List.filter_filter]
   refine List.filter_congr fun j _=>?_
   by_cases hij:i=j
   ·subst hij
    rw[hL]
    simp
   ·rw[getD_set_ne true hij]
    simp
  rw[he]
  exact List.filter_sublist
 rcases Nat.lt_or_eq_of_le hs.length_le with h|h
 ·exact h
 ·exfalso
  have he:=hs.eq_of_length h
  have hm:i∈(List.range n).filter fun j=>L.getD j true==false:=by simp[hi];simpa using hL
  rw[← he] at hm
  have hlt:i<L.size:=by
   rcases Nat.lt_or_ge i L.size with h'|h'
   ·exact h'
   ·simp[Array.getElem?_eq_none h'] at hL
  simp[hlt] at hm
theorem ud {l:List Oper} {L:Array Bool} (h:Al l.length L=0):Region.ready .any l.toArray L=[]:=by
 rcases hr:Region.ready .any l.toArray L with _|⟨i,rs⟩
 ·rfl
 ·exfalso
  have hi:i∈Region.ready .any l.toArray L:=by rw[hr];simp
  obtain⟨h0,o,ho,_⟩:=mem_ready.1 hi
  have hlt:i<l.length:=by
   have:=(Array.getElem?_eq_some_iff.1 ho).1
   simpa using this
  have hm:i∈(List.range l.length).filter fun j=>L.getD j true==false:=by
   rw[List.mem_filter]
   exact⟨by simpa using hlt,by rw[h0];rfl⟩
  unfold Al at h
  rw[List.eq_nil_of_length_eq_zero h] at hm
  cases hm
section
variable {P:Program} {ro:Option Nat} {ds:List Deferred} {B:Bk ro ds} {n:Nat} {w0:World} {M:Nat→Prop} {k:List It}
def NoP (Q:Exit→Act→World→Prop):Exit→Act→World→Prop
 | .panic _,_,_=>False
 |e,a,w=>Q e a w
theorem NoP.imp {Q:Exit→Act→World→Prop} (e:Exit) (a:Act) (w:World) (h:NoP Q e a w):Q e a w:=by
 cases e<;>first|exact h|exact(h:False).elim
theorem RD.any {l:List Oper} (hsel:Region.noSelect l.toArray=true) {L:Array Bool} {C:List Asn} {T:aF} {H:List Asn} (h:RD P B n w0 M l k L C T H):
  (∀ w,St w0 M H w→St w0 M C w)→jO l.toArray L→ ∀ f a w,Al l.length L≤f→a.defers=ds→Tm n a T→St w0 M H w→lR P l.toArray (NoP (QS P B k)) f (St w0 M C) L a w:=by
 induction h with
 |done hr h=>
  intro hC hcl f a w _ had ha hs
  cases f with
  |zero=>exact⟨hr,h.runD a w had ha hs⟩
  |succ f=>exact⟨fun _=>h.runD a w had ha hs,by rw[hr];simp⟩
 |take i ho hw hd hf hr ht _ ih=>
  rename_i L C T H o v _
  intro hC hcl f a w hc had ha hs
  have hi:i∈Region.ready .any l.toArray L:=by simpa using hr
  obtain⟨h0,o',ho',_⟩:=mem_ready.1 hi
  have hlt:i<l.length:=by have:=(Array.getElem?_eq_some_iff.1 ho').1;simpa using this
  have hcs:=nr hlt h0
  obtain⟨f,rfl⟩: ∃ g,f=g+1:=⟨f-1,by omega⟩
  have ho2:l.toArray[i]? =some o:=by simpa using ho
  exact kg ho2 (Region.noSelect_spec hsel) (fun c a w h=>h) f _ L a w hcl (Region.free_spec ho2 hf) hi
   (.inl ⟨ia ha hw,fun w' hw'=>ht.run a w' ha hw'⟩) (hC w hs) (ih hC (iE hcl hi) f _ w (by omega) (by rw[put_defers];exact had) (ha.put hd) hs)
 |skip i ho hw hd hf hr _ ih=>
  rename_i L C T H o _
  intro hC hcl f a w hc had ha hs
  have hi:i∈Region.ready .any l.toArray L:=by simpa using hr
  obtain⟨h0,o',ho',_⟩:=mem_ready.1 hi
  have hlt:i<l.length:=by have:=(Array.getElem?_eq_some_iff.1 ho').1;simpa using this
  have hcs:=nr hlt h0
  obtain⟨f,rfl⟩: ∃ g,f=g+1:=⟨f-1,by omega⟩
  have ho2:l.toArray[i]? =some o:=by simpa using ho
  exact kg ho2 (Region.noSelect_spec hsel) (fun c a w h=>h) f _ L a w hcl (Region.free_spec ho2 hf) hi
   (.inr ⟨ia ha hw,O⟩) (hC w hs) (ih hC (iE hcl hi) f _ w (by omega) (by rw[put_defers];exact had) (ha.put hd) hs)
 |all rs hr hne E C' he hcc _ ih=>
  rename_i L C T H _
  intro hC hcl f a w hc had ha hs
  have hf:0<f:=by
   rcases Nat.eq_zero_or_pos f with h0|h0
   ·exfalso
    have:=ud (l:=l) (L:=L) (by omega)
    rw[hr] at this
    exact hne this
   ·exact h0
  obtain⟨f,rfl⟩: ∃ g,f=g+1:=⟨f-1,by omega⟩
  refine⟨fun h=>absurd (hr▸h) hne,fun i hi=>?_⟩
  obtain⟨h0,o',ho',_⟩:=mem_ready.1 hi
  have hlt:i<l.length:=by have:=(Array.getElem?_eq_some_iff.1 ho').1;simpa using this
  have hcs:=nr hlt h0
  rw[hr] at hi
  obtain⟨o,ho,hw,hd,hE⟩:=he i hi
  have ho2:l.toArray[i]? =some o:=by simpa using ho
  unfold iV
  simp only[ho2,ia ha hw,if_true]
  refine mL (i4 ?_ (hE.run a w ha hs))
  rintro a' w' ⟨v,H',hv,rfl,hs'⟩
  obtain⟨c1,c2⟩:=hcc i hi v H' hv
  exact⟨St w0 M (C' i v H'),c2,c1 w' hs',ih i hi o ho v H' hv c1 (iE hcl (hr▸hi)) f _ w' (by omega) (by rw[put_defers];exact had) (ha.put hd) hs'⟩
theorem qZ {id:Nat} {l:List Oper} {T:aF} {H:List Asn} (C:List Asn) (hC: ∀ w,St w0 M H w→St w0 M C w) (hm:P.follows .mixedOrders=true) (hsel:Region.noSelect l.toArray=true) (hdf:ro=none∨np l=true) (h:RD P B n w0 M l k (Array.replicate l.length false) C T H):RS P B n w0 M (.code (.region id l.toArray true)::k) T H:= .mkD fun a w had ha hs=>by
 refine wpIn_mono (wpIn_region_any (Q:=NoP (QS P B k)) hm ?_) (fun e a w h=>NoP.imp e a w h)
 have hs':St w0 M H {w with drawn:=w.drawn+1}:=hs.step (Kp.drew w)
 have:=h.any hsel hC (n8 _) l.toArray.size a _ ?_ had ha hs'
 ·have h2:=lS (hdf.imp (fun h=>h) nq) _ _ _ _ _ this
  simpa using h2
 ·have:Al l.length (Array.replicate l.length false)≤(List.range l.length).length:=List.length_filter_le _ _
  simpa using this
end
section
variable {P:Program} {ro:Option Nat} {ds:List Deferred} {B:Bk ro ds} {n:Nat} {w0:World} {M:Nat→Prop} {k:List It} {T:aF} {C H:List Asn} {l:List Oper} {L:Array Bool}
theorem zb (h:RS P B n w0 M k T H) (hr:Region.ready .any l.toArray L=[]):RD P B n w0 M l k L C T H:= .done hr h
theorem lT (i:Nat) {d:Tmp} {op:Op} {tt:TypeId} {pos:String} {af:Array Edge} {g:Option (Nat×Bool)} {v:Value} (ho:l[i]? =some ⟨some d,op,tt,pos,af,g⟩) (ht:Tk P n w0 M T C ⟨some d,op,tt,pos,af,g⟩ v) (h:RD P B n w0 M l k (L.setIfInBounds i true) C ((d,v)::T) H)
  (hw:cJ l T g=some true) (hd:i1 n (some d)=true) (hf:Region.free .any l.toArray L i=true) (hr:(Region.ready .any l.toArray L).contains i=true):RD P B n w0 M l k L C T H:= .take i ho hw hd hf hr ht h
theorem zc (i:Nat) {d:Tmp} {op:Op} {tt:TypeId} {pos:String} {af:Array Edge} {g:Option (Nat×Bool)} (ho:l[i]? =some ⟨some d,op,tt,pos,af,g⟩) (h:RD P B n w0 M l k (L.setIfInBounds i true) C ((d,undef)::T) H)
  (hw:cJ l T g=some false) (hd:i1 n (some d)=true) (hf:Region.free .any l.toArray L i=true) (hr:(Region.ready .any l.toArray L).contains i=true):RD P B n w0 M l k L C T H:= .skip i ho hw hd hf hr h
structure Nx (P:Program) {ro:Option Nat} {ds:List Deferred} (B:Bk ro ds) (n:Nat) (w0:World) (M:Nat→Prop) (l:List Oper) (k:List It) (L:Array Bool) (C:List Asn) (i:Nat) (T:aF) (H:List Asn):Prop where
 is: ∃ C',(∀ w,St w0 M H w→St w0 M C' w)∧((∀ w,St w0 M C' w→St w0 M C w)∨lx l.toArray i=true)∧RD P B n w0 M l k (L.setIfInBounds i true) C' T H
theorem aY {i:Nat} (hC: ∀ w,St w0 M H w→St w0 M C w) (h:RD P B n w0 M l k (L.setIfInBounds i true) C T H):Nx P B n w0 M l k L C i T H:=⟨C,hC,.inl fun _ h=>h,h⟩
theorem gF {i:Nat} (hC: ∀ w,St w0 M H w→St w0 M C w) (h:RD P B n w0 M l k (L.setIfInBounds i true) H T H):Nx P B n w0 M l k L C i T H:=⟨H,fun _ h=>h,.inl hC,h⟩
theorem ue {i:Nat} (hp:lx l.toArray i=true) (h:RD P B n w0 M l k (L.setIfInBounds i true) H T H):Nx P B n w0 M l k L C i T H:=⟨H,fun _ h=>h,.inr hp,h⟩
theorem Df (i:Nat) {dd:Option Tmp} {op:Op} {tt:TypeId} {pos:String} {af:Array Edge} {g:Option (Nat×Bool)} {E:Value→List Asn→Prop} (ho:l[i]? =some ⟨dd,op,tt,pos,af,g⟩) (he:Ef P n w0 M T H ⟨dd,op,tt,pos,af,g⟩ E)
  (h: ∀ v H',E v H'→Nx P B n w0 M l k L C i (gU dd v T) H')
  (hw:cJ l T g=some true) (hd:i1 n dd=true) (hr:Region.ready .any l.toArray L=[i]):RD P B n w0 M l k L C T H:=by
 classical
 refine .all [i] hr (by simp) (fun _=>E) (fun _ v H'=>if hE:E v H' then Classical.choose (h v H' hE).is else []) (fun j hj=>?_) (fun j hj v H' hE=>?_) (fun j hj o hoj v H' hE=>?_)
 ·obtain rfl:j=i:=by simpa using hj
  exact⟨_,ho,hw,hd,he⟩
 ·obtain rfl:j=i:=by simpa using hj
  have:=Classical.choose_spec (h v H' hE).is
  simp only[dif_pos hE]
  exact⟨this.1,this.2.1⟩
 ·obtain rfl:j=i:=by simpa using hj
  rw[ho] at hoj
  injection hoj with hoj
  subst hoj
  have:=Classical.choose_spec (h v H' hE).is
  simp only[dif_pos hE]
  exact this.2.2
theorem fb (i j:Nat) {oi oj:Oper} {Ei Ej:Value→List Asn→Prop} (hij:i≠j) (hi:l[i]? =some oi) (hj:l[j]? =some oj) (ei:Ef P n w0 M T H oi Ei) (ej:Ef P n w0 M T H oj Ej)
  (h1: ∀ v H',Ei v H'→Nx P B n w0 M l k L C i (gU oi.dst v T) H') (h2: ∀ v H',Ej v H'→Nx P B n w0 M l k L C j (gU oj.dst v T) H')
  (hwi:cJ l T oi.guard=some true) (hwj:cJ l T oj.guard=some true) (hdi:i1 n oi.dst=true) (hdj:i1 n oj.dst=true) (hr:Region.ready .any l.toArray L=[i,j]):RD P B n w0 M l k L C T H:=by
 classical
 refine .all [i,j] hr (by simp) (fun m=>if m=i then Ei else Ej) (fun m v H'=>if m=i then (if hE:Ei v H' then Classical.choose (h1 v H' hE).is else []) else (if hE:Ej v H' then Classical.choose (h2 v H' hE).is else [])) (fun m hm=>?_) (fun m hm v H' hE=>?_) (fun m hm o ho v H' hE=>?_)
 ·rcases List.mem_cons.1 hm with rfl|hm
  ·exact⟨_,hi,hwi,hdi,by simpa using ei⟩
  ·obtain rfl:m=j:=by simpa using hm
   exact⟨_,hj,hwj,hdj,by simpa[Ne.symm hij] using ej⟩
 ·rcases List.mem_cons.1 hm with rfl|hm
  ·simp only[if_true] at hE ⊢
   have:=Classical.choose_spec (h1 v H' hE).is
   simp only[dif_pos hE]
   exact⟨this.1,this.2.1⟩
  ·obtain rfl:m=j:=by simpa using hm
   simp only[if_neg (Ne.symm hij)] at hE ⊢
   have:=Classical.choose_spec (h2 v H' hE).is
   simp only[dif_pos hE]
   exact⟨this.1,this.2.1⟩
 ·rcases List.mem_cons.1 hm with rfl|hm
  ·rw[hi] at ho
   injection ho with ho
   subst ho
   simp only[if_true] at hE ⊢
   have:=Classical.choose_spec (h1 v H' hE).is
   simp only[dif_pos hE]
   exact this.2.2
  ·obtain rfl:m=j:=by simpa using hm
   rw[hj] at ho
   injection ho with ho
   subst ho
   simp only[if_neg (Ne.symm hij)] at hE ⊢
   have:=Classical.choose_spec (h2 v H' hE).is
   simp only[dif_pos hE]
   exact this.2.2
end
theorem sC {w:World} {base:Nat} {e:TypeId} {size n:Nat} {v:Value} {xs:List Value} (h:w.ownsRow base e size v n xs): ∀ k,v.ownBlock=some k→base≤k∧k<w.heap.size:=World.ownsRow.lt h
structure Src (w0:World) (M:Nat→Prop) (H:List Asn) (A:Option Addr) (n c:Nat) (l:List UInt8):Prop where
 bs: ∀ w,St w0 M H w→Bs w bC A n c l
structure Srd (w0:World) (M:Nat→Prop) (H:List Asn) (size:Nat) (A:Option Addr) (n:Nat) (xs:List Value):Prop where
 rd: ∀ w,St w0 M H w→Rd w bC size A n xs
section
variable {w0 w w':World} {M F:Nat→Prop} {H H' Hr:List Asn} {A:Option Addr} {n c size:Nat} {e:TypeId} {l:List UInt8} {xs:List Value}
theorem Src.old (h:Bs w0 F A n c l) (hF: ∀ k,F k→ ¬ M k):Src w0 M H A n c l:=⟨fun w hS=>((h.more hF).keep hS.kp).more fun _ _=>trivial⟩
theorem Srd.old (h:Rd w0 F size A n xs) (hF: ∀ k,F k→ ¬ M k):Srd w0 M H size A n xs:=⟨fun w hS=>((h.more hF).keep hS.kp).more fun _ _=>trivial⟩
theorem Src.rd (h:Src w0 M H A n c l):Srd w0 M H 1 A n (l.map bv):=⟨fun w hS=>(h.bs w hS).rd⟩
theorem Srd.row [hm:HRow H A n c e size xs Hr]:Srd w0 M H size A n xs:=⟨fun w hS=>(Rd.of_own (hS.at_ hm.mem)).more fun _ _=>trivial⟩
theorem Src.row [hm:HRow H A n c e 1 (l.map bv) Hr]:Src w0 M H A n c l:=⟨fun w hS=>(Bs.of_own (e:=e) (hS.at_ hm.mem)).more fun _ _=>trivial⟩
theorem Srd.pt {g t off:Nat} {cs ds:List Value} [hm:Hat H g t cs] (hl:ds.length=n*size) (hd: ∀ j v,ds[j]? =some v→cs[off+j]? =some v):Srd w0 M H size (some ⟨g,off,none⟩) n ds:=
 ⟨fun w hS=>⟨hl,fun _=>⟨_,O,trivial,fun j v hj=>by rw[d3];exact hS.cell hm.mem (hd j v hj)⟩⟩⟩
theorem Src.pt {g t off:Nat} {cs:List Value} [hm:Hat H g t cs] (hl:l.length=n) (hnc:n≤c) (hc:c≤maxLen) (hd: ∀ j v,(l.map bv)[j]? =some v→cs[off+j]? =some v):Src w0 M H (some ⟨g,off,none⟩) n c l:=
 ⟨fun w hS=>⟨hl.symm,hnc,hc,(Srd.pt (n:=n) (size:=1) (by simp[hl]) hd).rd w hS⟩⟩
theorem Src.nil:Src w0 M H none 0 0 []:=⟨fun w _=>Bs.nil w _⟩
theorem Src.len (h:Src w0 M H A n c l) (hS:St w0 M H w):n=l.length:=(h.bs w hS).len
inductive Rem:List Asn→Asn→List Asn→Prop
 |here {A:Asn} {H:List Asn}:Rem (A::H) A H
 |there {A B:Asn} {H Hr:List Asn}:Rem H A Hr→Rem (B::H) A (B::Hr)
theorem Rem.perm {A:Asn} (r:Rem H A Hr):H.Perm (A::Hr):=by
 induction r with
 |here=>exact List.Perm.refl _
 |there _ ih=>exact(List.Perm.cons _ ih).trans (List.Perm.swap _ _ _)
theorem St.rem {A:Asn} (h:St w0 M H w) (r:Rem H A Hr):St w0 M (A::Hr) w:=h.perm r.perm
theorem St.unrem {A:Asn} (h:St w0 M (A::Hr) w) (r:Rem H A Hr):St w0 M H w:=h.perm r.perm.symm
theorem St.nilrow (h:St w0 M H w) (e:TypeId) (size:Nat):St w0 M (row e size none 0 0 []::H) w:=
 h.add (Kp.refl _ _) (World.ownsRow_nil w 0 e size) (fun k hk=>by cases hk)
theorem St.rowOf {g m:Nat} {cs:List Value} (h:St w0 M H w) (u:Upd H (Asn.pt g e cs) (row e size (some ⟨g,0,none⟩) n m (cs.take (n*size))) H') (hn:n≤m) (hm:m≤maxLen) (hc:cs.length=m*size):St w0 M H' w:=
 h.turn u (fun hb=>Blk.own hb (Nat.zero_le _) hn hm (by simp[hc]) (by simp)) (fun k hk=>by
  simp only[Asn.own,Value.ownBlock,Option.some.injEq] at hk
  exact hk.symm)
end
section
variable {P:Program} {ro:Option Nat} {ds:List Deferred} {B:Bk ro ds} {n:Nat} {w0:World} {M:Nat→Prop} {k:List It} {T:aF} {H Hr:List Asn} {l σ:List Oper} {d:Tmp} {dd:Option Tmp} {tt:TypeId} {pos:String} {af:Array Edge} {g:Option (Nat×Bool)}
theorem Ef.mono {o:Oper} {E E':Value→List Asn→Prop} (h:Ef P n w0 M T H o E) (hE: ∀ v H',E v H'→ ∀ w,St w0 M H' w→ ∃ v' H'',v'=v∧E' v' H''∧St w0 M H'' w):Ef P n w0 M T H o E':=
 .mkIn fun a w ha hS=>i4 (fun a' w' ⟨v,H',hv,he,hS'⟩=>by
  obtain⟨v',H'',rfl,h1,h2⟩:=hE v H' hv w' hS'
  exact⟨_,H'',h1,he,h2⟩) (h.run a w ha hS)
theorem Ef.from {o:Oper} {E:Value→List Asn→Prop} {H':List Asn} (h:Ef P n w0 M T H' o E) (hH: ∀ w,St w0 M H w→St w0 M H' w):Ef P n w0 M T H o E:= .mkIn fun a w ha hS=>h.run a w ha (hH w hS)
theorem uf [HasTab P] {x y:Operand} {s e:TypeId} {A A2:Option Addr} {m c m2 c2:Nat} {xs news:List Value} {i ei:Ti} (hx:az T x=some (.slice A m c)) (hy:az T y=some (.slice A2 m2 c2)) (hs:ty P s=some i) (hi:i.desc= .slice e) (he:ty P e=some ei) (hz:ei.zero.cells.size=ei.size) (hz0:0<ei.size)
  [hr:HRow H A m c e ei.size xs Hr] (hsrc:Srd w0 M H ei.size A2 m2 news) (h1: ∀ u∈news,u.oneCell'=true) (hb:(m+m2)*ei.bytes≤140737488355328) (hm:m+m2≤maxLen):
  Ef P n w0 M T H ⟨dd,.call ⟨.builtin .append,#[x,y],#[s,s]⟩,tt,pos,af,g⟩ (fun v H'=> ∃ A' c',v= .slice A' (m+m2) c'∧H'=row e ei.size A' (m+m2) c' (xs++news)::Hr):= .mk fun a w ha hS=>by
 obtain⟨j,hj,hj0,hj1,hj2⟩:=kb he
 have hS1:=hS.perm hr.perm
 have hown:w.ownsRow 0 e ei.size (.slice A m c) m xs:=hS1.at_ (A:=row e ei.size A m c xs) (by simp)
 refine ni w x y s O 0 e j _ ei.size ei.bytes (hi▸cH hs) hj hj0 hj1 hj2 hz hz0 _ m xs (ha.eval hx) hown bC A2 m2 c2 news (ha.eval hy) (hsrc.rd w hS) h1 hm hb (Nat.zero_le _) fun A' c' w' h2 h3 h4=>?_
 refine⟨_,_,⟨A',c',O,O⟩,O,?_⟩
 refine St.call (As:=[row e ei.size A m c xs]) (Bs:=[row e ei.size A' (m+m2) c' (xs++news)]) hS1 ⟨h3.mono fun k hk _=>?_,fun B hB=>?_,List.pairwise_singleton _ _⟩
 ·intro he
  exact hk ⟨_,List.mem_singleton_self _,he.symm⟩
 ·rcases List.mem_singleton.1 hB with rfl
  refine⟨h2,fun k hk=>⟨?_,(sC h2 k hk).2⟩⟩
  rcases h4 with h4|h4
  ·exact .inl ⟨_,List.mem_singleton_self _,h4.symm.trans hk⟩
  ·have hk':(Value.slice A' (m+m2) c').ownBlock=some k:=hk
   rw[h4] at hk'
   injection hk' with hk'
   exact .inr (Nat.le_of_eq hk')
theorem zd [HasTab P] {x y:Operand} {s e:TypeId} {gb:Nat} {A2:Option Addr} {m2 c2:Nat} {news:List Value} {i ei:Ti} (hx:az T x=some (.slice (some ⟨gb,0,none⟩) 0 0)) (hy:az T y=some (.slice A2 m2 c2)) (hs:ty P s=some i) (hi:i.desc= .slice e) (he:ty P e=some ei) (hz:ei.zero.cells.size=ei.size) (hz0:0<ei.size)
  (hr:Rem H (pt gb e []) Hr) (hsrc:Srd w0 M H ei.size A2 m2 news) (h1: ∀ u∈news,u.oneCell'=true) (hb:m2*ei.bytes≤140737488355328) (hm:m2≤maxLen):
  Ef P n w0 M T H ⟨dd,.call ⟨.builtin .append,#[x,y],#[s,s]⟩,tt,pos,af,g⟩ (fun v H'=> ∃ A' c',v= .slice A' m2 c'∧H'=row e ei.size A' m2 c' news::Hr):= .mkIn fun a w ha hS=>by
 have hS':St w0 M (row e ei.size (some ⟨gb,0,none⟩) 0 0 []::Hr) w:=by
  have:=St.rowOf (e:=e) (size:=ei.size) (g:=gb) (cs:=[]) (n:=0) (m:=0) (hS.rem hr) Upd.here (Nat.le_refl _) (by simp) (by simp)
  simpa only[List.take_nil] using this
 have hcong:Srd w0 M (row e ei.size (some ⟨gb,0,none⟩) 0 0 []::Hr) ei.size A2 m2 news:=by
  refine⟨fun w' hw'=>?_⟩
  refine hsrc.rd w' ((hw'.turn (A:=row e ei.size (some ⟨gb,0,none⟩) 0 0 []) (A':=pt gb e []) .here (fun ho=>?_) (fun k hk=>?_)).unrem hr)
  ·rcases ho.2 with⟨h,_⟩|⟨g',cap,cur,hv,_,hh,_,_,hsz,_⟩
   ·cases h
   ·injection hv with e1 e2 e3
    injection e1 with e1
    injection e1 with e1
    subst e1 e3
    have:cur=#[]:=Array.eq_empty_of_size_eq_zero (by simpa using hsz)
    subst this
    exact hh
  ·have hk:k=gb:=hk
   subst hk
   rfl
 have h:=uf (P:=P) (n:=n) (w0:=w0) (M:=M) (dd:=dd) (tt:=tt) (pos:=pos) (af:=af) (g:=g) hx hy hs hi he hz hz0 hcong h1 (by simpa using hb) (by simpa using hm)
 simp only[Nat.zero_add,List.nil_append] at h
 exact h.run a w ha hS'
theorem Src.rb {A:Option Addr} {m c:Nat} {bs:List UInt8} (hm:rb A m c bs∈H):Src w0 M H A m c bs:=⟨fun w hS=>Bs.more (hS.at_ hm) fun _ _=>trivial⟩
theorem yF [HasTab P] {x:Operand} {s t e:TypeId} {A:Option Addr} {m c:Nat} {bs:List UInt8} {i j ei:Ti} (hx:az T x=some (.slice A m c)) (hs:ty P s=some i) (hi:i.desc= .slice e) (ht:ty P t=some j) (hj:j.desc= .string) (he:ty P e=some ei) (hei:ei.desc= .int .u8) (hsrc:Src w0 M H A m c bs):
  Tk P n w0 M T H ⟨dd,.convert s t x,tt,pos,af,g⟩ (.string ⟨bs.toArray⟩):= .mk fun a w ha hS=>by
 have h:=hsrc.bs w hS
 have hrun:(convert s t (.slice A m c)).run P w= .ok (.string ⟨bs.toArray⟩) w:=by
  cases A with
  |none=>
   have hn:m=0:=by
    rcases Nat.eq_zero_or_pos m with h0|h0
    ·exact h0
    ·obtain⟨ad,h,_⟩:=h.rd.2 h0
     cases h
   subst hn
   rw[List.eq_nil_of_length_eq_zero h.len.symm,run_convert_bytes_nil w s e (hi▸cH hs) (hei▸cH he) 0 c t (hj▸cH ht)]
   rfl
  |some ad=>
   have hl:(loadCells ad m).run P w= .ok ((bs.map fun x=>(x.toNat:Int)).map (Value.int .u8)).toArray w:=by
    have h1:=run_loadCells_list (P:=P) w ad (bs.map bv) (fun j v hj=>by
     have hp:0<m:=by
      have:=h.len
      have hlt:=(List.getElem?_eq_some_iff.1 hj).1
      simp at hlt
      omega
     obtain⟨ad',e,_,hc⟩:=h.rd.2 hp
     injection e with e
     subst e
     exact hc j v hj)
    rw[List.length_map, ← h.len] at h1
    rw[h1,List.map_map]
    rfl
   rw[run_convert_bytes_string w s t e _ m c (hi▸cH hs) (hei▸cH he) (hj▸cH ht),run_bytesToString w ad m c _ hl,foldl_push_bytes]
   simp[ByteArray.empty,ByteArray.emptyWithCapacity,Function.comp_def]
   rfl
 simp only[execOp,ha.eval hx,Sem.run_bind,hrun,Result.andThen_ok,Sem.run_pure]
theorem oc [HasTab P] {x:Operand} {s:TypeId} {A:Option Addr} {j m c:Nat} {bs:List UInt8} {i:Ti} (hx:az T x=some (.pointer (pa A j))) (hs:ty P s=some i) (hi:fZ i.desc=false) (hr:Src w0 M H A m c bs) (hj:j<m):
  Tk P n w0 M T H ⟨dd,.load s x,tt,pos,af,g⟩ (.int .u8 ((bs.getD j 0).toNat:Int)):= .mk fun a w ha hS=>by
 have h:=hr.bs w hS
 obtain⟨ad,rfl,_,hc⟩:=h.rd.2 (by omega)
 have h1:=hc j (.int .u8 ((bs.getD j 0).toNat:Int)) (by have:=h.len;simp[bv,List.getElem?_eq_getElem (show j<bs.length by omega)])
 simp[execOp,ha.eval hx,pa,Instr.loadAt,Instr.sureAddr,eF hs hi h1]
theorem bN [HasTab P] {x:Operand} {s:TypeId} {A:Option Addr} {j sz m:Nat} {xs:List Value} {v:Value} {i:Ti} (hx:az T x=some (.pointer (pa A j))) (hs:ty P s=some i) (hi:fZ i.desc=false) (hr:Srd w0 M H sz A m xs) (hm:0<m) (hv:xs[j]? =some v):
  Tk P n w0 M T H ⟨dd,.load s x,tt,pos,af,g⟩ v:= .mk fun a w ha hS=>by
 obtain⟨ad,rfl,_,hc⟩:=(hr.rd w hS).2 hm
 simp[execOp,ha.eval hx,pa,Instr.loadAt,Instr.sureAddr,eF hs hi (hc j v hv)]
def cutP (A:Option Addr) (c lo sz:Nat):Option Addr:=if c=lo then A else pa A (lo*sz)
theorem lz [HasTab P] {s e:TypeId} {i ei:Ti} (hs:ty P s=some i) (hi:i.desc= .slice e) (he:ty P e=some ei) {A:Option Addr} {m c lo hi':Nat} (h1:lo≤hi') (h2:hi'≤c) (lo? hi? mx?:Option Value) (hl:(lo?=none∧lo=0)∨ ∃ kk,lo?=some (.int kk (lo:Int))) (hh:(hi?=none∧hi'=m)∨ ∃ kk,hi?=some (.int kk (hi':Int))) (cc:Nat) (hm:(mx?=none∧cc=c)∨((∃ kk,mx?=some (.int kk (cc:Int)))∧hi?.isSome=true∧hi'≤cc∧cc≤c)) (w:World):
  (Instr.sliceAt s (.slice A m c) lo? hi? mx?).run P w= .ok (.slice (cutP A cc lo ei.size) (hi'-lo) (cc-lo)) w:=by
 have hu:=run_underlying (hi▸cH hs) w
 have hcut:(if cc=lo then A else A.map (·.add (lo*ei.size)))=cutP A cc lo ei.size:=rfl
 rcases hm with⟨rfl,rfl⟩|⟨⟨km,rfl⟩,hsome,h3,h4⟩
 ·rcases hl with⟨rfl,rfl⟩|⟨kl,rfl⟩<;>rcases hh with⟨rfl,rfl⟩|⟨kh,rfl⟩<;>
   simp[Instr.sliceAt,Instr.slice,hu,Instr.sliceBounds,Instr.sliceBound,asIntOf,ev he w,h1,h2,cutP,pa]
 ·rcases hl with⟨rfl,rfl⟩|⟨kl,rfl⟩<;>rcases hh with⟨rfl,rfl⟩|⟨kh,rfl⟩<;>first|(simp at hsome;done)|
   simp[Instr.sliceAt,Instr.slice,hu,Instr.sliceBounds,Instr.sliceBound,asIntOf,ev he w,h1,h2,h3,h4,cutP,pa]
theorem sD (A:Option Addr) (c sz:Nat):cutP A c 0 sz=A:=by
 unfold cutP
 split
 ·rfl
 ·cases A<;>simp[pa,Addr.add]
theorem ug [HasTab P] {x y:Operand} {s e:TypeId} {A:Option Addr} {m c q:Nat} {kk:IntKind} {i ei:Ti} (hx:az T x=some (.slice A m c)) (hy:az T y=some (.int kk (q:Int))) (hs:ty P s=some i) (hi:i.desc= .slice e) (he:ty P e=some ei) (hq:q≤c):
  Tk P n w0 M T H ⟨dd,.slice s x none (some y) none,tt,pos,af,g⟩ (.slice A q c):= .mk fun a w ha hS=>by
 have:=lz (P:=P) hs hi he (A:=A) (m:=m) (c:=c) (lo:=0) (hi':=q) (Nat.zero_le _) hq none (some (.int kk (q:Int))) none (.inl ⟨O,O⟩) (.inr ⟨kk,O⟩) c (.inl ⟨O,O⟩) w
 rw[sD] at this
 simp only[execOp,ha.eval hx,ha.eval hy,Option.map_none,Option.map_some,Sem.run_bind,this,Result.andThen_ok,Sem.run_pure,Nat.sub_zero]
theorem uh [HasTab P] {x y:Operand} {s e:TypeId} {A:Option Addr} {m c q:Nat} {kk:IntKind} {i ei:Ti} (hx:az T x=some (.slice A m c)) (hy:az T y=some (.int kk (q:Int))) (hs:ty P s=some i) (hi:i.desc= .slice e) (he:ty P e=some ei) (hq:q≤m) (hc:m≤c):
  Tk P n w0 M T H ⟨dd,.slice s x (some y) none none,tt,pos,af,g⟩ (.slice (cutP A c q ei.size) (m-q) (c-q)):= .mk fun a w ha hS=>by
 have:=lz (P:=P) hs hi he (A:=A) (m:=m) (c:=c) (lo:=q) (hi':=m) hq hc (some (.int kk (q:Int))) none none (.inr ⟨kk,O⟩) (.inl ⟨O,O⟩) c (.inl ⟨O,O⟩) w
 simp only[execOp,ha.eval hx,ha.eval hy,Option.map_none,Option.map_some,Sem.run_bind,this,Result.andThen_ok,Sem.run_pure]
end
theorem Bs.cutP {w:World} {F:Nat→Prop} {A:Option Addr} {n c:Nat} {l:List UInt8} (h:Bs w F A n c l) {k:Nat} (hk:k≤n):Bs w F (cutP A c k 1) (n-k) (c-k) (l.drop k):=by
 have:=h.cut hk
 unfold Go.Proofs.YtdeffdldifepkaaGreat.cutP
 rw[Nat.mul_one]
 exact this
theorem Bs.part {w:World} {F:Nat→Prop} {A:Option Addr} {n c:Nat} {l:List UInt8} (h:Bs w F A n c l) {q r:Nat} (hq:q≤r) (hr:r≤n):Bs w F (Go.Proofs.YtdeffdldifepkaaGreat.cutP A c q 1) (r-q) (c-q) ((l.drop q).take (r-q)):=(h.cutP (k:=q) (by omega)).head (by omega)
section
variable {P:Program} {n:Nat} {w0:World} {M:Nat→Prop} {T:aF} {H Hr:List Asn} {dd:Option Tmp} {tt:TypeId} {pos:String} {af:Array Edge} {g:Option (Nat×Bool)}
variable {f:FuncId} {xs:Array Operand} {ts:Array TypeId} {vs:List Value}
theorem ui (hf:Fn_ P f) (hx:cg T xs.toList=some vs) {a:Act} (ha:Tm n a T) (w:World):(execOp a.eval ⟨dd,.call ⟨.value (.func f),xs,ts⟩,tt,pos,af,g⟩).run P w= .ok (.enter f vs.toArray) w:=by
 have e1:xs.map a.eval=vs.toArray:=by rw[← ha.evals hx, ← Array.toList_map]
 simp[execOp,resolve,Deferred.ofValue,invoke,Act.eval,e1,gn hf]
theorem jG {X:Type} {V:X→Value} {I:X→Prop} {A:X→List Asn} (hf:Fn_ P f) (hx:cg T xs.toList=some vs) (hc: ∀ w,St w0 M H w→Gives P f vs [] w V I A):
  Ef P n w0 M T H ⟨dd,.call ⟨.value (.func f),xs,ts⟩,tt,pos,af,g⟩ (fun u H'=> ∃ x,u=V x∧I x∧H'=A x++H):= .mk fun a w ha hS=>by
 unfold Oper.wp
 rw[ui hf hx ha w]
 refine(hc w hS).mono fun e w' ⟨x,he,hI,hS'⟩=>?_
 subst he
 exact⟨_,_,⟨x,O,hI,O⟩,O,St.call (As:=[]) hS hS'⟩
theorem fo {x:Operand} {s:TypeId} {v:Value} (hx:az T x=some v) (h1:v.oneCell'=true):Ef P n w0 M T H ⟨dd,.box s x,tt,pos,af,g⟩ (fun u' H'=> ∃ b,u'= .pointer (some ⟨b,0,none⟩)∧H'=pt b s [v]::H):=by
 have h:=yB (P:=P) (n:=n) (w0:=w0) (M:=M) (H:=H) (dd:=dd) (s:=s) (tt:=tt) (pos:=pos) (af:=af) (g:=g) hx
 have hc:aV v=[v]:=by cases v<;>first|rfl|(simp[Value.oneCell'] at h1)
 rwa [hc] at h
theorem ap {x:Operand} {s:TypeId} {cs:List Value} (hx:az T x=some (.agg cs.toArray)):Ef P n w0 M T H ⟨dd,.box s x,tt,pos,af,g⟩ (fun u' H'=> ∃ b,u'= .pointer (some ⟨b,0,none⟩)∧H'=pt b s cs::H):=
 yB (P:=P) (n:=n) (w0:=w0) (M:=M) (H:=H) (dd:=dd) (s:=s) (tt:=tt) (pos:=pos) (af:=af) (g:=g) hx
theorem lU [HasTab P] {s:TypeId} {i:Ti} {v:Value} (hs:ty P s=some i) (hz:i.zero=v) (h1:v.oneCell'=true):Ef P n w0 M T H ⟨dd,.alloc s,tt,pos,af,g⟩ (fun u' H'=> ∃ b,u'= .pointer (some ⟨b,0,none⟩)∧H'=pt b s [v]::H):=by
 have h:=qV (P:=P) (n:=n) (w0:=w0) (M:=M) (T:=T) (H:=H) (dd:=dd) (tt:=tt) (pos:=pos) (af:=af) (g:=g) hs
 have hc:aV i.zero=[v]:=by rw[hz];cases v<;>first|rfl|(simp[Value.oneCell'] at h1)
 rwa [hc] at h
theorem am [HasTab P] {s:TypeId} {i:Ti} {cs:List Value} (hs:ty P s=some i) (hz:i.zero= .agg cs.toArray):Ef P n w0 M T H ⟨dd,.alloc s,tt,pos,af,g⟩ (fun u' H'=> ∃ b,u'= .pointer (some ⟨b,0,none⟩)∧H'=pt b s cs::H):=by
 have h:=qV (P:=P) (n:=n) (w0:=w0) (M:=M) (T:=T) (H:=H) (dd:=dd) (tt:=tt) (pos:=pos) (af:=af) (g:=g) hs
 have hc:aV i.zero=cs:=by rw[hz];rfl
 rwa [hc] at h
theorem bu {s:TypeId} {cs:List Value} (hb:P.built s []=some cs.toArray):Tk P n w0 M T H ⟨dd,.build s #[],tt,pos,af,g⟩ (.agg cs.toArray):= .mk fun a w ha hS=>by
 have hr:=run_build (P:=P) w s #[] cs.toArray hb
 simp only[execOp,Array.map_empty,Sem.run_bind,hr,Result.andThen_ok,Sem.run_pure]
end
section
variable {P:Program}
end
def FB:IntKind→IntKind→Bool
 | .i8,.i8=>true
 | .i16,.i16=>true
 | .i32,.i32=>true
 | .i64,.i64=>true
 | .u8,.u8=>true
 | .u16,.u16=>true
 | .u32,.u32=>true
 | .u64,.u64=>true
 |_,_=>false
theorem ze {a b:IntKind} (h:FB a b=true):a=b:=by cases a<;>cases b<;>first|rfl|cases h
def Dg:BinOp→Int→Int→Option Value
 | .eql,i,j=>some (.bool (decide (i=j)))
 | .neq,i,j=>some (.bool (decide (¬ i=j)))
 | .lss,i,j=>some (.bool (decide (i<j)))
 | .leq,i,j=>some (.bool (decide (i≤j)))
 | .gtr,i,j=>some (.bool (decide (j<i)))
 | .geq,i,j=>some (.bool (decide (j≤i)))
 |_,_,_=>none
def yG (op:BinOp) (x y:List UInt8):Option Value:=
 match ub op x y with
 |some b=>some (.bool b)
 |none=>none
def Dh:BinOp→Option Value→Option Value→Option Value
 |op,some (.int k i),some (.int k' j)=>bif FB k k' then Dg op i j else none
 |op,some (.string r),some (.string s)=>yG op (bl r) (bl s)
 |_,_,_=>none
def yH:Option Value→Option Value→Option Value→Option Value
 |some (.bool true),x,_=>x
 |some (.bool false),_,y=>y
 |_,_,_=>none
def Di:Option Value→Nat→Option Value
 |some (.tuple vs),j=>t7 vs.toList j
 |_,_=>none
def Dj:Option Ti→Option Value→Option Value
 |some ⟨.slice _,_,_,_,_⟩,some (.slice _ m _)=>some (.int .i64 (m:Int))
 |some ⟨.string,_,_,_,_⟩,some (.string r)=>some (.int .i64 (r.size:Int))
 |_,_=>none
def Gm (P:Program) [HasTab P]:Option Ti→Option Value→Nat→Option Value
 |some i,some (.pointer (some ⟨gb,off,none⟩)),j=>
  match t7 i.fs j with
  |some (o,ft)=>
   match ty P ft with
   |some fi=>bif Nat.beq fi.size 0 then none else some (.pointer (some ⟨gb,off+o,none⟩))
   |none=>none
  |none=>none
 |_,_,_=>none
def yI (P:Program) [HasTab P] (T:aF):Call→Option Value
 |⟨.builtin .len,⟨[x]⟩,⟨[s]⟩⟩=>Dj (ty P s) (az T x)
 |_=>none
def xa (P:Program) [HasTab P] (T:aF):Op→Option Value
 | .move x=>az T x
 | .assign x=>az T x
 | .pick c a b=>yH (az T c) (az T a) (az T b)
 | .binOp op _ x y _=>Dh op (az T x) (az T y)
 | .extract x j=>Di (az T x) j
 | .fieldAddr s x j=>Gm P (ty P s) (az T x) j
 | .call c=>yI P T c
 |_=>none
section
variable {P:Program} [HasTab P] {ro:Option Nat} {ds:List Deferred} {B:Bk ro ds} {n:Nat} {w0:World} {M:Nat→Prop} {k:List It} {T:aF} {H:List Asn} {dd:Option Tmp} {d:Tmp} {tt:TypeId} {pos:String} {af:Array Edge} {g:Option (Nat×Bool)} {l σ:List Oper}
theorem gX {o:Op} {v:Value} (h:xa P T o=some v):Tk P n w0 M T H ⟨dd,o,tt,pos,af,g⟩ v:=by
 cases o<;>simp only[xa] at h<;>try (cases h;done)
 case move x=>exact y8 h
 case assign x=>exact t9 h
 case pick c a b=>
  unfold yH at h
  split at h
  ·exact wV (by assumption) h
  ·exact wW (by assumption) h
  ·cases h
 case binOp op t x y u=>
  cases op<;>unfold Dh at h<;>split at h<;>try (cases h;done)
  all_goals first
   |(rename_i hx hy
     unfold yG at h
     split at h
     ·injection h with h
      subst h
      exact uc (by assumption) (by assumption) (by assumption)
     ·cases h
     done)
   |(rename_i k i k' j hx hy
     cases hk:FB k k' with
     |false=>rw[hk] at h;cases h
     |true=>
      rw[hk] at h
      obtain rfl:=ze hk
      simp only[Dg,cond_true] at h
      first
       |(cases h;done)
       |(injection h with h;subst h;first|exact Ek (by assumption) (by assumption)|exact Eo (by assumption) (by assumption)|exact Ep (by assumption) (by assumption)|exact Eq (by assumption) (by assumption)|exact Er (by assumption) (by assumption)|exact Es (by assumption) (by assumption)))
 case extract x j=>
  unfold Di at h
  split at h
  ·exact sB (by assumption) (by rw[pr] at h;simpa using h)
  ·cases h
 case fieldAddr s x j=>
  unfold Gm at h
  split at h
  ·rename_i i gb off hs hx
   split at h
   ·rename_i o ft hf
    split at h
    ·rename_i fi hft
     cases hz:Nat.beq fi.size 0 with
     |true=>rw[hz] at h;cases h
     |false=>
      rw[hz] at h
      injection h with h
      subst h
      exact Et hx hs hf hft hz
    ·cases h
   ·cases h
  ·cases h
 case call c=>
  unfold yI at h
  split at h
  ·rename_i x s
   unfold Dj at h
   split at h
   ·injection h with h
    subst h
    exact n7 (by assumption) (by assumption) O
   ·injection h with h
    subst h
    exact nk (by assumption) (by assumption) O
   ·cases h
  ·cases h
theorem bM {op:Op} {v:Value} (hr:xa P T op=some v) (h:RG P B n w0 M l k σ ((d,v)::T) H)
  (hw:cJ l T g=some true) (hd:i1 n (some d)=true):RG P B n w0 M l k (⟨some d,op,tt,pos,af,g⟩::σ) T H:=aa (gX hr) h hw hd
end
def dM (fn:Func):Code:=
 match fn.body with
 |some c=>c
 |none=> .skip
def c1:Code→Code
 | .seq a _=>a
 | .cond _ a _=>a
 | .block _ b=>b
 | .loop b=>b
 | .scope b=>b
 | .rangeFunc _ _ a _=>a
 |c=>c
def c2:Code→Code
 | .seq _ b=>b
 | .cond _ _ b=>b
 | .rangeFunc _ _ _ b=>b
 |c=>c
inductive Kind where
 |seq|cond (c:Operand)|block (id:Nat)|loop|scope|region (d:Bool)|exit (id:Nat)|ret|skip|label|range (g:Operand) (ps:Array Tmp)|other
def eh:Code→Kind
 | .seq _ _=> .seq
 | .cond c _ _=> .cond c
 | .block id _=> .block id
 | .loop _=> .loop
 | .scope _=> .scope
 | .region _ _ d=> .region d
 | .exit id=> .exit id
 | .ret=> .ret
 | .skip=> .skip
 | .label _=> .label
 | .rangeFunc g ps _ _=> .range g ps
 |_=> .other
def gY:Code→List Oper
 | .region _ ⟨l⟩ _=>l
 |_=>[]
section
variable {P:Program} {ro:Option Nat} {ds:List Deferred} {B:Bk ro ds} {n:Nat} {w0:World} {M:Nat→Prop} {k:List It} {T:aF} {H:List Asn} {c:Code}
theorem au (hk:eh c= .seq) (h:RS P B n w0 M (.code (c1 c):: .code (c2 c)::k) T H):RS P B n w0 M (.code c::k) T H:=by
 cases c<;>first|(cases hk;done)|exact y5 h
theorem aG {id:Nat} (hk:eh c= .block id) (h:RS P B n w0 M (.code (c1 c):: .blk id::k) T H):RS P B n w0 M (.code c::k) T H:=by
 cases c<;>first|(cases hk;done)|(injection hk with hk;subst hk;exact t3 h)
theorem aM (hk:eh c= .skip) (h:RS P B n w0 M k T H):RS P B n w0 M (.code c::k) T H:=by
 cases c<;>first|(cases hk;done)|exact wS h
theorem re (hk:eh c= .label) (h:RS P B n w0 M k T H):RS P B n w0 M (.code c::k) T H:=by
 cases c<;>first|(cases hk;done)|exact t4 h
theorem iF {B:Bk none ds} (hk:eh c= .scope) (h:RS P B n w0 M (.code (c1 c):: .seg::k) T H):RS P B n w0 M (.code c::k) T H:=by
 cases c<;>first|(cases hk;done)|exact t5 h
theorem bE {id:Nat} {k':List It} (hk:eh c= .exit id) (hp:mM id k=some k') (h:RS P B n w0 M k' T H):RS P B n w0 M (.code c::k) T H:=by
 cases c<;>first|(cases hk;done)|(injection hk with hk;subst hk;exact wT hp h)
theorem aC {x:Operand} (hk:eh c= .cond x) (hc:az T x=some (.bool true)) (h:RS P B n w0 M (.code (c1 c)::k) T H):RS P B n w0 M (.code c::k) T H:=by
 cases c<;>first|(cases hk;done)|(injection hk with hk;subst hk;exact qN hc h)
theorem aA {x:Operand} (hk:eh c= .cond x) (hc:az T x=some (.bool false)) (h:RS P B n w0 M (.code (c2 c)::k) T H):RS P B n w0 M (.code c::k) T H:=by
 cases c<;>first|(cases hk;done)|(injection hk with hk;subst hk;exact n0 hc h)
theorem sE {x:Operand} {p:Prop} {i:Decidable p} (hk:eh c= .cond x) (hc:az T x=some (.bool (@decide p i))) (h1:p→RS P B n w0 M (.code (c1 c)::k) T H) (h2: ¬ p→RS P B n w0 M (.code (c2 c)::k) T H):RS P B n w0 M (.code c::k) T H:=by
 cases c<;>first|(cases hk;done)|(injection hk with hk;subst hk;exact AA hc h1 h2)
theorem py {x:Operand} {b:Bool} (hk:eh c= .cond x) (hc:az T x=some (.bool b)) (h1:b=true→RS P B n w0 M (.code (c1 c)::k) T H) (h2:b=false→RS P B n w0 M (.code (c2 c)::k) T H):RS P B n w0 M (.code c::k) T H:=by
 cases c<;>first|(cases hk;done)|(injection hk with hk;subst hk;exact qO hc h1 h2)
theorem al {l:List Oper} (hk:eh c= .region false) (hl:gY c=l) (h:RG P B n w0 M (gY c) k l T H):RS P B n w0 M (.code c::k) T H:=by
 subst hl
 cases c<;>first|(cases hk;done)|(rename_i id ops d;injection hk with hk;subst hk;cases ops;exact sv h)
theorem fG {B:Bk none ds} (C:List Asn) {m:Nat} (hC: ∀ w,St w0 M H w→St w0 M C w) (hm:P.follows .mixedOrders=true) (hk:eh c= .region true) (hsel:Region.noSelect (gY c).toArray=true) (hn:(gY c).length=m) (h:RD P B n w0 M (gY c) k (Array.replicate m false) C T H):RS P B n w0 M (.code c::k) T H:=by
 subst hn
 cases c<;>first|(cases hk;done)|(rename_i id ops d;injection hk with hk;subst hk;cases ops;exact qZ C hC hm hsel (.inl O) h)
theorem iG (C:List Asn) {m:Nat} (hC: ∀ w,St w0 M H w→St w0 M C w) (hm:P.follows .mixedOrders=true) (hk:eh c= .region true) (hsel:Region.noSelect (gY c).toArray=true) (hdf:np (gY c)=true) (hn:(gY c).length=m) (h:RD P B n w0 M (gY c) k (Array.replicate m false) C T H):RS P B n w0 M (.code c::k) T H:=by
 subst hn
 cases c<;>first|(cases hk;done)|(rename_i id ops d;injection hk with hk;subst hk;cases ops;exact qZ C hC hm hsel (.inr hdf) h)
theorem yJ {rs:List ResultVar} {R:Ending→World→Prop} {vs:List Value} (hB:sx P B n w0 M rs R) (hk:eh c= .ret) (hr:mD rs T=some vs) (h: ∀ w,St w0 M H w→R (.returned (jF vs)) w):RS P B n w0 M (.code c::k) T H:=by
 cases c<;>first|(cases hk;done)|exact y6 hB hr h
theorem eo {X:Type} (T':X→aF) (H':X→List Asn) (I:X→Prop)
  (h1: ∀ J,(∀ y T1 H1,I y→Sub (T' y) T1→(∀ w,St w0 M H1 w→St w0 M (H' y) w)→RS P B n w0 M (.back J::k) T1 H1)→RS P B n w0 M (.code c:: .back J::k) T H)
  (h2: ∀ y,I y→RS P B n w0 M k (T' y) (H' y)):RS P B n w0 M (.code c::k) T H:=y7 T' H' I h1 h2
theorem bV {X:Type} (T':X→aF) (H':X→List Asn) (I:X→Prop) (μ:X→Nat) (hk:eh c= .loop)
  (x0:X) (h0:I x0) (hT:Sub (T' x0) T) (hH: ∀ w,St w0 M H w→St w0 M (H' x0) w)
  (round: ∀ x,I x→ ∀ J,(∀ y T1 H1,I y→Sub (T' y) T1→(∀ w,St w0 M H1 w→St w0 M (H' y) w)→μ y<μ x→RS P B n w0 M (.back J::k) T1 H1)→RS P B n w0 M (.code (c1 c):: .back J::k) (T' x) (H' x)):
  RS P B n w0 M (.code c::k) T H:=by
 cases c<;>first|(cases hk;done)|exact wU T' H' I μ x0 h0 hT hH round
end
theorem aP {P:Program} {f:FuncId} {fn:Func} {vs:List Value} {rs:List ResultVar} {w:World} {n:Nat} {As:List Asn} {X:Type} {V:X→Value} {I:X→Prop} {A:X→List Asn} (hf:P.funcs[f]? =some fn) (hb:fn.body.isSome=true) (hn:fn.ntmps=n) (hr:fn.results=rs.toArray)
  (hv:vs.length≤n) (hS:St w (ar As) As w) (h: ∀ B:Bk none [],(∀ (c:Code) (k:List It) (T:aF) (H:List Asn) (us:List Value),eh c= .ret→mD rs T=some us→(∀ w',St w (ar As) H w'→ ∃ x,jF us=V x∧I x∧St w (ar As) (A x) w')→RS P B n w (ar As) (.code c::k) T H)→RS P B n w (ar As) [.code (dM fn)] (jL 0 vs) As):
  Gives P f vs As w V I A:=by
 obtain⟨c,hc⟩:=Option.isSome_iff_exists.1 hb
 refine ka hf hc hn hr hv hS fun B hB=>?_
 have h2:=h B fun c k T H us hk hus hw'=>yJ hB hk hus fun w' hS'=>by
  obtain⟨x,hx,hI,hA⟩:=hw' w' hS'
  exact⟨x,by rw[hx],hI,hA⟩
 have e:dM fn=c:=by unfold dM;rw[hc]
 rwa [e] at h2
end Go.Proofs.YtdeffdldifepkaaGreat
namespace Go.Proofs.YtdeffdldifepkaaGreat
open Go.RowKit
set_option linter.unusedVariables false
section
variable {P:Program} {ro:Option Nat} {ds:List Deferred} {B:Bk ro ds} {n:Nat} {w0:World} {M:Nat→Prop} {k k1 k2:List It} {T:aF} {H:List Asn}
theorem iH (h: ∀ e a w,QS P B k1 e a w→QS P B k2 e a w): ∀ (l:List It) e a w,QS P B (l++k1) e a w→QS P B (l++k2) e a w
 |[],e,a,w,hq=>h e a w hq
 | .code c::l,e,a,w,hq=>by
  cases e with
  |normal=>exact wpIn_mono hq fun e a w=>iH h l e a w
  |_=>exact iH h l _ a w hq
 | .blk id::l,e,a,w,hq=>by
  cases e with
  |exit i=>
   show if i=id then _ else _
   have hq:if i=id then _ else _:=hq
   split
   ·rename_i e;rw[if_pos e] at hq;exact iH h l _ a w hq
   ·rename_i e;rw[if_neg e] at hq;exact iH h l _ a w hq
  |_=>exact iH h l _ a w hq
 | .back J::l,e,a,w,hq=>by
  cases e with
  |normal=>exact hq
  |_=>exact iH h l _ a w hq
 | .seg::l,e,a,w,hq=>by
  cases e with
  |goto _=>exact hq
  |_=>exact iH h l _ a w hq
theorem zf {X:Type} (l:List It) (T':X→aF) (H':X→List Asn) (I:X→Prop)
  (h1: ∀ J,(∀ y T1 H1,I y→Sub (T' y) T1→(∀ w,St w0 M H1 w→St w0 M (H' y) w)→RS P B n w0 M (.back J::k) T1 H1)→RS P B n w0 M (l++ .back J::k) T H)
  (h2: ∀ y,I y→RS P B n w0 M k (T' y) (H' y)):RS P B n w0 M (l++k) T H:=⟨fun a w had ha hs=>by
 have:=(h1 (fun a w=>a.defers=ds∧ ∃ y,I y∧Tm n a (T' y)∧St w0 M (H' y) w) (fun y T1 H1 hI hT hH=>⟨fun a w had ha hs=>⟨had,y,hI,ha.sub hT,hH w hs⟩⟩)).runD a w had ha hs
 refine iH (fun e a' w' hq=>?_) l _ a w this
 cases e with
 |normal=>
  obtain⟨had',y,hI,hT,hH⟩:=hq
  exact(h2 y hI).runD a' w' had' hT hH
 |_=>exact hq⟩
theorem uj (l:List It) {c:Code} (hk:eh c= .seq) (h:RS P B n w0 M (l++ .code (c1 c):: .code (c2 c)::k) T H):RS P B n w0 M (l++ .code c::k) T H:=⟨fun a w had ha hs=>by
 refine iH (k1:= .code (c1 c):: .code (c2 c)::k) (fun e a' w' hq=>?_) l _ a w (h.runD a w had ha hs)
 cases c<;>first|(cases hk;done)|skip
 cases e with
 |normal=>exact wpIn_seq hq
 |_=>exact hq⟩
end
end Go.Proofs.YtdeffdldifepkaaGreat
namespace Go.Proofs.YtdeffdldifepkaaGreat
open Go.RowKit
open Asn (pt row rb)
set_option linter.unusedVariables false
set_option linter.unusedSimpArgs false
class RemC (H:List Asn) (A:Asn) (H':outParam (List Asn)):Prop where
 perm:H.Perm (A::H')
instance (priority:=high) RemC.here {A:Asn} {H:List Asn}:RemC (A::H) A H:=⟨List.Perm.refl _⟩
instance RemC.there {A B:Asn} {H H':List Asn} [h:RemC H A H']:RemC (B::H) A (B::H'):=⟨(List.Perm.cons _ h.perm).trans (List.Perm.swap _ _ _)⟩
class SubC (H' H:List Asn):Prop where
 is: ∃ R,H.Perm (H'++R)
instance SubC.nil {H:List Asn}:SubC [] H:=⟨⟨H,List.Perm.refl _⟩⟩
instance SubC.cons {A:Asn} {H H' R:List Asn} [h:RemC H A R] [s:SubC H' R]:SubC (A::H') H:=by
 obtain⟨Q,hQ⟩:=s.is
 exact⟨⟨Q,h.perm.trans (List.Perm.cons _ hQ)⟩⟩
theorem ae {w0:World} {M:Nat→Prop} {H H':List Asn} [h:SubC H' H]: ∀ w,St w0 M H w→St w0 M H' w:=fun w hS=>by
 obtain⟨R,hR⟩:=h.is
 exact(hS.perm hR).sublist (List.sublist_append_left _ _)
section
variable {P:Program} {n:Nat} {w0:World} {M:Nat→Prop} {T:aF} {H Hr:List Asn} {dd:Option Tmp} {tt:TypeId} {pos:String} {af:Array Edge} {g:Option (Nat×Bool)}
theorem mN: ∀ (vs:List Value) (k:Nat) (pre:List Value) (zs:List Value),pre.length=k→zs.length=vs.length→(∀ v∈vs,v.oneCell'=true)→
  Instr.fill (fun i=>some (i*1,1)) (pre++zs).toArray ((List.range' k vs.length).zip vs)=some (pre++vs).toArray
 |[],k,pre,zs,_,hz,_=>by
  have:zs=[]:=List.eq_nil_of_length_eq_zero hz
  subst this
  simp[Instr.fill]
 |v::vs,k,pre,z::zs,hp,hz,h1=>by
  have hv:v.cells=#[v]:=by
   have:=h1 v (by simp)
   cases v<;>first|rfl|(simp[Value.oneCell'] at this)
  have ih:=mN vs (k+1) (pre++[v]) zs (by simp[hp]) (by simpa using hz) (fun u hu=>h1 u (by simp[hu]))
  rw[List.length_cons,List.range'_succ,List.zip_cons_cons,Instr.fill]
  simp only[hv,Nat.mul_one]
  have e:(#[v].zipIdx.foldl (fun cs x=>cs.setIfInBounds (k+x.2) x.1) (pre++z::zs).toArray)=((pre++[v])++zs).toArray:=by
   apply Array.ext'
   simp[Array.zipIdx,hp▸List.set_append_right]
  have hsz: ¬ (#[v].size≠1∨k+#[v].size>(pre++z::zs).toArray.size):=by simp;omega
  simp only[ne_eq] at hsz
  simp only[Nat.mul_one] at ih
  simp only[List.append_assoc,List.singleton_append] at ih
  have h3:((#[v].size≠1)||decide (k+#[v].size>(pre++z::zs).toArray.size))=false:=by simp;omega
  simp only[h3,Bool.false_eq_true,if_false]
  rw[e]
  simpa using ih
theorem d7 [HasTab P] {s e:TypeId} {m:Nat} {parts:Array (Nat×Operand)} {vs:List Value} {i ei:Ti} (hv:cg T (parts.toList.map (·.2))=some vs) (hp:parts.toList.map (·.1)=List.range m) (hs:ty P s=some i) (hi:i.desc= .slice e) (he:ty P e=some ei) (h1:ei.size=1) (hz:ei.zero.cells=#[ei.zero]) (ho: ∀ v∈vs,v.oneCell'=true) (hm:m≤1000):
  Ef P n w0 M T H ⟨dd,.buildSlice s m parts,tt,pos,af,g⟩ (fun u H'=> ∃ b,u= .slice (some ⟨b,0,none⟩) m m∧H'=pt b e vs::H):= .mk fun a w ha hS=>by
 have hu:=run_underlying (hi▸cH hs) w
 have hev:=ha.evals hv
 have hl:vs.length=m:=by rw[← hev];have:=congrArg List.length hp;simpa using this
 have hparts:(parts.map fun x=>(x.1,a.eval x.2)).toList=(List.range' 0 vs.length).zip vs:=by
  rw[hl, ← List.range_eq_range', ← hp, ← hev]
  simp[List.zip_map']
 have hfill:=mN vs 0 [] (List.replicate m ei.zero) O (by simp[hl]) ho
 simp only[List.nil_append,Nat.mul_one] at hfill
 have hz0:(Array.range m).map (fun i=>ei.zero.cells[i%ei.zero.cells.size]!)=(List.replicate m ei.zero).toArray:=by
  rw[hz]
  apply Array.ext'
  simp[List.map_const',Nat.mod_one]
 have hrun:(Instr.buildSlice s m (parts.map fun x=>(x.1,a.eval x.2))).run P w= .ok (.slice (some ⟨w.heap.size,0,none⟩) m m) (w.alloc (.cells vs.toArray e)):=by
  have hle: ¬ m>2^24:=by omega
  by_cases hm0:m=0
  ·subst hm0
   have:vs=[]:=List.eq_nil_of_length_eq_zero hl
   subst this
   simp only[Instr.buildSlice,Sem.run_bind,hu,Result.andThen_ok,ev he w,h1,Nat.mul_one,Sem.run_ite]
   have hpe:parts.toList=[]:=by simpa using hp
   simp[hpe,Instr.fill,newRow,show Array.range 0=#[] from O]
  ·simp only[Instr.buildSlice,Sem.run_bind,hu,Result.andThen_ok,ev he w,h1,Nat.mul_one,Sem.run_ite,if_neg hle,if_neg hm0,kc he w,Sem.run_pure,hz0,hparts,hfill]
   simp[newRow]
 unfold Oper.wp
 simp only[execOp,Sem.run_bind,hrun,Result.andThen_ok,Sem.run_pure]
 refine⟨_,_,⟨w.heap.size,O,O⟩,O,hS.add (Kp.alloc w _) (Blk.new w e _) (fun k hk=>?_)⟩
 have hk:k=w.heap.size:=hk
 subst hk
 simp
end
structure Rets (P:Program) (n:Nat) (w0:World) (M:Nat→Prop) (rs:List ResultVar) (T:aF) (H:List Asn) (vs:List Value):Prop where
 run: ∀ a w,Tm n a T→St w0 M H w→(rs.mapM (fun|ResultVar.tmp t=>(pure (a.tmps.getD t undef):Sem Value)|ResultVar.cell a' t=>do loadVar t (← asAddr (a.tmps.getD a' undef)))).run P w=Result.ok vs w
section
variable {P:Program} {n:Nat} {w0:World} {M:Nat→Prop} {T:aF} {H Hr:List Asn} {dd:Option Tmp} {tt:TypeId} {pos:String} {af:Array Edge} {g:Option (Nat×Bool)}
theorem Rets.nil:Rets P n w0 M [] T H []:=⟨fun a w _ _=>by simp⟩
theorem Rets.tmp {t:Nat} {v:Value} {rs:List ResultVar} {vs:List Value} (hv:gT T t=some v) (h:Rets P n w0 M rs T H vs):Rets P n w0 M (.tmp t::rs) T H (v::vs):=⟨fun a w ha hS=>by
 have h1:=h.run a w ha hS
 have h2:a.tmps.getD t undef=v:=by have:=ha.at_ t v hv;simp[this]
 simp only[List.mapM_cons,Sem.run_bind,Sem.run_pure,Result.andThen_ok,h1,h2]⟩
theorem Rets.cell [HasTab P] {t gb e:Nat} {s:TypeId} {i:Ti} {cs:List Value} {rs:List ResultVar} {vs:List Value} (hv:gT T t=some (.pointer (some ⟨gb,0,none⟩))) (hs:ty P s=some i) (hi:fZ i.desc=true) (hm:Hat H gb e cs) (hl:cs.length=i.size) (h:Rets P n w0 M rs T H vs):
  Rets P n w0 M (.cell t s::rs) T H (.agg cs.toArray::vs):=⟨fun a w ha hS=>by
 have h1:=h.run a w ha hS
 have h2:a.tmps.getD t undef= .pointer (some ⟨gb,0,none⟩):=by have:=ha.at_ t _ hv;simp[this]
 have h3:=gW (P:=P) (a:=⟨gb,0,none⟩) hs hi hl (w:=w) (fun j v hj=>by rw[d3,Nat.zero_add];exact hS.cell hm.mem hj)
 simp only[List.mapM_cons,Sem.run_bind,Sem.run_pure,Result.andThen_ok,h1,(show (asAddr (a.tmps.getD t undef)).run P w= .ok ⟨gb,0,none⟩ w by rw[h2];rfl),h3]⟩
theorem Rets.cell1 [HasTab P] {t gb e:Nat} {s:TypeId} {i:Ti} {v:Value} {rs:List ResultVar} {vs:List Value} (hv:gT T t=some (.pointer (some ⟨gb,0,none⟩))) (hs:ty P s=some i) (hi:fZ i.desc=false) (hm:Hat H gb e [v]) (h:Rets P n w0 M rs T H vs):
  Rets P n w0 M (.cell t s::rs) T H (v::vs):=⟨fun a w ha hS=>by
 have h1:=h.run a w ha hS
 have h2:a.tmps.getD t undef= .pointer (some ⟨gb,0,none⟩):=by have:=ha.at_ t _ hv;simp[this]
 have h3:=eF (P:=P) (a:=⟨gb,0,none⟩) hs hi (v:=v) (w:=w) (hS.cell hm.mem O)
 simp only[List.mapM_cons,Sem.run_bind,Sem.run_pure,Result.andThen_ok,h1,(show (asAddr (a.tmps.getD t undef)).run P w= .ok ⟨gb,0,none⟩ w by rw[h2];rfl),h3]⟩
theorem Rets.ret {ro:Option Nat} {ds:List Deferred} {B:Bk ro ds} {k:List It} {c:Code} {rs:List ResultVar} {R:Ending→World→Prop} {vs:List Value} (hk:eh c= .ret) (hB:sx P B n w0 M rs R) (hr:Rets P n w0 M rs T H vs) (h: ∀ w,St w0 M H w→R (.returned (jF vs)) w):RS P B n w0 M (.code c::k) T H:=by
 have e:c= .ret:=by cases c<;>first|rfl|(cases hk;done)
 subst e
 refine⟨fun a w had ha hs=>wpIn_ret (gE (fun _ _=> .inr trivial) (hB a w _ had (fun fn hf=>?_) (h w hs)).1)⟩
 have h1:=hr.run a w ha hs
 simp only[results,hf,List.mapM_toArray,Sem.run_bind,Sem.run_map]
 erw [h1]
 rcases vs with _|⟨v,_|⟨u,us⟩⟩<;>simp[jF]
theorem cX {f:FuncId} {fn:Func} {vs:List Value} {rs:List ResultVar} {w:World} {As:List Asn} {X:Type} {V:X→Value} {I:X→Prop} {A:X→List Asn} (hf:P.funcs[f]? =some fn) (hb:fn.body.isSome=true) (hn:fn.ntmps=n) (hr:fn.results=rs.toArray)
  (hv:vs.length≤n) (hS:St w (ar As) As w) (h: ∀ B:Bk none [],(∀ (c:Code) (k:List It) (T:aF) (H:List Asn) (us:List Value),eh c= .ret→Rets P n w (ar As) rs T H us→(∀ w',St w (ar As) H w'→ ∃ x,jF us=V x∧I x∧St w (ar As) (A x) w')→RS P B n w (ar As) (.code c::k) T H)→RS P B n w (ar As) [.code (dM fn)] (jL 0 vs) As):
  Gives P f vs As w V I A:=by
 obtain⟨c,hc⟩:=Option.isSome_iff_exists.1 hb
 refine ka hf hc hn hr hv hS fun B hB=>?_
 have h2:=h B fun c k T H us hk hus hw'=>Rets.ret hk hB hus fun w' hS'=>by
  obtain⟨x,hx,hI,hA⟩:=hw' w' hS'
  exact⟨x,by rw[hx],hI,hA⟩
 have e:dM fn=c:=by unfold dM;rw[hc]
 rwa [e] at h2
theorem Ef.same {op op':Op} {E:Value→List Asn→Prop} (h:Ef P n w0 M T H ⟨dd,op',tt,pos,af,g⟩ E) (he: ∀ a w,Tm n a T→(execOp a.eval ⟨dd,op,tt,pos,af,g⟩).run P w=(execOp a.eval ⟨dd,op',tt,pos,af,g⟩).run P w):Ef P n w0 M T H ⟨dd,op,tt,pos,af,g⟩ E:= .mkIn fun a w ha hS=>by
 have h1:=h.run a w ha hS
 unfold mK at h1 ⊢
 rw[he a w ha]
 exact h1
theorem aj [HasTab P] {x y:Operand} {s:TypeId} {gb t:Nat} {cs ds:List Value} {i:Ti} {K:List Value→List Asn} (hx:az T x=some (.pointer (some ⟨gb,0,none⟩))) (hy:az T y=some (.agg ds.toArray)) (hs:ty P s=some i) (hl:ds.length=i.size) (h1: ∀ u∈ds,u.oneCell'=true) [hu:HUp H gb t cs K] (hlen:cs.length=ds.length):
  Ef P n w0 M T H ⟨none,.store s x y,tt,pos,af,g⟩ (fun _ H''=>H''=K ds):=
 nl hx hy hs (by simp[aV]) hl h1 (by rw[Nat.zero_add, ← hlen];simp) (by omega)
theorem St.again {As:List Asn} {w:World} (h:St w0 M (As++Hr) w):St w (ar As) As w:=
 ⟨Kp.refl _ _,fun A hA=>⟨(h.all A (List.mem_append_left _ hA)).1,fun k hk=>⟨.inl ⟨A,hA,hk⟩,((h.all A (List.mem_append_left _ hA)).2 k hk).2⟩⟩,(List.pairwise_append.1 h.apart).1⟩
end
class NatOf (z:Int) (n:outParam Nat):Prop where
 is:z=(n:Int)
instance NatOf.cast (n:Nat):NatOf (n:Int) n:=⟨O⟩
instance NatOf.ofNat' (n:Nat):NatOf (Int.ofNat n) n:=⟨O⟩
instance NatOf.lit (n:Nat):NatOf (no_index (OfNat.ofNat n:Int)) (OfNat.ofNat n):=⟨O⟩
section
variable {P:Program} {ro:Option Nat} {ds:List Deferred} {B:Bk ro ds} {n:Nat} {w0:World} {M:Nat→Prop} {k:List It} {T:aF} {H Hr:List Asn} {l σ:List Oper} {d:Tmp} {dd:Option Tmp} {tt:TypeId} {pos:String} {af:Array Edge} {g:Option (Nat×Bool)}
theorem aI {x y:Operand} {t u:TypeId} {kk:IntKind} {i j:Int} {p q:Nat} (hx:az T x=some (.int kk i)) (hy:az T y=some (.int kk j)) [hi:NatOf i p] [hj:NatOf j q] (hf:aH kk ((p+q:Nat):Int)):
  Tk P n w0 M T H ⟨dd,.binOp .add t x y u,tt,pos,af,g⟩ (.int kk ((p+q:Nat):Int)):=by
 rw[Int.natCast_add] at hf ⊢
 rw[hi.is] at hx
 rw[hj.is] at hy
 exact ii (op:= .add) hx hy O hf
theorem bU {x y:Operand} {t u:TypeId} {kk:IntKind} {i j:Int} {p q:Nat} (hx:az T x=some (.int kk i)) (hy:az T y=some (.int kk j)) [hi:NatOf i p] [hj:NatOf j q] (hq:q≤p) (hf:aH kk ((p-q:Nat):Int)):
  Tk P n w0 M T H ⟨dd,.binOp .sub t x y u,tt,pos,af,g⟩ (.int kk ((p-q:Nat):Int)):=by
 rw[Int.natCast_sub hq] at hf ⊢
 rw[hi.is] at hx
 rw[hj.is] at hy
 exact ii (op:= .sub) hx hy O hf
theorem zg {x y:Operand} {t u:TypeId} {kk:IntKind} {i j:Int} {p q:Nat} (hx:az T x=some (.int kk i)) (hy:az T y=some (.int kk j)) [hi:NatOf i p] [hj:NatOf j q] (hf:aH kk ((p*q:Nat):Int)):
  Tk P n w0 M T H ⟨dd,.binOp .mul t x y u,tt,pos,af,g⟩ (.int kk ((p*q:Nat):Int)):=by
 rw[Int.natCast_mul] at hf ⊢
 rw[hi.is] at hx
 rw[hj.is] at hy
 exact ii (op:= .mul) hx hy O hf
theorem zh {x y:Operand} {t u:TypeId} {kk:IntKind} {i j:Int} {p q:Nat} (hx:az T x=some (.int kk i)) (hy:az T y=some (.int kk j)) [hi:NatOf i p] [hj:NatOf j q] (hq:0<q) (hf:aH kk ((p/q:Nat):Int)):
  Tk P n w0 M T H ⟨dd,.binOp .quo t x y u,tt,pos,af,g⟩ (.int kk ((p/q:Nat):Int)):=by
 rw[Int.natCast_ediv] at hf ⊢
 rw[hi.is] at hx
 rw[hj.is] at hy
 exact AC hx hy (by omega) (by omega) hf
theorem zj {x y:Operand} {t u:TypeId} {kk:IntKind} {i j:Int} {p q:Nat} (hx:az T x=some (.int kk i)) (hy:az T y=some (.int kk j)) [hi:NatOf i p] [hj:NatOf j q] (hq:0<q):
  Tk P n w0 M T H ⟨dd,.binOp .rem t x y u,tt,pos,af,g⟩ (.int kk ((p%q:Nat):Int)):=by
 rw[Int.natCast_emod]
 rw[hi.is] at hx
 rw[hj.is] at hy
 exact AD hx hy (by omega) (by omega)
theorem fc [HasTab P] {x y:Operand} {s e:TypeId} {A:Option Addr} {m c q:Nat} {z:Int} {kk:IntKind} {i ei:Ti} (hx:az T x=some (.slice A m c)) (hy:az T y=some (.int kk z)) [hz:NatOf z q] (hs:ty P s=some i) (hi:i.desc= .slice e) (he:ty P e=some ei) (h1:ei.size=1) (hA:A≠none) (hq:q<m):
  Tk P n w0 M T H ⟨dd,.indexAddr s x y,tt,pos,af,g⟩ (.pointer (pa A q)):=by
 rw[hz.is] at hy
 exact fS hx hy hs hi he h1 hA hq
theorem jP {d:TypeDesc} {e:TypeId} (he:P.underlying e=some d) (ha:fZ d=false) {xs:Array Value} {off:Nat} {v:Value} (hx:xs[off]? =some v) (w:World):(part e xs off).run P w= .ok v w:=by
 cases d<;>first|(cases ha;done)|simp[part,isAgg,run_underlying he,hx]
theorem cB [HasTab P] {x:Operand} {s:TypeId} {gb off m:Nat} {F:Nat→Prop} {xs:List Value} {v:Value} {i:Ti} (hx:az T x=some (.pointer (some ⟨gb,off,none⟩))) (hs:ty P s=some i) (hi:fZ i.desc=false) (hr:Rd w0 F 1 (some ⟨gb,0,none⟩) m xs) (hF: ∀ k,F k→ ¬ M k) (hv:xs[off]? =some v):
  Tk P n w0 M T H ⟨dd,.load s x,tt,pos,af,g⟩ v:=by
 have e:(some ⟨gb,off,none⟩:Option Addr)=pa (some ⟨gb,0,none⟩) off:=by simp[pa,d3]
 rw[e] at hx
 exact w5 hx hs hi hr hv hF
theorem lV [HasTab P] {x y:Operand} {s e:TypeId} {A A2:Option Addr} {m c m2 c2:Nat} {xs news:List Value} {i ei:Ti} (hx:az T x=some (.slice A m c)) (hy:az T y=some (.slice A2 m2 c2)) (hs:ty P s=some i) (hi:i.desc= .slice e) (he:ty P e=some ei) (hz1:ei.size=1) (hz:ei.zero.cells.size=1)
  [hr:HRow H A m c e 1 xs Hr] (hsrc:Srd w0 M H 1 A2 m2 news) (h1: ∀ u∈news,u.oneCell'=true) (hb:(m+m2)*ei.bytes≤140737488355328) (hm:m+m2≤maxLen):
  Ef P n w0 M T H ⟨dd,.call ⟨.builtin .append,#[x,y],#[s,s]⟩,tt,pos,af,g⟩ (fun v H'=> ∃ A' c',v= .slice A' (m+m2) c'∧H'=row e 1 A' (m+m2) c' (xs++news)::Hr):=by
 have hr':HRow H A m c e ei.size xs Hr:=by rw[hz1];exact hr
 have h:=uf (P:=P) (n:=n) (w0:=w0) (M:=M) (dd:=dd) (tt:=tt) (pos:=pos) (af:=af) (g:=g) hx hy hs hi he (by rw[hz,hz1]) (by omega) (hr:=hr') (by rw[hz1];exact hsrc) h1 hb hm
 rwa [hz1] at h
theorem f0 {x:Operand} {f:FuncId} {pre:List Value} {xs:Array Operand} {E:Value→List Asn→Prop} {ts:Array TypeId} (hx:az T x=some (.func (.func f) pre.toArray #[])) (h:Ef P n w0 M T H ⟨dd,.call ⟨.value (.func f),(pre.map Operand.const).toArray++xs,ts⟩,tt,pos,af,g⟩ E):
  Ef P n w0 M T H ⟨dd,.call ⟨.value x,xs,ts⟩,tt,pos,af,g⟩ E:=h.same fun a w ha=>by
 have e2:(((pre.map Operand.const).toArray++xs).map a.eval)=pre.toArray++xs.map a.eval:=by
  rw[Array.map_append,List.map_toArray,List.map_map]
  congr 2
  conv=>rhs;rw[← List.map_id pre]
  rfl
 have e1:(a.eval (.func f))= .func (.func f) #[] #[]:=rfl
 simp[execOp,resolve,Deferred.ofValue,invoke,ha.eval hx,e2,e1]
end
section
variable {P:Program} {ro:Option Nat} {ds:List Deferred} {B:Bk ro ds} {n:Nat} {w0:World} {M:Nat→Prop} {k:List It} {T:aF} {H Hr:List Asn}
theorem iI {p:Prop} (h: ∀ w,St w0 M H w→p) (hp:p→RS P B n w0 M k T H):RS P B n w0 M k T H:=⟨fun a w had ha hS=>(hp (h w hS)).runD a w had ha hS⟩
theorem ep {w:World} {e:TypeId} {size m c:Nat} {A:Option Addr} {xs:List Value} (h:(row e size A m c xs).holds w):m≤c∧c≤maxLen∧(0<m→A≠none)∧xs.length=m*size:=by
 obtain⟨A',c',hv,h1,h2⟩:=lP h
 injection hv with e1 e2 e3
 subst e3
 refine⟨h1,h2,fun hm=>?_,h.1⟩
 rcases h.2 with⟨_,h0⟩|⟨g,cap,cur,hv,_⟩
 ·omega
 ·injection hv with e1
  rw[e1]
  simp
theorem eS {e:TypeId} {size:Nat} (A:Option Addr) (m c:Nat) {xs:List Value} [hr:HRow H A m c e size xs Hr] (hp:m≤c→c≤maxLen→(0<m→A≠none)→xs.length=m*size→RS P B n w0 M k T H):RS P B n w0 M k T H:=
 iI (p:=m≤c∧c≤maxLen∧(0<m→A≠none)∧xs.length=m*size) (fun w hS=>ep (hS.at_ hr.mem)) fun⟨h1,h2,h3,h4⟩=>hp h1 h2 h3 h4
end
theorem rh {P:Program} {f:FuncId} {fn:Func} {vs:List Value} {w:World} {n:Nat} {As:List Asn} {X:Type} {I:X→Prop} {A:X→List Asn} (hf:P.funcs[f]? =some fn) (hb:fn.body.isSome=true) (hn:fn.ntmps=n) (hr:fn.results=#[])
  (hv:vs.length≤n) (hS:St w (ar As) As w) (h: ∀ B:Bk none [],(∀ (T:aF) (H:List Asn),(∀ w',St w (ar As) H w'→ ∃ x,I x∧St w (ar As) (A x) w')→RS P B n w (ar As) [] T H)→RS P B n w (ar As) [.code (dM fn)] (jL 0 vs) As):
  Gives P f vs As w (fun _=> .tuple #[]) I A:=by
 obtain⟨c,hc⟩:=Option.isSome_iff_exists.1 hb
 refine ka hf hc hn (rs:=[]) (by simpa using hr) hv hS fun B hB=>?_
 have h2:=h B fun T H hw'=>t6 hB (rs:=[]) (vs:=[]) O fun w' hS'=>by
  obtain⟨x,hI,hA⟩:=hw' w' hS'
  exact⟨x,O,hI,hA⟩
 have e:dM fn=c:=by unfold dM;rw[hc]
 rwa [e] at h2
section
variable {P:Program} {n:Nat} {w0:World} {M:Nat→Prop} {T:aF} {H Hr:List Asn} {dd:Option Tmp} {tt:TypeId} {pos:String} {af:Array Edge} {g:Option (Nat×Bool)} {x y z:Operand} {ts:Array TypeId}
theorem ij [HasTab P] {s e:TypeId} {size m c off:Nat} {A:Option Addr} {xs ds:List Value} {v:Value} {i:Ti} (hx:az T x=some (.pointer (pa A off))) (hy:az T y=some v) (hs:ty P s=some i) (hds:aV v=ds) (hl:ds.length=i.size) (h1: ∀ u∈ds,u.oneCell'=true) [hr:HRow H A m c e size xs Hr] (h0:0<ds.length) (hfit:off+ds.length≤xs.length):
  Ef P n w0 M T H ⟨none,.store s x y,tt,pos,af,g⟩ (fun _ H'=>H'=row e size A m c (xs.take off++ds++xs.drop (off+ds.length))::Hr):= .mk fun a w ha hS=>by
 subst hds
 have hS1:=hS.perm hr.perm
 have hown:w.ownsRow 0 e size (.slice A m c) m xs:=hS1.at_ (A:=row e size A m c xs) (by simp)
 have hxl:=hown.1
 rcases hown.2 with⟨hv,hm0⟩|⟨gb,cap,cur,hv,_,hb,hmc,hcm,hcs,htk⟩
 ·subst hm0
  rw[Nat.zero_mul] at hxl
  omega
 injection hv with e1 e2 e3
 subst e1 e3
 have hx':az T x=some (.pointer (some ⟨gb,off,none⟩)):=by
  have e0:pa (some ⟨gb,0,none⟩) off=(some ⟨gb,off,none⟩:Option Addr):=by simp[pa,d3]
  rw[← e0];exact hx
 have hbl:Blk w gb e cur:=hb
 have hcl:m*size≤c*size:=Nat.mul_le_mul_right _ hmc
 have hfc:off+(aV v).length≤cur.size:=by omega
 have hrun:=run_storeCells_at P gb off e (aV v) 0 cur w hbl (by simpa using hfc) h1
 simp only[Nat.add_zero] at hrun
 have hsz:v.cells.size=i.size:=by rw[gz];simpa using hl
 have h3:(storeVar s ⟨gb,off,none⟩ v).run P w= .ok () (w.setRow gb (cur.toList.take off++aV v++cur.toList.drop (off+(aV v).length)).toArray):=by
  simp only[storeVar,Sem.run_bind,ev hs w,Result.andThen_ok,hsz,ne_eq,not_true_eq_false,if_false]
  rw[gz]
  simpa using hrun
 have hrun2:(execOp a.eval ⟨none,.store s x y,tt,pos,af,g⟩).run P w= .ok .skip (w.setRow gb (cur.toList.take off++aV v++cur.toList.drop (off+(aV v).length)).toArray):=by
  simp[execOp,ha.eval hx',ha.eval hy,Instr.storeAt,Instr.sureAddr,h3]
 unfold Oper.wp
 rw[hrun2]
 refine⟨undef,_,O,O,hS1.upd .here ((Kp.setRow gb _).mono fun k hk _ e=>hk (by subst e;rfl)) ?_ (fun k hk=>hk)⟩
 refine⟨?_,.inr ⟨gb,c,_,O,Nat.zero_le _,setRow_heap w gb _ _ e _ hbl,hmc,hcm,?_,?_⟩⟩
 ·simp only[List.length_append,List.length_take,List.length_drop]
  omega
 ·simp only[List.size_toArray,List.length_append,List.length_take,List.length_drop]
  have:cur.toList.length=cur.size:=by simp
  omega
 ·rw[List.toList_toArray, ← htk]
  have hcur:cur.toList.length=cur.size:=by simp
  apply List.ext_getElem?
  intro j
  have hxs:(cur.toList.take (m*size)).length=m*size:=by rw[List.length_take];omega
  simp only[List.getElem?_take,List.getElem?_append,List.getElem?_drop,List.length_append,List.length_take]
  by_cases hj:j<m*size
  ·rw[if_pos hj]
   by_cases ha:j<off
   ·rw[if_pos (show j<min off cur.toList.length+(aV v).length by omega),if_pos (show j<min off cur.toList.length by omega),if_pos (show j<min off (min (m*size) cur.toList.length)+(aV v).length by omega),if_pos (show j<min off (min (m*size) cur.toList.length) by omega),if_pos ha,if_pos ha,if_pos hj]
   ·by_cases hb2:j<off+(aV v).length
    ·rw[if_pos (show j<min off cur.toList.length+(aV v).length by omega),if_neg (show ¬ j<min off cur.toList.length by omega),if_pos (show j<min off (min (m*size) cur.toList.length)+(aV v).length by omega),if_neg (show ¬ j<min off (min (m*size) cur.toList.length) by omega)]
     congr 1
     omega
    ·rw[if_neg (show ¬ j<min off cur.toList.length+(aV v).length by omega),if_neg (show ¬ j<min off (min (m*size) cur.toList.length)+(aV v).length by omega)]
     rw[if_pos (by omega)]
     congr 1
     omega
  ·rw[if_neg hj]
   rw[if_neg (show ¬ j<min off (min (m*size) cur.toList.length)+(aV v).length by omega),if_neg (by omega)]
theorem jq [HasTab P] {s e:TypeId} {m c j:Nat} {A:Option Addr} {xs:List Value} {v:Value} {i:Ti} (hx:az T x=some (.pointer (pa A j))) (hy:az T y=some v) (hs:ty P s=some i) (h1:v.oneCell'=true) (hl:i.size=1) [hr:HRow H A m c e 1 xs Hr] (hfit:j<xs.length):
  Ef P n w0 M T H ⟨none,.store s x y,tt,pos,af,g⟩ (fun _ H'=>H'=row e 1 A m c (xs.set j v)::Hr):=by
 have hc:aV v=[v]:=by cases v<;>first|rfl|(simp[Value.oneCell'] at h1)
 have h:=ij (P:=P) (n:=n) (w0:=w0) (M:=M) (tt:=tt) (pos:=pos) (af:=af) (g:=g) (H:=H) (Hr:=Hr) (size:=1) (ds:=[v]) (off:=j) (xs:=xs) (A:=A) (m:=m) (c:=c) (e:=e) hx hy hs hc (by simp[hl]) (by simpa using h1) (by simp) (by simp;omega)
 have e:xs.take j++[v]++xs.drop (j+[v].length)=xs.set j v:=by rw[List.set_eq_take_append_cons_drop,if_pos hfit];simp
 rw[e] at h
 exact h
theorem ay [HasTab P] {o:Op} {p:Prop} {i:Decidable p} (h:xa P T o=some (.bool (@decide p i))) (hp:p):Tk P n w0 M T H ⟨dd,o,tt,pos,af,g⟩ (.bool true):=by
 have h1:=gX (n:=n) (w0:=w0) (M:=M) (H:=H) (dd:=dd) (tt:=tt) (pos:=pos) (af:=af) (g:=g) h
 rwa [decide_eq_true hp] at h1
theorem aB [HasTab P] {o:Op} {p:Prop} {i:Decidable p} (h:xa P T o=some (.bool (@decide p i))) (hp: ¬ p):Tk P n w0 M T H ⟨dd,o,tt,pos,af,g⟩ (.bool false):=by
 have h1:=gX (n:=n) (w0:=w0) (M:=M) (H:=H) (dd:=dd) (tt:=tt) (pos:=pos) (af:=af) (g:=g) h
 rwa [decide_eq_false hp] at h1
theorem Src.head {A:Option Addr} {m c:Nat} {l:List UInt8} (h:Src w0 M H A m c l) {k:Nat} (hk:k≤m):Src w0 M H A k c (l.take k):=⟨fun w hS=>(h.bs w hS).head hk⟩
theorem Src.cutP {A:Option Addr} {m c:Nat} {l:List UInt8} (h:Src w0 M H A m c l) {k:Nat} (hk:k≤m):Src w0 M H (cutP A c k 1) (m-k) (c-k) (l.drop k):=⟨fun w hS=>(h.bs w hS).cutP hk⟩
end
section
variable {P:Program} {ro:Option Nat} {ds:List Deferred} {B:Bk ro ds} {n:Nat} {w0:World} {M:Nat→Prop} {k:List It} {T:aF} {H Hr:List Asn} {dd:Option Tmp} {tt:TypeId} {pos:String} {af:Array Edge} {g:Option (Nat×Bool)} {x y z:Operand} {ts:Array TypeId}
theorem Srd.cutP {size m c q:Nat} {A:Option Addr} {xs:List Value} (h:Srd w0 M H size A m xs) (hq:q≤m) (hc:m≤c):Srd w0 M H size (cutP A c q size) (m-q) (xs.drop (q*size)):=⟨fun w hS=>(h.rd w hS).cut hq hc⟩
theorem Srd.head {size m q:Nat} {A:Option Addr} {xs:List Value} (h:Srd w0 M H size A m xs) (hq:q≤m):Srd w0 M H size A q (xs.take (q*size)):=⟨fun w hS=>(h.rd w hS).head hq⟩
theorem Srd.none {size c:Nat}:Srd w0 M H size none 0 []:=⟨fun w hS=>Rd.none_⟩
theorem xb {e:TypeId} {size:Nat} (A:Option Addr) (m c:Nat) {xs:List Value} [hr:HRow H A m c e size xs Hr] (hA:A≠none) (hp: ∀ gb ys,A=some ⟨gb,0,none⟩→ys.length=(c-m)*size→m≤c→c≤maxLen→xs.length=m*size→RS P B n w0 M k T (pt gb e (xs++ys)::Hr)):RS P B n w0 M k T H:=⟨fun a w had ha hS=>by
 have hS1:=hS.perm hr.perm
 have hown:w.ownsRow 0 e size (.slice A m c) m xs:=hS1.at_ (A:=row e size A m c xs) (by simp)
 rcases hown.2 with⟨hv,_⟩|⟨gb,cap,cur,hv,_,hb,hmc,hcm,hcs,htk⟩
 ·injection hv with e1
  exact absurd e1 hA
 ·injection hv with e1 e2 e3
  subst e1 e3
  have hcl:cur.toList.length=c*size:=by simpa using hcs
  have hcur:xs++cur.toList.drop (m*size)=cur.toList:=by rw[← htk,List.take_append_drop]
  refine(hp gb (cur.toList.drop (m*size)) O (by rw[List.length_drop,hcl,Nat.sub_mul]) hmc hcm hown.1).runD a w had ha (hS1.turn .here (fun _=>?_) (fun k hk=>?_))
  ·rw[hcur]
   show Blk w gb e _
   unfold Blk
   rw[hb]
  ·have hk:k=gb:=hk
   subst hk
   rfl⟩
class HPt (H:List Asn) (gb:Nat) (e:outParam TypeId) (cs:outParam (List Value)) (H':outParam (List Asn)):Prop where
 perm:H.Perm (pt gb e cs::H')
instance (priority:=high) HPt.here {gb:Nat} {e:TypeId} {cs:List Value} {H:List Asn}:HPt (pt gb e cs::H) gb e cs H:=⟨List.Perm.refl _⟩
instance HPt.there {gb:Nat} {e:TypeId} {cs:List Value} {B:Asn} {H H':List Asn} [h:HPt H gb e cs H']:HPt (B::H) gb e cs (B::H'):=⟨(List.Perm.cons _ h.perm).trans (List.Perm.swap _ _ _)⟩
theorem St.close {w:World} {e:TypeId} {size gb m c:Nat} {xs cs:List Value} (hS:St w0 M H w) [hu:HPt H gb e cs Hr] (hm:m≤c) (hc:c≤maxLen) (hl:cs.length=c*size) (hx:cs.take (m*size)=xs):St w0 M (row e size (some ⟨gb,0,none⟩) m c xs::Hr) w:=by
 subst hx
 exact St.rowOf (hS.perm hu.perm) .here hm hc hl
theorem mE (w:World) (dT sT ty elem:TypeId) (gb o dLen dCap:Nat) (A:Option Addr) (sLen sCap q size:Nat) (cur:Array Value) (t:TypeId) (cs:List Value)
  (hu:P.underlying dT=some (.slice elem)) (hs:(P.info? elem).map (·.size)=some size)
  (hg:w.heap[gb]? =some (.cells cur t (0,0))) (hq:q=Nat.min sLen dLen) (hl:cs.length=q*size)
  (hsrc:0<q→ ∃ ad,A=some ad∧ ∀ j v,cs[j]? =some v→w.cell? (ad.add j)=some v) (hfit:o+cs.length≤cur.size) (h1: ∀ v∈cs,v.oneCell'=true):
  (Builtin.copy_ #[dT,sT] ty #[.slice (some ⟨gb,o,none⟩) dLen dCap,.slice A sLen sCap]).run P w=
   .ok (goInt q) (w.setRow gb (cur.toList.take o++cs++cur.toList.drop (o+cs.length)).toArray):=by
 have hst:=run_storeCells_at P gb o t cs 0 cur w hg (by simpa using hfit) h1
 have hfc:(Builtin.firstCells size q (.slice A sLen sCap)).run P w= .ok cs.toArray w:=by
  rcases Nat.eq_zero_or_pos q with h0|h0
  ·subst h0
   obtain rfl:cs=[]:=List.eq_nil_of_length_eq_zero (by simpa using hl)
   cases A with
   |none=>exact run_firstCells_none w size 0 sLen sCap
   |some ad=>exact run_firstCells_some w size 0 ad sLen sCap [] (by simp) (by simp)
  ·obtain⟨ad,rfl,hc⟩:=hsrc h0
   exact run_firstCells_some w size q ad sLen sCap cs hl hc
 cases hqq:P.info? elem with
 |none=>simp[hqq] at hs
 |some i=>
  have hi:i.size=size:=by simpa[hqq] using hs
  simp[Builtin.copy_,run_underlying hu,Builtin.lenOf,sizeOf,typeInfo,hqq,hi, ← hq,hfc,hst]
theorem lJ [HasTab P] {dT sT e:TypeId} {gb off dl dc sl sc t q:Nat} {A:Option Addr} {cur cs:List Value} {i ei:Ti} {H':List Asn} {K:List Value→List Asn} (hx:az T x=some (.slice (some ⟨gb,off,none⟩) dl dc)) (hy:az T y=some (.slice A sl sc)) (hs:ty P dT=some i) (hi:i.desc= .slice e) (he:ty P e=some ei)
  [hu:HUp H gb t cur K] (hsrc:Srd w0 M H ei.size A q cs) (hn:q=min sl dl) (hfit:off+cs.length≤cur.length) (h1: ∀ v∈cs,v.oneCell'=true) (hH:K (cur.take off++cs++cur.drop (off+cs.length))=H'):
  Ef P n w0 M T H ⟨dd,.call ⟨.builtin .copy,#[x,y],#[dT,sT]⟩,tt,pos,af,g⟩ (fun v H''=>v= .int .i64 (q:Nat)∧H''=H'):= .mk fun a w ha hS=>by
 subst hH
 have hus:P.underlying dT=some (.slice e):=hi▸cH hs
 have hsz:(P.info? e).map (·.size)=some ei.size:=by
  obtain⟨j,hj,_,hj1,_⟩:=kb he
  rw[hj]
  simp[hj1]
 have hg:Blk w gb t cur.toArray:=hS.at_ (hu.upd cur).mem
 have hrd:=hsrc.rd w hS
 have hrun:=mE (P:=P) w dT sT tt e gb off dl dc A sl sc q ei.size cur.toArray t cs hus hsz hg hn hrd.1 (fun h0=>by
  obtain⟨ad,e1,_,hc⟩:=hrd.2 h0
  exact⟨ad,e1,hc⟩) (by simpa using hfit) h1
 unfold Oper.wp
 simp only[execOp,resolve,invoke,builtin,Sem.run_bind,Sem.run_pure,Result.andThen_ok,List.map_toArray,List.map_cons,List.map_nil,ha.eval hx,ha.eval hy,hrun]
 refine⟨_,_,⟨O,O⟩,O,hS.upd (hu.upd _) (Kp.setRow gb _) ?_ fun _ h=>h⟩
 have:=setRow_heap w gb _ (cur.take off++cs++cur.drop (off+cs.length)).toArray t _ hg
 show Blk _ _ _ _
 unfold Blk
 simpa using this
theorem uk (w:World) (o:Obj):Kp bC w (w.drew.alloc o):=(Kp.alloc w o).trans ⟨O,O,O,by simp,fun k _ _=>O⟩
theorem mG {w:World} {F:Nat→Prop} {size m c:Nat} {A:Option Addr} {xs:List Value} (h:Rd w F size A m xs):(Builtin.firstCells size m (.slice A m c)).run P w= .ok xs.toArray w:=by
 rcases Nat.eq_zero_or_pos m with h0|h0
 ·subst h0
  obtain rfl:xs=[]:=List.eq_nil_of_length_eq_zero (by simpa using h.1)
  cases A with
  |none=>exact run_firstCells_none w size 0 0 c
  |some ad=>exact run_firstCells_some w size 0 ad 0 c [] (by simp) (by simp)
 ·obtain⟨ad,rfl,_,hc⟩:=h.2 h0
  exact run_firstCells_some w size m ad m c xs h.1 hc
theorem zl [HasTab P] {sz:Nat} {s sn e:TypeId} {m c q:Nat} {kq kn:IntKind} {A:Option Addr} {olds:List Value} {i i2 ei:Ti} (hx:az T x=some (.slice A m c)) (hy:az T y=some (.int kq (q:Int))) (hs:ty P s=some i) (hi:i.desc= .slice e) (hs2:ty P sn=some i2) (hi2:i2.desc= .int kn) (he:ty P e=some ei) (hsz:ei.size=sz) (hz:ei.zero.cells.size=sz) (hz0:0<sz)
  (hold:Srd w0 M H sz A m olds) (h0:0<q) (hroom:c<m+q) (hb:(m+q)*ei.bytes≤140737488355328) (hm:m+q≤maxLen):
  Ef P n w0 M T H ⟨dd,.call ⟨.builtin .append,#[x,y],#[s,sn]⟩,tt,pos,af,g⟩ (fun v H'=> ∃ gb c' zs ys,v= .slice (some ⟨gb,0,none⟩) (m+q) c'∧zs.length=q*sz∧ys.length=(c'-(m+q))*sz∧m+q≤c'∧c'≤maxLen∧H'=pt gb e (olds++zs++ys)::H):= .mk fun a w ha hS=>by
 subst hsz
 have hus:P.underlying s=some (.slice e):=hi▸cH hs
 obtain⟨j,hj,hj0,hj1,hj2⟩:=kb he
 have hro:=hold.rd w hS
 have hrod:Rd w.drew bC ei.size A m olds:=hro.keep (⟨O,O,O,Nat.le_refl _,fun k _ _=>O⟩)
 have hrun:=Go.Lib.run_append_grow_zeros (P:=P) w s sn tt e j _ kq kn hus (hi2▸cH hs2) hj hj0 A m c olds (by rw[hj1];exact mG hrod) q h0 (by omega) hroom (by simp only[maxLen] at hm;omega) (by rw[hj2];have:q*ei.bytes≤(m+q)*ei.bytes:=Nat.mul_le_mul_right _ (by omega);omega) (by rw[hj2];exact growslice_fits hroom hb)
 have hzl:(Builtin.zeroCells ei.zero.cells q).toList.length=q*ei.size:=by rw[Array.length_toList,size_zeroCells,hz]
 have e1:olds.toArray++Builtin.zeroCells ei.zero.cells q++Builtin.zeroCells ei.zero.cells (grownCap w (m+q) c e-(m+q))=(olds++(Builtin.zeroCells ei.zero.cells q).toList++(Builtin.zeroCells ei.zero.cells (grownCap w (m+q) c e-(m+q))).toList).toArray:=by apply Array.ext';simp
 rw[e1] at hrun
 unfold Oper.wp
 simp only[execOp,resolve,invoke,builtin,Sem.run_bind,Sem.run_pure,Result.andThen_ok,List.map_toArray,List.map_cons,List.map_nil,ha.eval hx,ha.eval hy,hrun]
 refine⟨_,_,⟨w.heap.size,_,_,_,O,hzl,by rw[Array.length_toList,size_zeroCells,hz],grownCap_ge w _ _ _,grownCap_le_maxLen w _ _ e hm,O⟩,O,hS.add (uk w _) ?_ (fun k hk=>?_)⟩
 ·show Blk _ _ _ _
  exact heap_alloc_new w.drew _
 ·have hk:k=w.heap.size:=hk
  subst hk
  simp
theorem xc {gb off c lo sz:Nat} (h:lo<c):cutP (some ⟨gb,off,none⟩) c lo sz=some ⟨gb,off+lo*sz,none⟩:=by
 unfold cutP
 rw[if_neg (by omega)]
 simp[pa,d3]
theorem kS [HasTab P] {sz:Nat} {s e:TypeId} {gb off m c q:Nat} {z:Int} {kk:IntKind} {i ei:Ti} (hx:az T x=some (.slice (some ⟨gb,off,none⟩) m c)) (hy:az T y=some (.int kk z)) [hz:NatOf z q] (hs:ty P s=some i) (hi:i.desc= .slice e) (he:ty P e=some ei) (hsz:ei.size=sz) (hq:q≤m) (hq2:q<c) (hc:m≤c):
  Tk P n w0 M T H ⟨dd,.slice s x (some y) none none,tt,pos,af,g⟩ (.slice (some ⟨gb,off+q*sz,none⟩) (m-q) (c-q)):=by
 subst hsz
 rw[hz.is] at hy
 have h:=uh (n:=n) (w0:=w0) (M:=M) (H:=H) (dd:=dd) (tt:=tt) (pos:=pos) (af:=af) (g:=g) hx hy hs hi he hq hc
 rwa [xc hq2] at h
theorem lW [HasTab P] {sz:Nat} {s e:TypeId} {A:Option Addr} {m c q:Nat} {z:Int} {kk:IntKind} {i ei:Ti} (hx:az T x=some (.slice A m c)) (hy:az T y=some (.int kk z)) [hz:NatOf z q] (hs:ty P s=some i) (hi:i.desc= .slice e) (he:ty P e=some ei) (hsz:ei.size=sz) (hq:q≤m) (hc:m≤c):
  Tk P n w0 M T H ⟨dd,.slice s x (some y) none none,tt,pos,af,g⟩ (.slice (cutP A c q sz) (m-q) (c-q)):=by
 subst hsz
 rw[hz.is] at hy
 exact uh hx hy hs hi he hq hc
theorem lX [HasTab P] {s e:TypeId} {A:Option Addr} {m c q:Nat} {z:Int} {kk:IntKind} {i ei:Ti} (hx:az T x=some (.slice A m c)) (hy:az T y=some (.int kk z)) [hz:NatOf z q] (hs:ty P s=some i) (hi:i.desc= .slice e) (he:ty P e=some ei) (hq:q≤c):
  Tk P n w0 M T H ⟨dd,.slice s x none (some y) none,tt,pos,af,g⟩ (.slice A q c):=by
 rw[hz.is] at hy
 exact ug hx hy hs hi he hq
theorem yK [HasTab P] {s e:TypeId} {A:Option Addr} {m c:Nat} {i:Ti} (hx:az T x=some (.slice A m c)) (hs:ty P s=some i) (hi:i.desc= .slice e):
  Tk P n w0 M T H ⟨dd,.call ⟨.builtin .cap,#[x],#[s]⟩,tt,pos,af,g⟩ (.int .i64 (c:Int)):= .mk fun a w ha _=>by
 have hu:=run_underlying (hi▸cH hs) w
 simp[execOp,resolve,invoke,builtin,ha.eval hx,Builtin.cap_,hu,goInt]
theorem fQ [HasTab P] {s e u:TypeId} {A:Option Addr} {m c:Nat} {i:Ti} (hx:az T x=some (.slice A m c)) (hy:az T y=some (.slice none 0 0)) (hs:ty P s=some i) (hi:i.desc= .slice e):
  Tk P n w0 M T H ⟨dd,.binOp .eql s x y u,tt,pos,af,g⟩ (.bool A.isNone):= .mk fun a w ha hS=>by
 have h3:=Go.Lib.run_eql_slice_nil (P:=P) w s e A m c 0 0 (hi▸cH hs)
 simp[execOp,ha.eval hx,ha.eval hy,eqGuard,h3]
theorem jr [HasTab P] {s e:TypeId} {sz gb:Nat} {A2:Option Addr} {m2 c2:Nat} {news:List Value} {i ei:Ti} (hx:az T x=some (.slice (some ⟨gb,0,none⟩) 0 0)) (hy:az T y=some (.slice A2 m2 c2)) (hs:ty P s=some i) (hi:i.desc= .slice e) (he:ty P e=some ei) (hsz:ei.size=sz) (hz:ei.zero.cells.size=sz) (hz0:0<sz)
  (hr:Rem H (pt gb e []) Hr) (hsrc:Srd w0 M H sz A2 m2 news) (h1: ∀ u∈news,u.oneCell'=true) (hb:m2*ei.bytes≤140737488355328) (hm:m2≤maxLen):
  Ef P n w0 M T H ⟨dd,.call ⟨.builtin .append,#[x,y],#[s,s]⟩,tt,pos,af,g⟩ (fun v H'=> ∃ A' c',v= .slice A' m2 c'∧H'=row e sz A' m2 c' news::Hr):=by
 subst hsz
 exact zd hx hy hs hi he hz hz0 hr hsrc h1 hb hm
theorem gG {f:FuncId} {xs:Array Operand} {vs:List Value} {X:Type} {V:X→Value} {I:X→Prop} {A:X→List Asn} (hf:Fn_ P f) (hx:cg T xs.toList=some vs) (hc: ∀ w,St w0 M H w→Gives P f vs [] w V I A) (hA: ∀ x,A x=[]):
  Ef P n w0 M T H ⟨dd,.call ⟨.value (.func f),xs,ts⟩,tt,pos,af,g⟩ (fun u H'=> ∃ x,u=V x∧I x∧H'=H):=by
 refine(jG hf hx hc).mono ?_
 rintro v H' ⟨x,rfl,hI,rfl⟩ w hS
 rw[hA,List.nil_append] at hS
 exact⟨_,_,O,⟨x,O,hI,O⟩,hS⟩
theorem ul {f:FuncId} {xs:Array Operand} {vs:List Value} {X:Type} {V:X→Value} {I:X→Prop} {A:X→List Asn} {B:X→Asn} (hf:Fn_ P f) (hx:cg T xs.toList=some vs) (hc: ∀ w,St w0 M H w→Gives P f vs [] w V I A) (hA: ∀ x,A x=[B x]):
  Ef P n w0 M T H ⟨dd,.call ⟨.value (.func f),xs,ts⟩,tt,pos,af,g⟩ (fun u H'=> ∃ x,u=V x∧I x∧H'=B x::H):=by
 refine(jG hf hx hc).mono ?_
 rintro v H' ⟨x,rfl,hI,rfl⟩ w hS
 rw[hA] at hS
 exact⟨_,_,O,⟨x,O,hI,O⟩,hS⟩
theorem um {f:FuncId} {xs:Array Operand} {vs:List Value} {X:Type} {V:X→Value} {I:X→Prop} {A:X→List Asn} {A1:Asn} {B:X→Asn} [h1:RemC H A1 Hr] (hf:Fn_ P f) (hx:cg T xs.toList=some vs) (hc: ∀ w,St w0 M (A1::Hr) w→St w (ar [A1]) [A1] w→Gives P f vs [A1] w V I A) (hA: ∀ x,A x=[B x]):
  Ef P n w0 M T H ⟨dd,.call ⟨.value (.func f),xs,ts⟩,tt,pos,af,g⟩ (fun u H'=> ∃ x,u=V x∧I x∧H'=B x::Hr):=by
 refine(nm [A1] Hr V I A hx hf (fun w hS=>hS.perm h1.perm) fun w hS=>hc w hS (St.again (As:=[A1]) hS)).mono ?_
 rintro v H' ⟨x,hI,rfl,rfl⟩ w hS
 rw[hA] at hS
 exact⟨_,_,O,⟨x,O,hI,O⟩,hS⟩
theorem Dk {f:FuncId} {xs:Array Operand} {vs:List Value} {X:Type} {V:X→Value} {I:X→Prop} {A:X→List Asn} {A1 A2:Asn} {H1:List Asn} {B:X→Asn} [h1:RemC H A1 H1] [h2:RemC H1 A2 Hr] (hf:Fn_ P f) (hx:cg T xs.toList=some vs) (hc: ∀ w,St w0 M (A1::A2::Hr) w→St w (ar [A1,A2]) [A1,A2] w→Gives P f vs [A1,A2] w V I A) (hA: ∀ x,A x=[B x]):
  Ef P n w0 M T H ⟨dd,.call ⟨.value (.func f),xs,ts⟩,tt,pos,af,g⟩ (fun u H'=> ∃ x,u=V x∧I x∧H'=B x::Hr):=by
 refine(nm [A1,A2] Hr V I A hx hf (fun w hS=>hS.perm (h1.perm.trans (List.Perm.cons _ h2.perm))) fun w hS=>hc w hS (St.again (As:=[A1,A2]) hS)).mono ?_
 rintro v H' ⟨x,hI,rfl,rfl⟩ w hS
 rw[hA] at hS
 exact⟨_,_,O,⟨x,O,hI,O⟩,hS⟩
theorem zm [HasTab P] {f:FuncId} {fn:Func} {s b e:TypeId} {ga oa la ca gb ob lb cb ta tb:Nat} {ca' cb':List Value} {i ei:Ti} (hf:P.funcs[f]? =some fn) (hname:(fn.name== "runtime.NumGoroutine")=false) (hb:fn.body.isNone=true) (hn:Extern.findNext fn=none) (he':Extern.find fn=some (Extern.SlicesOverlaps.overlaps #[s,s] #[b]))
  (hx:az T x=some (.slice (some ⟨ga,oa,none⟩) la ca)) (hy:az T y=some (.slice (some ⟨gb,ob,none⟩) lb cb)) (hs:ty P s=some i) (hi:i.desc= .slice e) (he:ty P e=some ei) (ha:Hat H ga ta ca') (hbb:Hat H gb tb cb') (hne:ga≠gb) (h0:0<cb'.length):
  Ef P n w0 M T H ⟨dd,.call ⟨.value (.func f),#[x,y],ts⟩,tt,pos,af,g⟩ (fun u H'=>u= .bool false∧H'=H):= .mk fun a w hT hS=>by
 have h1:Blk w ga ta ca'.toArray:=hS.at_ ha.mem
 have h2:Blk w gb tb cb'.toArray:=hS.at_ hbb.mem
 have hrun:(callFunc f #[.slice (some ⟨ga,oa,none⟩) la ca,.slice (some ⟨gb,ob,none⟩) lb cb]).run P w= .ok (.value (.bool false)) w:=by
  rw[run_callFunc_extern hf hname hb hn he',Go.Lib.run_overlaps_apart w s b e (hi▸cH hs) ei.size (fun w=>ev he w) ⟨ga,oa,none⟩ ⟨gb,ob,none⟩ la ca lb cb hne ta tb ca'.length cb'.length
   (by simp only[World.shape?];unfold Blk at h1;simp[h1]) (by simp only[World.shape?];unfold Blk at h2;simp[h2]) (by omega) (h1.frozen _) (h1.frozen _)]
  rfl
 unfold Oper.wp
 have:(execOp a.eval ⟨dd,.call ⟨.value (.func f),#[x,y],ts⟩,tt,pos,af,g⟩).run P w= .ok (.value (.bool false)) w:=by
  have e1:a.eval (.func f)= .func (.func f) #[] #[]:=rfl
  simp[execOp,resolve,Deferred.ofValue,invoke,e1,hT.eval hx,hT.eval hy,hrun]
 rw[this]
 exact⟨_,_,⟨O,O⟩,O,hS⟩
end
theorem sF {α} (xs ys:List α) (v:α) (i m:Nat) (hx:xs.length=m) (hi:i<m) (hy:1≤ys.length) (R:List α):
  ((((xs++ys).take (i+1)++xs.drop i++R).take i++[v]++((xs++ys).take (i+1)++xs.drop i++R).drop (i+1))).take (m+1)=xs.take i++v::xs.drop i:=by
 have h1:((xs++ys).take (i+1)).length=i+1:=by simp;omega
 have h2:((xs++ys).take (i+1)++xs.drop i++R).take i=xs.take i:=by
  rw[List.append_assoc,List.take_append_of_le_length (by omega),List.take_take,List.take_append_of_le_length (by omega)]
  congr 1;omega
 have h3:((xs++ys).take (i+1)++xs.drop i++R).drop (i+1)=xs.drop i++R:=by
  rw[List.append_assoc,List.drop_left' h1]
 rw[h2,h3]
 have h4:xs.take i++[v]++(xs.drop i++R)=(xs.take i++v::xs.drop i)++R:=by simp
 rw[h4,List.take_left' (by simp;omega)]
theorem un {α} (xs zs ys:List α) (v:α) (i m:Nat) (hx:xs.length=m) (hi:i<m) (R Q:List α):
  (((xs.take i++zs++ys).take i++[v]++R).take (i+1)++xs.drop i++Q).take (m+1)=xs.take i++v::xs.drop i:=by
 have h2:((xs.take i++zs++ys)).take i=xs.take i:=by
  rw[List.append_assoc,List.take_left' (by simp;omega)]
 rw[h2,List.take_left' (l₁:=xs.take i++[v]) (by simp;omega)]
 have h4:xs.take i++[v]++xs.drop i++Q=(xs.take i++v::xs.drop i)++Q:=by simp
 rw[h4,List.take_left' (by simp;omega)]
theorem d4 {P:Program} {n:Nat} {w0:World} {M:Nat→Prop} {T:aF} {H:List Asn} {dd:Option Tmp} {tt:TypeId} {pos:String} {af:Array Edge} {g:Option (Nat×Bool)} {x:Operand} {f:FuncId} {cap:List Value} {xs:Array Operand} {E:Value→List Asn→Prop} {ts:Array TypeId} (hx:az T x=some (.func (.func f) #[] cap.toArray)) (h:Ef P n w0 M T H ⟨dd,.call ⟨.value (.func f),xs++(cap.map Operand.const).toArray,ts⟩,tt,pos,af,g⟩ E):
  Ef P n w0 M T H ⟨dd,.call ⟨.value x,xs,ts⟩,tt,pos,af,g⟩ E:=h.same fun a w ha=>by
 have e2:((xs++(cap.map Operand.const).toArray).map a.eval)=xs.map a.eval++cap.toArray:=by
  have e3:(cap.map Operand.const).map a.eval=cap:=by
   rw[List.map_map]
   conv=>rhs;rw[← List.map_id cap]
   rfl
  have e4:(cap.map Operand.const).toArray.map a.eval=cap.toArray:=by rw[List.map_toArray,e3]
  rw[Array.map_append,e4]
 have e1:(a.eval (.func f))= .func (.func f) #[] #[]:=rfl
 simp[execOp,resolve,Deferred.ofValue,invoke,ha.eval hx,e2,e1]
section
variable {P:Program} {ro:Option Nat} {ds:List Deferred} {B:Bk ro ds} {n:Nat} {w0:World} {M:Nat→Prop} {k:List It} {T:aF} {H Hr:List Asn} {dd:Option Tmp} {tt:TypeId} {pos:String} {af:Array Edge} {g:Option (Nat×Bool)} {x y z:Operand} {ts:Array TypeId}
theorem od [HasTab P] {s:TypeId} {gb off m sz:Nat} {F:Nat→Prop} {xs ds:List Value} {i:Ti} (hx:az T x=some (.pointer (some ⟨gb,off,none⟩))) (hs:ty P s=some i) (hi:fZ i.desc=true) (hr:Rd w0 F sz (some ⟨gb,0,none⟩) m xs) (hF: ∀ k,F k→ ¬ M k) (hl:ds.length=i.size) (h0:0<m) (hv: ∀ e v,ds[e]? =some v→xs[off+e]? =some v):
  Tk P n w0 M T H ⟨dd,.load s x,tt,pos,af,g⟩ (.agg ds.toArray):=by
 have e:(some ⟨gb,off,none⟩:Option Addr)=pa (some ⟨gb,0,none⟩) off:=by simp[pa,d3]
 rw[e] at hx
 exact ke hx hs hi hr hl h0 hv hF
theorem gH {s:TypeId} {j:Nat} {v:Value} {cs:List Value} (hx:az T x=some v) (hb:P.built s [(j,v)]=some cs.toArray):
  Tk P n w0 M T H ⟨dd,.build s #[(j,x)],tt,pos,af,g⟩ (.agg cs.toArray):= .mk fun a w ha hS=>by
 have hr:=run_build (P:=P) w s #[(j,v)] cs.toArray (by simpa using hb)
 simp only[execOp,List.map_toArray,List.map_cons,List.map_nil,ha.eval hx,Sem.run_bind,hr,Result.andThen_ok,Sem.run_pure]
theorem zn [HasTab P] {s e:TypeId} {m:Nat} {parts:Array (Nat×Operand)} {vs:List Value} {i ei:Ti} (hv:cg T (parts.toList.map (·.2))=some vs) (hp:parts.toList.map (·.1)=List.range m) (hs:ty P s=some i) (hi:i.desc= .slice e) (he:ty P e=some ei) (h1:ei.size=1) (hz:ei.zero.cells=#[ei.zero]) (ho: ∀ v∈vs,v.oneCell'=true) (hm:m≤1000) (hl:vs.length=m):
  Ef P n w0 M T H ⟨dd,.buildSlice s m parts,tt,pos,af,g⟩ (fun u H'=> ∃ b,u= .slice (some ⟨b,0,none⟩) m m∧H'=row e 1 (some ⟨b,0,none⟩) m m vs::H):=by
 refine(d7 hv hp hs hi he h1 hz ho hm).mono ?_
 rintro v H' ⟨b,rfl,rfl⟩ w hS
 refine⟨_,_,O,⟨b,O,O⟩,?_⟩
 have:=St.rowOf (e:=e) (size:=1) (g:=b) (n:=m) (m:=m) hS Upd.here (Nat.le_refl _) (by unfold maxLen;omega) (by omega)
 rwa [List.take_of_length_le (by omega)] at this
end
section
variable {P:Program} {ro:Option Nat} {ds:List Deferred} {B:Bk ro ds} {n:Nat} {w0:World} {M:Nat→Prop} {k:List It} {T:aF} {H Hr:List Asn} {dd:Option Tmp} {tt:TypeId} {pos:String} {af:Array Edge} {g:Option (Nat×Bool)} {x y z:Operand} {ts:Array TypeId}
theorem Dl {l:List Oper} {L:Array Bool} {C:List Asn} {rs:List Nat} (hr:Region.ready .any l.toArray L=rs) (hne:rs≠[]) (h: ∀ i∈rs, ∃ o E,l[i]? =some o∧cJ l T o.guard=some true∧i1 n o.dst=true∧Ef P n w0 M T H o E∧ ∀ v H',E v H'→Nx P B n w0 M l k L C i (gU o.dst v T) H'):RD P B n w0 M l k L C T H:=by
 classical
 have h': ∀ i, ∃ E:Value→List Asn→Prop,i∈rs→ ∃ o,l[i]? =some o∧cJ l T o.guard=some true∧i1 n o.dst=true∧Ef P n w0 M T H o E∧ ∀ v H',E v H'→Nx P B n w0 M l k L C i (gU o.dst v T) H':=fun i=>by
  by_cases hi:i∈rs
  ·obtain⟨o,E,h1⟩:=h i hi
   exact⟨E,fun _=>⟨o,h1⟩⟩
  ·exact⟨fun _ _=>False,fun h=>absurd h hi⟩
 have hE:=fun i=>Classical.choose_spec (h' i)
 have h2: ∀ i v H', ∃ C':List Asn,i∈rs→Classical.choose (h' i) v H'→(∀ w,St w0 M H' w→St w0 M C' w)∧((∀ w,St w0 M C' w→St w0 M C w)∨lx l.toArray i=true)∧ ∀ o,l[i]? =some o→RD P B n w0 M l k (L.setIfInBounds i true) C' (gU o.dst v T) H':=fun i v H'=>by
  by_cases hi:i∈rs∧Classical.choose (h' i) v H'
  ·obtain⟨o,h1,_,_,_,h5⟩:=hE i hi.1
   obtain⟨C',h6,h7,h8⟩:=(h5 v H' hi.2).is
   refine⟨C',fun _ _=>⟨h6,h7,fun o' ho'=>?_⟩⟩
   rw[h1] at ho'
   injection ho' with ho'
   subst ho'
   exact h8
  ·exact⟨[],fun a b=>absurd ⟨a,b⟩ hi⟩
 have hC:=fun i v H'=>Classical.choose_spec (h2 i v H')
 exact .all rs hr hne (fun i=>Classical.choose (h' i)) (fun i v H'=>Classical.choose (h2 i v H')) (fun i hi=>by
  obtain⟨o,h1,h2,h3,h4,_⟩:=hE i hi
  exact⟨o,h1,h2,h3,h4⟩) (fun i hi v H' he=>⟨(hC i v H' hi he).1,(hC i v H' hi he).2.1⟩) (fun i hi o ho v H' he=>(hC i v H' hi he).2.2 o ho)
theorem rk {l:List Oper} {L:Array Bool} {C:List Asn} (i j m:Nat) {oi oj om:Oper} {Ei Ej Em:Value→List Asn→Prop} (hi:l[i]? =some oi) (hj:l[j]? =some oj) (hm:l[m]? =some om) (ei:Ef P n w0 M T H oi Ei) (ej:Ef P n w0 M T H oj Ej) (em:Ef P n w0 M T H om Em)
  (h1: ∀ v H',Ei v H'→Nx P B n w0 M l k L C i (gU oi.dst v T) H') (h2: ∀ v H',Ej v H'→Nx P B n w0 M l k L C j (gU oj.dst v T) H') (h3: ∀ v H',Em v H'→Nx P B n w0 M l k L C m (gU om.dst v T) H')
  (hwi:cJ l T oi.guard=some true) (hwj:cJ l T oj.guard=some true) (hwm:cJ l T om.guard=some true) (hdi:i1 n oi.dst=true) (hdj:i1 n oj.dst=true) (hdm:i1 n om.dst=true) (hr:Region.ready .any l.toArray L=[i,j,m]):RD P B n w0 M l k L C T H:=by
 refine Dl hr (by simp) fun q hq=>?_
 rcases List.mem_cons.1 hq with rfl|hq
 ·exact⟨oi,Ei,hi,hwi,hdi,ei,h1⟩
 rcases List.mem_cons.1 hq with rfl|hq
 ·exact⟨oj,Ej,hj,hwj,hdj,ej,h2⟩
 obtain rfl:q=m:=by simpa using hq
 exact⟨om,Em,hm,hwm,hdm,em,h3⟩
end
section
variable {P:Program} {ro:Option Nat} {ds:List Deferred} {B:Bk ro ds} {n:Nat} {w0:World} {M:Nat→Prop} {k:List It} {T:aF} {H Hr:List Asn} {dd:Option Tmp} {tt:TypeId} {pos:String} {af:Array Edge} {g:Option (Nat×Bool)} {x y z:Operand} {ts:Array TypeId}
theorem aq {f:FuncId} {xs:Array Operand} {vs vs':List Value} {X:Type} {V:X→Value} {I:X→Prop} {A:X→List Asn} (hf:Fn_ P f) (hc: ∀ w,St w0 M H w→Gives P f vs' [] w V I A) (hx:cg T xs.toList=some vs) (hv:vs=vs') (hA: ∀ x,A x=[]):
  Ef P n w0 M T H ⟨dd,.call ⟨.value (.func f),xs,ts⟩,tt,pos,af,g⟩ (fun u H'=> ∃ x,u=V x∧I x∧H'=H):=by
 subst hv
 exact gG hf hx hc hA
theorem bB {f:FuncId} {xs:Array Operand} {vs vs':List Value} {X:Type} {V:X→Value} {I:X→Prop} {A:X→List Asn} {B:X→Asn} (hf:Fn_ P f) (hc: ∀ w,St w0 M H w→Gives P f vs' [] w V I A) (hx:cg T xs.toList=some vs) (hv:vs=vs') (hA: ∀ x,A x=[B x]):
  Ef P n w0 M T H ⟨dd,.call ⟨.value (.func f),xs,ts⟩,tt,pos,af,g⟩ (fun u H'=> ∃ x,u=V x∧I x∧H'=B x::H):=by
 subst hv
 exact ul hf hx hc hA
theorem Dn {f:FuncId} {xs:Array Operand} {vs vs':List Value} {X:Type} {V:X→Value} {I:X→Prop} {A:X→List Asn} {A1 A2:Asn} {H1:List Asn} {B:X→Asn} [h1:RemC H A1 H1] [h2:RemC H1 A2 Hr] (hf:Fn_ P f) (hc: ∀ w,St w0 M (A1::A2::Hr) w→St w (ar [A1,A2]) [A1,A2] w→Gives P f vs' [A1,A2] w V I A) (hx:cg T xs.toList=some vs) (hv:vs=vs') (hA: ∀ x,A x=[B x]):
  Ef P n w0 M T H ⟨dd,.call ⟨.value (.func f),xs,ts⟩,tt,pos,af,g⟩ (fun u H'=> ∃ x,u=V x∧I x∧H'=B x::Hr):=by
 subst hv
 exact Dk hf hx hc hA
theorem ai [HasTab P] {s:TypeId} {gb off e:Nat} {cs ds:List Value} {i:Ti} (hx:az T x=some (.pointer (some ⟨gb,off,none⟩))) (hs:ty P s=some i) (hi:fZ i.desc=true) [hm:Hat H gb e cs] (hl:ds.length=i.size) (hd:(cs.drop off).take i.size=ds):
  Tk P n w0 M T H ⟨dd,.load s x,tt,pos,af,g⟩ (.agg ds.toArray):=
 dg (cs:=cs) (t:=e) (ds:=ds) (off:=off) hx hs hi hl (fun j v h=>by
  rw[← hd,List.getElem?_take] at h
  split at h
  ·rwa [List.getElem?_drop] at h
  ·cases h)
theorem ko [HasTab P] {s:TypeId} {gb off m sz:Nat} {F:Nat→Prop} {xs ds:List Value} {i:Ti} (hx:az T x=some (.pointer (some ⟨gb,off,none⟩))) (hs:ty P s=some i) (hi:fZ i.desc=true) (hr:Rd w0 F sz (some ⟨gb,0,none⟩) m xs) (hF: ∀ k,F k→ ¬ M k) (hl:ds.length=i.size) (h0:0<m) (hd:(xs.drop off).take i.size=ds):
  Tk P n w0 M T H ⟨dd,.load s x,tt,pos,af,g⟩ (.agg ds.toArray):=
 od hx hs hi hr hF hl h0 (fun j v h=>by
  rw[← hd,List.getElem?_take] at h
  split at h
  ·rwa [List.getElem?_drop] at h
  ·cases h)
end
section
variable {P:Program} {ro:Option Nat} {ds:List Deferred} {B:Bk ro ds} {n:Nat} {w0:World} {M:Nat→Prop} {k:List It} {T:aF} {H Hr:List Asn} {dd:Option Tmp} {tt:TypeId} {pos:String} {af:Array Edge} {g:Option (Nat×Bool)} {x y z:Operand} {ts:Array TypeId}
end
def fE (g:Nat) (o:Obj):Asn:= .any (fun k=>k=g) (fun w=>w.heap[g]? =some o) (fun w w' hk h=>by
 have hlt:g<w.heap.size:=(Array.getElem?_eq_some_iff.1 h).1
 rw[hk.block g O hlt];exact h)
theorem fH {w0 w:World} {M:Nat→Prop} {H:List Asn} {g:Nat} {o:Obj} (h:St w0 M (fE g o::H) w):w.heap[g]? =some o:=h.at_ (A:=fE g o) (by simp)
theorem fR {w0 w:World} {M:Nat→Prop} {H:List Asn} {g:Nat} {o:Obj} (o':Obj) (h:St w0 M (fE g o::H) w):St w0 M (fE g o'::H) (w.putObj g o'):=by
 have h1:=fH h
 have hlt:g<w.heap.size:=(Array.getElem?_eq_some_iff.1 h1).1
 refine h.upd (A:=fE g o) .here ⟨O,O,O,by simp[World.putObj],fun k hk _=>?_⟩ (World.putObj_heap_same hlt) (fun _ h=>h)
 have hk: ¬ k=g:=hk
 exact World.putObj_heap_other hk
theorem lK {w0 w:World} {M:Nat→Prop} {H:List Asn} (o:Obj) (h:St w0 M H w):St w0 M (fE w.heap.size o::H) (w.alloc o):=by
 refine h.add (Kp.alloc w o) (World.alloc_heap_new w o) (fun k hk=>?_)
 have hk:k=w.heap.size:=hk
 subst hk
 simp
def pj (L:List Asn):Asn:= .any (fun k=>ar L k) (fun w=>(∀ A∈L,A.holds w)∧L.Pairwise Apart) (fun w w' hk h=>⟨fun A hA=>A.stable w w' (hk.mono fun k hk' _=>⟨A,hA,hk'⟩) (h.1 A hA),h.2⟩)
theorem eU {w0 w:World} {M:Nat→Prop} {L H:List Asn} (h:St w0 M (L++H) w):St w0 M (pj L::H) w:=by
 have hap:=List.pairwise_append.1 h.apart
 refine⟨h.kp,fun B hB=>?_,List.pairwise_cons.2 ⟨fun B hB k ⟨A,hA,hk⟩ hb=>hap.2.2 A hA B hB k hk hb,hap.2.1⟩⟩
 rcases List.mem_cons.1 hB with rfl|hB
 ·exact⟨⟨fun A hA=>(h.all A (by simp[hA])).1,hap.1⟩,fun k ⟨A,hA,hk⟩=>(h.all A (by simp[hA])).2 k hk⟩
 ·exact h.all B (by simp[hB])
theorem fp {w0 w:World} {M:Nat→Prop} {L H:List Asn} (h:St w0 M (pj L::H) w):St w0 M (L++H) w:=by
 have hb:=h.all (pj L) (by simp)
 have hap:=List.pairwise_cons.1 h.apart
 refine⟨h.kp,fun B hB=>?_,List.pairwise_append.2 ⟨hb.1.2,hap.2,fun A hA B hB k ha hb=>hap.1 B hB k ⟨A,hA,ha⟩ hb⟩⟩
 rcases List.mem_append.1 hB with hB|hB
 ·exact⟨hb.1.1 B hB,fun k hk=>hb.2 k ⟨B,hB,hk⟩⟩
 ·exact h.all B (by simp[hB])
theorem kr {L:List Asn} {k:Nat}:ar [pj L] k↔ar L k:=by
 constructor
 ·rintro⟨A,hA,hk⟩
  obtain rfl:A=pj L:=by simpa using hA
  exact hk
 ·exact fun h=>⟨pj L,by simp,h⟩
theorem St.own {w0 w:World} {M M':Nat→Prop} {H:List Asn} (h:St w0 M H w) (hM: ∀ k,M k↔M' k):St w0 M' H w:=by
 have:M=M':=funext fun k=>propext (hM k)
 exact this▸h
def pz (P:Program) (l:Nat) (vs:List Value) (w:World) (A:Asn) {X:Type} (Z:X→Asn) (I1 S1:X→Prop):Prop:=
 YieldAt Fence.wide 0 P l vs.toArray w fun e w'=> ∃ y b,e= .returned (.bool b)∧(b=true→I1 y)∧(b=false→S1 y)∧St w (ar [A]) [Z y] w'
def Do (P:Program) (gf:FuncId) (lb:List Value) (F:Nat→Prop) (es:List (List Value)) (w:World):Prop:=
 ∀ (l:Nat) (X:Type) (Z:X→Asn) (I:Nat→X→Prop) (S:Nat→X→Prop) (x0:X),I 0 x0→St w (ar [Z x0]) [Z x0] w→(∀ k,F k→ ¬ ar [Z x0] k)→
  (∀ i x w',I i x→i<es.length→St w (ar [Z x0]) [Z x] w'→pz P l (es.getD i []) w' (Z x) Z (I (i+1)) (S i))→
  Gives P gf (.func (.yield l) #[] #[]::lb) [Z x0] w (X:=X×Option Nat) (fun _=> .tuple #[]) (fun y=>match y.2 with
   |none=>I es.length y.1
   |some i=>i<es.length∧S i y.1) (fun y=>[Z y.1])
section
variable {P:Program} {n:Nat} {w0:World} {M:Nat→Prop} {T:aF} {H Hr:List Asn} {dd:Option Tmp} {tt:TypeId} {pos:String} {af:Array Edge} {g:Option (Nat×Bool)}
theorem ns {x:Operand} {xs:Array Operand} {ts:Array TypeId} {l:Nat} {vs vs':List Value} {A:Asn} {X:Type} {Z:X→Asn} {I1 S1:X→Prop} [hr:RemC H A Hr] (hy: ∀ w,St w0 M (A::Hr) w→pz P l vs' w A Z I1 S1)
  (hx:az T x=some (.func (.yield l) #[] #[])) (hv:cg T xs.toList=some vs) (he:vs=vs'):
  Ef P n w0 M T H ⟨dd,.call ⟨.value x,xs,ts⟩,tt,pos,af,g⟩ (fun u H'=> ∃ y b,u= .bool b∧(b=true→I1 y)∧(b=false→S1 y)∧H'=Z y::Hr):= .mkIn fun a w ha hS=>by
 subst he
 have hS1:=hS.perm hr.perm
 obtain⟨fn,tmps,aS,bd,hrun,hround⟩:=hy w hS1
 have e1:xs.map a.eval=vs.toArray:=by rw[← ha.evals hv, ← Array.toList_map]
 have h3:(execOp a.eval ⟨dd,.call ⟨.value x,xs,ts⟩,tt,pos,af,g⟩).run P w= .ok (.round l fn tmps aS bd) w:=by
  simp[execOp,resolve,Deferred.ofValue,invoke,ha.eval hx,e1,hrun]
 unfold mK
 rw[h3]
 refine⟨fun h=>(by cases h),hround.mono fun e w' ⟨y,b,he,h1,h2,hS2⟩=>?_⟩
 subst he
 exact⟨.bool b,Z y::Hr,⟨y,b,O,h1,h2,O⟩,O,St.call (As:=[A]) hS1 hS2⟩
end
def Bk.cast {ro:Option Nat} {ds:List Deferred} (B:Bk ro ds) (ds':List Deferred):Bk ro ds':=B
theorem gN {P:Program} {ro:Option Nat} {ds:List Deferred} (B:Bk ro ds) (ds':List Deferred): ∀ k:List It,QS P (B.cast ds') k=QS P B k
 |[]=>rfl
 | .code c::k=>by simp only[QS,gN B ds' k]
 | .blk id::k=>by simp only[QS,gN B ds' k]
 | .back J::k=>by simp only[QS,gN B ds' k]
 | .seg::k=>by simp only[QS,gN B ds' k]
def jH (D:Nat):List Deferred:=[{target:= .collected D,args:=#[]}]
def oe:List Tmp→List Value→aF→aF
 |p::ps,v::vs,T=>oe ps vs ((p,v)::T)
 |_,_,T=>T
def D7 (n:Nat) (ps:List Tmp):Bool:=ps.all fun p=>Nat.blt p n
theorem Tm.puts {n:Nat}: ∀ (ps:List Tmp) (vs:List Value) (a:Act) (T:aF),Tm n a T→D7 n ps=true→Tm n {tmps:=(ps.zip vs).foldl (fun t (p,v)=>t.setIfInBounds p v) a.tmps,defers:=[]} (oe ps vs T)
 |[],vs,a,T,h,_=>⟨h.size,h.at_⟩
 |p::ps,[],a,T,h,_=>⟨h.size,h.at_⟩
 |p::ps,v::vs,a,T,h,ho=>by
  simp only[D7,List.all_cons,Bool.and_eq_true] at ho
  have h1:Tm n (a.put (some p) v) ((p,v)::T):=h.put (d:=some p) ho.1
  exact Tm.puts ps vs _ _ h1 ho.2
def xd (fn:FuncId) (tmps:Array Value) (ps:Array Tmp) (aS bd:Code) (D:Nat) (st:LoopState) (pe:Option Code):Loop:={state:=st,pending:=pe,fn,tmps,params:=ps,assign:=aS,body:=bd,defers:=D}
section
variable {P:Program} {B:Bk none []} {n:Nat} {w0:World} {M:Nat→Prop} {k:List It} {T:aF} {H:List Asn} {c:Code}
def yL (P:Program) (n:Nat) (w0:World) (M:Nat→Prop) (Hk:List Asn) (c:Code) (T:aF) (vs:List Value) (ps:List Tmp) (w:World) {X:Type} (L:X→List Asn) (x:X) (I1 S1:X→Prop):Prop:=
 ∀ (l:Nat) (rA rB:Asn) (B0 B1:Bk (some l) []) (J:Act→World→Prop),St w0 M ((rA::L x)++Hk) w→
  (∀ T1 H1 H1',RS P B1 n w (ar (rA::L x)) [.code (c2 c)] T1 (rB::H1)→(∀ w',St w (ar (rA::L x)) H1' w'→St w (ar (rA::L x)) (rA::H1) w')→RS P B0 n w (ar (rA::L x)) [.back J] T1 H1')→
  (∀ y T1 H1,I1 y→(∀ w',St w (ar (rA::L x)) H1 w'→St w (ar (rA::L x)) (rB::L y) w')→RS P B1 n w (ar (rA::L x)) [] T1 H1)→
  (∀ y c' k' T1 H1,S1 y→eh c'= .ret→(∀ w',St w (ar (rA::L x)) H1 w'→St w (ar (rA::L x)) (rB::L y) w')→RS P B1 n w (ar (rA::L x)) (.code c'::k') T1 H1)→
  RS P B0 n w (ar (rA::L x)) [.code (c1 c),.back J] (oe ps vs T) (rA::L x)
theorem rm {X:Type} {g:Operand} {ps:List Tmp} {gf:FuncId} {lb:List Value} {F:Nat→Prop} {es:List (List Value)} (L:X→List Asn) (I:Nat→X→Prop) (S:Nat→X→Prop) (x0:X) (Hk:List Asn)
  (hk:eh c= .range g ps.toArray) (hg:az T g=some (.func (.func gf) #[] lb.toArray)) (hfn:Fn_ P gf) (hps:D7 n ps=true) (hes: ∀ e∈es,e.length=ps.length) (h0:I 0 x0)
  (hH: ∀ w,St w0 M H w→St w0 M (L x0++Hk) w) (hit: ∀ w,St w0 M (L x0++Hk) w→Do P gf lb F es w) (hF: ∀ w,St w0 M (L x0++Hk) w→ ∀ q,F q→ ¬ ar (L x0) q∧q<w.heap.size)
  (round: ∀ i x w,I i x→i<es.length→St w0 M (L x++Hk) w→yL P n w0 M Hk c T (es.getD i []) ps w L x (I (i+1)) (S i))
  (done: ∀ y D,I es.length y→RS P (B.cast (jH D)) n w0 M k T (fE D (.deferred (some []))::(L y++Hk)))
  (stop: ∀ y D i,i<es.length→S i y→RS P (B.cast (jH D)) n w0 M (.code .ret::k) T (fE D (.deferred (some []))::(L y++Hk))):RS P B n w0 M (.code c::k) T H:=by
 cases c<;>try (cases hk;done)
 rename_i g' ps' aS bd
 injection hk with hk1 hk2
 subst hk1 hk2
 refine⟨fun a w had ha hs=>?_⟩
 show (Code.rangeFunc g' ps.toArray aS bd).wpIn (Fw none) 0 P (QS P B k) a w
 refine wpIn_rangeFunc fun fn _=>?_
 have hs0:=hH w hs
 obtain⟨rec,hrec⟩: ∃ rec:LoopState→Option Code→Loop,rec=xd fn a.tmps ps.toArray aS bd w.heap.size:=⟨_,O⟩
 obtain⟨l,hl⟩: ∃ l,w.heap.size+1=l:=⟨_,O⟩
 obtain⟨D,hD⟩: ∃ D,w.heap.size=D:=⟨_,O⟩
 obtain⟨w1,hw1⟩: ∃ w1,(w.alloc (.deferred (some []))).alloc (.loop (rec .ready none))=w1:=⟨_,O⟩
 have hs1:St w0 M (fE l (.loop (rec .ready none))::(L x0++(fE D (.deferred (some []))::Hk))) w1:=by
  have h1:=lK (.deferred (some [])) hs0
  have h2:=lK (.loop (rec .ready none)) h1
  rw[hw1,World.size_alloc,hl,hD] at h2
  exact h2.perm (List.Perm.cons _ List.perm_middle.symm)
 obtain⟨rj,hn,hsm⟩: ∃ rj:Option Code→Loop,rj none=rec .ready none∧rj (some .ret)=rec .done (some .ret):=⟨fun j=>match j with|none=>rec .ready none|some j=>rec .done (some j),O,O⟩
 obtain⟨Z,hZ⟩: ∃ Z:X×Option Code→Asn,Z=fun x=>pj (fE l (.loop (rj x.2))::L x.1):=⟨_,O⟩
 have hs2:St w0 M (Z (x0,none)::(fE D (.deferred (some []))::Hk)) w1:=by
  rw[hZ]
  simp only[hn]
  exact eU (L:=fE l (.loop (rec .ready none))::L x0) hs1
 have hsz:w.heap.size≤w1.heap.size:=by rw[← hw1];simp;omega
 have hit1:=hit w1 (hs1.tail.perm ((List.perm_middle).trans (List.Perm.refl _)) |>.tail)
 have hagain:St w1 (ar [Z (x0,none)]) [Z (x0,none)] w1:=St.again (As:=[Z (x0,none)]) hs2
 refine⟨l,jH D,w1,{target:= .fn (.func gf) lb.toArray,args:=#[.func (.yield l) #[] #[]]},w1,gf,#[.func (.yield l) #[] #[]]++lb.toArray,w1,?_,?_,fun _ _=>trivial,?_,fun h=>(by cases h),?_⟩
 ·have:=run_enterLoop_outer (P:=P) (w:=w) fn a.tmps ps.toArray aS bd
  rw[hl] at this
  rw[← hw1,hrec, ← hD]
  exact this
 ·have e1:=ha.eval hg
  have e2:a.eval (.const (.func (.yield l) #[] #[]))= .func (.yield l) #[] #[]:=rfl
  simp[resolve,rangeCall,e1,e2,Deferred.ofValue]
 ·have:=gn hfn (#[.func (.yield l) #[] #[]]++lb.toArray) w1
  simpa[invoke] using this
 refine callsIn_wide.2 ?_
 have hcall:=hit1 l (X×Option Code) Z (fun i x=>x.2=none∧I i x.1) (fun i x=>x.2=some .ret∧S i x.1) (x0,none) ⟨O,h0⟩ hagain (fun q hq ho=>?_) ?_
 ·have e3:(Value.func (.yield l) #[] #[]::lb).toArray=#[.func (.yield l) #[] #[]]++lb.toArray:=by simp
  unfold Gives at hcall
  rw[e3] at hcall
  refine hcall.mono fun e w3 ⟨y,he,hy,hS3⟩=>?_
  subst he
  have h4:St w0 M ([Z y.1]++(fE D (.deferred (some []))::Hk)) w3:=St.call (As:=[Z (x0,none)]) hs2 hS3
  obtain⟨⟨y1,y2⟩,y3⟩:=y
  have hfin: ∀ (st:LoopState) (pe:Option Code),St w0 M (fE l (.loop (rec st pe))::(L y1++(fE D (.deferred (some []))::Hk))) w3→st≠ .busy→ ∃ w4,(Instr.endLoop l).run P w3= .ok pe w4∧St w0 M (fE D (.deferred (some []))::(L y1++Hk)) w4:=fun st pe h hb=>by
   have h5:=run_endLoop (P:=P) (fH h) (by rw[hrec];exact hb)
   refine⟨_,by rw[h5,hrec];rfl,?_⟩
   exact((fR _ h).tail).perm List.perm_middle
  have hdef:jH D++a.defers=jH D:=by rw[had];rfl
  rw[hZ] at h4
  cases y3 with
  |none=>
   obtain⟨rfl,hI⟩:y2=none∧I es.length y1:=hy
   obtain⟨w4,h5,h6⟩:=hfin .ready none (by simp only[hn] at h4;exact fp h4) (by decide)
   refine⟨none,w4,h5,?_⟩
   have:=(done y1 D hI).runD {a with defers:=jH D++a.defers} w4 hdef ⟨ha.size,ha.at_⟩ h6
   rwa [gN] at this
  |some i=>
   obtain⟨hi,rfl,hSt⟩:i<es.length∧y2=some .ret∧S i y1:=hy
   obtain⟨w4,h5,h6⟩:=hfin .done (some .ret) (by simp only[hsm] at h4;exact fp h4) (by decide)
   refine⟨some .ret,w4,h5,?_⟩
   have:=(stop y1 D i hi hSt).runD {a with defers:=jH D++a.defers} w4 hdef ⟨ha.size,ha.at_⟩ h6
   rw[gN] at this
   exact this
 ·have h5:=hF w hs0 q hq
  rw[hZ] at ho
  obtain⟨A,hA,hk⟩:=kr.1 ho
  rcases List.mem_cons.1 hA with rfl|hA
  ·have hk:q=l:=hk
   omega
  ·exact h5.1 ⟨A,hA,hk⟩
 ·rintro i ⟨x,x2⟩ w' ⟨hx2,hI⟩ hi hSw
  obtain rfl:x2=none:=hx2
  have h4:St w0 M (Z (x,none)::(fE D (.deferred (some []))::Hk)) w':=St.call (As:=[Z (x0,none)]) hs2 hSw
  rw[hZ] at h4
  simp only[hn] at h4
  have h5:St w0 M (fE l (.loop (rec .ready none))::(L x++(fE D (.deferred (some []))::Hk))) w':=fp h4
  have h6:St w0 M (L x++Hk) w':=(h5.tail.perm List.perm_middle).tail
  have hat:=fH h5
  have hlen:(es.getD i []).length=ps.length:=hes _ (by simp[List.getD,hi])
  have hr0:=round i x w' hI hi h6
  have hag:St w' (ar (fE l (.loop (rec .ready none))::L x)) (fE l (.loop (rec .ready none))::L x) w':=St.again (As:=fE l (.loop (rec .ready none))::L x) (Hr:=fE D (.deferred (some []))::Hk) h5
  refine⟨fn,((ps.toArray.zip (es.getD i []).toArray).foldl (fun tmps (t,a)=>tmps.setIfInBounds t a) a.tmps),aS,bd,?_,roundIn_of_wpIn trivial ?_⟩
  ·have h7:=run_yield (P:=P) (args:=(es.getD i []).toArray) hat (by rw[hrec];simpa[xd] using hlen)
   rw[h7,hrec]
   rfl
  ·have hf:((ps.toArray.zip (es.getD i []).toArray).foldl (fun tmps (x:Tmp×Value)=>tmps.setIfInBounds x.1 x.2) a.tmps)=((ps.zip (es.getD i [])).foldl (fun tmps (x:Tmp×Value)=>tmps.setIfInBounds x.1 x.2) a.tmps):=by
    rw[← Array.foldl_toList,Array.toList_zip]
   have hTm:Tm n {tmps:=((ps.toArray.zip (es.getD i []).toArray).foldl (fun tmps (x:Tmp×Value)=>tmps.setIfInBounds x.1 x.2) a.tmps),defers:=[]} (oe ps (es.getD i []) T):=by
    rw[hf]
    exact Tm.puts ps (es.getD i []) a T ha hps
   obtain⟨R,hR⟩: ∃ R:Ending→World→Prop,R=fun e w''=> ∃ (y:X×Option Code) (b:Bool),e= .returned (.bool b)∧(b=true→y.2=none∧I (i+1) y.1)∧(b=false→y.2=some .ret∧S i y.1)∧St w' (ar [Z (x,none)]) [Z y] w'':=⟨_,O⟩
   rw[← hR]
   have hclose: ∀ (y:X) (j:Option Code) (w2:World),St w' (ar (fE l (.loop (rec .ready none))::L x)) (fE l (.loop (rj j))::L y) w2→St w' (ar [Z (x,none)]) [Z (y,j)] w2:=fun y j w2 h=>by
    rw[hZ]
    simp only[hn]
    refine St.own (eU (H:=[]) (L:=fE l (.loop (rj j))::L y) (by rw[List.append_nil];exact h)) fun q=>kr.symm
   have:=hr0 l (fE l (.loop (rec .ready none))) (fE l (.loop {rec .ready none with state:= .busy})) (fun _ _ _=>False) (roundPost P l R) (fun a₁ w₁=> ∃ w₂,(Instr.beginRound l).run P w₁= .ok () w₂∧bd.wpIn (Fw (some l)) 0 P (roundPost P l R) a₁ w₂) (by
     have h7:St w0 M (fE D (.deferred (some []))::(fE l (.loop (rec .ready none))::(L x++Hk))) w':=h5.perm ((List.Perm.cons _ List.perm_middle).trans (List.Perm.swap _ _ _))
     exact h7.tail)
    (fun T1 H1 H1' hbody hsub=>⟨fun a w2 had2 ha2 hs2=>⟨w2.putObj l _,run_beginRound (fH (hsub w2 hs2)) (by rw[hrec];rfl),hbody.runD a _ had2 ha2 (fR _ (hsub w2 hs2))⟩⟩)
    (fun y T1 H1 hI1 hsub=>⟨fun a w2 _ _ hs2=>by
     have h8:=hsub w2 hs2
     refine⟨_,_,run_endRound none (fH h8),?_⟩
     rw[hR]
     refine⟨(y,none),true,O,fun _=>⟨O,hI1⟩,fun h=>(by cases h),hclose y none _ ?_⟩
     have h9:=fR (.loop {({rec .ready none with state:= .busy}:Loop) with state:= .ready,pending:=none}) h8
     rw[hn]
     rw[hrec] at h9 ⊢
     exact h9⟩)
    (fun y c' k' T1 H1 hS1 hk' hsub=>⟨fun a w2 _ _ hs2=>by
     have h8:=hsub w2 hs2
     have e:c'= .ret:=by cases c'<;>first|rfl|(cases hk';done)
     subst e
     refine wpIn_ret (gE (fun _ _=> .inr trivial) ?_)
     refine⟨_,_,run_endRound (some .ret) (fH h8),?_⟩
     rw[hR]
     refine⟨(y,some .ret),false,O,fun h=>(by cases h),fun _=>⟨O,hS1⟩,hclose y (some .ret) _ ?_⟩
     have h9:=fR (.loop {({rec .ready none with state:= .busy}:Loop) with state:= .done,pending:=some .ret}) h8
     rw[hsm]
     rw[hrec] at h9 ⊢
     exact h9⟩)
   exact this.runD _ w' O hTm hag
end
theorem xe {w0 w:World} {M:Nat→Prop} {sz n:Nat} {A:Option Addr} {xs:List Value} {As Hr:List Asn} (h:Rd w0 bC sz A n xs) (hz:0<sz) (hM: ∀ k, ¬ M k) (hS:St w0 M (As++Hr) w):Rd w (fun k=> ¬ ar As k) sz A n xs:=
 ⟨h.1,fun hn=>by
  obtain⟨ad,e,_,hc⟩:=h.2 hn
  have hl:0<xs.length:=by rw[h.1];exact Nat.mul_pos hn hz
  have hb:=World.block_lt_of_cell? w0 _ (hc 0 xs[0] (List.getElem?_eq_getElem hl))
  rw[dv] at hb
  refine⟨ad,e,fun⟨B,hB,hk⟩=>?_,fun j u hu=>hS.kp.cell (by rw[dv];exact hM _) (hc j u hu)⟩
  rcases((hS.all B (List.mem_append_left _ hB)).2 _ hk).1 with h1|h1
  ·exact hM _ h1
  ·omega⟩
theorem dh {w0 w:World} {M:Nat→Prop} {b t m:Nat} {cs:List Value} {As Hr:List Asn} [hm:Hat Hr b t cs] (hS:St w0 M (As++Hr) w) (hl:cs.length=m):Rd w (fun k=> ¬ ar As k) 1 (some ⟨b,0,none⟩) m cs:=
 ⟨by omega,fun _=>⟨_,O,fun⟨B,hB,hk⟩=>(List.pairwise_append.1 hS.apart).2.2 B hB (pt b t cs) hm.mem b hk O,fun j v hj=>by rw[d3];exact hS.cell (List.mem_append_right _ hm.mem) (by simpa using hj)⟩⟩
theorem rn {P:Program} {f:FuncId} {fn:Func} {vs:List Value} {rs:List ResultVar} {n:Nat} {w:World} {As:List Asn} {X:Type} {V:X→Value} {I:X→Prop} {A:X→List Asn} (hf:P.funcs[f]? =some fn) (hb:fn.body.isSome=true) (hn:fn.ntmps=n) (hr:fn.results=rs.toArray)
  (hv:vs.length≤n) (hS:St w (ar As) As w) (h: ∀ B:Bk none [],
   (∀ (c:Code) (k:List It) (T:aF) (H:List Asn) (us:List Value),eh c= .ret→Rets P n w (ar As) rs T H us→(∀ w',St w (ar As) H w'→ ∃ x,jF us=V x∧I x∧St w (ar As) (A x) w')→RS P B n w (ar As) (.code c::k) T H)→
   (∀ (D:Nat) (c:Code) (k:List It) (T:aF) (H Hr:List Asn) (us:List Value),eh c= .ret→RemC H (fE D (.deferred (some []))) Hr→Rets P n w (ar As) rs T Hr us→(∀ w',St w (ar As) Hr w'→ ∃ x,jF us=V x∧I x∧St w (ar As) (A x) w')→RS P (B.cast (jH D)) n w (ar As) (.code c::k) T H)→
   RS P B n w (ar As) [.code (dM fn)] (jL 0 vs) As):Gives P f vs As w V I A:=by
 obtain⟨c,hc⟩:=Option.isSome_iff_exists.1 hb
 obtain⟨R,hR⟩: ∃ R:Ending→World→Prop,R=fun e w'=> ∃ x,e= .returned (V x)∧I x∧St w (ar As) (A x) w':=⟨_,O⟩
 unfold Gives
 rw[← hR]
 have hres: ∀ {T:aF} {H:List Asn} {us:List Value} {a:Act} {w':World},Tm n a T→Rets P n w (ar As) rs T H us→St w (ar As) H w'→(results fn a.tmps).run P w'= .ok (jF us) w':=fun {T H us a w'} ha hrets hs=>by
  have h1:=hrets.run a w' ha hs
  simp only[results,hr,List.mapM_toArray,Sem.run_bind,Sem.run_map]
  erw [h1]
  rcases us with _|⟨v,_|⟨u,us⟩⟩<;>simp[jF]
 refine(callsIn_wide (n:=0)).1 (callsIn_of_wp_marks hf hc trivial ?_)
 have hmain:=h (bodyPostM Fence.wide 0 P fn R) (fun c' k T H us hk hrets hw=>⟨fun a w' had ha hs=>by
  have e:c'= .ret:=by cases c'<;>first|rfl|(cases hk;done)
  subst e
  refine wpIn_ret (gE (fun _ _=> .inr trivial) ?_)
  show LeavesInM Fence.wide 0 P fn a.tmps R a.defers .returning w'
  rw[had]
  obtain⟨x,hx,hI,hA⟩:=hw w' hs
  exact⟨jF us,hres ha hrets hs,by rw[hR];exact⟨x,by rw[hx],hI,hA⟩⟩⟩) (fun D c' k T H Hr us hk hrem hrets hw=>⟨fun a w' had ha hs=>by
  have e:c'= .ret:=by cases c'<;>first|rfl|(cases hk;done)
  subst e
  refine wpIn_ret (gE (fun _ _=> .inr trivial) ?_)
  show LeavesInM Fence.wide 0 P fn a.tmps R a.defers .returning w'
  rw[had]
  have hs1:=hs.perm hrem.perm
  have hs2:=(fR (.deferred none) hs1).tail
  obtain⟨x,hx,hI,hA⟩:=hw _ hs2
  exact⟨by simp,.inl ⟨D,_,O,run_takeDeferred (fH hs1),jF us,hres ha hrets hs2,by rw[hR];exact⟨x,by rw[hx],hI,hA⟩⟩⟩⟩)
 have e:dM fn=c:=by unfold dM;rw[hc]
 rw[e] at hmain
 refine hmain.runD _ w O ⟨?_,fun i v hi=>?_⟩ hS
 ·simp[hn];omega
 ·obtain⟨_,h2⟩:=iC vs 0 i v hi
  have hlt:=(List.getElem?_eq_some_iff.1 h2).1
  simp only[Nat.sub_zero] at hlt h2
  have h3:(vs.toArray++Array.replicate (fn.ntmps-vs.toArray.size) undef)[i]? =vs[i]? :=by rw[Array.getElem?_append_left (by simpa using hlt)];simp
  exact h3.trans h2
end Go.Proofs.YtdeffdldifepkaaGreat
namespace Go.Proofs.YtdeffdldifepkaaGreat
end Go.Proofs.YtdeffdldifepkaaGreat
namespace Go.Proofs.YtdeffdldifepkaaGreat
open Go.RowKit
def Ob (w:World) (base:Nat) (A:Option Addr) (n c:Nat) (l:List UInt8):Prop:=w.ownsRow base 5 1 (.slice A n c) n (l.map bv)
def Bb (w:World) (g:Nat) (l:List UInt8):Prop:=Blk w g 5 (l.map bv).toArray
theorem Bb.own {w:World} {g base n:Nat} {l:List UInt8} (h:Bb w g l) (hb:base≤g) (hn:l.length=n) (hm:n≤maxLen):Ob w base (some ⟨g,0,none⟩) n n l:=
 Blk.own h hb (Nat.le_refl _) hm (by simp[hn]) (by rw[← hn];simp[List.take_of_length_le])
theorem Ob.bs {w:World} {base n c:Nat} {A:Option Addr} {l:List UInt8} (h:Ob w base A n c l):Bs w (fun k=>base≤k) A n c l:=Bs.of_own h
theorem Ob.nil (w:World) (base:Nat):Ob w base none 0 0 []:=World.ownsRow_nil w base _ 1
theorem Bb.bs {w:World} {g n:Nat} {l:List UInt8} (h:Bb w g l) (hn:l.length=n) (hm:n≤maxLen):Bs w (fun k=>k=g) (some ⟨g,0,none⟩) n n l:=by
 refine⟨hn.symm,Nat.le_refl _,hm,by simp[hn],fun _=>⟨_,O,O,fun j u hu=>?_⟩⟩
 have:(⟨g,0,none⟩:Addr).add j=⟨g,j,none⟩:=by unfold Addr.add;split<;>simp_all
 rw[this,Blk.cell h]
 simpa using hu
theorem Bb.kp {w w':World} {g:Nat} {l:List UInt8} {F:Nat→Prop} (h:Bb w g l) (hk:Kp F w w') (hF:F g):Bb w' g l:=Blk.kp h hk hF
section
variable (w:World) {ops:Array Oper} {rest:List Oper} {o:Oper} {a:Act} {Q:Exit→Act→World→Prop}
end
theorem Ob.kp {w w':World} {base n c:Nat} {A:Option Addr} {l:List UInt8} {F:Nat→Prop} (h:Ob w base A n c l) (hk:Kp F w w') (hF: ∀ g,(Value.slice A n c).ownBlock=some g→F g):Ob w' base A n c l:=po h hk hF
theorem Ob.all {w w':World} {base n c:Nat} {A:Option Addr} {l:List UInt8} (h:Ob w base A n c l) (hk:Kp bC w w'):Ob w' base A n c l:=po h hk fun _ _=>trivial
theorem Ob.base {w:World} {base base' n c:Nat} {A:Option Addr} {l:List UInt8} (h:Ob w base A n c l) (hb:base'≤base):Ob w base' A n c l:=tZ h hb
theorem Ob.lt {w:World} {base n c:Nat} {A:Option Addr} {l:List UInt8} (h:Ob w base A n c l): ∀ k,(Value.slice A n c).ownBlock=some k→base≤k∧k<w.heap.size:=World.ownsRow.lt h
theorem Ob.old {w w1 w2:World} {base n c:Nat} {A:Option Addr} {l:List UInt8} (h:Ob w1 base A n c l) (hb:w.heap.size≤base) (h1:Kp bC w w1) (h2:Kp (fun k=>some k≠(Value.slice A n c).ownBlock) w1 w2):Kp bC w w2:=
 h1.since h2 fun i hi e=>by have:=h.lt i e.symm;omega
theorem Bs.lit (w:World) (g:Nat) (l:List UInt8) (n:Nat) (cs:Array Value) (hg:g=w.heap.size) (hc:cs=(l.map bv).toArray) (hn:n=l.length) (hm:n≤maxLen):Bs (w.alloc (.cells cs 5)) (fun k=>k=w.heap.size) (some ⟨g,0,none⟩) n n l:=by
 subst hc hg
 exact Bb.bs (Blk.new w _ _) hn.symm hm
section
variable (w:World) {ops:Array Oper} {rest:List Oper} {o:Oper} {a:Act} {Q:Exit→Act→World→Prop}
end
theorem Ob.addr {w:World} {base n c:Nat} {A:Option Addr} {l:List UInt8} (h:Ob w base A n c l) (hn:0<n): ∃ g,A=some ⟨g,0,none⟩∧base≤g∧g<w.heap.size∧(Value.slice A n c).ownBlock=some g:=by
 obtain⟨g,cs,rfl,hb,hh,_,_⟩:=wQ h hn
 exact⟨g,O,hb,hh.lt,O⟩
end Go.Proofs.YtdeffdldifepkaaGreat
namespace Go.Proofs.YtdeffdldifepkaaGreat
open Go.RowKit Go.ChangeShapes Go.WideShapes Go.ChangeAt
open Go.ChangeMaps (open_string shut_string)
theorem laid_out:laidOutB Tryz.prog=true:=by kernel_rfl
theorem own_knob:ownKnob Tryz.prog.godebug=none:=by kernel_rfl
theorem Dp {n:Int} (h:(Lit.int .u8 n).wf=true):0≤n∧n<256:=by
 have:=bounds_u8 h
 omega
section
variable {H:Type} {enc:TypeId×Value→H} {W:World} {r:Reach} {base:Nat} {v:Value} {d:DataW H} {p:List MemPlace}
end
end Go.Proofs.YtdeffdldifepkaaGreat
namespace Go.Proofs.YtdeffdldifepkaaGreat
open Go.RowKit Go.ChangeShapes Go.WideShapes Go.ChangeAt
set_option linter.unusedVariables false
set_option linter.unusedSimpArgs false
def Op_ {H:Type} (enc:TypeId×Value→H) (P:Program) (W:World) (t:TypeId) (cs:List Value):Prop:= ∃ m x,DataW.trod enc P W 0 (fun _=>true) true m t cs=some x
section
variable {H:Type} {enc:TypeId×Value→H} {P:Program} {W:World} {r:Reach} {base:Nat} {v:Value} {d:DataW H} {p:List MemPlace} {t e:TypeId} {cs:List Value} {size:Nat}
theorem Op_.of_trod (h:DataW.Trod enc P W 0 (fun _=>true) true t v d p):Op_ enc P W t v.cells.toList:=by
 obtain⟨fuel,hf⟩:=h
 exact⟨fuel,_,hf⟩
theorem Op_.int {k:IntKind} (ht:P.underlying t=some (.int k)) (h:Op_ enc P W t cs): ∃ n,cs=[.int k n]∧(Lit.int k n).wf=true:=by
 obtain⟨m,x,h⟩:=h
 obtain⟨n,h1,_,h2⟩:=DataW.trod_int ht h
 exact⟨n,h1,h2⟩
theorem Op_.struct {fs:Array Field} (ht:P.underlying t=some (.struct fs)) (h:Op_ enc P W t cs):cs.length=P.cellsOf t∧ ∀ (i:Nat) (f:Field),fs[i]? =some f→Op_ enc P W f.type ((cs.drop f.offset).take (P.cellsOf f.type)):=by
 obtain⟨m,x,h⟩:=h
 obtain⟨xs,n,_,_,hl,hx,hf⟩:=DataW.trod_struct ht h
 refine⟨hl,fun i f hi=>?_⟩
 have h1:=hf i f hi
 have hlt:i<xs.length:=by rw[hx];exact(Array.getElem?_eq_some_iff.1 hi).1
 rw[List.getElem?_eq_getElem hlt] at h1
 exact⟨n,_,h1⟩
theorem Op_.array {m:Nat} (ht:P.underlying t=some (.array m e)) (h:Op_ enc P W t cs):cs.length=P.cellsOf t∧ ∀ i,i<m→Op_ enc P W e ((cs.drop (i*P.cellsOf e)).take (P.cellsOf e)):=by
 obtain⟨f,x,h⟩:=h
 obtain⟨xs,n,_,_,hl,hx,hf⟩:=DataW.trod_array ht h
 refine⟨hl,fun i hi=>?_⟩
 have h1:=hf i (by omega)
 rw[List.getElem?_eq_getElem (by omega)] at h1
 exact⟨n,_,h1⟩
theorem Op_.slice (ht:P.underlying t=some (.slice e)) (hz:P.cellsOf e=size) (h:Op_ enc P W t cs):
  ∃ A n c xs,cs=[.slice A n c]∧n≤c∧c≤maxLen∧Rd W bC size A n xs∧ ∀ i,i<n→Op_ enc P W e ((xs.drop (i*size)).take size):=by
 subst hz
 obtain⟨m,x,h⟩:=h
 rcases DataW.trod_slice ht h with⟨rfl,_⟩|⟨a,len,cap,elems,rest,n,_,rfl,_,_,hlc,hcm,hel,hlen,_⟩
 ·exact⟨none,0,0,[],O,Nat.le_refl _,by unfold maxLen;omega,Rd.none_,fun i hi=>absurd hi (by omega)⟩
 ·have key: ∀ i,i<len→ ∃ ci:List Value,ci.length=P.cellsOf e∧(∀ j,j<P.cellsOf e→W.cell? (a.add (i*P.cellsOf e+j))=ci[j]?)∧Op_ enc P W e ci:=fun i hi=>by
   have h1:=hlen i hi
   rw[List.getElem?_eq_getElem (by omega)] at h1
   obtain⟨ci,h2,h3⟩:=Option.bind_eq_some_iff.1 h1
   obtain⟨_,h4,h5⟩:=World.cells?_some h2
   exact⟨ci,h4,fun j hj=>by rw[← gD];exact h5 j hj,n,_,h3⟩
  have hcell: ∀ k,k<len*P.cellsOf e→W.cell? (a.add k)≠none:=fun k hk=>by
   have hpos:0<P.cellsOf e:=by
    rcases Nat.eq_zero_or_pos (P.cellsOf e) with h0|h0
    ·rw[h0,Nat.mul_zero] at hk;omega
    ·exact h0
   obtain⟨ci,hl,hc,_⟩:=key (k/P.cellsOf e) ((Nat.div_lt_iff_lt_mul hpos).2 hk)
   have hm:=Nat.mod_lt k hpos
   have h1:=hc (k%P.cellsOf e) hm
   rw[show k/P.cellsOf e*P.cellsOf e+k%P.cellsOf e=k by rw[Nat.mul_comm];exact Nat.div_add_mod k _] at h1
   rw[h1,List.getElem?_eq_getElem (by omega)]
   simp
  refine⟨some a,len,cap,(List.range (len*P.cellsOf e)).map fun k=>(W.cell? (a.add k)).getD undef,O,hlc,hcm,⟨by simp,fun _=>⟨a,O,trivial,fun j u hu=>?_⟩⟩,fun i hi=>?_⟩
  ·rw[List.getElem?_map] at hu
   have hj:j<len*P.cellsOf e:=by
    rcases Nat.lt_or_ge j (len*P.cellsOf e) with h|h
    ·exact h
    ·rw[List.getElem?_eq_none (by simpa using h)] at hu;cases hu
   rw[List.getElem?_range hj] at hu
   have h1:=hcell j hj
   cases hw:W.cell? (a.add j) with
   |none=>exact absurd hw h1
   |some u'=>simp only[Option.map_some,hw,Option.getD_some] at hu;exact hu
  ·obtain⟨ci,hl,hc,hop⟩:=key i hi
   have e1:(((List.range (len*P.cellsOf e)).map fun k=>(W.cell? (a.add k)).getD undef).drop (i*P.cellsOf e)).take (P.cellsOf e)=ci:=by
    apply List.ext_getElem?
    intro j
    rw[List.getElem?_take,List.getElem?_drop]
    split
    ·rename_i hj
     have hk:i*P.cellsOf e+j<len*P.cellsOf e:=by
      have:(i+1)*P.cellsOf e≤len*P.cellsOf e:=Nat.mul_le_mul_right _ hi
      rw[Nat.add_mul,Nat.one_mul] at this
      omega
     rw[List.getElem?_map,List.getElem?_range hk]
     simp only[Option.map_some]
     rw[hc j hj,List.getElem?_eq_getElem (by omega)]
     simp
    ·rw[List.getElem?_eq_none (by omega)]
   rw[e1]
   exact hop
theorem Op_.ints {k:IntKind} (ht:P.underlying t=some (.slice e)) (he:P.underlying e=some (.int k)) (hz:P.cellsOf e=1) (h:Op_ enc P W t cs):
  ∃ A n c, ∃ zs:List Int,cs=[.slice A n c]∧n≤c∧c≤maxLen∧Rd W bC 1 A n (zs.map (Value.int k))∧ ∀ z∈zs,(Lit.int k z).wf=true:=by
 obtain⟨A,n,c,xs,rfl,hnc,hcm,hrd,hop⟩:=h.slice ht hz
 have hl:xs.length=n:=by simpa using hrd.1
 have key: ∀ i,(hi:i<n)→ ∃ z,xs[i]? =some (.int k z)∧(Lit.int k z).wf=true:=fun i hi=>by
  obtain⟨z,h1,h2⟩:=(hop i hi).int he
  refine⟨z,?_,h2⟩
  have:=congrArg (fun l=>l[0]?) h1
  simpa[List.getElem?_take,List.getElem?_drop] using this
 refine⟨A,n,c,(List.range n).map fun i=>if hi:i<n then (key i hi).choose else 0,O,hnc,hcm,?_,?_⟩
 ·have e1:((List.range n).map fun i=>if hi:i<n then (key i hi).choose else 0).map (Value.int k)=xs:=by
   apply List.ext_getElem?
   intro j
   rcases Nat.lt_or_ge j n with hj|hj
   ·rw[List.getElem?_map,List.getElem?_map,List.getElem?_range hj,(key j hj).choose_spec.1]
    simp[hj]
   ·rw[List.getElem?_eq_none (by simpa using hj),List.getElem?_eq_none (by omega)]
  rw[e1]
  exact hrd
 ·intro z hz
  obtain⟨i,hi,rfl⟩:=List.mem_map.1 hz
  have hi':i<n:=by simpa using hi
  simp only[hi',dif_pos]
  exact(key i hi').choose_spec.2
theorem Op_.bytes (ht:P.underlying t=some (.slice e)) (he:P.underlying e=some (.int .u8)) (hz:P.cellsOf e=1) (h:Op_ enc P W t cs):
  ∃ A n c l,cs=[.slice A n c]∧Bs W bC A n c l:=by
 obtain⟨A,n,c,zs,rfl,hnc,hcm,hrd,hwf⟩:=h.ints ht he hz
 have e1:zs.map (Value.int .u8)=(zs.map fun z=>UInt8.ofNat z.toNat).map bv:=by
  rw[List.map_map]
  apply List.map_congr_left
  intro z hz
  have:=Dp (hwf z hz)
  simp[bv]
  omega
 rw[e1] at hrd
 exact⟨A,n,c,_,O,⟨by have:=hrd.1;simpa using this.symm,hnc,hcm,hrd⟩⟩
end
end Go.Proofs.YtdeffdldifepkaaGreat
namespace Go.Proofs.YtdeffdldifepkaaGreat
open Go.RowKit
open Asn (pt row rb)
set_option linter.unusedVariables false
set_option linter.unusedSimpArgs false
def ab {α:Type} (f:α→List Value) (L:List α):List Value:=L.flatMap f
section
variable {α:Type} {f:α→List Value} {size:Nat}
theorem eV (hf: ∀ a,(f a).length=size): ∀ L:List α,(ab f L).length=L.length*size
 |[]=>by simp[ab]
 |x::L=>by
  have:=eV hf L
  simp only[ab,List.flatMap_cons,List.length_append,List.length_cons] at this ⊢
  rw[this,hf,Nat.add_mul]
  omega
theorem dC (L M:List α):ab f (L++M)=ab f L++ab f M:=by simp[ab]
theorem fI (a:α):ab f [a]=f a:=by simp[ab]
theorem gO (hf: ∀ a,(f a).length=size): ∀ (L:List α) (j:Nat),ab f (L.take j)=(ab f L).take (j*size)
 |[],j=>by simp[ab]
 |x::L,0=>by simp[ab]
 |x::L,j+1=>by
  have:=gO hf L j
  simp only[ab,List.take_succ_cons,List.flatMap_cons] at this ⊢
  rw[this,List.take_append,hf,List.take_of_length_le (l:=f x) (by rw[hf,Nat.add_mul];omega),Nat.add_mul,Nat.one_mul,Nat.add_sub_cancel]
theorem i6 (hf: ∀ a,(f a).length=size): ∀ (L:List α) (j:Nat),ab f (L.drop j)=(ab f L).drop (j*size)
 |[],j=>by simp[ab]
 |x::L,0=>by simp[ab]
 |x::L,j+1=>by
  have:=i6 hf L j
  simp only[ab,List.drop_succ_cons,List.flatMap_cons] at this ⊢
  rw[this,List.drop_append,hf,List.drop_of_length_le (l:=f x) (by rw[hf,Nat.add_mul];omega),Nat.add_mul,Nat.one_mul,Nat.add_sub_cancel,List.nil_append]
theorem bi (hf: ∀ a,(f a).length=size) (L:List α) (d:α) (j:Nat) (hj:j<L.length) (e:Nat) (v:Value) (he:(f (L.getD j d))[e]? =some v):(ab f L)[j*size+e]? =some v:=by
 have hs:=(List.getElem?_eq_some_iff.1 he).1
 have h:=i6 hf L j
 have e1:L.drop j=L.getD j d::L.drop (j+1):=by rw[List.drop_eq_getElem_cons hj];simp[List.getD,hj]
 rw[e1,ab,List.flatMap_cons] at h
 rw[← List.getElem?_drop, ← h,List.getElem?_append_left hs]
 exact he
theorem ru {n:Nat} (hf: ∀ a,(f a).length=size) (ok:α→Prop): ∀ (n:Nat) (xs:List Value),xs.length=n*size→(∀ i,i<n→ ∃ a,(xs.drop (i*size)).take size=f a∧ok a)→ ∃ K:List α,K.length=n∧xs=ab f K∧ ∀ a∈K,ok a
 |0,xs,hl,h=>⟨[],O,by simpa[ab] using hl,by simp⟩
 |n+1,xs,hl,h=>by
  obtain⟨a,ha,hok⟩:=h 0 (by omega)
  rw[Nat.zero_mul,List.drop_zero] at ha
  obtain⟨K,hK,hxs,hall⟩:=ru (n:=n) hf ok n (xs.drop size) (by rw[List.length_drop,hl,Nat.add_mul];omega) fun i hi=>by
   obtain⟨b,hb,hb2⟩:=h (i+1) (by omega)
   refine⟨b,?_,hb2⟩
   rw[List.drop_drop, ← hb]
   congr 2
   rw[Nat.add_mul,Nat.one_mul,Nat.add_comm]
  refine⟨a::K,by simp[hK],?_,?_⟩
  ·rw[ab,List.flatMap_cons, ← ha]
   conv=>lhs;rw[← List.take_append_drop size xs,hxs]
   rfl
  ·intro b hb
   rcases List.mem_cons.1 hb with rfl|hb
   ·exact hok
   ·exact hall b hb
end
def rx:Value→Value→Bool
 | .int _ a,.int _ b=>a==b
 | .bool a,.bool b=>a==b
 | .string a,.string b=>a.toList==b.toList
 |_,_=>false
def pB:TypeDesc→Value→Value→Bool
 | .int _,.int k _,.int k' _=>k==k'
 | .bool,.bool _,.bool _=>true
 | .string,.string _,.string _=>true
 |_,_,_=>false
def xf (g:TypeId→Option Ti) (xs ys:Array Value) (f:Field):Bool:=f.name != "_" &&(match g f.type,xs[f.offset]?,ys[f.offset]? with
 |some i,some a,some b=>pB i.desc a b&& !fZ i.desc
 |_,_,_=>false)
def uo (xs ys:Array Value) (f:Field):Bool:=rx (xs.getD f.offset undef) (ys.getD f.offset undef)
section
variable {P:Program} {n:Nat} {w0:World} {M:Nat→Prop} {T:aF} {H Hr:List Asn} {dd:Option Tmp} {tt:TypeId} {pos:String} {af:Array Edge} {g:Option (Nat×Bool)} {x y z:Operand} {ts:Array TypeId}
theorem uq {o:Oper} {v:Value} (h:Tk P n w0 M T H o v):Ef P n w0 M T H o (fun u H'=>u=v∧H'=H):= .mk fun a w ha hS=>by
 unfold Oper.wp
 rw[h.run a w ha hS]
 exact⟨v,H,⟨O,O⟩,O,hS⟩
theorem pC (w:World) (d:Nat) {t:TypeId} {ds:TypeDesc} {a b:Value} (h:P.underlying t=some ds) (hp:pB ds a b=true):(Op.equalIn (d+1) t a b).run P w= .ok (rx a b) w:=by
 unfold pB at hp
 split at hp
 ·obtain rfl:=of_decide_eq_true hp
  exact run_equalIn_int w d t _ _ _ _ h
 ·exact run_equalIn_bool' w d t _ _ h
 ·exact run_equalIn_string w d t _ _ h
 ·cases hp
theorem iJ [HasTab P] (w:World) (d:Nat) (xs ys:Array Value): ∀ fs:List Field,(fs.all (xf (ty P) xs ys))=true→(Op.eqFields (d+1) xs ys fs).run P w= .ok (fs.all (uo xs ys)) w
 |[],_=>by simp[Op.eqFields]
 |f::fs,h=>by
  simp only[List.all_cons,Bool.and_eq_true] at h
  obtain⟨h1,h2⟩:=h
  have ih:=iJ w d xs ys fs h2
  simp only[xf,Bool.and_eq_true,bne_iff_ne,ne_eq] at h1
  obtain⟨hn,h1⟩:=h1
  split at h1
  ·rename_i i a b hi ha hb
   simp only[Bool.and_eq_true,Bool.not_eq_true'] at h1
   have e1:=pC w d (cH hi) h1.1
   have p1:=jP (cH hi) h1.2 ha w
   have p2:=jP (cH hi) h1.2 hb w
   have e2:uo xs ys f=rx a b:=by simp[uo,Array.getD_eq_getD_getElem?,ha,hb]
   simp only[Op.eqFields,ne_eq,hn,not_false_eq_true,if_true,Sem.run_bind,p1,p2,e1,Result.andThen_ok,Sem.run_ite,List.all_cons,e2]
   cases rx a b
   ·simp
   ·simpa using ih
  ·cases h1
theorem Dq [HasTab P] {s u:TypeId} {xs ys:Array Value} {fs:Array Field} {i:Ti} {r:Bool} (hx:az T x=some (.agg xs)) (hy:az T y=some (.agg ys)) (hs:ty P s=some i) (hi:i.desc= .struct fs) (hp:P.stoodInHeld s=false) (hg:P.eqGuardType P.depth s=false) (hc:(fs.toList.all (xf (ty P) xs ys))=true) (hr:fs.toList.all (uo xs ys)=r):
  Tk P n w0 M T H ⟨dd,.binOp .eql s x y u,tt,pos,af,g⟩ (.bool r):= .mk fun a w ha hS=>by
 have hu:P.underlying s=some (.struct fs):=hi▸cH hs
 have hf:P.fieldsOf s=fs:=by simp[Program.fieldsOf,hu]
 have h3:(Op.equal s (.agg xs) (.agg ys)).run P w= .ok r w:=by
  unfold Op.equal Op.maxDepth
  rw[show 10000=9998+1+1 from O,run_equalIn_struct w (9998+1) s xs ys (by rw[hf];exact hu) hp,hf,iJ w 9998 xs ys _ hc,hr]
 simp[execOp,ha.eval hx,ha.eval hy,eqGuard,hg,binOp,h3]
theorem Dr [HasTab P] {s u:TypeId} {xs ys:Array Value} {fs:Array Field} {i:Ti} {r:Bool} (hx:az T x=some (.agg xs)) (hy:az T y=some (.agg ys)) (hs:ty P s=some i) (hi:i.desc= .struct fs) (hp:P.stoodInHeld s=false) (hg:P.eqGuardType P.depth s=false) (hc:(fs.toList.all (xf (ty P) xs ys))=true) (hr:fs.toList.all (uo xs ys)=r):
  Tk P n w0 M T H ⟨dd,.binOp .neq s x y u,tt,pos,af,g⟩ (.bool (!r)):= .mk fun a w ha hS=>by
 have hu:P.underlying s=some (.struct fs):=hi▸cH hs
 have hf:P.fieldsOf s=fs:=by simp[Program.fieldsOf,hu]
 have h3:(Op.equal s (.agg xs) (.agg ys)).run P w= .ok r w:=by
  unfold Op.equal Op.maxDepth
  rw[show 10000=9998+1+1 from O,run_equalIn_struct w (9998+1) s xs ys (by rw[hf];exact hu) hp,hf,iJ w 9998 xs ys _ hc,hr]
 simp[execOp,ha.eval hx,ha.eval hy,eqGuard,hg,binOp,h3]
end
theorem mO (v:Value):v.cells.toList=aV v:=by cases v<;>rfl
theorem ry: ∀ (c pre zs:List Value) (s j:Nat),pre.length=s+j→c.length≤zs.length→(c.zipIdx j).foldl (fun cs x=>cs.setIfInBounds (s+x.2) x.1) (pre++zs).toArray=(pre++c++zs.drop c.length).toArray
 |[],pre,zs,s,j,_,_=>by simp
 |x::c,pre,z::zs,s,j,hp,hl=>by
  have e:(pre++z::zs).toArray.setIfInBounds (s+j) x=((pre++[x])++zs).toArray:=by
   apply Array.ext'
   simp[← hp]
  have ih:=ry c (pre++[x]) zs s (j+1) (by simp;omega) (by simpa using hl)
  simp only[List.zipIdx_cons,List.foldl_cons,e,ih]
  simp
theorem og {size:Nat}: ∀ (vs:List Value) (k:Nat) (pre:List Value) (zs:List Value),pre.length=k*size→zs.length=vs.length*size→(∀ v∈vs,(aV v).length=size)→
  Instr.fill (fun i=>some (i*size,size)) (pre++zs).toArray ((List.range' k vs.length).zip vs)=some (pre++vs.flatMap aV).toArray
 |[],k,pre,zs,_,hz,_=>by
  have:zs=[]:=List.eq_nil_of_length_eq_zero (by simpa using hz)
  subst this
  simp[Instr.fill]
 |v::vs,k,pre,zs,hp,hz,h1=>by
  have hv:v.cells.toList.length=size:=by rw[mO];exact h1 v (by simp)
  have hv3:(aV v).length=size:=h1 v (by simp)
  have hv2:v.cells.size=size:=by simpa using hv
  have hzl:zs.length=size+vs.length*size:=by rw[hz,List.length_cons,Nat.add_mul];omega
  have ih:=og vs (k+1) (pre++aV v) (zs.drop size) (by rw[List.length_append,hp,hv3,Nat.add_mul];omega) (by rw[List.length_drop,hzl];omega) (fun u hu=>h1 u (by simp[hu]))
  rw[List.length_cons,List.range'_succ,List.zip_cons_cons,Instr.fill]
  have h3:((v.cells.size≠size)||decide (k*size+v.cells.size>(pre++zs).toArray.size))=false:=by
   simp[hv2,hp]
   omega
  simp only[h3,Bool.false_eq_true,if_false]
  have e:=ry v.cells.toList pre zs (k*size) 0 (by rw[hp,Nat.add_zero]) (by rw[hv,hzl];omega)
  have e2:(v.cells.zipIdx.foldl (fun cs x=>cs.setIfInBounds (k*size+x.2) x.1) (pre++zs).toArray)=(pre++v.cells.toList++zs.drop size).toArray:=by
   rw[← Array.foldl_toList,Array.toList_zipIdx,e,hv]
  rw[e2,show pre++v.cells.toList++List.drop size zs=(pre++aV v)++List.drop size zs from by rw[mO],ih]
  simp
section
variable {P:Program} {n:Nat} {w0:World} {M:Nat→Prop} {T:aF} {H Hr:List Asn} {dd:Option Tmp} {tt:TypeId} {pos:String} {af:Array Edge} {g:Option (Nat×Bool)} {x y z:Operand} {ts:Array TypeId}
theorem cK [HasTab P] {s e:TypeId} {m size:Nat} {parts:Array (Nat×Operand)} {vs ds:List Value} {i ei:Ti} (hv:cg T (parts.toList.map (·.2))=some vs) (hp:parts.toList.map (·.1)=List.range m) (hs:ty P s=some i) (hi:i.desc= .slice e) (he:ty P e=some ei) (h1:ei.size=size) (ho: ∀ v∈vs,(aV v).length=size) (hd:vs.flatMap aV=ds) (hm:m*size≤1000):
  Ef P n w0 M T H ⟨dd,.buildSlice s m parts,tt,pos,af,g⟩ (fun u H'=> ∃ b,u= .slice (some ⟨b,0,none⟩) m m∧H'=pt b e ds::H):= .mk fun a w ha hS=>by
 have hu:=run_underlying (hi▸cH hs) w
 have hev:=ha.evals hv
 have hl:vs.length=m:=by rw[← hev];have:=congrArg List.length hp;simpa using this
 have hparts:(parts.map fun x=>(x.1,a.eval x.2)).toList=(List.range' 0 vs.length).zip vs:=by
  rw[hl, ← List.range_eq_range', ← hp, ← hev]
  simp[List.zip_map']
 have hfill: ∀ zs:Array Value,zs.size=m*size→Instr.fill (fun i=>some (i*size,size)) zs ((List.range' 0 vs.length).zip vs)=some ds.toArray:=fun zs hz=>by
  have h:=og vs 0 [] zs.toList (by simp) (by rw[hl];simpa using hz) ho
  rw[hd] at h
  simpa using h
 have hrun:(Instr.buildSlice s m (parts.map fun x=>(x.1,a.eval x.2))).run P w= .ok (.slice (some ⟨w.heap.size,0,none⟩) m m) (w.alloc (.cells ds.toArray e)):=by
  have hle: ¬ m*size>2^24:=by omega
  by_cases hm0:m*size=0
  ·have hf:=hfill ((Array.range (m*size)).map fun i=>(#[]:Array Value)[i%(#[]:Array Value).size]!) (by simp)
   simp only[Instr.buildSlice,Sem.run_bind,hu,Result.andThen_ok,ev he w,h1,Sem.run_ite,if_neg hle,if_pos hm0,Sem.run_pure,hparts,hf]
   simp[newRow]
  ·have hf:=hfill ((Array.range (m*size)).map fun i=>ei.zero.cells[i%ei.zero.cells.size]!) (by simp)
   simp only[Instr.buildSlice,Sem.run_bind,hu,Result.andThen_ok,ev he w,h1,Sem.run_ite,if_neg hle,if_neg hm0,kc he w,Sem.run_pure,hparts,hf]
   simp[newRow]
 unfold Oper.wp
 simp only[execOp,Sem.run_bind,hrun,Result.andThen_ok,Sem.run_pure]
 refine⟨_,_,⟨w.heap.size,O,O⟩,O,hS.add (Kp.alloc w _) (Blk.new w e _) (fun k hk=>?_)⟩
 have hk:k=w.heap.size:=hk
 subst hk
 simp
end
section
variable {P:Program} {n:Nat} {w0:World} {M:Nat→Prop} {T:aF} {H Hr:List Asn} {dd:Option Tmp} {tt:TypeId} {pos:String} {af:Array Edge} {g:Option (Nat×Bool)} {x y z:Operand} {ts:Array TypeId}
theorem cw [HasTab P] {s:TypeId} {A:Option Addr} {j sz m:Nat} {xs ds:List Value} {i:Ti} (hx:az T x=some (.pointer (pa A j))) (hs:ty P s=some i) (hi:fZ i.desc=true) (hr:Srd w0 M H sz A m xs) (hl:ds.length=i.size) (h0:0<m) (hv: ∀ e v,ds[e]? =some v→xs[j+e]? =some v):
  Tk P n w0 M T H ⟨dd,.load s x,tt,pos,af,g⟩ (.agg ds.toArray):= .mk fun a w ha hS=>
 (ke (w0:=w) (M:=ar []) (H:=[]) (n:=n) (T:=T) hx hs hi (hr.rd w hS) hl h0 hv (fun k _=>ao k)).run a w ha (St.enter w)
theorem bH [HasTab P] {s e:TypeId} {A:Option Addr} {m c q sz:Nat} {w:Int} {kk:IntKind} {i ei:Ti} (hx:az T x=some (.slice A m c)) (hy:az T y=some (.int kk w)) [hz:NatOf w q] (hs:ty P s=some i) (hi:i.desc= .slice e) (he:ty P e=some ei) (h1:ei.size=sz) (hA:A≠none) (hq:q<m):
  Tk P n w0 M T H ⟨dd,.indexAddr s x y,tt,pos,af,g⟩ (.pointer (pa A (q*sz))):=by
 rw[hz.is] at hy
 subst h1
 exact w7 hx hy hs hi he hA hq
theorem eW {A:Option Addr} {q:Nat} (hx:az T x=some (.pointer (pa A q))) (hA:A≠none):Tk P n w0 M T H ⟨dd,.nilCheck x,tt,pos,af,g⟩ (.pointer (pa A q)):=by
 cases A with
 |none=>exact absurd O hA
 |some ad=>exact ac hx
theorem sG [HasTab P] {s e:TypeId} {sz m c j:Nat} {A:Option Addr} {xs:List Value} {v:Value} {i:Ti} (hx:az T x=some (.pointer (pa A j))) (hy:az T y=some v) (hs:ty P s=some i) (h1:v.oneCell'=true) (hl:i.size=1) [hr:HRow H A m c e sz xs Hr] (hfit:j<xs.length):
  Ef P n w0 M T H ⟨none,.store s x y,tt,pos,af,g⟩ (fun _ H'=>H'=row e sz A m c (xs.set j v)::Hr):=by
 have hc:aV v=[v]:=by cases v<;>first|rfl|(simp[Value.oneCell'] at h1)
 have h:=ij (P:=P) (n:=n) (w0:=w0) (M:=M) (tt:=tt) (pos:=pos) (af:=af) (g:=g) (H:=H) (Hr:=Hr) (size:=sz) (ds:=[v]) (off:=j) (xs:=xs) (A:=A) (m:=m) (c:=c) (e:=e) hx hy hs hc (by simp[hl]) (by simpa using h1) (by simp) (by simp;omega)
 have e:xs.take j++[v]++xs.drop (j+[v].length)=xs.set j v:=by rw[List.set_eq_take_append_cons_drop,if_pos hfit];simp
 rw[e] at h
 exact h
end
section
variable {P:Program} {ro:Option Nat} {ds:List Deferred} {B:Bk ro ds} {n:Nat} {w0:World} {M:Nat→Prop} {k:List It} {l:List Oper}
theorem Tk.sub {T' T:aF} {H:List Asn} {o:Oper} {v:Value} (hs:Sub T' T) (h:Tk P n w0 M T' H o v):Tk P n w0 M T H o v:=⟨fun a w ha hw=>h.run a w (ha.sub hs) hw⟩
theorem Ef.sub {T' T:aF} {H' H:List Asn} {o:Oper} {E:Value→List Asn→Prop} (hs:Sub T' T) (hh: ∀ w,St w0 M H w→St w0 M H' w) (h:Ef P n w0 M T' H' o E):Ef P n w0 M T H o E:= .mkIn fun a w ha hw=>h.run a w (ha.sub hs) (hh w hw)
theorem zo {L:Array Bool} {C:List Asn} {T':aF} {H':List Asn} (h:RD P B n w0 M l k L C T' H'): ∀ {T:aF} {H:List Asn},Sub T' T→(∀ w,St w0 M H w→St w0 M H' w)→RD P B n w0 M l k L C T H:=by
 induction h with
 |done hr h=>intro T H hs hh;exact .done hr (eu hh (iD hs h))
 |take i ho hw hd hf hr ht _ ih=>intro T H hs hh;exact .take i ho (gy hs hw) hd hf hr (ht.sub hs) (ih (hs.put _ _) hh)
 |skip i ho hw hd hf hr _ ih=>intro T H hs hh;exact .skip i ho (gy hs hw) hd hf hr (ih (hs.put _ _) hh)
 |all rs hr hne E C' he hc _ ih=>
  intro T H hs hh
  refine .all rs hr hne E C' (fun i hi=>?_) hc fun i hi o ho v H2 hE=>ih i hi o ho v H2 hE (hs.put _ _) fun _ h=>h
  obtain⟨o,h1,h2,h3,h4⟩:=he i hi
  exact⟨o,h1,gy hs h2,h3,h4.sub hs hh⟩
theorem FC {L L':Array Bool} {C:List Asn} {T' T:aF} {H' H:List Asn} (h:RD P B n w0 M l k L' C T' H') (hs:Sub T' T) (hh: ∀ w,St w0 M H w→St w0 M H' w) (hL:L=L'):RD P B n w0 M l k L C T H:=by
 subst hL
 exact zo h hs hh
theorem lY {L:Array Bool} {C:List Asn} {T:aF} {H:List Asn} {X:Type} (L':Array Bool) (T':X→aF) (H':X→List Asn) (h1:(∀ x,RD P B n w0 M l k L' C (T' x) (H' x))→RD P B n w0 M l k L C T H) (h2: ∀ x,RD P B n w0 M l k L' C (T' x) (H' x)):RD P B n w0 M l k L C T H:=h1 h2
theorem ct {L:Array Bool} {C:List Asn} {T:aF} {H:List Asn} {X:Type} (L':Array Bool) (T':X→aF) (H':X→List Asn) (h2: ∀ x,RD P B n w0 M l k L' C (T' x) (H' x)) (h1:(∀ x,RD P B n w0 M l k L' C (T' x) (H' x))→RD P B n w0 M l k L C T H):RD P B n w0 M l k L C T H:=h1 h2
end
abbrev Dt:=Option Addr×Nat×List UInt8
def pD (e:TypeId) (d:Dt):Asn:=row e 1 d.1 d.2.2.length d.2.1 (d.2.2.map bv)
def dq (e:TypeId) (D:List Dt):Asn:=pj (D.map (pD e))
def lZ (w:World) (F:Nat→Prop) (D:List Dt):Prop:= ∀ d∈D,Rd w F 1 d.1 d.2.2.length (d.2.2.map bv)
structure SDt (w0:World) (M:Nat→Prop) (H:List Asn) (D:List Dt):Prop where
 rd: ∀ w,St w0 M H w→lZ w bC D
section
variable {w0 w:World} {M F:Nat→Prop} {H Hr:List Asn} {e:TypeId} {D:List Dt}
theorem SDt.old (h:lZ w0 F D) (hF: ∀ k,F k→ ¬ M k):SDt w0 M H D:=⟨fun w hS d hd=>(Srd.old (h d hd) hF).rd w hS⟩
theorem SDt.own (hm:dq e D∈H):SDt w0 M H D:=⟨fun w hS d hd=>by
 have h1:=(hS.all _ hm).1.1 (pD e d) (List.mem_map.2 ⟨d,hd,O⟩)
 exact(Rd.of_own h1).more fun _ _=>trivial⟩
theorem SDt.sub {D':List Dt} (h:SDt w0 M H D) (hs: ∀ d∈D',d∈D):SDt w0 M H D':=⟨fun w hS d hd=>h.rd w hS d (hs d hd)⟩
theorem SDt.at_ (h:SDt w0 M H D) {d:Dt} (hd:d∈D):Srd w0 M H 1 d.1 d.2.2.length (d.2.2.map bv):=⟨fun w hS=>h.rd w hS d hd⟩
theorem nt (h:St w0 M H w):St w0 M (dq e []::H) w:=eU (L:=[]) h
theorem ur {D':List Dt} (hp:D.Perm D') (h:St w0 M (dq e D::H) w):St w0 M (dq e D'::H) w:=
 eU ((fp h).perm ((hp.map _).append_right _))
theorem rz {d:Dt} (h:St w0 M (pD e d::dq e D::H) w):St w0 M (dq e (D++[d])::H) w:=by
 have h1:St w0 M (dq e D::pD e d::H) w:=h.perm (List.Perm.swap _ _ _)
 have h2:=fp h1
 refine ur (D:=d::D) (List.perm_append_comm (l₁:=[d])) (eU (L:=(d::D).map (pD e)) ?_)
 exact h2.perm List.perm_middle
theorem nu {D2:List Dt} (h:St w0 M (dq e D::dq e D2::H) w):St w0 M (dq e (D++D2)::H) w:=by
 have h1:=fp h
 have h2:St w0 M (dq e D2::(D.map (pD e)++H)) w:=h1.perm List.perm_middle
 have h3:=fp h2
 refine eU (L:=(D++D2).map (pD e)) ?_
 rw[List.map_append,List.append_assoc]
 have:(D2.map (pD e)++(D.map (pD e)++H)).Perm (D.map (pD e)++(D2.map (pD e)++H)):=by
  rw[← List.append_assoc, ← List.append_assoc]
  exact List.perm_append_comm.append_right _
 exact h3.perm this
theorem rC {D':List Dt} (hs:D'.Sublist D) (h:St w0 M (dq e D::H) w):St w0 M (dq e D'::H) w:=
 eU ((fp h).sublist ((hs.map _).append_right _))
theorem St.rowcut {size m c n:Nat} {A:Option Addr} {xs:List Value} (h:St w0 M (row e size A m c xs::H) w) (hn:n≤m):St w0 M (row e size A n c (xs.take (n*size))::H) w:=by
 refine h.turn (A:=row e size A m c xs) (A':=row e size A n c (xs.take (n*size))) Upd.here (fun hb=>?_) (fun k hk=>by cases A<;>exact hk)
 have hl:xs.length=m*size:=hb.1
 have hnm:n*size≤m*size:=Nat.mul_le_mul_right _ hn
 refine⟨by rw[List.length_take];omega,?_⟩
 rcases hb.2 with⟨hv,h0⟩|⟨g,cap,cur,hv,hb1,hh,hle,hm,hz,ht⟩
 ·injection hv with e1 e2 e3
  subst e1
  subst e3
  exact .inl ⟨by rw[show n=0 by omega],by omega⟩
 ·injection hv with e1 e2 e3
  subst e1
  subst e3
  exact .inr ⟨g,c,cur,O,hb1,hh,by omega,hm,hz,by rw[← ht,List.take_take,Nat.min_eq_left hnm]⟩
end
section
variable {P:Program} {ro:Option Nat} {ds:List Deferred} {B:Bk ro ds} {n:Nat} {w0:World} {M:Nat→Prop} {k:List It} {T:aF} {H Hr:List Asn}
theorem mQ {e:TypeId} {size:Nat} (A:Option Addr) (m c q:Nat) {xs:List Value} [hr:HRow H A m c e size xs Hr] (hn:q≤m) (hp:RS P B n w0 M k T (row e size A q c (xs.take (q*size))::Hr)):RS P B n w0 M k T H:=
 eu (fun w hS=>(hS.perm hr.perm).rowcut hn) hp
end
section
variable {P:Program} {n:Nat} {w0:World} {M:Nat→Prop} {T:aF} {H Hr:List Asn} {dd:Option Tmp} {tt:TypeId} {pos:String} {af:Array Edge} {g:Option (Nat×Bool)} {x y z z4:Operand} {ts:Array TypeId}
theorem bS {s:TypeId} {j k:Nat} {u v:Value} {cs:List Value} (hx:az T x=some u) (hy:az T y=some v) (hb:P.built s [(j,u),(k,v)]=some cs.toArray):
  Tk P n w0 M T H ⟨dd,.build s #[(j,x),(k,y)],tt,pos,af,g⟩ (.agg cs.toArray):= .mk fun a w ha hS=>by
 have hr:=run_build (P:=P) w s #[(j,u),(k,v)] cs.toArray (by simpa using hb)
 simp only[execOp,List.map_toArray,List.map_cons,List.map_nil,ha.eval hx,ha.eval hy,Sem.run_bind,hr,Result.andThen_ok,Sem.run_pure]
theorem ku {s:TypeId} {j k l:Nat} {u v v3:Value} {cs:List Value} (hx:az T x=some u) (hy:az T y=some v) (hz:az T z=some v3) (hb:P.built s [(j,u),(k,v),(l,v3)]=some cs.toArray):
  Tk P n w0 M T H ⟨dd,.build s #[(j,x),(k,y),(l,z)],tt,pos,af,g⟩ (.agg cs.toArray):= .mk fun a w ha hS=>by
 have hr:=run_build (P:=P) w s #[(j,u),(k,v),(l,v3)] cs.toArray (by simpa using hb)
 simp only[execOp,List.map_toArray,List.map_cons,List.map_nil,ha.eval hx,ha.eval hy,ha.eval hz,Sem.run_bind,hr,Result.andThen_ok,Sem.run_pure]
theorem ik {s:TypeId} {j k l m:Nat} {u v v3 v4:Value} {cs:List Value} (hx:az T x=some u) (hy:az T y=some v) (hz:az T z=some v3) (h4:az T z4=some v4) (hb:P.built s [(j,u),(k,v),(l,v3),(m,v4)]=some cs.toArray):
  Tk P n w0 M T H ⟨dd,.build s #[(j,x),(k,y),(l,z),(m,z4)],tt,pos,af,g⟩ (.agg cs.toArray):= .mk fun a w ha hS=>by
 have hr:=run_build (P:=P) w s #[(j,u),(k,v),(l,v3),(m,v4)] cs.toArray (by simpa using hb)
 simp only[execOp,List.map_toArray,List.map_cons,List.map_nil,ha.eval hx,ha.eval hy,ha.eval hz,ha.eval h4,Sem.run_bind,hr,Result.andThen_ok,Sem.run_pure]
end
theorem gd {P:Program} {n:Nat} {w0:World} {M:Nat→Prop} {T:aF} {H Hr:List Asn} {dd:Option Tmp} {tt:TypeId} {pos:String} {af:Array Edge} {g:Option (Nat×Bool)} [HasTab P] {sz:Nat} {x y:Operand} {s e:TypeId} {A A2:Option Addr} {m c m2 c2:Nat} {xs news:List Value} {i ei:Ti} (hx:az T x=some (.slice A m c)) (hy:az T y=some (.slice A2 m2 c2)) (hs:ty P s=some i) (hi:i.desc= .slice e) (he:ty P e=some ei) (hsz:ei.size=sz) (hz:ei.zero.cells.size=sz) (hz0:0<sz)
  [hr:HRow H A m c e sz xs Hr] (hsrc:Srd w0 M H sz A2 m2 news) (h1: ∀ u∈news,u.oneCell'=true) (hb:(m+m2)*ei.bytes≤140737488355328) (hm:m+m2≤maxLen):
  Ef P n w0 M T H ⟨dd,.call ⟨.builtin .append,#[x,y],#[s,s]⟩,tt,pos,af,g⟩ (fun v H'=> ∃ A' c',v= .slice A' (m+m2) c'∧H'=row e sz A' (m+m2) c' (xs++news)::Hr):=by
 subst hsz
 exact uf hx hy hs hi he hz hz0 hsrc h1 hb hm
theorem bO {P:Program} {f:FuncId} {fn:Func} {vs:List Value} {w:World} {n:Nat} {As:List Asn} {X:Type} {I:X→Prop} {A:X→List Asn} (hf:P.funcs[f]? =some fn) (hb:fn.body.isSome=true) (hn:fn.ntmps=n) (hr:fn.results=#[])
  (hv:vs.length≤n) (hS:St w (ar As) As w) (h: ∀ B:Bk none [],(∀ (T:aF) (H:List Asn),(∀ w',St w (ar As) H w'→ ∃ x,I x∧St w (ar As) (A x) w')→RS P B n w (ar As) [] T H)→
   (∀ (c:Code) (k:List It) (T:aF) (H:List Asn),eh c= .ret→(∀ w',St w (ar As) H w'→ ∃ x,I x∧St w (ar As) (A x) w')→RS P B n w (ar As) (.code c::k) T H)→RS P B n w (ar As) [.code (dM fn)] (jL 0 vs) As):
  Gives P f vs As w (fun _=> .tuple #[]) I A:=by
 obtain⟨c,hc⟩:=Option.isSome_iff_exists.1 hb
 refine ka hf hc hn (rs:=[]) (by simpa using hr) hv hS fun B hB=>?_
 have h2:=h B (fun T H hw'=>t6 hB (rs:=[]) (vs:=[]) O fun w' hS'=>by
  obtain⟨x,hI,hA⟩:=hw' w' hS'
  exact⟨x,O,hI,hA⟩) (fun c k T H hk hw'=>yJ hB hk (rs:=[]) (vs:=[]) O fun w' hS'=>by
  obtain⟨x,hI,hA⟩:=hw' w' hS'
  exact⟨x,O,hI,hA⟩)
 have e:dM fn=c:=by unfold dM;rw[hc]
 rwa [e] at h2
theorem ut {w0 w:World} {M:Nat→Prop} {H:List Asn} {sz n:Nat} {A:Option Addr} {xs:List Value} (h:Rd w0 bC sz A n xs) (hz:0<sz) (hM: ∀ k, ¬ M k) (hS:St w0 M H w) {F:Nat→Prop} (hF: ∀ k,k<w0.heap.size→F k):Rd w F sz A n xs:=
 ⟨h.1,fun hn=>by
  obtain⟨ad,e,_,hc⟩:=h.2 hn
  have hl:0<xs.length:=by rw[h.1];exact Nat.mul_pos hn hz
  have hb:=World.block_lt_of_cell? w0 _ (hc 0 xs[0] (List.getElem?_eq_getElem hl))
  rw[dv] at hb
  exact⟨ad,e,hF _ hb,fun j u hu=>hS.kp.cell (by rw[dv];exact hM _) (hc j u hu)⟩⟩
theorem nv {w0 w:World} {M:Nat→Prop} {L H:List Asn} {b t m:Nat} {cs:List Value} [hm:Hat H b t cs] (hS:St w0 M (L++H) w) (hl:cs.length=m) {F:Nat→Prop} (hF:F b):Rd w F 1 (some ⟨b,0,none⟩) m cs:=
 ⟨by omega,fun _=>⟨_,O,hF,fun j v hj=>by rw[d3];exact hS.cell (List.mem_append_right _ hm.mem) (by simpa using hj)⟩⟩
theorem oh {w0 w:World} {L Hk:List Asn} {b t:Nat} {cs:List Value} [hm:Hat Hk b t cs] (hS:St w0 (ar []) (L++Hk) w): ∀ q,(q<w0.heap.size∨q=b)→ ¬ ar L q∧q<w.heap.size:=fun q hq=>by
 have hb:=hS.all (pt b t cs) (by simp[hm.mem])
 rcases hq with hq|rfl
 ·refine⟨fun⟨A,hA,hk⟩=>?_,Nat.lt_of_lt_of_le hq hS.kp.size⟩
  rcases((hS.all A (by simp[hA])).2 q hk).1 with h|h
  ·exact ao _ h
  ·omega
 ·exact⟨fun⟨A,hA,hk⟩=>(List.pairwise_append.1 hS.apart).2.2 A hA (pt q t cs) hm.mem q hk O,(hb.2 q O).2⟩
def zi (z:Int):Value:= .int .i64 z
theorem sH {P:Program} [HasTab P] {s ft:TypeId} {j o:Nat} {i fi:Ti} {xs:List Value} {v:Value} (hs:ty P s=some i) (hf:t7 i.fs j=some (o,ft)) (hft:ty P ft=some fi) (ha:fZ fi.desc=false) (hv:xs[o]? =some v) (w:World):(Instr.field s (.agg xs.toArray) j).run P w= .ok v w:=by
 have hf:=lQ hs hf
 have hu:=run_underlying (cH hs) w
 cases hd:i.desc with
 |struct fs=>
  rw[hd] at hf hu
  obtain⟨f,hf1,hf2⟩:=Option.map_eq_some_iff.1 hf
  simp only[Prod.mk.injEq] at hf2
  obtain⟨rfl,rfl⟩:=hf2
  have hp:=jP (P:=P) (e:=f.type) (cH hft) ha (xs:=xs.toArray) (off:=f.offset) (v:=v) (by simpa using hv) w
  simp[Instr.field,hu,hf1,asAgg,hp]
 |_=>rw[hd] at hf;cases hf
theorem cW {P:Program} [HasTab P] {n:Nat} {w0:World} {M:Nat→Prop} {T:aF} {H:List Asn} {dd:Option Tmp} {tt:TypeId} {pos:String} {af:Array Edge} {g:Option (Nat×Bool)} {x:Operand} {s ft:TypeId} {j o:Nat} {i fi:Ti} {xs:List Value} {v:Value} (hx:az T x=some (.agg xs.toArray)) (hs:ty P s=some i) (hf:t7 i.fs j=some (o,ft)) (hft:ty P ft=some fi) (ha:fZ fi.desc=false) (hv:xs[o]? =some v):
  Tk P n w0 M T H ⟨dd,.field s x j,tt,pos,af,g⟩ v:= .mk fun a w hT hS=>by
 simp only[execOp,hT.eval hx,Sem.run_bind,sH hs hf hft ha hv w,Result.andThen_ok,Sem.run_pure]
abbrev Kw:=World→Prop
def K2 (D:Kw) (Z:Asn):Kw:=fun w=>D w∧Z.holds w
def zN:Asn:=pj []
def zA (A Z:Asn):Asn:=pj [A,Z]
section
variable {w0 w w':World} {M:Nat→Prop} {H Hr As As':List Asn} {A Z C:Asn} {D:Kw}
theorem dN (h:St w0 M H w):St w0 M (zN::H) w:=eU (L:=[]) h
theorem fT (h:St w0 M (A::Z::H) w):St w0 M (zA A Z::H) w:=eU (L:=[A,Z]) h
theorem iY (h:(zA A Z).holds w):A.holds w:=h.1 A (by simp)
theorem gZ (h:(zA A Z).holds w):Z.holds w:=h.1 Z (by simp)
theorem K2.old (h:K2 D (zA C Z) w):K2 D Z w:=⟨h.1,gZ h.2⟩
theorem K2.up (h:K2 D (zA C Z) w):K2 (K2 D Z) C w:=⟨⟨h.1,gZ h.2⟩,iY h.2⟩
def Kd (D:Kw) (As:List Asn) (w:World):Prop:= ∀ w',Kp (fun k=> ¬ ar As k) w w'→D w'
theorem Kd.now (h:Kd D As w):D w:=h w (Kp.refl _ _)
theorem Kd.at_ (h:Kd D As w) (hS:St w (ar As) H w'):D w':=h w' hS.kp
theorem Kd.k2 (h:Kd D As w) (hS:St w (ar As) H w') (hZ:Z∈H):K2 D Z w':=⟨h w' hS.kp,(hS.all Z hZ).1⟩
theorem RemC.mem [r:RemC H A Hr]:A∈H:=r.perm.mem_iff.2 (by simp)
theorem Kd.in_ [r:RemC H Z Hr] (h:Kd D As w) (hS:St w (ar As) H w'):K2 D Z w':=h.k2 hS r.mem
theorem Kd.sub (h:Kd D As w) (hS:St w (ar As) (As'++Hr) w') (hZ:Z∈Hr):Kd (K2 D Z) As' w':=fun w2 hk=>by
 have hap:=List.pairwise_append.1 hS.apart
 refine⟨h w2 ⟨hS.kp.os▸hk.os,hS.kp.tape▸hk.tape,hS.kp.output▸hk.output,Nat.le_trans hS.kp.size hk.size,fun k hn hlt=>?_⟩,?_⟩
 ·rw[hk.block k (fun⟨B,hB,ho⟩=>?_) (Nat.lt_of_lt_of_le hlt hS.kp.size)]
  ·exact hS.kp.block k hn hlt
  ·rcases((hS.all B (List.mem_append_left _ hB)).2 k ho).1 with h1|h1
   ·exact hn h1
   ·omega
 ·refine Z.stable w' w2 (hk.mono fun k ho _ ⟨B,hB,hb⟩=>?_) (hS.all Z (List.mem_append_right _ hZ)).1
  exact hap.2.2 B hB Z hZ k hb ho
theorem Srd.kn [r:RemC H Z Hr] {sz n:Nat} {B:Option Addr} {xs:List Value} (h:Kd D As w) (f: ∀ w',K2 D Z w'→Rd w' bC sz B n xs):Srd w (ar As) H sz B n xs:=⟨fun w' hS=>f w' (h.in_ hS)⟩
theorem Src.kn [r:RemC H Z Hr] {n c:Nat} {B:Option Addr} {l:List UInt8} (h:Kd D As w) (f: ∀ w',K2 D Z w'→Bs w' bC B n c l):Src w (ar As) H B n c l:=⟨fun w' hS=>f w' (h.in_ hS)⟩
theorem Srd.kd {sz n:Nat} {B:Option Addr} {xs:List Value} (h:Kd D As w) (f: ∀ w',D w'→Rd w' bC sz B n xs):Srd w (ar As) H sz B n xs:=⟨fun w' hS=>f w' (h.at_ hS)⟩
theorem Src.kd {n c:Nat} {B:Option Addr} {l:List UInt8} (h:Kd D As w) (f: ∀ w',D w'→Bs w' bC B n c l):Src w (ar As) H B n c l:=⟨fun w' hS=>f w' (h.at_ hS)⟩
theorem ce {e:TypeId} {sz n c:Nat} {B:Option Addr} {xs:List Value} (h:(row e sz B n c xs).holds w):Rd w bC sz B n xs:=(Rd.of_own h).more fun _ _=>trivial
theorem nw {e:TypeId} {L:List Dt} (h:(dq e L).holds w): ∀ d∈L,Bs w bC d.1 d.2.2.length d.2.1 d.2.2:=fun d hd=>by
 have h1:=h.1 (pD e d) (List.mem_map.2 ⟨d,hd,O⟩)
 exact(Bs.of_own (e:=e) h1).more fun _ _=>trivial
end
section
variable {P:Program} {ro:Option Nat} {ds:List Deferred} {B:Bk ro ds} {n:Nat} {w0:World} {M:Nat→Prop} {k:List It} {T:aF} {H H1 H2 Hr:List Asn}
theorem ez (h:RS P B n w0 M k T (zN::H)):RS P B n w0 M k T H:=eu (fun w hS=>dN hS) h
end
section
variable {P:Program} {n:Nat} {w0:World} {T:aF} {As H H1 H2 Hr:List Asn} {dd:Option Tmp} {tt:TypeId} {pos:String} {af:Array Edge} {g:Option (Nat×Bool)} {ts:Array TypeId} {f:FuncId} {xs:Array Operand} {vs vs':List Value} {X:Type} {V:X→Value} {I:X→Prop} {A1 Z:Asn} {Q C:X→Asn} {D:Kw}
end
def KL (D:Kw) (L:List Asn):Kw:=fun w=>D w∧ ∀ A∈L,A.holds w
theorem Kd.subL {D:Kw} {As As' Hr L:List Asn} {w w':World} (h:Kd D As w) (hS:St w (ar As) (As'++Hr) w') (hL: ∀ A∈L,A∈Hr):Kd (KL D L) As' w':=fun w2 hk=>by
 have hap:=List.pairwise_append.1 hS.apart
 refine⟨h w2 ⟨hS.kp.os▸hk.os,hS.kp.tape▸hk.tape,hS.kp.output▸hk.output,Nat.le_trans hS.kp.size hk.size,fun k hn hlt=>?_⟩,fun Z hZ=>?_⟩
 ·rw[hk.block k (fun⟨B,hB,ho⟩=>?_) (Nat.lt_of_lt_of_le hlt hS.kp.size)]
  ·exact hS.kp.block k hn hlt
  ·rcases((hS.all B (List.mem_append_left _ hB)).2 k ho).1 with h1|h1
   ·exact hn h1
   ·omega
 ·refine Z.stable w' w2 (hk.mono fun k ho _ ⟨B,hB,hb⟩=>?_) (hS.all Z (List.mem_append_right _ (hL Z hZ))).1
  exact hap.2.2 B hB Z (hL Z hZ) k hb ho
class RemL (H:List Asn) (L:List Asn) (H':outParam (List Asn)):Prop where
 perm:H.Perm (L++H')
instance RemL.nil {H:List Asn}:RemL H [] H:=⟨List.Perm.refl _⟩
instance RemL.cons {A:Asn} {H H1 H2 L:List Asn} [h:RemC H A H1] [h2:RemL H1 L H2]:RemL H (A::L) H2:=⟨h.perm.trans (List.Perm.cons _ h2.perm)⟩
theorem RemL.mem {A:Asn} {H L H':List Asn} [h:RemL H L H'] (hA:A∈L):A∈H:=h.perm.mem_iff.2 (List.mem_append_left _ hA)
section
variable {P:Program} {n:Nat} {w0:World} {M:Nat→Prop} {T:aF} {As H H1 H2 Hr:List Asn} {dd:Option Tmp} {tt:TypeId} {pos:String} {af:Array Edge} {g:Option (Nat×Bool)} {ts:Array TypeId} {f:FuncId} {xs:Array Operand} {vs vs':List Value} {X:Type} {V:X→Value} {I:X→Prop} {Z:Asn} {C:X→Asn} {D:Kw} {x:Operand}
theorem cq (L:List Asn) (Q:X→List Asn) [h1:RemL H L H1] [h2:RemC H1 Z Hr] (hD:Kd D As w0) (hf:Fn_ P f)
  (hc: ∀ w1,St w0 (ar As) (L++Z::Hr) w1→Kd (K2 D Z) L w1→St w1 (ar L) L w1→Gives P f vs' L w1 V I (fun x=>Q x++[C x])) (hx:cg T xs.toList=some vs) (hv:vs=vs'):
  Ef P n w0 (ar As) T H ⟨dd,.call ⟨.value (.func f),xs,ts⟩,tt,pos,af,g⟩ (fun u H'=> ∃ x Z',u=V x∧I x∧(∀ w,K2 D Z' w→K2 D Z w)∧(∀ w,K2 D Z' w→K2 (K2 D Z) (C x) w)∧H'=Q x++Z'::Hr):=by
 subst hv
 refine(nm L (Z::Hr) V I (fun x=>Q x++[C x]) hx hf (fun w hS=>hS.perm (h1.perm.trans (List.Perm.append_left _ h2.perm))) fun w hS=>hc w hS (hD.sub (As':=L) hS (by simp)) (St.again (As:=L) hS)).mono ?_
 rintro v H' ⟨x,hI,rfl,rfl⟩ w hS
 refine⟨_,_,O,⟨x,zA (C x) Z,O,hI,fun _ h=>K2.old h,fun _ h=>K2.up h,O⟩,?_⟩
 have h3:St w0 (ar As) (C x::Z::(Q x++Hr)) w:=by
  rw[List.append_assoc] at hS
  refine hS.perm (List.Perm.trans (List.perm_append_comm_assoc ..) ?_)
  refine List.Perm.cons _ ?_
  exact List.perm_middle
 exact(fT h3).perm List.perm_middle.symm
theorem fF (L:List Asn) (Q:X→List Asn) {M:Nat→Prop} [h1:RemL H L Hr] (hf:Fn_ P f)
  (hc: ∀ w1,St w0 M (L++Hr) w1→St w1 (ar L) L w1→Gives P f vs' L w1 V I Q) (hx:cg T xs.toList=some vs) (hv:vs=vs'):
  Ef P n w0 M T H ⟨dd,.call ⟨.value (.func f),xs,ts⟩,tt,pos,af,g⟩ (fun u H'=> ∃ x,u=V x∧I x∧H'=Q x++Hr):=by
 subst hv
 refine(nm L Hr V I Q hx hf (fun w hS=>hS.perm h1.perm) fun w hS=>hc w hS (St.again (As:=L) hS)).mono ?_
 rintro v H' ⟨x,hI,rfl,rfl⟩ w hS
 exact⟨_,_,O,⟨x,O,hI,O⟩,hS⟩
theorem zp (cap:List Value) (L:List Asn) (Q:X→List Asn) [h1:RemL H L H1] [h2:RemC H1 Z Hr] (hD:Kd D As w0) (hf:Fn_ P f) (hx0:az T x=some (.func (.func f) #[] cap.toArray))
  (hc: ∀ w1,St w0 (ar As) (L++Z::Hr) w1→Kd (K2 D Z) L w1→St w1 (ar L) L w1→Gives P f vs' L w1 V I (fun x=>Q x++[C x])) (hx:cg T (xs++(cap.map Operand.const).toArray).toList=some vs) (hv:vs=vs'):
  Ef P n w0 (ar As) T H ⟨dd,.call ⟨.value x,xs,ts⟩,tt,pos,af,g⟩ (fun u H'=> ∃ x Z',u=V x∧I x∧(∀ w,K2 D Z' w→K2 D Z w)∧(∀ w,K2 D Z' w→K2 (K2 D Z) (C x) w)∧H'=Q x++Z'::Hr):=
 d4 hx0 (cq L Q hD hf hc hx hv)
theorem cT [HasTab P] {s:TypeId} {gb off:Nat} {v:Value} {i:Ti} (hx:az T x=some (.pointer (some ⟨gb,off,none⟩))) (hs:ty P s=some i) (hi:fZ i.desc=false) (hr: ∀ w,St w0 M H w→w.cell? ⟨gb,off,none⟩=some v):Tk P n w0 M T H ⟨dd,.load s x,tt,pos,af,g⟩ v:= .mk fun a w ha hS=>by
 simp[execOp,ha.eval hx,Instr.loadAt,Instr.sureAddr,eF hs hi (hr w hS)]
end
def yM (P:Program) (gf:FuncId) (lb:List Value) (D R0 R:Kw) (es:List (List Value)) (w:World):Prop:=
 ∀ (l:Nat) (X:Type) (Z:X→Asn) (I:Nat→X→Prop) (S:Nat→X→Prop) (x0:X),I 0 x0→St w (ar [Z x0]) [Z x0] w→Kd D [Z x0] w→(∀ w',(Z x0).holds w'→R0 w')→(∀ i x w',I i x→(Z x).holds w'→R w')→
  (∀ i x w',I i x→i<es.length→St w (ar [Z x0]) [Z x] w'→pz P l (es.getD i []) w' (Z x) Z (I (i+1)) (S i))→
  Gives P gf (.func (.yield l) #[] #[]::lb) [Z x0] w (X:=X×Option Nat) (fun _=> .tuple #[]) (fun y=>match y.2 with
   |none=>I es.length y.1
   |some i=>i<es.length∧S i y.1) (fun y=>[Z y.1])
section
variable {P:Program} {B:Bk none []} {n:Nat} {w0:World} {M:Nat→Prop} {k:List It} {T:aF} {H:List Asn} {c:Code}
theorem kv {X:Type} {g:Operand} {ps:List Tmp} {gf:FuncId} {lb:List Value} {D0 R0 R:Kw} {es:List (List Value)} (L:X→List Asn) (I:Nat→X→Prop) (S:Nat→X→Prop) (x0:X) (Hk:List Asn)
  (hk:eh c= .range g ps.toArray) (hg:az T g=some (.func (.func gf) #[] lb.toArray)) (hfn:Fn_ P gf) (hps:D7 n ps=true) (hes: ∀ e∈es,e.length=ps.length) (h0:I 0 x0)
  (hH: ∀ w,St w0 M H w→St w0 M (L x0++Hk) w) (hit: ∀ w,St w0 M (L x0++Hk) w→yM P gf lb D0 R0 R es w) (hF: ∀ w,St w0 M (L x0++Hk) w→Kd D0 (L x0) w) (hR0: ∀ w,(∀ A∈L x0,A.holds w)→R0 w) (hR: ∀ i x w,I i x→(∀ A∈L x,A.holds w)→R w)
  (round: ∀ i x w,I i x→i<es.length→St w0 M (L x++Hk) w→yL P n w0 M Hk c T (es.getD i []) ps w L x (I (i+1)) (S i))
  (done: ∀ y D,I es.length y→RS P (B.cast (jH D)) n w0 M k T (fE D (.deferred (some []))::(L y++Hk)))
  (stop: ∀ y D i,i<es.length→S i y→RS P (B.cast (jH D)) n w0 M (.code .ret::k) T (fE D (.deferred (some []))::(L y++Hk))):RS P B n w0 M (.code c::k) T H:=by
 cases c<;>try (cases hk;done)
 rename_i g' ps' asg bd
 injection hk with hk1 hk2
 subst hk1 hk2
 refine⟨fun a w had ha hs=>?_⟩
 show (Code.rangeFunc g' ps.toArray asg bd).wpIn (Fw none) 0 P (QS P B k) a w
 refine wpIn_rangeFunc fun fn _=>?_
 have hs0:=hH w hs
 obtain⟨rec,hrec⟩: ∃ rec:LoopState→Option Code→Loop,rec=xd fn a.tmps ps.toArray asg bd w.heap.size:=⟨_,O⟩
 obtain⟨l,hl⟩: ∃ l,w.heap.size+1=l:=⟨_,O⟩
 obtain⟨D,hD⟩: ∃ D,w.heap.size=D:=⟨_,O⟩
 obtain⟨w1,hw1⟩: ∃ w1,(w.alloc (.deferred (some []))).alloc (.loop (rec .ready none))=w1:=⟨_,O⟩
 have hs1:St w0 M (fE l (.loop (rec .ready none))::(L x0++(fE D (.deferred (some []))::Hk))) w1:=by
  have h1:=lK (.deferred (some [])) hs0
  have h2:=lK (.loop (rec .ready none)) h1
  rw[hw1,World.size_alloc,hl,hD] at h2
  exact h2.perm (List.Perm.cons _ List.perm_middle.symm)
 obtain⟨rj,hn,hsm⟩: ∃ rj:Option Code→Loop,rj none=rec .ready none∧rj (some .ret)=rec .done (some .ret):=⟨fun j=>match j with|none=>rec .ready none|some j=>rec .done (some j),O,O⟩
 obtain⟨Z,hZ⟩: ∃ Z:X×Option Code→Asn,Z=fun x=>pj (fE l (.loop (rj x.2))::L x.1):=⟨_,O⟩
 have hs2:St w0 M (Z (x0,none)::(fE D (.deferred (some []))::Hk)) w1:=by
  rw[hZ]
  simp only[hn]
  exact eU (L:=fE l (.loop (rec .ready none))::L x0) hs1
 have hsz:w.heap.size≤w1.heap.size:=by rw[← hw1];simp;omega
 have hit1:=hit w1 (hs1.tail.perm ((List.perm_middle).trans (List.Perm.refl _)) |>.tail)
 have hagain:St w1 (ar [Z (x0,none)]) [Z (x0,none)] w1:=St.again (As:=[Z (x0,none)]) hs2
 refine⟨l,jH D,w1,{target:= .fn (.func gf) lb.toArray,args:=#[.func (.yield l) #[] #[]]},w1,gf,#[.func (.yield l) #[] #[]]++lb.toArray,w1,?_,?_,fun _ _=>trivial,?_,fun h=>(by cases h),?_⟩
 ·have:=run_enterLoop_outer (P:=P) (w:=w) fn a.tmps ps.toArray asg bd
  rw[hl] at this
  rw[← hw1,hrec, ← hD]
  exact this
 ·have e1:=ha.eval hg
  have e2:a.eval (.const (.func (.yield l) #[] #[]))= .func (.yield l) #[] #[]:=rfl
  simp[resolve,rangeCall,e1,e2,Deferred.ofValue]
 ·have:=gn hfn (#[.func (.yield l) #[] #[]]++lb.toArray) w1
  simpa[invoke] using this
 refine callsIn_wide.2 ?_
 have hcall:=hit1 l (X×Option Code) Z (fun i x=>x.2=none∧I i x.1) (fun i x=>x.2=some .ret∧S i x.1) (x0,none) ⟨O,h0⟩ hagain (fun w2 hk2=>?_) (fun w2 hw2=>hR0 w2 fun A hA=>by rw[hZ] at hw2;exact hw2.1 A (List.mem_cons_of_mem _ hA)) (fun i x w2 hI2 hw2=>hR i x.1 w2 hI2.2 fun A hA=>by rw[hZ] at hw2;exact hw2.1 A (List.mem_cons_of_mem _ hA)) ?_
 ·have e3:(Value.func (.yield l) #[] #[]::lb).toArray=#[.func (.yield l) #[] #[]]++lb.toArray:=by simp
  unfold Gives at hcall
  rw[e3] at hcall
  refine hcall.mono fun e w3 ⟨y,he,hy,hS3⟩=>?_
  subst he
  have h4:St w0 M ([Z y.1]++(fE D (.deferred (some []))::Hk)) w3:=St.call (As:=[Z (x0,none)]) hs2 hS3
  obtain⟨⟨y1,y2⟩,y3⟩:=y
  have hfin: ∀ (st:LoopState) (pe:Option Code),St w0 M (fE l (.loop (rec st pe))::(L y1++(fE D (.deferred (some []))::Hk))) w3→st≠ .busy→ ∃ w4,(Instr.endLoop l).run P w3= .ok pe w4∧St w0 M (fE D (.deferred (some []))::(L y1++Hk)) w4:=fun st pe h hb=>by
   have h5:=run_endLoop (P:=P) (fH h) (by rw[hrec];exact hb)
   refine⟨_,by rw[h5,hrec];rfl,?_⟩
   exact((fR _ h).tail).perm List.perm_middle
  have hdef:jH D++a.defers=jH D:=by rw[had];rfl
  rw[hZ] at h4
  cases y3 with
  |none=>
   obtain⟨rfl,hI⟩:y2=none∧I es.length y1:=hy
   obtain⟨w4,h5,h6⟩:=hfin .ready none (by simp only[hn] at h4;exact fp h4) (by decide)
   refine⟨none,w4,h5,?_⟩
   have:=(done y1 D hI).runD {a with defers:=jH D++a.defers} w4 hdef ⟨ha.size,ha.at_⟩ h6
   rwa [gN] at this
  |some i=>
   obtain⟨hi,rfl,hSt⟩:i<es.length∧y2=some .ret∧S i y1:=hy
   obtain⟨w4,h5,h6⟩:=hfin .done (some .ret) (by simp only[hsm] at h4;exact fp h4) (by decide)
   refine⟨some .ret,w4,h5,?_⟩
   have:=(stop y1 D i hi hSt).runD {a with defers:=jH D++a.defers} w4 hdef ⟨ha.size,ha.at_⟩ h6
   rw[gN] at this
   exact this
 ·have hk0:Kp bC w w1:=by
   rw[← hw1]
   exact(Kp.alloc w _).trans (Kp.alloc _ _)
  refine hF w hs0 w2 ⟨hk0.os▸hk2.os,hk0.tape▸hk2.tape,hk0.output▸hk2.output,Nat.le_trans hsz hk2.size,fun q hq hlt=>?_⟩
  rw[hk2.block q (fun ho=>?_) (Nat.lt_of_lt_of_le hlt hsz)]
  ·exact hk0.block q trivial hlt
  ·rw[hZ] at ho
   obtain⟨A,hA,hk⟩:=kr.1 ho
   rcases List.mem_cons.1 hA with rfl|hA
   ·have hk:q=l:=hk
    omega
   ·exact hq ⟨A,hA,hk⟩
 ·rintro i ⟨x,x2⟩ w' ⟨hx2,hI⟩ hi hSw
  obtain rfl:x2=none:=hx2
  have h4:St w0 M (Z (x,none)::(fE D (.deferred (some []))::Hk)) w':=St.call (As:=[Z (x0,none)]) hs2 hSw
  rw[hZ] at h4
  simp only[hn] at h4
  have h5:St w0 M (fE l (.loop (rec .ready none))::(L x++(fE D (.deferred (some []))::Hk))) w':=fp h4
  have h6:St w0 M (L x++Hk) w':=(h5.tail.perm List.perm_middle).tail
  have hat:=fH h5
  have hlen:(es.getD i []).length=ps.length:=hes _ (by simp[List.getD,hi])
  have hr0:=round i x w' hI hi h6
  have hag:St w' (ar (fE l (.loop (rec .ready none))::L x)) (fE l (.loop (rec .ready none))::L x) w':=St.again (As:=fE l (.loop (rec .ready none))::L x) (Hr:=fE D (.deferred (some []))::Hk) h5
  refine⟨fn,((ps.toArray.zip (es.getD i []).toArray).foldl (fun tmps (t,a)=>tmps.setIfInBounds t a) a.tmps),asg,bd,?_,roundIn_of_wpIn trivial ?_⟩
  ·have h7:=run_yield (P:=P) (args:=(es.getD i []).toArray) hat (by rw[hrec];simpa[xd] using hlen)
   rw[h7,hrec]
   rfl
  ·have hf:((ps.toArray.zip (es.getD i []).toArray).foldl (fun tmps (x:Tmp×Value)=>tmps.setIfInBounds x.1 x.2) a.tmps)=((ps.zip (es.getD i [])).foldl (fun tmps (x:Tmp×Value)=>tmps.setIfInBounds x.1 x.2) a.tmps):=by
    rw[← Array.foldl_toList,Array.toList_zip]
   have hTm:Tm n {tmps:=((ps.toArray.zip (es.getD i []).toArray).foldl (fun tmps (x:Tmp×Value)=>tmps.setIfInBounds x.1 x.2) a.tmps),defers:=[]} (oe ps (es.getD i []) T):=by
    rw[hf]
    exact Tm.puts ps (es.getD i []) a T ha hps
   obtain⟨R,hR⟩: ∃ R:Ending→World→Prop,R=fun e w''=> ∃ (y:X×Option Code) (b:Bool),e= .returned (.bool b)∧(b=true→y.2=none∧I (i+1) y.1)∧(b=false→y.2=some .ret∧S i y.1)∧St w' (ar [Z (x,none)]) [Z y] w'':=⟨_,O⟩
   rw[← hR]
   have hclose: ∀ (y:X) (j:Option Code) (w2:World),St w' (ar (fE l (.loop (rec .ready none))::L x)) (fE l (.loop (rj j))::L y) w2→St w' (ar [Z (x,none)]) [Z (y,j)] w2:=fun y j w2 h=>by
    rw[hZ]
    simp only[hn]
    refine St.own (eU (H:=[]) (L:=fE l (.loop (rj j))::L y) (by rw[List.append_nil];exact h)) fun q=>kr.symm
   have:=hr0 l (fE l (.loop (rec .ready none))) (fE l (.loop {rec .ready none with state:= .busy})) (fun _ _ _=>False) (roundPost P l R) (fun a₁ w₁=> ∃ w₂,(Instr.beginRound l).run P w₁= .ok () w₂∧bd.wpIn (Fw (some l)) 0 P (roundPost P l R) a₁ w₂) (by
     have h7:St w0 M (fE D (.deferred (some []))::(fE l (.loop (rec .ready none))::(L x++Hk))) w':=h5.perm ((List.Perm.cons _ List.perm_middle).trans (List.Perm.swap _ _ _))
     exact h7.tail)
    (fun T1 H1 H1' hbody hsub=>⟨fun a w2 had2 ha2 hs2=>⟨w2.putObj l _,run_beginRound (fH (hsub w2 hs2)) (by rw[hrec];rfl),hbody.runD a _ had2 ha2 (fR _ (hsub w2 hs2))⟩⟩)
    (fun y T1 H1 hI1 hsub=>⟨fun a w2 _ _ hs2=>by
     have h8:=hsub w2 hs2
     refine⟨_,_,run_endRound none (fH h8),?_⟩
     rw[hR]
     refine⟨(y,none),true,O,fun _=>⟨O,hI1⟩,fun h=>(by cases h),hclose y none _ ?_⟩
     have h9:=fR (.loop {({rec .ready none with state:= .busy}:Loop) with state:= .ready,pending:=none}) h8
     rw[hn]
     rw[hrec] at h9 ⊢
     exact h9⟩)
    (fun y c' k' T1 H1 hS1 hk' hsub=>⟨fun a w2 _ _ hs2=>by
     have h8:=hsub w2 hs2
     have e:c'= .ret:=by cases c'<;>first|rfl|(cases hk';done)
     subst e
     refine wpIn_ret (gE (fun _ _=> .inr trivial) ?_)
     refine⟨_,_,run_endRound (some .ret) (fH h8),?_⟩
     rw[hR]
     refine⟨(y,some .ret),false,O,fun h=>(by cases h),fun _=>⟨O,hS1⟩,hclose y (some .ret) _ ?_⟩
     have h9:=fR (.loop {({rec .ready none with state:= .busy}:Loop) with state:= .done,pending:=some .ret}) h8
     rw[hsm]
     rw[hrec] at h9 ⊢
     exact h9⟩)
   exact this.runD _ w' O hTm hag
end
theorem kw {P:Program} {f:FuncId} {fn:Func} {vs:List Value} {n:Nat} {w:World} {As:List Asn} {X:Type} {I:X→Prop} {A:X→List Asn} (hf:P.funcs[f]? =some fn) (hb:fn.body.isSome=true) (hn:fn.ntmps=n) (hr:fn.results=#[])
  (hv:vs.length≤n) (hS:St w (ar As) As w) (h: ∀ B:Bk none [],
   (∀ (T:aF) (H:List Asn),(∀ w',St w (ar As) H w'→ ∃ x,I x∧St w (ar As) (A x) w')→RS P B n w (ar As) [] T H)→
   (∀ (c:Code) (k:List It) (T:aF) (H:List Asn),eh c= .ret→(∀ w',St w (ar As) H w'→ ∃ x,I x∧St w (ar As) (A x) w')→RS P B n w (ar As) (.code c::k) T H)→
   (∀ (D:Nat) (T:aF) (H Hr:List Asn),RemC H (fE D (.deferred (some []))) Hr→(∀ w',St w (ar As) Hr w'→ ∃ x,I x∧St w (ar As) (A x) w')→RS P (B.cast (jH D)) n w (ar As) [] T H)→
   RS P B n w (ar As) [.code (dM fn)] (jL 0 vs) As):Gives P f vs As w (fun _=> .tuple #[]) I A:=by
 obtain⟨c,hc⟩:=Option.isSome_iff_exists.1 hb
 obtain⟨R,hR⟩: ∃ R:Ending→World→Prop,R=fun e w'=> ∃ x,e= .returned (.tuple #[])∧I x∧St w (ar As) (A x) w':=⟨_,O⟩
 unfold Gives
 have hR2:(fun e w'=> ∃ x:X,e=Ending.returned ((fun _=>Value.tuple #[]) x)∧I x∧St w (ar As) (A x) w')=R:=hR.symm
 rw[hR2]
 have hres: ∀ {T:aF} {H:List Asn} {a:Act} {w':World},Tm n a T→St w (ar As) H w'→(results fn a.tmps).run P w'= .ok (.tuple #[]) w':=fun {T H a w'} ha hs=>by
  simp[results,hr]
 refine(callsIn_wide (n:=0)).1 (callsIn_of_wp_marks hf hc trivial ?_)
 have hmain:=h (bodyPostM Fence.wide 0 P fn R) (fun T H hw=>⟨fun a w' had ha hs=>by
  show LeavesInM Fence.wide 0 P fn a.tmps R a.defers .returning w'
  rw[had]
  obtain⟨x,hI,hA⟩:=hw w' hs
  exact⟨.tuple #[],hres ha hs,by rw[hR];exact⟨x,O,hI,hA⟩⟩⟩) (fun c' k T H hk hw=>⟨fun a w' had ha hs=>by
  have e:c'= .ret:=by cases c'<;>first|rfl|(cases hk;done)
  subst e
  refine wpIn_ret (gE (fun _ _=> .inr trivial) ?_)
  show LeavesInM Fence.wide 0 P fn a.tmps R a.defers .returning w'
  rw[had]
  obtain⟨x,hI,hA⟩:=hw w' hs
  exact⟨.tuple #[],hres ha hs,by rw[hR];exact⟨x,O,hI,hA⟩⟩⟩) (fun D T H Hr hrem hw=>⟨fun a w' had ha hs=>by
  show LeavesInM Fence.wide 0 P fn a.tmps R a.defers .returning w'
  rw[had]
  have hs1:=hs.perm hrem.perm
  have hs2:=(fR (.deferred none) hs1).tail
  obtain⟨x,hI,hA⟩:=hw _ hs2
  exact⟨by simp,.inl ⟨D,_,O,run_takeDeferred (fH hs1),.tuple #[],hres ha hs2,by rw[hR];exact⟨x,O,hI,hA⟩⟩⟩⟩)
 have e:dM fn=c:=by unfold dM;rw[hc]
 rw[e] at hmain
 refine hmain.runD _ w O ⟨?_,fun i v hi=>?_⟩ hS
 ·simp[hn];omega
 ·obtain⟨_,h2⟩:=iC vs 0 i v hi
  have hlt:=(List.getElem?_eq_some_iff.1 h2).1
  simp only[Nat.sub_zero] at hlt h2
  have h3:(vs.toArray++Array.replicate (fn.ntmps-vs.toArray.size) undef)[i]? =vs[i]? :=by rw[Array.getElem?_append_left (by simpa using hlt)];simp
  exact h3.trans h2
abbrev mR (kd:IntKind) (s:Int):Value:= .int kd s
abbrev zk (s:Int):Value:=mR .i64 s
theorem uu {kd:IntKind} {a b:Int} (h:mR kd a=mR kd b):a=b:=by injection h
theorem gg {kd:IntKind} (s:Int):MapKept.IsKey (.int kd) (mR kd s):=by simp[MapKept.IsKey]
def xg (kd:IntKind) (g:Nat) (f:Int→Option Value) (w:World):Prop:= ∃ es clock,w.heap[g]? =some (.map es clock)∧(∀ x∈es.toList,MapKept.IsKey (.int kd) x.key)∧(es.toList.map (·.key)).Nodup∧
 (∀ e∈es.toList, ∀ s,e.key=mR kd s→f s=some e.val)∧ ∀ s,(∀ e∈es.toList,e.key≠mR kd s)→f s=none
def er (kd:IntKind) (g:Nat) (f:Int→Option Value):Asn:= .any (fun k=>k=g) (xg kd g f) (fun w w' hk ⟨es,clock,h1,h2⟩=>⟨es,clock,by
 have hlt:g<w.heap.size:=(Array.getElem?_eq_some_iff.1 h1).1
 rw[hk.block g O hlt];exact h1,h2⟩)
abbrev D8 (g:Nat) (f:Int→Option Value):Asn:=er .i64 g f
section
variable {P:Program} {ro:Option Nat} {ds:List Deferred} {B:Bk ro ds} {n:Nat} {w0:World} {M:Nat→Prop} {k:List It} {T:aF} {H Hr:List Asn} {dd:Option Tmp} {tt:TypeId} {pos:String} {af:Array Edge} {g:Option (Nat×Bool)} {x y z:Operand} {ts:Array TypeId}
theorem ol (kd:IntKind) {t:TypeId}:Ef P n w0 M T H ⟨dd,.makeMap t none,tt,pos,af,g⟩ (fun u H'=> ∃ b,u= .map (some b)∧H'=er kd b (fun _=>none)::H):= .mk fun a w ha hS=>by
 unfold Oper.wp
 have:(execOp a.eval ⟨dd,.makeMap t none,tt,pos,af,g⟩).run P w= .ok (.value (.map (some w.heap.size))) (w.alloc (.map #[] 0)):=by
  simp[execOp,Instr.makeMap]
 rw[this]
 refine⟨_,_,⟨w.heap.size,O,O⟩,O,hS.add (Kp.alloc w _) ⟨#[],0,?_,by simp,by simp,by simp,by simp⟩ (fun k hk=>?_)⟩
 ·show (w.heap.push _)[w.heap.size]? =_
  simp
 ·have hk:k=w.heap.size:=hk
  subst hk
  simp
theorem uw {t:TypeId}:Ef P n w0 M T H ⟨dd,.makeMap t none,tt,pos,af,g⟩ (fun u H'=> ∃ b,u= .map (some b)∧H'=D8 b (fun _=>none)::H):=ol .i64
theorem il [HasTab P] {kd:IntKind} {t kt et:TypeId} {b:Nat} {f:Int→Option Value} {s:Int} {v:Value} {i ki:Ti} (hx:az T x=some (.map (some b))) (hy:az T y=some (mR kd s)) (hz:az T z=some v) (ht:ty P t=some i) (hi:i.desc= .map kt et) (hk:ty P kt=some ki) (hki:ki.desc= .int kd) [hr:RemC H (er kd b f) Hr]:
  Ef P n w0 M T H ⟨none,.mapUpdate t x y z,tt,pos,af,g⟩ (fun _ H'=>H'=er kd b (fun r=>if r=s then some v else f r)::Hr):= .mk fun a w ha hS=>by
 have hS1:=hS.perm hr.perm
 have hm:P.underlying t=some (.map kt et):=hi▸cH ht
 have hd:P.underlying kt=some (.int kd):=hki▸cH hk
 obtain⟨es,clock,hb,hks,hnd,hf1,hf2⟩:xg kd b f w:=hS1.at_ (A:=er kd b f) (by simp)
 have key: ∃ es' clock',(Instr.mapUpdate t (.map (some b)) (mR kd s) v).run P w= .ok () {w with heap:=w.heap.setIfInBounds b (.map es' clock')}∧(∀ x∈es'.toList,MapKept.IsKey (.int kd) x.key)∧(es'.toList.map (·.key)).Nodup∧
   (∀ e∈es'.toList, ∀ r,e.key=mR kd r→(if r=s then some v else f r)=some e.val)∧ ∀ r,(∀ e∈es'.toList,e.key≠mR kd r)→(if r=s then some v else f r)=none:=by
  rcases MapKept.findNow_spec (gg s) es.toList 0 hks with⟨h1,h2⟩|⟨j,e,h1,h2,h3⟩
  ·refine⟨es.push {key:=mR kd s,val:=v,born:=clock},clock+1,?_,?_,?_,?_,?_⟩
   ·simp[Instr.mapUpdate,run_underlying hm,MapKept.run_getObj_map hb,MapKept.run_checkKey hd (gg s),MapKept.run_findKey hd h1,MapKept.run_setObj_map _ hb,Result.andThen]
   ·intro x hx
    simp only[Array.toList_push,List.mem_append,List.mem_singleton] at hx
    rcases hx with hx|rfl
    ·exact hks x hx
    ·exact gg s
   ·simp only[Array.toList_push,List.map_append,List.map_cons,List.map_nil]
    rw[List.nodup_append]
    refine⟨hnd,by simp,fun x hx y hy=>?_⟩
    obtain⟨e,he,rfl⟩:=List.mem_map.1 hx
    simp at hy
    subst hy
    exact h2 e he
   ·intro e he r hr
    simp only[Array.toList_push,List.mem_append,List.mem_singleton] at he
    rcases he with he|rfl
    ·have hne:r≠s:=fun q=>h2 e he (by rw[hr,q])
     rw[if_neg hne]
     exact hf1 e he r hr
    ·rw[if_pos (uu hr).symm]
   ·intro r hr
    simp only[Array.toList_push,List.mem_append,List.mem_singleton] at hr
    have hne:r≠s:=fun q=>hr _ (.inr O) (by rw[q])
    rw[if_neg hne]
    exact hf2 r fun e he=>hr e (.inl he)
  ·have hj:es[j]? =some e:=by simpa using h2
   have hjl:j<es.size:=(Array.getElem?_eq_some_iff.1 hj).1
   have hml: ∀ y,y∈(es.modify j fun e=>{e with key:=mR kd s,val:=v}).toList→(y.key=mR kd s∧y.val=v)∨(y∈es.toList∧y.key≠mR kd s):=fun y hy=>by
    obtain⟨q,hq,rfl⟩:=List.getElem_of_mem hy
    have hq:q<es.size:=by simpa using hq
    simp only[Array.getElem_toList,Array.getElem_modify]
    split
    ·exact .inl ⟨O,O⟩
    ·rename_i hjq
     refine .inr ⟨Array.getElem_mem_toList hq,fun hk=>?_⟩
     have h4:=List.pairwise_iff_getElem.1 hnd
     have e1:es[j]=e:=(Array.getElem?_eq_some_iff.1 hj).2
     have h5:(es.toList.map (·.key))[q]'(by simpa using hq)=(es.toList.map (·.key))[j]'(by simpa using hjl):=by simp[hk,e1,h3]
     rcases Nat.lt_trichotomy q j with h6|h6|h6
     ·exact h4 q j (by simpa using hq) (by simpa using hjl) h6 h5
     ·exact hjq h6.symm
     ·exact h4 j q (by simpa using hjl) (by simpa using hq) h6 h5.symm
   have hke:((es.modify j fun e=>{e with key:=mR kd s,val:=v}).toList.map (·.key))=es.toList.map (·.key):=by
    apply List.ext_getElem
    ·simp
    ·intro q h5 h6
     have hq:q<es.size:=by simpa using h6
     simp only[List.getElem_map,Array.getElem_toList,Array.getElem_modify]
     split
     ·rename_i hjq
      subst hjq
      have e1:es[j]=e:=(Array.getElem?_eq_some_iff.1 hj).2
      rw[e1,h3]
     ·rfl
   refine⟨es.modify j fun e=>{e with key:=mR kd s,val:=v},clock,?_,?_,?_,?_,?_⟩
   ·simp[Instr.mapUpdate,run_underlying hm,MapKept.run_getObj_map hb,MapKept.run_checkKey hd (gg s),MapKept.run_findKey hd h1,hj,h3,MapKept.run_keyThatStays (gg s),MapKept.run_setObj_map _ hb,Result.andThen]
   ·intro y hy
    rcases hml y hy with⟨h4,_⟩|⟨h4,_⟩
    ·rw[h4];exact gg s
    ·exact hks y h4
   ·rw[hke];exact hnd
   ·intro y hy r hr
    rcases hml y hy with⟨h4,h5⟩|⟨h4,h5⟩
    ·rw[if_pos (uu (h4.symm.trans hr)).symm,h5]
    ·rw[if_neg (fun q=>h5 (by rw[hr,q]))]
     exact hf1 y h4 r hr
   ·intro r hr
    have hr2: ∀ k,k∈es.toList.map (·.key)→k≠mR kd r:=fun k hk=>by
     rw[← hke] at hk
     obtain⟨y,hy,rfl⟩:=List.mem_map.1 hk
     exact hr y hy
    have hne:r≠s:=fun q=>hr2 (mR kd s) (List.mem_map.2 ⟨e,List.mem_of_getElem? h2,h3⟩) (by rw[q])
    rw[if_neg hne]
    exact hf2 r fun e' he'=>hr2 _ (List.mem_map_of_mem he')
 obtain⟨es',clock',hrun,k1,k2,k3,k4⟩:=key
 have hlt:b<w.heap.size:=(Array.getElem?_eq_some_iff.1 hb).1
 unfold Oper.wp
 have:(execOp a.eval ⟨none,.mapUpdate t x y z,tt,pos,af,g⟩).run P w= .ok .skip {w with heap:=w.heap.setIfInBounds b (.map es' clock')}:=by
  simp[execOp,ha.eval hx,ha.eval hy,ha.eval hz,hrun]
 rw[this]
 refine⟨undef,_,O,O,hS1.upd (A:=er kd b f) .here ⟨O,O,O,by simp,fun q hq hlt=>?_⟩ ⟨es',clock',by simp[hlt],k1,k2,k3,k4⟩ (fun _ h=>h)⟩
 have hq: ¬ q=b:=hq
 simp[Ne.symm hq]
theorem gA [HasTab P] {kd:IntKind} {t kt et:TypeId} {b:Nat} {f:Int→Option Value} {s:Int} {v:Value} {i ki ei:Ti} (hx:az T x=some (.map (some b))) (hy:az T y=some (mR kd s)) (ht:ty P t=some i) (hi:i.desc= .map kt et) (hk:ty P kt=some ki) (hki:ki.desc= .int kd) (he:ty P et=some ei) [hr:RemC H (er kd b f) Hr] (hv:(f s).getD ei.zero=v):
  Tk P n w0 M T H ⟨dd,.lookup t x y false,tt,pos,af,g⟩ v:= .mk fun a w ha hS=>by
 subst hv
 have hS1:=hS.perm hr.perm
 have hm:P.underlying t=some (.map kt et):=hi▸cH ht
 have hd:P.underlying kt=some (.int kd):=hki▸cH hk
 obtain⟨es,clock,hb,hks,hnd,hf1,hf2⟩:xg kd b f w:=hS1.at_ (A:=er kd b f) (by simp)
 rcases MapKept.findNow_spec (gg s) es.toList 0 hks with⟨h1,h2⟩|⟨j,e,h1,h2,h3⟩
 ·rw[hf2 s h2]
  simp[execOp,ha.eval hx,ha.eval hy,Instr.lookup,run_underlying hm,MapKept.run_getObj_map hb,MapKept.run_checkKey hd (gg s),MapKept.run_findKey hd h1,kc he,Result.andThen]
 ·rw[hf1 e (List.mem_of_getElem? h2) s h3]
  simp[execOp,ha.eval hx,ha.eval hy,Instr.lookup,run_underlying hm,MapKept.run_getObj_map hb,MapKept.run_checkKey hd (gg s),MapKept.run_findKey hd h1,Result.andThen]
theorem js [HasTab P] {kd:IntKind} {t kt et:TypeId} {b:Nat} {f:Int→Option Value} {s:Int} {v:Value} {i ki ei:Ti} (hx:az T x=some (.map (some b))) (hy:az T y=some (mR kd s)) (ht:ty P t=some i) (hi:i.desc= .map kt et) (hk:ty P kt=some ki) (hki:ki.desc= .int kd) (he:ty P et=some ei) [hr:RemC H (er kd b f) Hr] (hv:(f s).getD ei.zero=v) {bo:Bool} (hbo:(f s).isSome=bo):
  Tk P n w0 M T H ⟨dd,.lookup t x y true,tt,pos,af,g⟩ (.tuple #[v,.bool bo]):= .mk fun a w ha hS=>by
 subst hv
 subst hbo
 have hS1:=hS.perm hr.perm
 have hm:P.underlying t=some (.map kt et):=hi▸cH ht
 have hd:P.underlying kt=some (.int kd):=hki▸cH hk
 obtain⟨es,clock,hb,hks,hnd,hf1,hf2⟩:xg kd b f w:=hS1.at_ (A:=er kd b f) (by simp)
 rcases MapKept.findNow_spec (gg s) es.toList 0 hks with⟨h1,h2⟩|⟨j,e,h1,h2,h3⟩
 ·rw[hf2 s h2]
  simp[execOp,ha.eval hx,ha.eval hy,Instr.lookup,run_underlying hm,MapKept.run_getObj_map hb,MapKept.run_checkKey hd (gg s),MapKept.run_findKey hd h1,kc he,Result.andThen]
 ·rw[hf1 e (List.mem_of_getElem? h2) s h3]
  simp[execOp,ha.eval hx,ha.eval hy,Instr.lookup,run_underlying hm,MapKept.run_getObj_map hb,MapKept.run_checkKey hd (gg s),MapKept.run_findKey hd h1,Result.andThen]
end
end Go.Proofs.YtdeffdldifepkaaGreat
