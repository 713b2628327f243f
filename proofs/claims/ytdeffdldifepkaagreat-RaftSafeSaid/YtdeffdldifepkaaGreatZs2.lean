/- Lemmas of the proof, part 2. -/
import Derived.Test.YtdeffdldifepkaaGreatProg
import Derived.Deep.QuietTactic
import Derived.BigQuiet
import Derived.Test.YtdeffdldifepkaaGreatZs1
set_option maxRecDepth 100000
set_option maxHeartbeats 4000000
namespace Go.Proofs.YtdeffdldifepkaaGreat
open Go.RowKit
open Asn (pt row rb)
set_option linter.unusedVariables false
section
variable {P:Program} {ro:Option Nat} {ds:List Deferred} {B:Bk ro ds} {n:Nat} {w0:World} {M:Nat→Prop} {k:List It} {T:aF} {H C:List Asn} {d:Tmp} {dd:Option Tmp} {tt:TypeId} {pos:String} {af:Array Edge} {g:Option (Nat×Bool)} {l σ:List Oper} {op:Op} {v:Value} {c:Code} {x:Operand} {L:Array Bool}
theorem qp [HasTab P] (h:RG P B n w0 M l k σ ((d,v)::T) H) (hr:xa P T op=some v:=by exact rfl) (hw:cJ l T g=some true:=by exact rfl) (hd:i1 n (some d)=true:=by exact rfl):RG P B n w0 M l k (⟨some d,op,tt,pos,af,g⟩::σ) T H:=bM hr h hw hd
theorem qk (h:RG P B n w0 M l k σ ((d,undef)::T) H) (hw:cJ l T g=some false:=by exact rfl) (hd:i1 n (some d)=true:=by exact rfl):RG P B n w0 M l k (⟨some d,op,tt,pos,af,g⟩::σ) T H:=aU h hw hd
theorem qd [HasTab P] (h:RG P B n w0 M l k σ ((d,.bool true)::T) H) (ht:Tk P n w0 M T H ⟨some d,op,tt,pos,af,g⟩ (.bool true):=by first|exact ay rfl (by omega)|exact gX rfl) (hw:cJ l T g=some true:=by exact rfl) (hd:i1 n (some d)=true:=by exact rfl):RG P B n w0 M l k (⟨some d,op,tt,pos,af,g⟩::σ) T H:=aa ht h hw hd
theorem qf [HasTab P] (h:RG P B n w0 M l k σ ((d,.bool false)::T) H) (ht:Tk P n w0 M T H ⟨some d,op,tt,pos,af,g⟩ (.bool false):=by first|exact aB rfl (by omega)|exact gX rfl) (hw:cJ l T g=some true:=by exact rfl) (hd:i1 n (some d)=true:=by exact rfl):RG P B n w0 M l k (⟨some d,op,tt,pos,af,g⟩::σ) T H:=aa ht h hw hd
theorem qt (hr:Tk P n w0 M T H ⟨some d,op,tt,pos,af,g⟩ v) (h:RG P B n w0 M l k σ ((d,v)::T) H) (hw:cJ l T g=some true:=by exact rfl) (hd:i1 n (some d)=true:=by exact rfl):RG P B n w0 M l k (⟨some d,op,tt,pos,af,g⟩::σ) T H:=aa hr h hw hd
theorem qe {E:Value→List Asn→Prop} (hr:Ef P n w0 M T H ⟨some d,op,tt,pos,af,g⟩ E) (h: ∀ v H',E v H'→RG P B n w0 M l k σ ((d,v)::T) H') (hw:cJ l T g=some true:=by exact rfl) (hd:i1 n (some d)=true:=by exact rfl):RG P B n w0 M l k (⟨some d,op,tt,pos,af,g⟩::σ) T H:=an hr h hw hd
theorem qw {E:Value→List Asn→Prop} (hr:Ef P n w0 M T H ⟨none,op,tt,pos,af,g⟩ E) (h: ∀ v H',E v H'→RG P B n w0 M l k σ T H') (hw:cJ l T g=some true:=by exact rfl):RG P B n w0 M l k (⟨none,op,tt,pos,af,g⟩::σ) T H:=bh hr h hw
theorem qh [HasTab P] {f:FuncId} {xs:Array Operand} {ts:Array TypeId} {vs vs':List Value} {I:Unit→Prop} {V:Unit→Value} (hf:Fn_ P f) (hc: ∀ w,St w0 M H w→Gives P f vs' [] w (X:=Unit) V I (fun _=>[])) (h:RG P B n w0 M l k σ ((d,V ())::T) H) (hx:cg T xs.toList=some vs:=by exact rfl) (hv:vs=vs':=by exact rfl) (hw:cJ l T g=some true:=by exact rfl) (hd:i1 n (some d)=true:=by exact rfl):RG P B n w0 M l k (⟨some d,.call ⟨.value (.func f),xs,ts⟩,tt,pos,af,g⟩::σ) T H:=by
 subst hv
 refine an (gG hf hx hc fun _=>rfl) ?_ hw hd
 rintro _ _ ⟨⟨⟩,rfl,_,rfl⟩
 exact h
theorem qE {w:World} {H:List Asn} {V:Unit→Value} {u:Value} (he:u=V ()): ∀ w',St w (ar []) H w'→ ∃ x:Unit,u=V x∧True∧St w (ar []) [] w':=fun w' hS=>⟨(),he,trivial,hS.sublist (List.nil_sublist _)⟩
theorem qz (h:RS P B n w0 M k T H):RG P B n w0 M l k [] T H:=ax h
theorem qr {l:List Oper} (h:RG P B n w0 M (gY c) k l T H) (hk:eh c= .region false:=by exact rfl) (hl:gY c=l:=by exact rfl):RS P B n w0 M (.code c::k) T H:=al hk hl h
theorem qq (h:RS P B n w0 M (.code (c1 c):: .code (c2 c)::k) T H) (hk:eh c= .seq:=by exact rfl):RS P B n w0 M (.code c::k) T H:=au hk h
theorem qs {l:List Oper} (h:RG P B n w0 M (gY (c1 c)) (.code (c2 c)::k) l T H) (hk:eh c= .seq:=by exact rfl) (hk2:eh (c1 c)= .region false:=by exact rfl) (hl:gY (c1 c)=l:=by exact rfl):RS P B n w0 M (.code c::k) T H:=au hk (al hk2 hl h)
theorem qn {l l':List Oper} (h:RG P B n w0 M (gY (c1 c)) (.code (c2 c)::k) l T H) (hk:eh c= .seq:=by exact rfl) (hk2:eh (c1 c)= .region false:=by exact rfl) (hl:gY (c1 c)=l:=by exact rfl):RG P B n w0 M l' (.code c::k) [] T H:=ax (au hk (al hk2 hl h))
theorem qT (h:RS P B n w0 M (.code (c1 c)::k) T H) (hk:eh c= .cond x:=by exact rfl) (hc:az T x=some (.bool true):=by exact rfl):RS P B n w0 M (.code c::k) T H:=aC hk hc h
theorem qF (h:RS P B n w0 M (.code (c2 c)::k) T H) (hk:eh c= .cond x:=by exact rfl) (hc:az T x=some (.bool false):=by exact rfl):RS P B n w0 M (.code c::k) T H:=aA hk hc h
theorem qx (h:RS P B n w0 M k T H) (hk:eh c= .skip:=by exact rfl):RS P B n w0 M (.code c::k) T H:=aM hk h
theorem qb {id:Nat} (h:RS P B n w0 M (.code (c1 c):: .blk id::k) T H) (hk:eh c= .block id:=by exact rfl):RS P B n w0 M (.code c::k) T H:=aG hk h
theorem dt (i:Nat) (ho:l[i]? =some ⟨some d,op,tt,pos,af,g⟩) (ht:Tk P n w0 M T C ⟨some d,op,tt,pos,af,g⟩ v) (h:RD P B n w0 M l k (L.setIfInBounds i true) C ((d,v)::T) H)
  (hw:cJ l T g=some true:=by exact rfl) (hd:i1 n (some d)=true:=by exact rfl) (hf:Region.free .any l.toArray L i=true:=by kernel_rfl) (hr:(Region.ready .any l.toArray L).contains i=true:=by kernel_rfl):RD P B n w0 M l k L C T H:=lT i ho ht h hw hd hf hr
end
end Go.Proofs.YtdeffdldifepkaaGreat
namespace Go.Proofs.YtdeffdldifepkaaGreat
open Go.RowKit
theorem F9:Fn_ Tryz.prog 9:=⟨_,Tryz.func9,rfl,by kernel_rfl⟩
theorem FD:Fn_ Tryz.prog 10:=⟨_,Tryz.func10,rfl,by kernel_rfl⟩
theorem GF:Fn_ Tryz.prog 11:=⟨_,Tryz.func11,rfl,by kernel_rfl⟩
theorem GG:Fn_ Tryz.prog 12:=⟨_,Tryz.func12,rfl,by kernel_rfl⟩
theorem Gn:Fn_ Tryz.prog 14:=⟨_,Tryz.func14,rfl,by kernel_rfl⟩
theorem Am:Fn_ Tryz.prog 15:=⟨_,Tryz.func15,rfl,by kernel_rfl⟩
theorem D9:Fn_ Tryz.prog 16:=⟨_,Tryz.func16,rfl,by kernel_rfl⟩
theorem Gp:Fn_ Tryz.prog 17:=⟨_,Tryz.func17,rfl,by kernel_rfl⟩
theorem FE:Fn_ Tryz.prog 24:=⟨_,Tryz.func24,rfl,by kernel_rfl⟩
theorem wK:Fn_ Tryz.prog 30:=⟨_,Tryz.func30,rfl,by kernel_rfl⟩
theorem Gq:Fn_ Tryz.prog 33:=⟨_,Tryz.func33,rfl,by kernel_rfl⟩
theorem GH:Fn_ Tryz.prog 36:=⟨_,Tryz.func36,rfl,by kernel_rfl⟩
theorem FF:Fn_ Tryz.prog 37:=⟨_,Tryz.func37,rfl,by kernel_rfl⟩
theorem GJ:Fn_ Tryz.prog 38:=⟨_,Tryz.func38,rfl,by kernel_rfl⟩
theorem FG:Fn_ Tryz.prog 39:=⟨_,Tryz.func39,rfl,by kernel_rfl⟩
theorem GK:Fn_ Tryz.prog 40:=⟨_,Tryz.func40,rfl,by kernel_rfl⟩
theorem Gr:Fn_ Tryz.prog 41:=⟨_,Tryz.func41,rfl,by kernel_rfl⟩
theorem zq:Fn_ Tryz.prog 42:=⟨_,Tryz.func42,rfl,by kernel_rfl⟩
theorem pk:Fn_ Tryz.prog 43:=⟨_,Tryz.func43,rfl,by kernel_rfl⟩
theorem Gs:Fn_ Tryz.prog 44:=⟨_,Tryz.func44,rfl,by kernel_rfl⟩
theorem zr:Fn_ Tryz.prog 45:=⟨_,Tryz.func45,rfl,by kernel_rfl⟩
theorem tS:Fn_ Tryz.prog 46:=⟨_,Tryz.func46,rfl,by kernel_rfl⟩
theorem FH:Fn_ Tryz.prog 47:=⟨_,Tryz.func47,rfl,by kernel_rfl⟩
theorem Ea:Fn_ Tryz.prog 48:=⟨_,Tryz.func48,rfl,by kernel_rfl⟩
theorem Eb:Fn_ Tryz.prog 49:=⟨_,Tryz.func49,rfl,by kernel_rfl⟩
theorem zu:Fn_ Tryz.prog 50:=⟨_,Tryz.func50,rfl,by kernel_rfl⟩
theorem wL:Fn_ Tryz.prog 51:=⟨_,Tryz.func51,rfl,by kernel_rfl⟩
theorem Ec:Fn_ Tryz.prog 52:=⟨_,Tryz.func52,rfl,by kernel_rfl⟩
theorem An:Fn_ Tryz.prog 53:=⟨_,Tryz.func53,rfl,by kernel_rfl⟩
theorem Aq:Fn_ Tryz.prog 54:=⟨_,Tryz.func54,rfl,by kernel_rfl⟩
theorem GL:Fn_ Tryz.prog 55:=⟨_,Tryz.func55,rfl,by kernel_rfl⟩
theorem FJ:Fn_ Tryz.prog 56:=⟨_,Tryz.func56,rfl,by kernel_rfl⟩
theorem Ed:Fn_ Tryz.prog 57:=⟨_,Tryz.func57,rfl,by kernel_rfl⟩
theorem tT:Fn_ Tryz.prog 58:=⟨_,Tryz.func58,rfl,by kernel_rfl⟩
theorem pE:Fn_ Tryz.prog 59:=⟨_,Tryz.func59,rfl,by kernel_rfl⟩
theorem Ee:Fn_ Tryz.prog 60:=⟨_,Tryz.func60,rfl,by kernel_rfl⟩
theorem GM:Fn_ Tryz.prog 61:=⟨_,Tryz.func61,rfl,by kernel_rfl⟩
theorem GN:Fn_ Tryz.prog 70:=⟨_,Tryz.func70,rfl,by kernel_rfl⟩
theorem GO:Fn_ Tryz.prog 71:=⟨_,Tryz.func71,rfl,by kernel_rfl⟩
theorem Ds:Fn_ Tryz.prog 72:=⟨_,Tryz.func72,rfl,by kernel_rfl⟩
theorem Ar:Fn_ Tryz.prog 73:=⟨_,Tryz.func73,rfl,by kernel_rfl⟩
theorem Eg:Fn_ Tryz.prog 92:=⟨_,Tryz.func92,rfl,by kernel_rfl⟩
theorem Du:Fn_ Tryz.prog 93:=⟨_,Tryz.func93,rfl,by kernel_rfl⟩
theorem Eh:Fn_ Tryz.prog 94:=⟨_,Tryz.func94,rfl,by kernel_rfl⟩
theorem Dv:Fn_ Tryz.prog 95:=⟨_,Tryz.func95,rfl,by kernel_rfl⟩
theorem Dw:Fn_ Tryz.prog 96:=⟨_,Tryz.func96,rfl,by kernel_rfl⟩
theorem GP:Fn_ Tryz.prog 97:=⟨_,Tryz.func97,rfl,by kernel_rfl⟩
theorem Dx:Fn_ Tryz.prog 100:=⟨_,Tryz.func100,rfl,by kernel_rfl⟩
theorem FK:Fn_ Tryz.prog 108:=⟨_,Tryz.func108,rfl,by kernel_rfl⟩
theorem Dy:Fn_ Tryz.prog 109:=⟨_,Tryz.func109,rfl,by kernel_rfl⟩
theorem FL:Fn_ Tryz.prog 110:=⟨_,Tryz.func110,rfl,by kernel_rfl⟩
theorem sI:Fn_ Tryz.prog 111:=⟨_,Tryz.func111,rfl,by kernel_rfl⟩
theorem zw:Fn_ Tryz.prog 112:=⟨_,Tryz.func112,rfl,by kernel_rfl⟩
theorem kT:Fn_ Tryz.prog 113:=⟨_,Tryz.func113,rfl,by kernel_rfl⟩
theorem jI:Fn_ Tryz.prog 114:=⟨_,Tryz.func114,rfl,by kernel_rfl⟩
theorem jQ:Fn_ Tryz.prog 115:=⟨_,Tryz.func115,rfl,by kernel_rfl⟩
theorem fJ:Fn_ Tryz.prog 116:=⟨_,Tryz.func116,rfl,by kernel_rfl⟩
theorem ny:Fn_ Tryz.prog 117:=⟨_,Tryz.func117,rfl,by kernel_rfl⟩
theorem xh:Fn_ Tryz.prog 118:=⟨_,Tryz.func118,rfl,by kernel_rfl⟩
theorem xi:Fn_ Tryz.prog 119:=⟨_,Tryz.func119,rfl,by kernel_rfl⟩
theorem Dz:Fn_ Tryz.prog 120:=⟨_,Tryz.func120,rfl,by kernel_rfl⟩
theorem fh:Fn_ Tryz.prog 121:=⟨_,Tryz.func121,rfl,by kernel_rfl⟩
theorem DA:Fn_ Tryz.prog 122:=⟨_,Tryz.func122,rfl,by kernel_rfl⟩
theorem DB:Fn_ Tryz.prog 123:=⟨_,Tryz.func123,rfl,by kernel_rfl⟩
theorem kU:Fn_ Tryz.prog 124:=⟨_,Tryz.func124,rfl,by kernel_rfl⟩
theorem pF:Fn_ Tryz.prog 125:=⟨_,Tryz.func125,rfl,by kernel_rfl⟩
theorem DC:Fn_ Tryz.prog 126:=⟨_,Tryz.func126,rfl,by kernel_rfl⟩
theorem DD:Fn_ Tryz.prog 127:=⟨_,Tryz.func127,rfl,by kernel_rfl⟩
theorem zx:Fn_ Tryz.prog 128:=⟨_,Tryz.func128,rfl,by kernel_rfl⟩
theorem sJ:Fn_ Tryz.prog 129:=⟨_,Tryz.func129,rfl,by kernel_rfl⟩
theorem nz:Fn_ Tryz.prog 130:=⟨_,Tryz.func130,rfl,by kernel_rfl⟩
theorem zy:Fn_ Tryz.prog 131:=⟨_,Tryz.func131,rfl,by kernel_rfl⟩
theorem xj:Fn_ Tryz.prog 132:=⟨_,Tryz.func132,rfl,by kernel_rfl⟩
theorem DE:Fn_ Tryz.prog 133:=⟨_,Tryz.func133,rfl,by kernel_rfl⟩
theorem DF:Fn_ Tryz.prog 134:=⟨_,Tryz.func134,rfl,by kernel_rfl⟩
theorem DG:Fn_ Tryz.prog 135:=⟨_,Tryz.func135,rfl,by kernel_rfl⟩
theorem DH:Fn_ Tryz.prog 136:=⟨_,Tryz.func136,rfl,by kernel_rfl⟩
theorem FM:Fn_ Tryz.prog 137:=⟨_,Tryz.func137,rfl,by kernel_rfl⟩
theorem FN:Fn_ Tryz.prog 138:=⟨_,Tryz.func138,rfl,by kernel_rfl⟩
theorem FO:Fn_ Tryz.prog 142:=⟨_,Tryz.func142,rfl,by kernel_rfl⟩
theorem DI:Fn_ Tryz.prog 143:=⟨_,Tryz.func143,rfl,by kernel_rfl⟩
theorem FP:Fn_ Tryz.prog 144:=⟨_,Tryz.func144,rfl,by kernel_rfl⟩
theorem FQ:Fn_ Tryz.prog 145:=⟨_,Tryz.func145,rfl,by kernel_rfl⟩
theorem FR:Fn_ Tryz.prog 146:=⟨_,Tryz.func146,rfl,by kernel_rfl⟩
theorem FS:Fn_ Tryz.prog 147:=⟨_,Tryz.func147,rfl,by kernel_rfl⟩
theorem FT:Fn_ Tryz.prog 148:=⟨_,Tryz.func148,rfl,by kernel_rfl⟩
theorem FU:Fn_ Tryz.prog 156:=⟨_,Tryz.func156,rfl,by kernel_rfl⟩
theorem oo:Fn_ Tryz.prog 157:=⟨_,Tryz.func157,rfl,by kernel_rfl⟩
theorem pG:Fn_ Tryz.prog 158:=⟨_,Tryz.func158,rfl,by kernel_rfl⟩
theorem zz:Fn_ Tryz.prog 159:=⟨_,Tryz.func159,rfl,by kernel_rfl⟩
theorem sK:Fn_ Tryz.prog 162:=⟨_,Tryz.func162,rfl,by kernel_rfl⟩
theorem zB:Fn_ Tryz.prog 163:=⟨_,Tryz.func163,rfl,by kernel_rfl⟩
theorem FV:Fn_ Tryz.prog 164:=⟨_,Tryz.func164,rfl,by kernel_rfl⟩
theorem DJ:Fn_ Tryz.prog 165:=⟨_,Tryz.func165,rfl,by kernel_rfl⟩
theorem FW:Fn_ Tryz.prog 166:=⟨_,Tryz.func166,rfl,by kernel_rfl⟩
theorem sL:Fn_ Tryz.prog 167:=⟨_,Tryz.func167,rfl,by kernel_rfl⟩
theorem DK:Fn_ Tryz.prog 168:=⟨_,Tryz.func168,rfl,by kernel_rfl⟩
theorem FX:Fn_ Tryz.prog 169:=⟨_,Tryz.func169,rfl,by kernel_rfl⟩
theorem FY:Fn_ Tryz.prog 170:=⟨_,Tryz.func170,rfl,by kernel_rfl⟩
theorem pH:Fn_ Tryz.prog 171:=⟨_,Tryz.func171,rfl,by kernel_rfl⟩
theorem ux:Fn_ Tryz.prog 172:=⟨_,Tryz.func172,rfl,by kernel_rfl⟩
theorem xk:Fn_ Tryz.prog 173:=⟨_,Tryz.func173,rfl,by kernel_rfl⟩
theorem DL:Fn_ Tryz.prog 174:=⟨_,Tryz.func174,rfl,by kernel_rfl⟩
theorem FZ:Fn_ Tryz.prog 175:=⟨_,Tryz.func175,rfl,by kernel_rfl⟩
theorem F0:Fn_ Tryz.prog 177:=⟨_,Tryz.func177,rfl,by kernel_rfl⟩
theorem F1:Fn_ Tryz.prog 179:=⟨_,Tryz.func179,rfl,by kernel_rfl⟩
theorem F2:Fn_ Tryz.prog 180:=⟨_,Tryz.func180,rfl,by kernel_rfl⟩
theorem F3:Fn_ Tryz.prog 181:=⟨_,Tryz.func181,rfl,by kernel_rfl⟩
theorem F4:Fn_ Tryz.prog 182:=⟨_,Tryz.func182,rfl,by kernel_rfl⟩
theorem F5:Fn_ Tryz.prog 183:=⟨_,Tryz.func183,rfl,by kernel_rfl⟩
theorem F6:Fn_ Tryz.prog 184:=⟨_,Tryz.func184,rfl,by kernel_rfl⟩
theorem mH:Fn_ Tryz.prog 185:=⟨_,Tryz.func185,rfl,by kernel_rfl⟩
theorem F7:Fn_ Tryz.prog 186:=⟨_,Tryz.func186,rfl,by kernel_rfl⟩
theorem F8:Fn_ Tryz.prog 187:=⟨_,Tryz.func187,rfl,by kernel_rfl⟩
theorem Ga:Fn_ Tryz.prog 193:=⟨_,Tryz.func193,rfl,by kernel_rfl⟩
theorem Gb:Fn_ Tryz.prog 197:=⟨_,Tryz.func197,rfl,by kernel_rfl⟩
theorem Gc:Fn_ Tryz.prog 205:=⟨_,Tryz.func205,rfl,by kernel_rfl⟩
end Go.Proofs.YtdeffdldifepkaaGreat
namespace Go.Proofs.YtdeffdldifepkaaGreat
open Go.RowKit
open Asn (pt row rb)
set_option linter.unusedVariables false
section
variable {P:Program} {ro:Option Nat} {ds:List Deferred} {B:Bk ro ds} {n:Nat} {w0:World} {M:Nat→Prop} {k:List It} {T:aF} {H C:List Asn} {d:Tmp} {dd:Option Tmp} {tt:TypeId} {pos:String} {af:Array Edge} {g:Option (Nat×Bool)} {l σ:List Oper} {op:Op} {v:Value} {c:Code} {x:Operand} {L:Array Bool}
theorem dp [HasTab P] (i:Nat) (h:RD P B n w0 M l k (L.setIfInBounds i true) C ((d,v)::T) H) (ho:l[i]? =some ⟨some d,op,tt,pos,af,g⟩:=by exact rfl) (ht:xa P T op=some v:=by exact rfl) (hw:cJ l T g=some true:=by exact rfl) (hd:i1 n (some d)=true:=by exact rfl) (hf:Region.free .any l.toArray L i=true:=by kernel_rfl) (hr:(Region.ready .any l.toArray L).contains i=true:=by kernel_rfl):RD P B n w0 M l k L C T H:=lT i ho (gX ht) h hw hd hf hr
theorem dl [HasTab P] (i:Nat) (h:RD P B n w0 M l k (L.setIfInBounds i true) C ((d,v)::T) H) (ho:l[i]? =some ⟨some d,op,tt,pos,af,g⟩:=by exact rfl) (ht:Tk P n w0 M T C ⟨some d,op,tt,pos,af,g⟩ v:=by exact ah rfl rfl rfl rfl) (hw:cJ l T g=some true:=by exact rfl) (hd:i1 n (some d)=true:=by exact rfl) (hf:Region.free .any l.toArray L i=true:=by kernel_rfl) (hr:(Region.ready .any l.toArray L).contains i=true:=by kernel_rfl):RD P B n w0 M l k L C T H:=lT i ho ht h hw hd hf hr
theorem cZ [HasTab P] (i:Nat) (h:RD P B n w0 M l k (L.setIfInBounds i true) C ((d,.bool true)::T) H) (ho:l[i]? =some ⟨some d,op,tt,pos,af,g⟩:=by exact rfl) (ht:Tk P n w0 M T C ⟨some d,op,tt,pos,af,g⟩ (.bool true):=by first|exact ay rfl (by omega)|exact gX rfl) (hw:cJ l T g=some true:=by exact rfl) (hd:i1 n (some d)=true:=by exact rfl) (hf:Region.free .any l.toArray L i=true:=by kernel_rfl) (hr:(Region.ready .any l.toArray L).contains i=true:=by kernel_rfl):RD P B n w0 M l k L C T H:=lT i ho ht h hw hd hf hr
theorem eI [HasTab P] (i:Nat) (h:RD P B n w0 M l k (L.setIfInBounds i true) C ((d,.bool false)::T) H) (ho:l[i]? =some ⟨some d,op,tt,pos,af,g⟩:=by exact rfl) (ht:Tk P n w0 M T C ⟨some d,op,tt,pos,af,g⟩ (.bool false):=by first|exact aB rfl (by omega)|exact gX rfl) (hw:cJ l T g=some true:=by exact rfl) (hd:i1 n (some d)=true:=by exact rfl) (hf:Region.free .any l.toArray L i=true:=by kernel_rfl) (hr:(Region.ready .any l.toArray L).contains i=true:=by kernel_rfl):RD P B n w0 M l k L C T H:=lT i ho ht h hw hd hf hr
theorem dk (i:Nat) (h:RD P B n w0 M l k (L.setIfInBounds i true) C ((d,undef)::T) H) (ho:l[i]? =some ⟨some d,op,tt,pos,af,g⟩:=by exact rfl) (hw:cJ l T g=some false:=by exact rfl) (hd:i1 n (some d)=true:=by exact rfl) (hf:Region.free .any l.toArray L i=true:=by kernel_rfl) (hr:(Region.ready .any l.toArray L).contains i=true:=by kernel_rfl):RD P B n w0 M l k L C T H:=zc i ho h hw hd hf hr
theorem Da {L':Array Bool} {T':aF} {H':List Asn} (h:RD P B n w0 M l k L' C T' H') [hh:SubC H' H] (hs:Sub T' T:=by repeat first|exact Sub.nil|refine Sub.cons rfl ?_) (hL:L=L':=by kernel_rfl):RD P B n w0 M l k L C T H:=FC h hs ae hL
theorem dn (h:RS P B n w0 M k T H) (hr:Region.ready .any l.toArray L=[]:=by kernel_rfl):RD P B n w0 M l k L C T H:=zb h hr
theorem dE (i:Nat) {E:Value→List Asn→Prop} (ho:l[i]? =some ⟨dd,op,tt,pos,af,g⟩) (he:Ef P n w0 M T H ⟨dd,op,tt,pos,af,g⟩ E) (h: ∀ v H',E v H'→Nx P B n w0 M l k L C i (gU dd v T) H') (hw:cJ l T g=some true:=by exact rfl) (hd:i1 n dd=true:=by exact rfl) (hr:Region.ready .any l.toArray L=[i]:=by kernel_rfl):RD P B n w0 M l k L C T H:=Df i ho he h hw hd hr
theorem dS {ds:List Deferred} {B:Bk none ds} (C:List Asn) [hC:SubC C H] (m:Nat) (h:RD P B n w0 M (gY c) k (Array.replicate m false) C T H) (hm:P.follows .mixedOrders=true:=by kernel_rfl) (hk:eh c= .region true:=by exact rfl) (hs:Region.noSelect (gY c).toArray=true:=by kernel_rfl) (hn:(gY c).length=m:=by kernel_rfl):RS P B n w0 M (.code c::k) T H:=fG C ae hm hk hs hn h
theorem dQ {ds:List Deferred} {B:Bk none ds} (m:Nat) (h:RD P B n w0 M (gY c) k (Array.replicate m false) H T H) (hm:P.follows .mixedOrders=true:=by kernel_rfl) (hk:eh c= .region true:=by exact rfl) (hs:Region.noSelect (gY c).toArray=true:=by kernel_rfl) (hn:(gY c).length=m:=by kernel_rfl):RS P B n w0 M (.code c::k) T H:=fG H (fun _ h=>h) hm hk hs hn h
theorem dV {i:Nat} (h:RD P B n w0 M l k (L.setIfInBounds i true) H T H) (hp:lx l.toArray i=true:=by kernel_rfl):Nx P B n w0 M l k L C i T H:=ue hp h
theorem nx {i:Nat} [hh:SubC C H] (h:RD P B n w0 M l k (L.setIfInBounds i true) C T H):Nx P B n w0 M l k L C i T H:=aY ae h
end
end Go.Proofs.YtdeffdldifepkaaGreat
namespace Go.Proofs.YtdeffdldifepkaaGreat
open Go.RowKit
open Go.Lib (hid)



def yN (len:Nat) (why n:Int):Nat:=if why=0∧0≤n∧n≤len then n.toNat else 0
def Gd (len:Nat) (why n:Int):Int:=if why=0 then (if n<0 then 2 else if (len:Int)<n then 7 else 0) else why
end Go.Proofs.YtdeffdldifepkaaGreat
namespace Go.Proofs.YtdeffdldifepkaaGreat
open Go.RowKit
open Asn (pt row rb)
set_option linter.unusedVariables false
set_option linter.unusedSimpArgs false
section
variable {n:Nat} {w0:World} {M:Nat→Prop} {T:aF} {H Hr:List Asn} {dd:Option Tmp} {tt:TypeId} {pos:String} {af:Array Edge} {g:Option (Nat×Bool)} {x y:Operand} {ts:Array TypeId}
end
end Go.Proofs.YtdeffdldifepkaaGreat
namespace Go.Proofs.YtdeffdldifepkaaGreat
open Go.RowKit
open Asn (pt row rb)
structure Rstep (l:List UInt8) (why n:Int) (t l1:List UInt8) (why1:Int):Prop where
 ht:t=l.take (yN l.length why n)
 hl:l1=l.drop (yN l.length why n)
 hw:why1=Gd l.length why n
 len:l1.length≤l.length
section
variable {n:Nat} {w0:World} {M:Nat→Prop} {T:aF} {H Hr:List Asn} {dd:Option Tmp} {tt:TypeId} {pos:String} {af:Array Edge} {g:Option (Nat×Bool)} {x y:Operand} {ts:Array TypeId} {gb:Nat} {F:Nat→Prop} {l:List UInt8} {why:Int}
end
end Go.Proofs.YtdeffdldifepkaaGreat
namespace Go.Proofs.YtdeffdldifepkaaGreat
open Go.RowKit
def zv (n:Int):Value:= .int .i64 n
theorem iW {l:List Int} {j:Nat} (h:j<l.length):(l.map zv)[j]? =some (zv (l.getD j 0)):=by
 rw[List.getElem?_map,List.getElem?_eq_getElem h]
 simp[List.getD,h]
end Go.Proofs.YtdeffdldifepkaaGreat
namespace Go.Proofs.YtdeffdldifepkaaGreat.C
open Go.RowKit
open Asn (pt row rb)
set_option linter.unusedVariables false
set_option linter.unusedSimpArgs false
def kx (m:Int):Bool:=decide (1≤m∧m≤5)
def chk:List Int→Bool×Int→Bool×Int
 |[],s=>s
 |m::ms,s=>chk ms (s.1&&kx m&&decide (s.2<m),m)
def right (ms:List Int):Bool:=(chk ms (decide ((0:Int)<(ms.length:Int)),0)).1
theorem uy (ms:List Int) (s:Bool×Int) (j:Nat) (h:j<ms.length):chk (ms.take (j+1)) s=((chk (ms.take j) s).1&&kx (ms.getD j 0)&&decide ((chk (ms.take j) s).2<ms.getD j 0),ms.getD j 0):=by
 induction ms generalizing s j with
 |nil=>cases h
 |cons m ms ih=>
  cases j with
  |zero=>simp[chk]
  |succ j=>
   simp only[List.take_succ_cons,chk,List.getD_cons_succ]
   exact ih _ j (by simpa using h)
theorem pI (w:World) (m:Int):
  Gives Tryz.prog 156 [zv m] [] w (X:=Unit) (fun _=> .bool (kx m)) (fun _=>True) (fun _=>[]):=by
 refine aP Tryz.func156 O Tryz.ntmps156 Tryz.results156 (by simp) (St.enter w) (fun B hB=>?_)
 repeat' (first|refine bM O ?_ O O|refine ax ?_|refine aU ?_ O O|refine au O ?_|refine al O O ?_|(refine ie O O (fun hs=>?_) (fun hs=>?_)))
 all_goals (refine hB _ _ _ _ _ O O fun w' hS=>⟨(),?_,trivial,hS⟩)
 all_goals (simp[kx, *];rfl)
theorem xl (w:World) (m:Int):
  Gives Tryz.prog 186 [zv m] [] w (X:=Unit) (fun _=> .bool false) (fun _=>True) (fun _=>[]):=by
 refine aP Tryz.func186 O Tryz.ntmps186 Tryz.results186 (by simp) (St.enter w) (fun B hB=>?_)
 focus (refine qs ?_;refine qp ?_;refine qn ?_;(iterate 4 refine qp ?_);refine qz ?_)
 all_goals (refine hB _ _ _ _ _ O O fun w' hS=>⟨(),?_,trivial,hS⟩)
 all_goals (simp;rfl)
theorem uz (w:World) (m:Int):
  Gives Tryz.prog 180 [zv m] [] w (X:=Unit) (fun _=> .bool false) (fun _=>True) (fun _=>[]):=by
 refine aP Tryz.func180 O Tryz.ntmps180 Tryz.results180 (by simp) (St.enter w) (fun B hB=>?_)
 focus (refine qs ?_;refine qp ?_;refine qn ?_;(iterate 4 refine qp ?_);refine qz ?_)
 all_goals (refine hB _ _ _ _ _ O O fun w' hS=>⟨(),?_,trivial,hS⟩)
 all_goals (simp;rfl)
section
variable {n:Nat} {w0:World} {M:Nat→Prop} {T:aF} {H Hr:List Asn} {dd:Option Tmp} {tt:TypeId} {pos:String} {af:Array Edge} {g:Option (Nat×Bool)} {x y z:Operand} {ts:Array TypeId}
theorem DM {a:Int} (hx:az T x=some (zv a)):
  Ef Tryz.prog n w0 M T H ⟨dd,.call ⟨.value (.func 186),#[x],ts⟩,tt,pos,af,g⟩ (fun u H'=>u= .bool false∧H'=H):=by
 refine(jG F7 (vs:=[zv a]) (by simp[cg,hx]) fun w hS=>xl w a).mono ?_
 rintro v H' ⟨_,rfl,_,rfl⟩ w hS
 exact⟨_,_,O,⟨O,O⟩,hS⟩
theorem zC {a:Int} (hx:az T x=some (zv a)):
  Ef Tryz.prog n w0 M T H ⟨dd,.call ⟨.value (.func 180),#[x],ts⟩,tt,pos,af,g⟩ (fun u H'=>u= .bool false∧H'=H):=by
 refine(jG F2 (vs:=[zv a]) (by simp[cg,hx]) fun w hS=>uz w a).mono ?_
 rintro v H' ⟨_,rfl,_,rfl⟩ w hS
 exact⟨_,_,O,⟨O,O⟩,hS⟩
theorem uA {a:Int} (hx:az T x=some (zv a)):
  Ef Tryz.prog n w0 M T H ⟨dd,.call ⟨.value (.func 156),#[x],ts⟩,tt,pos,af,g⟩ (fun u H'=>u= .bool (kx a)∧H'=H):=by
 refine(jG FU (vs:=[zv a]) (by simp[cg,hx]) fun w hS=>pI w a).mono ?_
 rintro v H' ⟨_,rfl,_,rfl⟩ w hS
 exact⟨_,_,O,⟨O,O⟩,hS⟩
end
theorem uB (w:World) (a b:Int):
  Gives Tryz.prog 179 [zv a,zv b] [] w (X:=Unit) (fun _=> .bool (decide (a<b))) (fun _=>True) (fun _=>[]):=by
 refine aP Tryz.func179 O Tryz.ntmps179 Tryz.results179 (by simp) (St.enter w) (fun B hB=>?_)
 repeat' (first|refine bM O ?_ O O|refine ax ?_|refine aU ?_ O O|refine au O ?_|refine al O O ?_|(refine an (DM O) ?_ O O;rintro _ _ ⟨rfl,rfl⟩))
 all_goals (refine hB _ _ _ _ _ O O fun w' hS=>⟨(),?_,trivial,hS⟩)
 all_goals first|rfl|(simp[*];rfl)
section
variable {n:Nat} {w0:World} {M:Nat→Prop} {T:aF} {H Hr:List Asn} {dd:Option Tmp} {tt:TypeId} {pos:String} {af:Array Edge} {g:Option (Nat×Bool)} {x y z:Operand} {ts:Array TypeId}
theorem zD {a b:Int} (hx:az T x=some (zv a)) (hy:az T y=some (zv b)):
  Ef Tryz.prog n w0 M T H ⟨dd,.call ⟨.value (.func 179),#[x,y],ts⟩,tt,pos,af,g⟩ (fun u H'=>u= .bool (decide (a<b))∧H'=H):=by
 refine(jG F1 (vs:=[zv a,zv b]) (by simp[cg,hx,hy]) fun w hS=>uB w a b).mono ?_
 rintro v H' ⟨_,rfl,_,rfl⟩ w hS
 exact⟨_,_,O,⟨O,O⟩,hS⟩
end
def jM (A:Option Addr) (n c:Nat):Value:= .agg #[.slice A n c]
def eL (ms:List Int):Int:=if right ms then 0 else 240
theorem iW {l:List Int} {j:Nat} (h:j<l.length):(l.map zv)[j]? =some (zv (l.getD j 0)):=by
 simp[List.getD,h]
theorem kV (w:World) (A:Option Addr) (n c:Nat) (ms:List Int) (h:Rd w bC 1 A n (ms.map zv)) (hn:n≤100000):
  Gives Tryz.prog 95 [jM A n c] [] w (X:=Unit) (fun _=> .int .i64 (eL ms)) (fun _=>True) (fun _=>[]):=by
 refine aP Tryz.func95 O Tryz.ntmps95 Tryz.results95 (by simp) (St.enter w) (fun B hB=>?_)
 have hl:ms.length=n:=by have:=h.1;simpa using this
 have hne:0<n→A≠none:=fun h0=>by obtain⟨ad,rfl,_⟩:=h.2 h0;simp
 subst hl
 have hld: ∀ j,j<ms.length→(ms.map zv)[j]? =some (zv (ms.getD j 0)):=fun j hj=>iW hj
 repeat' (first|refine bM O ?_ O O|refine ax ?_|refine aa (ah O O O (by first|rfl|assumption)) ?_ O O|refine au O ?_|refine al O O ?_|refine aG O ?_|(refine an (ap O) ?_ O O;rintro _ _ ⟨b,rfl,rfl⟩))
 obtain⟨st,hst⟩: ∃ st:Nat→Bool×Int, ∀ j,st j=chk (ms.take j) (decide ((0:Int)<(ms.length:Int)),0):=⟨_,fun _=>O⟩
 have hs0:=hst 0
 have hsn:=hst ms.length
 have hnx: ∀ j,j<ms.length→st (j+1)=((st j).1&&kx (ms.getD j 0)&&decide ((st j).2<ms.getD j 0),ms.getD j 0):=fun j hj=>by rw[hst,hst,uy ms _ j hj]
 refine bV (X:=Nat) (fun j=>[(3,zv (st j).2),(4,.bool (st j).1),(12,.slice A ms.length c),(13,.int .i64 (ms.length:Int)),(14,.int .i64 (j:Int))]) (fun _=>_) (fun j=>j≤ms.length) (fun j=>ms.length-j) O 0 (Nat.zero_le _) ?_ (fun _ h=>h) ?_
 ·rw[hs0];exact(Sub.cons O (Sub.cons O (Sub.cons O (Sub.cons O (Sub.cons O Sub.nil)))))
 intro j hj J hJ
 obtain⟨x,hx⟩: ∃ x,ms.getD j 0=x:=⟨_,O⟩
 have hnx':=hnx j
 have hld':=hld j
 obtain⟨b,hb⟩: ∃ b,(st j).1=b:=⟨_,O⟩
 obtain⟨y,hy⟩: ∃ y,(st j).2=y:=⟨_,O⟩
 rw[hx] at hnx' hld'
 rw[hb,hy] at hnx' ⊢
 repeat' (first|refine bM O ?_ O O|refine ax ?_|refine aU ?_ O O|refine aa (bN O O O (Srd.old h (fun k _=>ao k)) (by omega) (hld' (by omega))) ?_ O O|refine aa (aI O O (by unfold aH;omega)) ?_ O O|refine aa (fc O O O O O O (by first|assumption|exact hne (by omega)|exact hne2 (by omega)) (by omega)) ?_ O O|refine aa (aR O) ?_ O O|refine au O ?_|refine al O O ?_|refine aG O ?_|refine aK ?_|refine bE O O ?_|refine aM O ?_|(refine an (uA O) ?_ O O;rintro _ _ ⟨rfl,rfl⟩)|(refine ie O O (fun hs=>?_) (fun hs=>?_))|(refine nj O O (fun hs=>?_) (fun hs=>?_))|(refine sE O O (fun hs=>?_) (fun hs=>?_))|(refine py O O (fun hs=>?_) (fun hs=>?_)))
 ·refine hJ (j+1) _ _ (by omega) ?_ (fun _ h=>h) (by omega)
  rw[hnx' (by omega),show (b&&kx x&&decide (y<x))=decide (y<x) by simp[kx, *]]
  exact(Sub.cons O (Sub.cons O (Sub.cons O (Sub.cons O (Sub.cons O Sub.nil)))))
 ·refine hJ (j+1) _ _ (by omega) ?_ (fun _ h=>h) (by omega)
  rw[hnx' (by omega),show (b&&kx x&&decide (y<x))=false by rw[show kx x=false by simp only[kx];exact decide_eq_false (by assumption),Bool.and_false,Bool.false_and]]
  exact(Sub.cons O (Sub.cons O (Sub.cons O (Sub.cons O (Sub.cons O Sub.nil)))))
 ·refine hJ (j+1) _ _ (by omega) ?_ (fun _ h=>h) (by omega)
  rw[hnx' (by omega),show (b&&kx x&&decide (y<x))=false by simp[*]]
  exact(Sub.cons O (Sub.cons O (Sub.cons O (Sub.cons O (Sub.cons O Sub.nil)))))
 all_goals
  have hjn:j=ms.length:=by omega
  subst hjn
  have hr:right ms=b:=by rw[right, ← hb,hst,List.take_length]
  refine hB _ _ _ _ _ O O fun w' hS=>⟨(),?_,trivial,hS.sublist (List.nil_sublist _)⟩
  rw[eL,hr]
  simp_all
  try rfl
section
variable {n:Nat} {w0:World} {M:Nat→Prop} {T:aF} {H Hr:List Asn} {dd:Option Tmp} {tt:TypeId} {pos:String} {af:Array Edge} {g:Option (Nat×Bool)} {x y z:Operand} {ts:Array TypeId}
theorem zE {P:Program} {t u:TypeId} {kk kj:IntKind} {i j:Int} {p q:Nat} (hx:az T x=some (.int kk i)) (hy:az T y=some (.int kj j)) [hi:NatOf i p] [hj:NatOf j q] (hq:q≤kk.bits):
  Tk P n w0 M T H ⟨dd,.binOp .shr t x y u,tt,pos,af,g⟩ (.int kk ((p/2^q:Nat):Int)):=by
 rw[hi.is] at hx
 rw[hj.is] at hy
 have h:=AE (P:=P) (n:=n) (w0:=w0) (M:=M) (H:=H) (dd:=dd) (tt:=tt) (pos:=pos) (af:=af) (g:=g) (t:=t) (u:=u) hx hy (by omega)
 have e:Int.fdiv (p:Int) (2^(min ((q:Int)).toNat kk.bits))=((p/2^q:Nat):Int):=by
  have e1:min ((q:Int)).toNat kk.bits=q:=by rw[Int.toNat_natCast];omega
  rw[e1,Int.fdiv_eq_ediv_of_nonneg _ (Int.le_of_lt (Int.pow_pos (by decide))),Int.natCast_ediv,Int.natCast_pow]
  rfl
 rwa [e] at h
end
def cut (ms:List Int) (m:Int):Nat:=ms.findIdx (fun x=>decide (m≤x))
def mI (ms:List Int):Prop:=ms.Pairwise (· < ·)
theorem zF {ms:List Int} {m:Int} {i:Nat} (hi:i≤ms.length) (h1: ∀ k,k<i→ms.getD k 0<m) (h2: ∀ k,i≤k→k<ms.length→m≤ms.getD k 0):cut ms m=i:=by
 unfold cut
 rcases Nat.lt_or_ge i ms.length with h|h
 ·rw[List.findIdx_eq h]
  refine⟨?_,fun j hj=>?_⟩
  ·have:=h2 i (Nat.le_refl _) h
   simpa[List.getD,h] using this
  ·have:=h1 j hj
   have hj':j<ms.length:=by omega
   simp[List.getD,hj'] at this
   simpa using this
 ·have:i=ms.length:=by omega
  subst this
  rw[List.findIdx_eq_length]
  intro x hx
  obtain⟨j,hj,rfl⟩:=List.getElem_of_mem hx
  have:=h1 j hj
  simp[List.getD,hj] at this
  simpa using this
theorem uC {ms:List Int} (h:mI ms) {i j:Nat} (hij:i<j) (hj:j<ms.length):ms.getD i 0<ms.getD j 0:=by
 have:=List.pairwise_iff_getElem.1 h i j (by omega) hj hij
 simpa[List.getD,hj,show i<ms.length by omega] using this
theorem xm {ms:List Int} {m:Int} {i:Nat} (h:mI ms) (hi:i≤ms.length) (h1: ∀ k,k<i→ms.getD k 0<m) (h2: ∀ k,i≤k→k<ms.length→m≤ms.getD k 0):decide (m∈ms)=(decide (i<ms.length)&&decide (ms.getD i 0=m)):=by
 rcases Nat.lt_or_ge i ms.length with hl|hl
 ·rw[decide_eq_true hl,Bool.true_and]
  congr 1
  apply propext
  constructor
  ·intro hm
   obtain⟨j,hj,he⟩:=List.getElem_of_mem hm
   have hg:ms.getD j 0=m:=by simp[List.getD,hj,he]
   rcases Nat.lt_trichotomy j i with h3|h3|h3
   ·have:=h1 j h3;omega
   ·rw[← h3];exact hg
   ·have:=uC h h3 hj
    have:=h2 i (Nat.le_refl _) hl
    omega
  ·intro he
   have:ms[i]=m:=by simpa[List.getD,hl] using he
   rw[← this]
   exact List.getElem_mem hl
 ·rw[decide_eq_false (by omega: ¬ i<ms.length),Bool.false_and,decide_eq_false]
  intro hm
  obtain⟨j,hj,he⟩:=List.getElem_of_mem hm
  have:=h1 j (by omega)
  simp[List.getD,hj,he] at this
theorem oq (w:World) (A:Option Addr) (n c:Nat) (ms:List Int) (m:Int) (h:Rd w bC 1 A n (ms.map zv)) (hn:n≤1000) (hu:mI ms):
  Gives Tryz.prog 163 [.slice A n c,zv m] [] w (X:=Unit) (fun _=> .tuple #[.int .i64 (cut ms m:Int),.bool (decide (m∈ms))]) (fun _=>True) (fun _=>[]):=by
 refine aP Tryz.func163 O Tryz.ntmps163 Tryz.results163 (by simp) (St.enter w) (fun B hB=>?_)
 have hl:ms.length=n:=by have:=h.1;simpa using this
 have hne:0<n→A≠none:=fun h0=>by obtain⟨ad,rfl,_⟩:=h.2 h0;simp
 repeat' (first|refine bM O ?_ O O|refine ax ?_|refine au O ?_|refine al O O ?_|refine aG O ?_)
 refine bV (X:=Nat×Nat) (fun s=>[(0,.slice A n c),(1,zv m),(6,.int .i64 (n:Int)),(7,.int .i64 (s.1:Int)),(8,.int .i64 (s.2:Int))]) (fun _=>_) (fun s=>s.1≤s.2∧s.2≤n∧(∀ k,k<s.1→ms.getD k 0<m)∧ ∀ k,s.2≤k→k<n→m≤ms.getD k 0) (fun s=>s.2-s.1) O (0,n) ⟨Nat.zero_le _,Nat.le_refl _,fun k hk=>by omega,fun k h1 h2=>by dsimp only at h1;omega⟩ (Sub.cons O (Sub.cons O (Sub.cons O (Sub.cons O (Sub.cons O Sub.nil))))) (fun _ h=>h) ?_
 rintro⟨i,j⟩ ⟨hij,hjn,h1,h2⟩ J hJ
 dsimp only at hij hjn h1 h2 ⊢
 obtain⟨x,hx⟩: ∃ x,ms.getD ((i+j)/2^1) 0=x:=⟨_,O⟩
 have hld:(i+j)/2^1<n→(ms.map zv)[(i+j)/2^1]? =some (zv x):=fun hlt=>by rw[← hx];exact iW (by omega)
 obtain⟨y,hy⟩: ∃ y,ms.getD i 0=y:=⟨_,O⟩
 have hld2:i<n→(ms.map zv)[i]? =some (zv y):=fun hlt=>by rw[← hy];exact iW (by omega)
 repeat' (first|refine bM O ?_ O O|refine ax ?_|refine aU ?_ O O|refine aa (zE O O (by decide)) ?_ O O|refine aa (bj O O O O (by unfold aH;omega)) ?_ O O|refine aa (bN O O O (Srd.old h (fun k _=>ao k)) (by omega) (hld (by omega))) ?_ O O|refine aa (bN O O O (Srd.old h (fun k _=>ao k)) (by omega) (hld2 (by omega))) ?_ O O|refine aa (aI O O (by unfold aH;omega)) ?_ O O|refine aa (fc O O O O O O (by first|assumption|exact hne (by omega)|exact hne2 (by omega)) (by omega)) ?_ O O|refine au O ?_|refine al O O ?_|refine aG O ?_|refine aK ?_|refine bE O O ?_|refine aM O ?_|(refine an (zD O O) ?_ O O;rintro _ _ ⟨rfl,rfl⟩)|(refine an (zC O) ?_ O O;rintro _ _ ⟨rfl,rfl⟩)|(refine ie O O (fun hs=>?_) (fun hs=>?_))|(refine sE O O (fun hs=>?_) (fun hs=>?_)))
 ·refine hJ ((i+j)/2^1+1,j) _ _ ⟨by dsimp only;omega,by dsimp only;omega,fun k hk=>?_,h2⟩ (Sub.cons O (Sub.cons O (Sub.cons O (Sub.cons O (Sub.cons O Sub.nil))))) (fun _ h=>h) (by dsimp only;omega)
  dsimp only at hk
  rcases Nat.lt_or_ge k ((i+j)/2^1) with h3|h3
  ·have:=uC hu h3 (by omega);omega
  ·rw[show k=(i+j)/2^1 by omega,hx];assumption
 ·refine hJ (i,(i+j)/2^1) _ _ ⟨by dsimp only;omega,by dsimp only;omega,h1,fun k hk hkn=>?_⟩ (Sub.cons O (Sub.cons O (Sub.cons O (Sub.cons O (Sub.cons O Sub.nil))))) (fun _ h=>h) (by dsimp only;omega)
  dsimp only at hk
  rcases Nat.eq_or_lt_of_le hk with h3|h3
  ·rw[← h3,hx];omega
  ·have:=uC hu h3 (by omega);omega
 all_goals
  have hij':i=j:=by omega
  subst hij'
  refine hB _ _ _ _ _ O O fun w' hS=>⟨(),?_,trivial,hS⟩
  rw[zF (by omega) h1 (fun k a b=>h2 k a (by omega)),xm hu (by omega) h1 (fun k a b=>h2 k a (by omega)),hy,hl]
  have hcast:((i:Int)<(n:Int))↔i<n:=by omega
  first|(rw[decide_eq_false (show ¬ i<n by omega),Bool.false_and];rfl)|(simp_all;done)|(simp_all;rfl)
theorem uD: ∀ (ms:List Int) (s:Bool×Int),(chk ms s).1=true→s.1=true∧(∀ m∈ms,1≤m∧m≤5∧s.2<m)∧mI ms
 |[],s,h=>⟨h,fun m hm=>(by cases hm),List.Pairwise.nil⟩
 |m::ms,s,h=>by
  obtain⟨h1,h2,h3⟩:=uD ms _ h
  simp only[Bool.and_eq_true,kx,decide_eq_true_eq] at h1
  refine⟨h1.1.1,fun x hx=>?_,List.Pairwise.cons (fun x hx=>(h2 x hx).2.2) h3⟩
  rcases List.mem_cons.1 hx with rfl|hx
  ·exact⟨h1.1.2.1,h1.1.2.2,h1.2⟩
  ·have:=h2 x hx
   have:=h1.2
   exact⟨by omega,by omega,by simp only at*;omega⟩
theorem ot {ms:List Int} (h:right ms=true):ms≠[]∧(∀ m∈ms,1≤m∧m≤5)∧mI ms:=by
 obtain⟨h1,h2,h3⟩:=uD ms _ h
 refine⟨?_,fun m hm=>⟨(h2 m hm).1,(h2 m hm).2.1⟩,h3⟩
 rintro rfl
 simp at h1
section
variable {n:Nat} {w0:World} {M:Nat→Prop} {T:aF} {H Hr:List Asn} {dd:Option Tmp} {tt:TypeId} {pos:String} {af:Array Edge} {g:Option (Nat×Bool)} {x y z:Operand} {ts:Array TypeId}
theorem rD {A:Option Addr} {m c:Nat} {ms:List Int} (hx:az T x=some (jM A m c)) (hs:Srd w0 M H 1 A m (ms.map zv)) (hm:m≤100000):
  Ef Tryz.prog n w0 M T H ⟨dd,.call ⟨.value (.func 95),#[x],ts⟩,tt,pos,af,g⟩ (fun u H'=>u= .int .i64 (eL ms)∧H'=H):=by
 refine(jG Dv (vs:=[jM A m c]) (by simp[cg,hx]) fun w hS=>kV w A m c ms (hs.rd w hS) hm).mono ?_
 rintro v H' ⟨_,rfl,_,rfl⟩ w hS
 exact⟨_,_,O,⟨O,O⟩,hS⟩
theorem zG {A:Option Addr} {m c:Nat} {ms:List Int} {a:Int} (hx:az T x=some (.slice A m c)) (hy:az T y=some (zv a)) (hs:Srd w0 M H 1 A m (ms.map zv)) (hm:m≤1000) (hu:mI ms):
  Ef Tryz.prog n w0 M T H ⟨dd,.call ⟨.value (.func 163),#[x,y],ts⟩,tt,pos,af,g⟩ (fun u H'=>u= .tuple #[.int .i64 (cut ms a:Int),.bool (decide (a∈ms))]∧H'=H):=by
 refine(jG zB (vs:=[.slice A m c,zv a]) (by simp[cg,hx,hy]) fun w hS=>oq w A m c ms a (hs.rd w hS) hm hu).mono ?_
 rintro v H' ⟨_,rfl,_,rfl⟩ w hS
 exact⟨_,_,O,⟨O,O⟩,hS⟩
end
theorem fq (w:World) (A:Option Addr) (n c:Nat) (ms:List Int) (m:Int) (h:Rd w bC 1 A n (ms.map zv)) (hn:n≤1000) (hu:mI ms):
  Gives Tryz.prog 110 [jM A n c,zv m] [] w (X:=Unit) (fun _=> .tuple #[.int .i64 (cut ms m:Int),.bool (decide (m∈ms))]) (fun _=>True) (fun _=>[]):=by
 refine aP Tryz.func110 O Tryz.ntmps110 Tryz.results110 (by simp) (St.enter w) (fun B hB=>?_)
 focus (refine qs ?_;(refine qe (ap O) ?_;rintro _ _ ⟨b,rfl,rfl⟩);refine qp ?_;refine qp ?_;refine qn ?_;refine qp ?_;refine qt (ah O O O (by first|rfl|assumption)) ?_;refine qp ?_;(refine qe (zG O O (Srd.old h (fun k _=>ao k)) hn hu) ?_;rintro _ _ ⟨rfl,rfl⟩);(iterate 4 refine qp ?_);refine qz ?_)
 refine hB _ _ _ _ _ O O fun w' hS=>⟨(),?_,trivial,hS.sublist (List.nil_sublist _)⟩
 rfl
section
variable {n:Nat} {w0:World} {M:Nat→Prop} {T:aF} {H Hr:List Asn} {dd:Option Tmp} {tt:TypeId} {pos:String} {af:Array Edge} {g:Option (Nat×Bool)} {x y z:Operand} {ts:Array TypeId}
theorem zH {A:Option Addr} {m c:Nat} {ms:List Int} {a:Int} (hx:az T x=some (jM A m c)) (hy:az T y=some (zv a)) (hs:Srd w0 M H 1 A m (ms.map zv)) (hm:m≤1000) (hu:mI ms):
  Ef Tryz.prog n w0 M T H ⟨dd,.call ⟨.value (.func 110),#[x,y],ts⟩,tt,pos,af,g⟩ (fun u H'=>u= .tuple #[.int .i64 (cut ms a:Int),.bool (decide (a∈ms))]∧H'=H):=by
 refine(jG FL (vs:=[jM A m c,zv a]) (by simp[cg,hx,hy]) fun w hS=>fq w A m c ms a (hs.rd w hS) hm hu).mono ?_
 rintro v H' ⟨_,rfl,_,rfl⟩ w hS
 exact⟨_,_,O,⟨O,O⟩,hS⟩
theorem im {A:Option Addr} {m c:Nat} {ms:List Int} (hx:az T x=some (jM A m c)) (hs:Srd w0 M H 1 A m (ms.map zv)) (hm:m≤100000) (hr:right ms=true):
  Ef Tryz.prog n w0 M T H ⟨dd,.call ⟨.value (.func 95),#[x],ts⟩,tt,pos,af,g⟩ (fun u H'=>u= .int .i64 0∧H'=H):=by
 have h:=rD (n:=n) (w0:=w0) (M:=M) (T:=T) (H:=H) (dd:=dd) (ts:=ts) (tt:=tt) (pos:=pos) (af:=af) (g:=g) hx hs hm
 rwa [eL,if_pos hr] at h
theorem i7 {A:Option Addr} {m c:Nat} {ms:List Int} (hx:az T x=some (jM A m c)) (hs:Srd w0 M H 1 A m (ms.map zv)) (hm:m≤100000) (hr:right ms=false):
  Ef Tryz.prog n w0 M T H ⟨dd,.call ⟨.value (.func 95),#[x],ts⟩,tt,pos,af,g⟩ (fun u H'=>u= .int .i64 240∧H'=H):=by
 have h:=rD (n:=n) (w0:=w0) (M:=M) (T:=T) (H:=H) (dd:=dd) (ts:=ts) (tt:=tt) (pos:=pos) (af:=af) (g:=g) hx hs hm
 rwa [eL,if_neg (by simp[hr])] at h
end
theorem go (w:World) (A:Option Addr) (n c:Nat) (ms:List Int) (m:Int) (h:Rd w bC 1 A n (ms.map zv)) (hn:n≤1000):
  Gives Tryz.prog 42 [jM A n c,zv m] [] w (X:=Unit) (fun _=> .bool (right ms&&decide (m∈ms))) (fun _=>True) (fun _=>[]):=by
 refine aP Tryz.func42 O Tryz.ntmps42 Tryz.results42 (by simp) (St.enter w) (fun B hB=>?_)
 cases hr:right ms
 ·focus (refine qs ?_;(refine qe (ap O) ?_;rintro _ _ ⟨b,rfl,rfl⟩);refine qp ?_;refine qz ?_;refine qq ?_;refine qs ?_;refine qt (dg (ds:=[.slice A n c]) O O O O (fun j v h=>by simpa using h)) ?_;(refine qe (i7 O (Srd.old h (fun k _=>ao k)) (by omega) hr) ?_;rintro _ _ ⟨rfl,rfl⟩);refine qp ?_;refine qz ?_;refine qT ?_;refine qs ?_;refine qp ?_;refine qz ?_)
  all_goals (try (exfalso;simp_all;done))
  refine hB _ _ _ _ _ O O fun w' hS=>⟨(),?_,trivial,hS.sublist (List.nil_sublist _)⟩
  rw[hr,Bool.false_and];rfl
 ·have hu:=(ot hr).2.2
  repeat' (first|refine bM O ?_ O O|refine ax ?_|refine aa (dg (ds:=[.slice A n c]) O O O O (fun j v h=>by simpa using h)) ?_ O O|refine au O ?_|refine al O O ?_|refine aA O O ?_|refine aM O ?_|(refine an (im O (Srd.old h (fun k _=>ao k)) (by omega) hr) ?_ O O;rintro _ _ ⟨rfl,rfl⟩)|(refine an (zH O O (Srd.old h (fun k _=>ao k)) hn hu) ?_ O O;rintro _ _ ⟨rfl,rfl⟩)|(refine an (ap O) ?_ O O;rintro _ _ ⟨b,rfl,rfl⟩))
  all_goals (try (exfalso;simp_all;done))
  refine hB _ _ _ _ _ O O fun w' hS=>⟨(),?_,trivial,hS.sublist (List.nil_sublist _)⟩
  rw[hr,Bool.true_and]
  rfl
theorem jt (w:World) (A:Option Addr) (n c:Nat) (xs:List Value) (h:Rd w bC 1 A n xs) (h1: ∀ v∈xs,v.oneCell'=true) (hn:n≤1000):
  Gives Tryz.prog 92 [.slice A n c] [] w (X:=Option Addr×Nat) (fun x=> .slice x.1 n x.2) (fun _=>True) (fun x=>[row 3 1 x.1 n x.2 xs]):=by
 refine aP Tryz.func92 O Tryz.ntmps92 Tryz.results92 (by simp) (St.enter w) (fun B hB=>?_)
 cases hA:A with
 |none=>
  subst hA
  have hn0:n=0:=by
   rcases Nat.eq_zero_or_pos n with h0|h0
   ·exact h0
   ·obtain⟨ad,e,_⟩:=h.2 h0
    cases e
  subst hn0
  obtain rfl:xs=[]:=List.eq_nil_of_length_eq_zero (by simpa using h.1)
  repeat' (first|refine bM O ?_ O O|refine ax ?_|refine aa (fQ O O O O) ?_ O O|refine au O ?_|refine al O O ?_|refine aC O O ?_)
  all_goals (try (exfalso;simp_all;done))
  refine hB _ _ _ _ _ O O fun w' hS=>⟨(none,0),O,trivial,(hS.sublist (List.nil_sublist _)).nilrow _ _⟩
 |some ad=>
  subst hA
  focus (refine qs ?_;refine qp ?_;refine qz ?_;refine qq ?_;refine qs ?_;refine qp ?_;refine qt (fQ O O O O) ?_;refine qz ?_;refine qF ?_;refine qx ?_;refine qs ?_;(refine qe (d7 (m:=0) (vs:=[]) O O O O O O O (by simp) (by decide)) ?_;rintro _ _ ⟨bl,rfl,rfl⟩);refine qp ?_;(refine qe (jr O O O O O O O (by decide) .here (Srd.old h (fun k _=>ao k)) h1 (by show n*8≤_;omega) (by unfold maxLen;omega)) ?_;rintro _ _ ⟨A',c',rfl,rfl⟩);refine qp ?_;refine qz ?_)
  all_goals (try (exfalso;simp_all;done))
  refine hB _ _ _ _ _ O O fun w' hS=>⟨(A',c'),O,trivial,hS⟩
theorem ou {xs:List Value} (h1: ∀ v∈xs,v.oneCell'=true) (i:Nat): ∀ v∈xs.drop i,v.oneCell'=true:=fun v hv=>h1 v (List.mem_of_mem_drop hv)
theorem xn (xs ys:List Value) (i:Nat): ∀ j v,(xs.drop i)[j]? =some v→(xs++ys)[0+i*1+j]? =some v:=fun j v hj=>by
 rw[List.getElem?_drop] at hj
 have hl:=(List.getElem?_eq_some_iff.1 hj).1
 rw[Nat.zero_add,Nat.mul_one,List.getElem?_append_left hl]
 exact hj
theorem pJ (w:World) (A:Option Addr) (m c vb i:Nat) (xs:List Value) (v:Value) (hi:i≤m) (hm:m≤1000) (h1: ∀ v∈xs,v.oneCell'=true) (hv1:v.oneCell'=true)
  (hS:St w (ar [row 3 1 A m c xs,pt vb 3 [v]]) [row 3 1 A m c xs,pt vb 3 [v]] w):
  Gives Tryz.prog 184 [.slice A m c,.int .i64 (i:Int),.slice (some ⟨vb,0,none⟩) 1 1] [row 3 1 A m c xs,pt vb 3 [v]] w (X:=Option Addr×Nat) (fun x=> .slice x.1 (m+1) x.2) (fun _=>True) (fun x=>[row 3 1 x.1 (m+1) x.2 (xs.take i++v::xs.drop i)]):=by
 refine aP Tryz.func184 O Tryz.ntmps184 Tryz.results184 (by simp) hS (fun B hB=>?_)
 refine eS A m c fun hmc hcm hne hxl=>?_
 have hxl':xs.length=m:=by simpa using hxl
 rcases Nat.lt_or_ge i m with him|him
 ·rcases Nat.lt_or_ge m c with hroom|hroom
  ·refine xb A m c (hne (by omega)) fun gb ys hA hyl _ _ _=>?_
   subst hA
   have hyl':ys.length=c-m:=by simpa using hyl
   refine iI (p:=vb≠gb) (fun w hS=>fun e=>?_) fun hvg=>?_
   ·subst e
    exact(List.pairwise_cons.1 hS.apart).1 (pt vb 3 [v]) (by simp) vb O O
   repeat' (first|refine aa (aB O (by omega)) ?_ O O|refine bM O ?_ O O|refine ax ?_|refine aa (yK O O O) ?_ O O|refine aa (kS (sz:=1) O O O O O O (by omega) (by omega) (by omega)) ?_ O O|refine aa (lX O O O O O (by omega)) ?_ O O|refine aa (aI O O (by unfold aH;omega)) ?_ O O|refine aa (aR O) ?_ O O|refine au O ?_|refine al O O ?_|refine aC O O ?_|refine aA O O ?_|refine aM O ?_|(refine an (zm (f:=198) (fn:=Tryz.f198) (s:=31) (b:=4) Tryz.func198 (by kernel_rfl) (by kernel_rfl) (by kernel_rfl) (by kernel_rfl) O O O O O inferInstance inferInstance hvg (by rw[List.length_append];omega)) ?_ O O;rintro _ _ ⟨rfl,rfl⟩))
   refine dS [] 9 ?_
   refine dp 0 ?_
   refine dp 1 ?_
   refine dp 2 ?_
   (refine dt 3 O (aI O O (by unfold aH;omega)) ?_)
   refine dt 4 O (kS (sz:=1) O O O O O O (by omega) (by omega) (by omega)) ?_
   refine dp 5 ?_
   refine dp 6 ?_
   refine dt 7 O (kS (sz:=1) O O O O O O (by omega) (by omega) (by omega)) ?_
   refine dE 8 O (lJ (q:=m-i) (cs:=xs.drop i) O O O O O (Srd.pt (by show _=(m-i)*1;rw[List.length_drop];omega) (xn xs ys i)) (by simp only[Nat.min_def];split<;>omega) (by rw[List.length_append,List.length_drop];omega) (ou h1 i) O) ?_
   rintro _ _ ⟨rfl,rfl⟩
   refine nx ?_
   refine dn ?_
   skip
   focus (refine qs ?_;refine qp ?_;refine qp ?_;refine qt (kS (sz:=1) O O O O O O (by omega) (by omega) (by omega)) ?_;refine qp ?_;(refine qe (lJ (q:=1) (cs:=[v]) O O O O O (Srd.pt (g:=vb) O (fun j u hj=>by rw[Nat.zero_add];exact hj)) (by simp only[Nat.min_def];split<;>omega) (by simp;omega) (by simpa using hv1) O) ?_;rintro _ _ ⟨rfl,rfl⟩);refine qn ?_;refine qp ?_;refine qp ?_;refine qz ?_)
   refine hB _ _ _ _ _ O O fun w' hS=>⟨(some ⟨gb,0,none⟩,c),O,trivial,?_⟩
   refine(hS.close (m:=m+1) (c:=c) (size:=1) (gb:=gb) (e:=3) (xs:=xs.take i++v::xs.drop i) (by omega) hcm ?_ ?_).sublist (by simp)
   ·simp only[List.length_append,List.length_take,List.length_drop,List.length_cons,List.length_nil];omega
   simp only[Nat.zero_add,Nat.mul_one]
   exact sF xs ys v i m hxl' him (by omega) _
  ·skip
   repeat' (first|refine aa (aB O (by omega)) ?_ O O|refine aa (ay O (by omega)) ?_ O O|refine bM O ?_ O O|refine ax ?_|refine aa (yK O O O) ?_ O O|refine aa (kS (sz:=1) O O O O O O (by omega) (by omega) (by omega)) ?_ O O|refine aa (lW O O O O O O (by omega) (by omega)) ?_ O O|refine aa (lX O O O O O (by omega)) ?_ O O|refine aa (aI O O (by unfold aH;omega)) ?_ O O|refine aa (bU O O (by omega) (by unfold aH;omega)) ?_ O O|refine au O ?_|refine al O O ?_|refine aC O O ?_|refine aA O O ?_|refine aM O ?_|(refine an (zl (sz:=1) (q:=m+1-i) O O O O O O O O O (by decide) ((Srd.row (n:=m) (c:=c)).head (by omega)) (by omega) (by omega) (by show (i+(m+1-i))*8≤_;omega) (by unfold maxLen;omega)) ?_ O O;rintro _ _ ⟨g2,cc2,zs,ys,rfl,hzs,hyl,hmc2,hcm2,rfl⟩)|(refine an (lJ (q:=1) (cs:=[v]) O O O O O (Srd.pt (g:=vb) O (fun j u hj=>by rw[Nat.zero_add];exact hj)) (by simp only[Nat.min_def];split<;>omega) (by simp;omega) (by simpa using hv1) O) ?_ O O;rintro _ _ ⟨rfl,rfl⟩))
   have hzs':zs.length=m+1-i:=by rw[hzs,Nat.mul_one]
   have hyl':ys.length=cc2-(m+1):=by rw[hyl,Nat.mul_one];omega
   refine dS [] 9 ?_
   refine dp 0 ?_
   refine dp 1 ?_
   refine dp 2 ?_
   (refine dt 3 O (aI O O (by unfold aH;omega)) ?_)
   refine dt 4 O (kS (sz:=1) O O O O O O (by omega) (by omega) (by omega)) ?_
   refine dp 5 ?_
   refine dp 6 ?_
   refine dt 7 O (lW O O O O O O (by omega) (by omega)) ?_
   refine dE 8 O (lJ (q:=m-i) (cs:=xs.drop (i*1)) O O O O O ((Srd.row (n:=m) (c:=c)).cutP (by omega) (by omega)) (by simp only[Nat.min_def];split<;>omega) (by simp;omega) (by rw[Nat.mul_one];exact ou h1 i) O) ?_
   rintro _ _ ⟨rfl,rfl⟩
   refine nx ?_
   refine dn ?_
   skip
   focus (refine qs ?_;refine qp ?_;refine qp ?_;refine qz ?_)
   refine hB _ _ _ _ _ O O fun w' hS=>⟨(some ⟨g2,0,none⟩,cc2),by simp only[jF];congr 1;omega,trivial,?_⟩
   refine(hS.close (m:=m+1) (c:=cc2) (size:=1) (gb:=g2) (e:=3) (xs:=xs.take i++v::xs.drop i) (by omega) hcm2 ?_ ?_).sublist (by simp)
   ·simp only[List.length_append,List.length_take,List.length_drop,List.length_cons,List.length_nil];omega
   simp only[Nat.zero_add,Nat.mul_one]
   exact un xs zs ys v i m hxl' him _ _
 ·obtain rfl:i=m:=by omega
  repeat' (first|refine aa (aB O (by omega)) ?_ O O|refine aa (ay O (by omega)) ?_ O O|refine bM O ?_ O O|refine ax ?_|refine aa (lW O O O O O O (by omega) (by omega)) ?_ O O|refine au O ?_|refine al O O ?_|refine aC O O ?_|refine aA O O ?_|refine aM O ?_|(refine an (lV O O O O O O O (Srd.pt (g:=vb) (ds:=[v]) O (fun j u hj=>by rw[Nat.zero_add];exact hj)) (by simpa using hv1) (by show (i+1)*8≤_;omega) (by unfold maxLen;omega)) ?_ O O;rintro _ _ ⟨A2,cc2,rfl,rfl⟩))
  refine hB _ _ _ _ _ O O fun w' hS=>⟨(A2,cc2),O,trivial,?_⟩
  rw[List.take_of_length_le (by omega),List.drop_eq_nil_of_le (by omega)]
  exact hS.sublist (by simp)
theorem sM (w:World) (A:Option Addr) (n c:Nat) (ms:List Int) (m:Int) (h:Rd w bC 1 A n (ms.map zv)) (hn:n≤1000):
  Gives Tryz.prog 177 [.slice A n c,zv m] [] w (X:=Int) (fun x=> .int .i64 x) (fun x=>0≤x↔m∈ms) (fun _=>[]):=by
 refine aP Tryz.func177 O Tryz.ntmps177 Tryz.results177 (by simp) (St.enter w) (fun B hB=>?_)
 have hl:ms.length=n:=by have:=h.1;simpa using this
 have hne:0<n→A≠none:=fun h0=>by obtain⟨ad,rfl,_⟩:=h.2 h0;simp
 subst hl
 have hld: ∀ j,j<ms.length→(ms.map zv)[j]? =some (zv (ms.getD j 0)):=fun j hj=>iW hj
 focus (refine qs ?_;refine qp ?_;refine qz ?_;refine qq ?_;refine qs ?_;(iterate 3 refine qp ?_);refine qz ?_;refine qb ?_)
 refine bV (X:=Nat) (fun j=>[(0,.slice A ms.length c),(1,zv m),(7,.int .i64 (ms.length:Int)),(8,.int .i64 (j:Int))]) (fun _=>_) (fun j=>j≤ms.length∧ ¬ m∈ms.take j) (fun j=>ms.length-j) O 0 ⟨Nat.zero_le _,by simp⟩ (Sub.cons O (Sub.cons O (Sub.cons O (Sub.cons O Sub.nil)))) (fun _ h=>h) ?_
 rintro j ⟨hj,htk⟩ J hJ
 have hgm: ∀ hj:j<ms.length,ms.getD j 0=ms[j]:=fun hj=>by simp[List.getD,hj]
 repeat' (first|refine bM O ?_ O O|refine ax ?_|refine aa (bN O O O (Srd.old h (fun k _=>ao k)) (by omega) (hld j (by omega))) ?_ O O|refine aa (aI O O (by unfold aH;omega)) ?_ O O|refine aa (fc O O O O O O (by first|assumption|exact hne (by omega)|exact hne2 (by omega)) (by omega)) ?_ O O|refine au O ?_|refine al O O ?_|refine aG O ?_|refine aK ?_|refine bE O O ?_|refine aM O ?_|(refine sE O O (fun hs=>?_) (fun hs=>?_)))
 all_goals (try (exfalso;omega))
 ·rename_i hlt
  refine hB _ _ _ _ _ O O fun w' hS=>⟨(j:Int),O,⟨fun _=>?_,fun _=>by omega⟩,hS.sublist (List.nil_sublist _)⟩
  have hlt':j<ms.length:=by omega
  have heq':m=ms.getD j 0:=hs
  rw[heq',hgm hlt']
  exact List.getElem_mem _
 ·rename_i hlt
  have hlt':j<ms.length:=by omega
  refine hJ (j+1) _ _ ⟨by omega,?_⟩ (Sub.cons O (Sub.cons O (Sub.cons O (Sub.cons O Sub.nil)))) (fun _ h=>h) (by omega)
  rw[List.take_succ_eq_append_getElem hlt',List.mem_append,not_or]
  refine⟨htk,?_⟩
  rw[← hgm hlt']
  simpa[hgm hlt'] using hs
 ·have hjn:j=ms.length:=by omega
  subst hjn
  rw[List.take_length] at htk
  refine hB _ _ _ _ _ O O fun w' hS=>⟨-1,O,⟨fun h=>absurd h (by omega),fun h=>absurd h htk⟩,hS.sublist (List.nil_sublist _)⟩
theorem ky (w:World) (A:Option Addr) (n c:Nat) (ms:List Int) (m:Int) (h:Rd w bC 1 A n (ms.map zv)) (hn:n≤1000):
  Gives Tryz.prog 158 [.slice A n c,zv m] [] w (X:=Unit) (fun _=> .bool (decide (m∈ms))) (fun _=>True) (fun _=>[]):=by
 refine aP Tryz.func158 O Tryz.ntmps158 Tryz.results158 (by simp) (St.enter w) (fun B hB=>?_)
 focus (refine qs ?_;refine qp ?_;refine qn ?_;refine qp ?_;refine qp ?_;(refine qe (gG (f:=177) F0 O (fun w hS=>sM w A _ c ms m ((Srd.old h (fun k _=>ao k)).rd w hS) hn) (fun _=>O)) ?_;rintro _ _ ⟨x,rfl,hx,rfl⟩);refine qp ?_;refine qp ?_;refine qz ?_)
 refine hB _ _ _ _ _ O O fun w' hS=>⟨(),?_,trivial,hS.sublist (List.nil_sublist _)⟩
 rw[decide_eq_decide.2 hx.symm]
 rfl
theorem fK (T:aF) (x:Operand) (v:Value) (hx:az T x=some v): ∀ cap:List Value,cg T (#[x]++(cap.map Operand.const).toArray).toList=some (v::cap):=fun cap=>by
 have h:cg T (cap.map Operand.const)=some cap:=by
  induction cap with
  |nil=>rfl
  |cons u us ih=>simp[cg,ih,az]
 have e:(#[x]++(cap.map Operand.const).toArray).toList=x::cap.map Operand.const:=by simp
 rw[e]
 simp[cg,hx,h]
theorem uE (p:Int→Bool) (ms:List Int) (j:Nat) (hj:j<ms.length):(ms.take (j+1)).countP p=(ms.take j).countP p+(if p (ms.getD j 0) then 1 else 0):=by
 rw[List.take_succ_eq_append_getElem hj,List.countP_append]
 have e1:ms.getD j 0=ms[j]:=by simp[List.getD,hj]
 rw[e1,List.countP_singleton]
theorem i9 (w:World) (A:Option Addr) (n c f:Nat) (cap:List Value) (ms:List Int) (p:Int→Bool) (h:Rd w bC 1 A n (ms.map zv)) (hn:n≤1000) (hf:Fn_ Tryz.prog f)
  (hp: ∀ w',Kp bC w w'→ ∀ m,Gives Tryz.prog f (zv m::cap) [] w' (X:=Unit) (fun _=> .bool (p m)) (fun _=>True) (fun _=>[])):
  Gives Tryz.prog 128 [jM A n c,.func (.func f) #[] cap.toArray] [] w (X:=Unit) (fun _=> .int .i64 (ms.countP p:Nat)) (fun _=>True) (fun _=>[]):=by
 refine aP Tryz.func128 O Tryz.ntmps128 Tryz.results128 (by simp) (St.enter w) (fun B hB=>?_)
 have hl:ms.length=n:=by have:=h.1;simpa using this
 have hne:0<n→A≠none:=fun h0=>by obtain⟨ad,rfl,_⟩:=h.2 h0;simp
 subst hl
 have hld: ∀ j,j<ms.length→(ms.map zv)[j]? =some (zv (ms.getD j 0)):=fun j hj=>iW hj
 have hle: ∀ j,(ms.take j).countP p≤j:=fun j=>Nat.le_trans List.countP_le_length (by simp;omega)
 repeat' (first|refine bM O ?_ O O|refine ax ?_|refine aa (ah O O O (by first|rfl|assumption)) ?_ O O|refine au O ?_|refine al O O ?_|refine aG O ?_|(refine an (ap O) ?_ O O;rintro _ _ ⟨b,rfl,rfl⟩))
 refine bV (X:=Nat) (fun j=>[(1,.func (.func f) #[] cap.toArray),(5,.int .i64 ((ms.take j).countP p:Nat)),(9,.slice A ms.length c),(10,.int .i64 (ms.length:Int)),(11,.int .i64 (j:Int))]) (fun _=>_) (fun j=>j≤ms.length) (fun j=>ms.length-j) O 0 (Nat.zero_le _) (Sub.cons O (Sub.cons O (Sub.cons O (Sub.cons O (Sub.cons O Sub.nil))))) (fun _ h=>h) ?_
 rintro j hj J hJ
 have hnx:=uE p ms j
 have hld':=hld j
 have hlj:=hle j
 obtain⟨x,hx⟩: ∃ x,ms.getD j 0=x:=⟨_,O⟩
 obtain⟨q,hq⟩: ∃ q,(ms.take j).countP p=q:=⟨_,O⟩
 rw[hx] at hnx hld'
 rw[hq] at hnx hlj ⊢
 obtain⟨bx,hbx⟩: ∃ bx,p x=bx:=⟨_,O⟩
 rw[hbx] at hnx
 repeat' (first|refine bM O ?_ O O|refine ax ?_|refine aa (bN O O O (Srd.old h (fun k _=>ao k)) (by omega) (hld' (by omega))) ?_ O O|refine aa (aI O O (by unfold aH;omega)) ?_ O O|refine aa (fc O O O O O O (by first|assumption|exact hne (by omega)|exact hne2 (by omega)) (by omega)) ?_ O O|refine au O ?_|refine al O O ?_|refine aG O ?_|refine aK ?_|refine bE O O ?_|refine aM O ?_|(refine an (d4 (cap:=cap) O (gG hf (fK _ _ (zv x) O cap) (fun w' hS=>hp w' hS.kpO x) (fun _=>O))) ?_ O O;rintro _ _ ⟨_,rfl,_,rfl⟩)|(refine sE O O (fun hs=>?_) (fun hs=>?_))|(refine py O O (fun hs=>?_) (fun hs=>?_)))
 ·have e:(ms.take (j+1)).countP p=q+1:=by rw[hnx (by omega), ← hbx,hs];rfl
  refine hJ (j+1) _ _ (by omega) ?_ (fun _ h=>h) (by omega)
  rw[e]
  exact(Sub.cons O (Sub.cons O (Sub.cons O (Sub.cons O (Sub.cons O Sub.nil)))))
 ·have e:(ms.take (j+1)).countP p=q:=by rw[hnx (by omega), ← hbx,hs];rfl
  refine hJ (j+1) _ _ (by omega) ?_ (fun _ h=>h) (by omega)
  rw[e]
  exact(Sub.cons O (Sub.cons O (Sub.cons O (Sub.cons O (Sub.cons O Sub.nil)))))
 ·have hjn:j=ms.length:=by omega
  subst hjn
  rw[List.take_length] at hq
  refine hB _ _ _ _ _ O O fun w' hS=>⟨(),?_,trivial,hS.sublist (List.nil_sublist _)⟩
  rw[hq]
  rfl
def dD (ms set:List Int):Bool:=right ms&&decide (ms.length<2*ms.countP (fun m=>decide (m∈set)))
theorem uF (w:World) (b:Nat) (A:Option Addr) (n c:Nat) (set:List Int) (m:Int) (hb:Rd w bC 1 (some ⟨b,0,none⟩) 1 [.slice A n c]) (h:Rd w bC 1 A n (set.map zv)) (hn:n≤1000):
  Gives Tryz.prog 164 [zv m,.pointer (some ⟨b,0,none⟩)] [] w (X:=Unit) (fun _=> .bool (decide (m∈set))) (fun _=>True) (fun _=>[]):=by
 refine aP Tryz.func164 O Tryz.ntmps164 Tryz.results164 (by simp) (St.enter w) (fun B hB=>?_)
 focus (refine qs ?_;refine qp ?_;refine qn ?_;refine qt (cB O O O hb (fun k _=>ao k) O) ?_;refine qp ?_;(refine qe (gG (f:=158) pG O (fun w hS=>ky w A _ c set m ((Srd.old h (fun k _=>ao k)).rd w hS) hn) (fun _=>O)) ?_;rintro _ _ ⟨_,rfl,_,rfl⟩);refine qp ?_;refine qz ?_)
 refine hB _ _ _ _ _ O O fun w' hS=>⟨(),O,trivial,hS.sublist (List.nil_sublist _)⟩
theorem xo (w:World) (A A2:Option Addr) (n c n2 c2:Nat) (ms set:List Int) (h:Rd w bC 1 A n (ms.map zv)) (h2:Rd w bC 1 A2 n2 (set.map zv)) (hn:n≤1000) (hn2:n2≤1000):
  Gives Tryz.prog 111 [jM A n c,.slice A2 n2 c2] [] w (X:=Unit) (fun _=> .bool (dD ms set)) (fun _=>True) (fun _=>[]):=by
 refine aP Tryz.func111 O Tryz.ntmps111 Tryz.results111 (by simp) (St.enter w) (fun B hB=>?_)
 have hl:ms.length=n:=by have:=h.1;simpa using this
 subst hl
 have hcl:ms.countP (fun m=>decide (m∈set))≤ms.length:=List.countP_le_length
 focus (refine qs ?_;(refine qe (ap O) ?_;rintro _ _ ⟨b,rfl,rfl⟩);(refine qe (fo O O) ?_;rintro _ _ ⟨b,rfl,rfl⟩);refine qp ?_;refine qn ?_;refine qt (gV O O) ?_;refine qp ?_;refine qz ?_;refine qq ?_)
 rename_i b1
 cases hr:right ms
 ·skip
  refine fG (_) (fun _ h=>h) (by kernel_rfl) O (by kernel_rfl) (by kernel_rfl:_=14) ?_
  refine dt 0 O (dg (ds:=[.slice A ms.length c]) O O O O (fun j v h=>by simpa using h)) ?_
  refine dE 1 O (i7 O (Srd.old h (fun k _=>ao k)) (by omega) hr) ?_
  rintro _ _ ⟨rfl,rfl⟩
  refine nx ?_
  refine dp 2 ?_
  refine dp 3 ?_
  refine dk 4 ?_
  refine dk 5 ?_
  refine dk 6 ?_
  refine dk 7 ?_
  refine dk 8 ?_
  refine dk 9 ?_
  refine dk 10 ?_
  refine dk 11 ?_
  refine dp 12 ?_
  refine dp 13 ?_
  refine dn ?_
  skip
  skip
  refine hB _ _ _ _ _ O O fun w' hS=>⟨(),?_,trivial,hS.sublist (List.nil_sublist _)⟩
  rw[dD,hr]
  rfl
 ·skip
  refine fG (_) (fun _ h=>h) (by kernel_rfl) O (by kernel_rfl) (by kernel_rfl:_=14) ?_
  refine dt 0 O (dg (ds:=[.slice A ms.length c]) O O O O (fun j v h=>by simpa using h)) ?_
  refine dE 1 O (im O (Srd.old h (fun k _=>ao k)) (by omega) hr) ?_
  rintro _ _ ⟨rfl,rfl⟩
  refine nx ?_
  refine dp 2 ?_
  refine dp 3 ?_
  refine dt 4 O (dg (ds:=[.slice A ms.length c]) O O O O (fun j v h=>by simpa using h)) ?_
  refine dp 5 ?_
  refine dp 8 ?_
  refine dt 9 O (ah O O O (by first|rfl|assumption)) ?_
  refine dp 10 ?_
  refine dE 6 O (gG (f:=128) zx O (fun w hS=>i9 w A _ c 164 [.pointer (some ⟨b,0,none⟩)] ms (fun m=>decide (m∈set)) ((Srd.old h (fun k _=>ao k)).rd w hS) hn FV (fun w' hk m=>uF w' b A2 n2 c2 set m (((Srd.pt (g:=b) (n:=1) (size:=1) (ds:=[.slice A2 n2 c2]) O (fun j v hj=>by rw[Nat.zero_add];exact hj)).rd w hS).keep hk) (((Srd.old h2 (fun k _=>ao k)).rd w hS).keep hk) hn2)) (fun _=>O)) ?_
  rintro _ _ ⟨_,rfl,_,rfl⟩
  refine nx ?_
  (refine dt 7 O (zg O O (by unfold aH;omega)) ?_)
  refine dp 11 ?_
  refine dp 12 ?_
  refine dp 13 ?_
  refine dn ?_
  skip
  skip
  refine hB _ _ _ _ _ O O fun w' hS=>⟨(),?_,trivial,hS.sublist (List.nil_sublist _)⟩
  rw[dD,hr,Bool.true_and]
  show Value.bool _=_
  congr 1
  exact decide_eq_decide.2 (by omega)
theorem ov (w:World) (A:Option Addr) (n c:Nat):
  Gives Tryz.prog 126 [jM A n c] [] w (X:=Nat) (fun b=> .func (.func 127) #[] #[.pointer (some ⟨b,0,none⟩)]) (fun _=>True) (fun b=>[pt b 33 [.slice A n c]]):=by
 refine aP Tryz.func126 O Tryz.ntmps126 Tryz.results126 (by simp) (St.enter w) (fun B hB=>?_)
 focus (refine qs ?_;(refine qe (ap O) ?_;rintro _ _ ⟨b,rfl,rfl⟩);refine qp ?_;refine qn ?_;refine qt (gV O O) ?_;refine qp ?_;refine qz ?_)
 refine hB _ _ _ _ _ O O fun w' hS=>⟨b,O,trivial,hS⟩
theorem ox (w:World) (b:Nat) (A:Option Addr) (n c:Nat) (ms:List Int) (m:Int) (hb:Rd w bC 1 (some ⟨b,0,none⟩) 1 [.slice A n c]) (h:Rd w bC 1 A n (ms.map zv)) (hn:n≤1000):
  Gives Tryz.prog 127 [zv m,.pointer (some ⟨b,0,none⟩)] [] w (X:=Unit) (fun _=> .bool (!(right ms&&decide (m∈ms)))) (fun _=>True) (fun _=>[]):=by
 refine aP Tryz.func127 O Tryz.ntmps127 Tryz.results127 (by simp) (St.enter w) (fun B hB=>?_)
 focus (refine qs ?_;refine qp ?_;refine qn ?_;refine qt (od (ds:=[.slice A n c]) O O O hb (fun k _=>ao k) O (by decide) (fun j v h=>by rw[Nat.zero_add];exact h)) ?_;refine qp ?_;(refine qe (gG (f:=42) zq O (fun w hS=>go w A _ c ms m ((Srd.old h (fun k _=>ao k)).rd w hS) hn) (fun _=>O)) ?_;rintro _ _ ⟨_,rfl,_,rfl⟩);refine qt (aR O) ?_;refine qp ?_;refine qz ?_)
 refine hB _ _ _ _ _ O O fun w' hS=>⟨(),O,trivial,hS.sublist (List.nil_sublist _)⟩
def lA (ms ks:List Int):Nat:=ms.countP (fun m=> !(right ks&&decide (m∈ks)))
def kW (a b:List Int):Int:=if right a&&right b then (if lA a b+lA b a>1 then 241 else 0) else 240
theorem uG (w:World) (A A2:Option Addr) (n c n2 c2:Nat) (ms ks:List Int) (h:Rd w bC 1 A n (ms.map zv)) (h2:Rd w bC 1 A2 n2 (ks.map zv)) (hn:n≤1000) (hn2:n2≤1000):
  Gives Tryz.prog 52 [jM A n c,jM A2 n2 c2] [] w (X:=Unit) (fun _=> .int .i64 (kW ms ks)) (fun _=>True) (fun _=>[]):=by
 refine aP Tryz.func52 O Tryz.ntmps52 Tryz.results52 (by simp) (St.enter w) (fun B hB=>?_)
 have hl:ms.length=n:=by have:=h.1;simpa using this
 have hl2:ks.length=n2:=by have:=h2.1;simpa using this
 subst hl hl2
 have hc1:ms.countP (fun m=> !(right ks&&decide (m∈ks)))≤ms.length:=List.countP_le_length
 have hc2:ks.countP (fun m=> !(right ms&&decide (m∈ms)))≤ks.length:=List.countP_le_length
 cases hr:right ms
 ·skip
  repeat' (first|refine bM O ?_ O O|refine ax ?_|refine aU ?_ O O|refine aa (dg (ds:=[.slice A ms.length c]) O O O O (fun j v h=>by simpa using h)) ?_ O O|refine au O ?_|refine al O O ?_|refine aC O O ?_|(refine an (i7 O (Srd.old h (fun k _=>ao k)) (by omega) hr) ?_ O O;rintro _ _ ⟨rfl,rfl⟩)|(refine an (ap O) ?_ O O;rintro _ _ ⟨b,rfl,rfl⟩))
  all_goals (try (exfalso;simp_all;done))
  refine hB _ _ _ _ _ O O fun w' hS=>⟨(),?_,trivial,hS.sublist (List.nil_sublist _)⟩
  rw[kW,hr]
  rfl
 cases hr2:right ks
 ·skip
  focus (refine qs ?_;(iterate 2 (refine qe (ap O) ?_;rintro _ _ ⟨b,rfl,rfl⟩));refine qp ?_;refine qz ?_;refine qq ?_;refine qs ?_;refine qt (dg (ds:=[.slice A ms.length c]) O O O O (fun j v h=>by simpa using h)) ?_;(refine qe (im O (Srd.old h (fun k _=>ao k)) (by omega) hr) ?_;rintro _ _ ⟨rfl,rfl⟩);refine qp ?_;refine qp ?_;refine qt (dg (ds:=[.slice A2 ks.length c2]) O O O O (fun j v h=>by simpa using h)) ?_;(refine qe (i7 O (Srd.old h2 (fun k _=>ao k)) (by omega) hr2) ?_;rintro _ _ ⟨rfl,rfl⟩);refine qp ?_;refine qp ?_;refine qz ?_;refine qT ?_;refine qs ?_;refine qp ?_;refine qz ?_)
  all_goals (try (exfalso;simp_all;done))
  refine hB _ _ _ _ _ O O fun w' hS=>⟨(),?_,trivial,hS.sublist (List.nil_sublist _)⟩
  rw[kW,hr,hr2]
  rfl
 focus (refine qs ?_;(iterate 2 (refine qe (ap O) ?_;rintro _ _ ⟨b,rfl,rfl⟩));refine qp ?_;refine qz ?_;refine qq ?_;refine qs ?_;refine qt (dg (ds:=[.slice A ms.length c]) O O O O (fun j v h=>by simpa using h)) ?_;(refine qe (im O (Srd.old h (fun k _=>ao k)) (by omega) hr) ?_;rintro _ _ ⟨rfl,rfl⟩);refine qp ?_;refine qp ?_;refine qt (dg (ds:=[.slice A2 ks.length c2]) O O O O (fun j v h=>by simpa using h)) ?_;(refine qe (im O (Srd.old h2 (fun k _=>ao k)) (by omega) hr2) ?_;rintro _ _ ⟨rfl,rfl⟩);refine qp ?_;refine qp ?_;refine qz ?_;refine qF ?_;refine qx ?_;refine qs ?_;refine qp ?_;refine qz ?_;refine qq ?_;refine qq ?_)
 all_goals (try (exfalso;simp_all;done))
 refine eo (X:=Unit) (fun _=>[(25,.bool (decide ((1:Int)<((lA ms ks+lA ks ms:Nat):Int))))]) (fun _=>[]) (fun _=>True) (fun J hJ=>?_) (fun x _=>?_)
 ·skip
  refine fG (_) (fun _ h=>h) (by kernel_rfl) O (by kernel_rfl) (by kernel_rfl:_=12) ?_
  refine dt 0 O (dg (ds:=[.slice A ms.length c]) O O O O (fun j v h=>by simpa using h)) ?_
  refine dp 1 ?_
  refine dt 2 O (dg (ds:=[.slice A2 ks.length c2]) O O O O (fun j v h=>by simpa using h)) ?_
  refine dt 5 O (dg (ds:=[.slice A2 ks.length c2]) O O O O (fun j v h=>by simpa using h)) ?_
  refine dp 6 ?_
  refine dt 7 O (dg (ds:=[.slice A ms.length c]) O O O O (fun j v h=>by simpa using h)) ?_
  refine dE 3 O (d4 (cap:=[]) O (ul (f:=126) DC O (fun w hS=>ov w A2 ks.length c2) (fun _=>O))) ?_
  rintro _ _ ⟨bx,rfl,_,rfl⟩
  refine nx ?_
  refine dE 4 O (gG (f:=128) zx O (fun w hS=>i9 w A _ c 127 [.pointer (some ⟨bx,0,none⟩)] ms (fun m=> !(right ks&&decide (m∈ks))) ((Srd.old h (fun k _=>ao k)).rd w hS) hn DD (fun w' hk m=>ox w' bx A2 _ c2 ks m (((Srd.pt (g:=bx) (n:=1) (size:=1) (ds:=[.slice A2 ks.length c2]) O (fun j v hj=>by rw[Nat.zero_add];exact hj)).rd w hS).keep hk) (((Srd.old h2 (fun k _=>ao k)).rd w hS).keep hk) hn2)) (fun _=>O)) ?_
  rintro _ _ ⟨_,rfl,_,rfl⟩
  refine nx ?_
  refine dE 8 O (d4 (cap:=[]) O (ul (f:=126) DC O (fun w hS=>ov w A ms.length c) (fun _=>O))) ?_
  rintro _ _ ⟨cx,rfl,_,rfl⟩
  refine nx ?_
  refine dE 9 O (gG (f:=128) zx O (fun w hS=>i9 w A2 _ c2 127 [.pointer (some ⟨cx,0,none⟩)] ks (fun m=> !(right ms&&decide (m∈ms))) ((Srd.old h2 (fun k _=>ao k)).rd w hS) hn2 DD (fun w' hk m=>ox w' cx A _ c ms m (((Srd.pt (g:=cx) (n:=1) (size:=1) (ds:=[.slice A ms.length c]) O (fun j v hj=>by rw[Nat.zero_add];exact hj)).rd w hS).keep hk) (((Srd.old h (fun k _=>ao k)).rd w hS).keep hk) hn)) (fun _=>O)) ?_
  rintro _ _ ⟨_,rfl,_,rfl⟩
  refine nx ?_
  (refine dt 10 O (aI O O (by unfold aH;omega)) ?_)
  refine dp 11 ?_
  refine dn ?_
  exact hJ () _ _ trivial (Sub.cons O Sub.nil) (fun w hS=>hS.sublist (List.nil_sublist _))
 focus ((refine sE O O (fun hs=>?_) (fun hs=>?_));refine qs ?_;refine qp ?_;refine qz ?_;rotate_left;refine qx ?_;refine qs ?_;refine qp ?_;refine qz ?_;rotate_left)
 all_goals
  refine hB _ _ _ _ _ O O fun w' hS=>⟨(),?_,trivial,hS.sublist (List.nil_sublist _)⟩
  rw[kW,hr,hr2]
  simp only[Bool.and_self,if_true]
  first
  |rw[if_pos (by omega)];rfl
  |rw[if_neg (by omega)];rfl
theorem uH: ∀ (ms:List Int) (a b:Int),(∀ m∈ms,a<m∧m≤b)→mI ms→(ms.length:Int)≤max 0 (b-a)
 |[],a,b,_,_=>by simp;omega
 |m::ms,a,b,h,hu=>by
  obtain⟨h1,h2⟩:=List.pairwise_cons.1 hu
  have ih:=uH ms m b (fun x hx=>⟨h1 x hx,(h x (by simp[hx])).2⟩) h2
  have:=h m (by simp)
  simp only[List.length_cons]
  omega
theorem io {ms:List Int} (h:right ms=true):0<ms.length∧ms.length≤5:=by
 obtain⟨h0,h1,h2⟩:=ot h
 have:=uH ms 0 5 (fun m hm=>by have:=h1 m hm;omega) h2
 refine⟨List.length_pos_iff.2 h0,by omega⟩
theorem dO:AI.zero= .agg [Value.slice none 0 0].toArray:=by kernel_rfl
theorem kX:Tryz.prog.built 33 []=some [Value.slice none 0 0].toArray:=by kernel_rfl
theorem kY (A:Option Addr) (n c:Nat):Tryz.prog.built 33 [(0,.slice A n c)]=some [Value.slice A n c].toArray:=by kernel_rfl
theorem eB (A:Option Addr) (n c:Nat): ∀ u∈[Value.slice A n c],u.oneCell'=true:=by simp[Value.oneCell']
theorem kz (ms:List Int): ∀ v∈ms.map zv,v.oneCell'=true:=by simp[zv,Value.oneCell']
theorem uI (ms:List Int) (m:Int):cut ms m≤ms.length:=List.findIdx_le_length
def b0 (l:List UInt8):Nat:=(l.getD 0 0).toNat
def kZ (l:List UInt8):List Int:=(l.drop 1).map fun b=>(b.toNat:Int)
def jJ (l:List UInt8):Int:=if l.length≤b0 l then 7 else if l.length-1=b0 l∧right (kZ l)=true then 0 else 240
def cI (l:List UInt8):List Int:=if jJ l=0 then kZ l else []
theorem sN (l:List UInt8) (j:Nat) (hj:j<l.length-1):(kZ l).take (j+1)=(kZ l).take j++[(((l.drop 1).getD j 0).toNat:Int)]:=by
 have h:j<(kZ l).length:=by simp[kZ];omega
 rw[List.take_succ_eq_append_getElem h]
 congr 1
 simp[kZ,List.getD,show j+1<l.length by omega]
theorem uJ (l:List UInt8):(kZ l).length=l.length-1:=by simp[kZ]
section
variable {n:Nat} {w0:World} {M:Nat→Prop} {T:aF} {H Hr:List Asn} {dd:Option Tmp} {tt:TypeId} {pos:String} {af:Array Edge} {g:Option (Nat×Bool)} {x y z:Operand} {ts:Array TypeId}
end
theorem xp (w:World) (A:Option Addr) (n c:Nat) (l:List UInt8) (h:Bs w bC A n c l) (hn:n≤100000):
  Gives Tryz.prog 120 [.slice A n c] [] w (X:=Option Addr×Nat) (fun x=> .tuple #[jM x.1 (cI l).length x.2,.int .i64 (jJ l)]) (fun _=>True) (fun x=>[row 3 1 x.1 (cI l).length x.2 ((cI l).map zv)]):=by
 refine cX Tryz.func120 O Tryz.ntmps120 Tryz.results120 (by simp) (St.enter w) (fun B hB=>?_)
 have hl:n=l.length:=h.len
 have hcap:=h.cap
 have hne:0<n→A≠none:=fun h0=>by obtain⟨ad,rfl,_⟩:=h.rd.2 h0;simp
 obtain⟨q,hq⟩: ∃ q,b0 l=q:=⟨_,O⟩
 have hq':(l.getD 0 0).toNat=q:=hq
 have hq8:(l.getD 0 0).toNat<256:=UInt8.toNat_lt _
 have hdl:=uJ l
 by_cases hsh:l.length≤b0 l
 ·have e1:jJ l=7:=by rw[jJ,if_pos hsh]
  have e2:cI l=[]:=by rw[cI,e1];rfl
  rw[e1,e2] at hB
  rw[hq] at hsh
  repeat' (first|refine aa (ay O (by omega)) ?_ O O|refine bM O ?_ O O|refine ax ?_|refine aU ?_ O O|refine aa (bu kX) ?_ O O|refine aa (oc (j:=0) O O O (Src.old h (fun k _=>ao k)) (by omega)) ?_ O O|refine aa (fc O O O O O O (by first|assumption|exact hne (by omega)|exact hne2 (by omega)) (by omega)) ?_ O O|refine aa (bj O O O O (by unfold aH;omega)) ?_ O O|refine au O ?_|refine al O O ?_|refine aC O O ?_|(refine an (am O dO) ?_ O O;rintro _ _ ⟨bc,rfl,rfl⟩)|(refine bh (aj (ds:=[.slice none 0 0]) (cs:=[.slice none 0 0]) O O O O (eB _ _ _) O) ?_ O;rintro _ _ rfl)|(refine ie O O (fun hs=>?_) (fun hs=>?_)))
  all_goals (try (exfalso;first|contradiction|omega))
  all_goals (refine hB _ _ _ _ _ O (.cell O O O inferInstance O (.tmp O .nil)) fun w' hS=>⟨(none,0),O,trivial,(hS.sublist (List.nil_sublist _)).nilrow _ _⟩)
 have hsh': ¬ l.length≤q:=by rw[hq] at hsh;exact hsh
 repeat' (first|refine aa (aB O (by omega)) ?_ O O|refine bM O ?_ O O|refine ax ?_|refine aa (lW (sz:=1) O O O O O O (by omega) (by omega)) ?_ O O|refine aa (oc (j:=0) O O O (Src.old h (fun k _=>ao k)) (by omega)) ?_ O O|refine aa (fc O O O O O O (by first|assumption|exact hne (by omega)|exact hne2 (by omega)) (by omega)) ?_ O O|refine aa (bj O O O O (by unfold aH;omega)) ?_ O O|refine au O ?_|refine al O O ?_|refine aA O O ?_|refine aG O ?_|refine aM O ?_|(refine an (am O dO) ?_ O O;rintro _ _ ⟨bc,rfl,rfl⟩))
 rename_i b2
 have h1:=h.cutP (k:=1) (by omega)
 obtain⟨A1,hA1⟩: ∃ A1,cutP A c 1 1=A1:=⟨_,O⟩
 rw[hA1] at h1 ⊢
 have hne1:0<n-1→A1≠none:=fun h0=>by obtain⟨ad,rfl,_⟩:=h1.rd.2 h0;simp
 refine bV (X:=Nat×Option Addr×Nat) (fun x=>[(0,.slice A n c),(2,.pointer (some ⟨b2,0,none⟩)),(4,.pointer (some ⟨bc,0,none⟩)),(21,.slice A1 (n-1) (c-1)),(22,.int .i64 ((n-1:Nat):Int)),(23,.int .i64 (x.1:Int))]) (fun x=>[row 3 1 x.2.1 x.1 x.2.2 (((kZ l).take x.1).map zv),pt bc 33 [.slice x.2.1 x.1 x.2.2],pt b2 33 [.slice none 0 0]]) (fun x=>x.1≤n-1) (fun x=>n-1-x.1) O (0,none,0) (Nat.zero_le _) (Sub.cons O (Sub.cons O (Sub.cons O (Sub.cons O (Sub.cons O (Sub.cons O Sub.nil)))))) (fun w hS=>hS.nilrow _ _) ?_
 rintro⟨j,A3,c3⟩ hj J hJ
 simp only at hj ⊢
 have hnx:=sN l j
 obtain⟨x,hx⟩: ∃ x,(l.drop 1).getD j 0=x:=⟨_,O⟩
 have hx8:x.toNat<256:=UInt8.toNat_lt _
 rw[hx] at hnx
 rcases Nat.lt_or_ge j (n-1) with hjl|hjl
 ·have hv:((l.drop 1).map bv)[j]? =some (.int .u8 (x.toNat:Int)):=by
   rw[← hx]
   have:j<(l.drop 1).length:=by simp;omega
   simp[bv,List.getD,show j+1<l.length by omega]
  focus (refine qs ?_;refine qd ?_;refine qz ?_;refine qq ?_;refine qT ?_;refine qx ?_;refine qq ?_;refine qb ?_;refine qs ?_;refine qt (fc O O O O O O (hne1 (by omega)) (by omega)) ?_;refine qt (bN (v:= .int .u8 (x.toNat:Int)) O O O (Src.old h1 (fun k _=>ao k)).rd (by omega) hv) ?_;refine qp ?_;refine qz ?_;refine qr ?_;refine qp ?_;refine qt (ah O O O (by first|rfl|assumption)) ?_;refine qp ?_;refine qt (bj O O O O (by unfold aH;omega)) ?_;(refine qe (d7 (m:=1) (vs:=[zv x.toNat]) O O O O O O O (by simp[zv,Value.oneCell']) (by decide)) ?_;rintro _ _ ⟨bm,rfl,rfl⟩);(refine qe (lV O O O O O O O (Srd.pt (ds:=[zv x.toNat]) O (fun j u hj=>by rw[Nat.zero_add];exact hj)) (by simp[zv,Value.oneCell']) (by show _*8≤_;omega) (by unfold maxLen;omega)) ?_;rintro _ _ ⟨A6,c6,rfl,rfl⟩);refine qp ?_;(refine qw (ey O O O O O O (by first|decide|(simp;done)|(simp;omega)|assumption)) ?_;rintro _ _ rfl);refine qz ?_;refine aK ?_;refine qr ?_;refine qt (aI O O (by unfold aH;omega)) ?_;refine qp ?_;refine qz ?_)
  all_goals (try (exfalso;omega))
  refine hJ (j+1,A6,c6) _ _ (by show j+1≤_;omega) (Sub.cons O (Sub.cons O (Sub.cons O (Sub.cons O (Sub.cons O (Sub.cons O Sub.nil)))))) (fun w' hS=>?_) (by show n-1-(j+1)<_;omega)
  show St _ _ [row _ 1 _ _ _ (((kZ l).take (j+1)).map zv),_,_] w'
  rw[hnx (by omega),List.map_append]
  exact hS.sublist (.cons_cons _ (.cons _ (.refl _)))
 have hjn:j=n-1:=by omega
 subst hjn
 rw[List.take_of_length_le (by omega)]
 by_cases hq1:n-1=q
 ·cases hr:right (kZ l)
  ·have e1:jJ l=240:=by rw[jJ,if_neg hsh,if_neg];simp[hr]
   have e2:cI l=[]:=by rw[cI,e1];rfl
   rw[e1,e2] at hB
   focus (refine qs ?_;refine qf ?_;refine qz ?_;refine qq ?_;refine qF ?_;refine bE O O ?_;refine qq ?_;refine qq ?_)
   refine fG (_) (fun _ h=>h) (by kernel_rfl) O (by kernel_rfl) (by kernel_rfl:_=13) ?_
   refine dp 0 ?_
   refine dt 1 O (ah O O O (by first|rfl|assumption)) ?_
   refine dp 2 ?_
   refine dp 3 ?_
   refine dt 4 O (fc O O O O O O (hne (by omega)) (by omega)) ?_
   refine dt 5 O (oc (j:=0) O O O (Src.old h (fun k _=>ao k)) (by omega)) ?_
   (refine dt 6 O (bj O O O O (by unfold aH;omega)) ?_)
   refine eI 7 ?_
   refine dp 8 ?_
   refine dt 9 O (dg (ds:=[.slice A3 (n-1) c3]) O O O O (fun j v h=>by simpa using h)) ?_
   refine dE 10 O (i7 O (Srd.row (n:=n-1) (c:=c3)) (by omega) hr) ?_
   rintro _ _ ⟨rfl,rfl⟩
   refine nx ?_
   refine dp 11 ?_
   refine dp 12 ?_
   refine dn ?_
   skip
   focus (refine qT ?_;refine qs ?_;refine qt (bu kX) ?_;(refine qw (aj (ds:=[.slice none 0 0]) (cs:=[.slice none 0 0]) O O O O (eB _ _ _) O) ?_;rintro _ _ rfl);refine qp ?_;refine qz ?_)
   all_goals (try (exfalso;first|contradiction|omega))
   refine hB _ _ _ _ _ O (.cell O O O inferInstance O (.tmp O .nil)) fun w' hS=>⟨(none,0),O,trivial,(hS.sublist (List.nil_sublist _)).nilrow _ _⟩
  ·have e1:jJ l=0:=by rw[jJ,if_neg hsh,if_pos ⟨by omega,hr⟩]
   have e2:cI l=kZ l:=by rw[cI,e1];rfl
   rw[e1,e2,hdl, ← hl] at hB
   focus (refine qs ?_;refine qf ?_;refine qz ?_;refine qq ?_;refine qF ?_;refine bE O O ?_;refine qq ?_;refine qq ?_)
   refine fG (_) (fun _ h=>h) (by kernel_rfl) O (by kernel_rfl) (by kernel_rfl:_=13) ?_
   refine dp 0 ?_
   refine dt 1 O (ah O O O (by first|rfl|assumption)) ?_
   refine dp 2 ?_
   refine dp 3 ?_
   refine dt 4 O (fc O O O O O O (hne (by omega)) (by omega)) ?_
   refine dt 5 O (oc (j:=0) O O O (Src.old h (fun k _=>ao k)) (by omega)) ?_
   (refine dt 6 O (bj O O O O (by unfold aH;omega)) ?_)
   refine eI 7 ?_
   refine dp 8 ?_
   refine dt 9 O (dg (ds:=[.slice A3 (n-1) c3]) O O O O (fun j v h=>by simpa using h)) ?_
   refine dE 10 O (im O (Srd.row (n:=n-1) (c:=c3)) (by omega) hr) ?_
   rintro _ _ ⟨rfl,rfl⟩
   refine nx ?_
   refine eI 11 ?_
   refine dp 12 ?_
   refine dn ?_
   skip
   focus (refine qF ?_;refine qx ?_;refine qs ?_;refine qt (dg (ds:=[.slice A3 (n-1) c3]) O O O O (fun j v h=>by simpa using h)) ?_;(refine qw (aj (ds:=[.slice A3 (n-1) c3]) (cs:=[.slice none 0 0]) O O O O (eB _ _ _) O) ?_;rintro _ _ rfl);refine qp ?_;refine qz ?_)
   all_goals (try (exfalso;first|contradiction|omega))
   refine hB _ _ _ _ _ O (.cell O O O inferInstance O (.tmp O .nil)) fun w' hS=>⟨(A3,c3),O,trivial,ae _ hS⟩
 ·have e1:jJ l=240:=by rw[jJ,if_neg hsh,if_neg];rintro⟨h1,h2⟩;omega
  have e2:cI l=[]:=by rw[cI,e1];rfl
  rw[e1,e2] at hB
  focus (refine qs ?_;refine qf ?_;refine qz ?_;refine qq ?_;refine qF ?_;refine bE O O ?_;refine qq ?_;refine qq ?_)
  refine fG (_) (fun _ h=>h) (by kernel_rfl) O (by kernel_rfl) (by kernel_rfl:_=13) ?_
  refine dp 0 ?_
  refine dt 1 O (ah O O O (by first|rfl|assumption)) ?_
  refine dp 2 ?_
  refine dp 3 ?_
  refine dt 4 O (fc O O O O O O (hne (by omega)) (by omega)) ?_
  refine dt 5 O (oc (j:=0) O O O (Src.old h (fun k _=>ao k)) (by omega)) ?_
  (refine dt 6 O (bj O O O O (by unfold aH;omega)) ?_)
  refine cZ 7 ?_
  refine dp 8 ?_
  refine dk 9 ?_
  refine dk 10 ?_
  refine dk 11 ?_
  refine dp 12 ?_
  refine dn ?_
  skip
  focus (refine qT ?_;refine qs ?_;refine qt (bu kX) ?_;(refine qw (aj (ds:=[.slice none 0 0]) (cs:=[.slice none 0 0]) O O O O (eB _ _ _) O) ?_;rintro _ _ rfl);refine qp ?_;refine qz ?_)
  all_goals (try (exfalso;first|contradiction|omega))
  refine hB _ _ _ _ _ O (.cell O O O inferInstance O (.tmp O .nil)) fun w' hS=>⟨(none,0),O,trivial,(hS.sublist (List.nil_sublist _)).nilrow _ _⟩


def wide (ms:List Int):List Value:=ms.map zv++[zv 77,zv 0]
section
variable {n:Nat} {w0:World} {M:Nat→Prop} {T:aF} {H Hr:List Asn} {dd:Option Tmp} {tt:TypeId} {pos:String} {af:Array Edge} {g:Option (Nat×Bool)} {x y z:Operand} {ts:Array TypeId} {A A2:Option Addr} {m c m2 c2:Nat} {ms ks:List Int} {a:Int} {bs:List UInt8}
theorem uK {e:Int} (hx:az T x=some (jM A m c)) (hs:Srd w0 M H 1 A m (ms.map zv)) (hm:m≤100000) (hr:eL ms=e):
  Ef Tryz.prog n w0 M T H ⟨dd,.call ⟨.value (.func 95),#[x],ts⟩,tt,pos,af,g⟩ (fun u H'=>u= .int .i64 e∧H'=H):=by
 refine(jG Dv (vs:=[jM A m c]) (by simp[cg,hx]) fun w hS=>kV w A m c ms (hs.rd w hS) (by omega)).mono ?_
 rintro v H' ⟨_,rfl,_,rfl⟩ w hS
 exact⟨_,_,O,⟨by rw[hr],O⟩,hS⟩
end
end Go.Proofs.YtdeffdldifepkaaGreat.C
namespace Go.Proofs.YtdeffdldifepkaaGreat.C
open Go.RowKit Go.ChangeShapes Go.WideShapes Go.ChangeAt
open Asn (pt row rb)
set_option linter.unusedVariables false
set_option linter.unusedSimpArgs false
structure Cf where
 A:Option Addr
 n:Nat
 c:Nat
 ms:List Int
def Cf.v (k:Cf):Value:= .slice k.A k.n k.c
def Cf.ok (k:Cf) (W:World):Prop:=Rd W bC 1 k.A k.n (k.ms.map zv)∧k.n≤k.c∧k.c≤maxLen
instance:Inhabited Cf:=⟨⟨none,0,0,[]⟩⟩
theorem Gives.pure {P:Program} {f:FuncId} {vs:List Value} {w:World} {v:Value} {I:Unit→Prop} {A:Unit→List Asn} (h:Gives P f vs [] w (fun _=>v) I A):Calls P f vs.toArray w fun e w'=>e= .returned v∧Kp bC w w':=
 h.mono fun e w' ⟨_,he,_,hS⟩=>⟨he,hS.kpO⟩
end Go.Proofs.YtdeffdldifepkaaGreat.C
namespace Go.Proofs.YtdeffdldifepkaaGreat.C
open Go.RowKit
open Asn (pt row rb)
set_option linter.unusedVariables false
set_option linter.unusedSimpArgs false
end Go.Proofs.YtdeffdldifepkaaGreat.C
namespace Go.Proofs.YtdeffdldifepkaaGreat.C
open Go.RowKit Go.ChangeShapes Go.WideShapes Go.ChangeAt
open Asn (pt row rb)
set_option linter.unusedVariables false
set_option linter.unusedSimpArgs false
section
variable {n:Nat} {w0:World} {M:Nat→Prop} {T:aF} {H Hr:List Asn} {dd:Option Tmp} {tt:TypeId} {pos:String} {af:Array Edge} {g:Option (Nat×Bool)} {x y z:Operand} {ts:Array TypeId} {A A2:Option Addr} {m c m2 c2:Nat} {ms ks:List Int} {a:Int} {bs:List UInt8}
theorem k0 {P:Program} {s t:TypeId} {kk:IntKind} {i j:Int} {p q:Nat} (hx:az T x=some (.int kk i)) (hy:az T y=some (.int kk j)) [hi:NatOf i p] [hj:NatOf j q]:
  Tk P n w0 M T H ⟨dd,.call ⟨.builtin .min,#[x,y],#[s,t]⟩,tt,pos,af,g⟩ (.int kk ((min p q:Nat):Int)):=by
 have h:=yy (P:=P) (n:=n) (w0:=w0) (M:=M) (H:=H) (dd:=dd) (tt:=tt) (pos:=pos) (af:=af) (g:=g) (s:=s) (t:=t) hx hy
 rw[hi.is,hj.is] at h
 rwa [show (if (q:Int)<(p:Int) then (q:Int) else (p:Int))=((min p q:Nat):Int) by rw[Nat.min_def];split<;>split<;>omega] at h
end
structure Rw where
 A:Option Addr
 n:Nat
 c:Nat
 l:List UInt8
def Rw.v (k:Rw):Value:= .slice k.A k.n k.c
def Rw.ok (k:Rw) (W:World):Prop:=Bs W bC k.A k.n k.c k.l
instance:Inhabited Rw:=⟨⟨none,0,0,[]⟩⟩
end Go.Proofs.YtdeffdldifepkaaGreat.C
namespace Go.Proofs.YtdeffdldifepkaaGreat.C
open Go.RowKit
open Asn (pt row rb)
set_option linter.unusedVariables false
set_option linter.unusedSimpArgs false
def uv (n:Nat):Value:= .int .u64 (n:Int)
def pK (L:List (Int×Nat)):List Value:=L.flatMap fun x=>[zv x.1,uv x.2]
theorem rE: ∀ L:List (Int×Nat),(pK L).length=L.length*2
 |[]=>rfl
 |x::L=>by
  have:=rE L
  simp only[pK,List.flatMap_cons,List.length_append,List.length_cons,List.length_nil] at this ⊢
  omega
theorem uL: ∀ (L:List (Int×Nat)) (j:Nat),j<L.length→ ∀ e v,[zv (L.getD j (0,0)).1,uv (L.getD j (0,0)).2][e]? =some v→(pK L)[j*2+e]? =some v
 |[],j,h=>by cases h
 |x::L,0,_=>fun e v he=>by
  simp only[List.getD_cons_zero] at he
  simp only[pK,List.flatMap_cons,Nat.zero_mul,Nat.zero_add]
  rw[List.getElem?_append_left (List.getElem?_eq_some_iff.1 he).1]
  exact he
 |x::L,j+1,h=>fun e v he=>by
  have ih:=uL L j (by simpa using h) e v (by simpa using he)
  simp only[pK,List.flatMap_cons] at ih ⊢
  rw[List.getElem?_append_right (by simp;omega), ← ih]
  congr 1
  simp
  omega
def dH (L:List (Int×Nat)) (m:Int):Nat:=L.foldl (fun n x=>if x.1=m then max n x.2 else n) 0
theorem uM (L:List (Int×Nat)) (m:Int) (j:Nat) (hj:j<L.length):dH (L.take (j+1)) m=if (L.getD j (0,0)).1=m then max (dH (L.take j) m) (L.getD j (0,0)).2 else dH (L.take j) m:=by
 rw[List.take_succ_eq_append_getElem hj,dH,List.foldl_append]
 simp[List.getD,hj,dH]
theorem oy:yD.zero= .agg [zv 0,uv 0].toArray:=by kernel_rfl
theorem uN (a:Int) (b:Nat): ∀ u∈[zv a,uv b],u.oneCell'=true:=by simp[zv,uv,Value.oneCell']
section
variable {n:Nat} {w0:World} {M:Nat→Prop} {T:aF} {H Hr:List Asn} {dd:Option Tmp} {tt:TypeId} {pos:String} {af:Array Edge} {g:Option (Nat×Bool)} {x y z:Operand} {ts:Array TypeId} {A A1 A2:Option Addr}
theorem l5 {P:Program} {s t:TypeId} {kk:IntKind} {p q:Nat} (hx:az T x=some (.int kk (p:Int))) (hy:az T y=some (.int kk (q:Int))):
  Tk P n w0 M T H ⟨dd,.call ⟨.builtin .max,#[x,y],#[s,t]⟩,tt,pos,af,g⟩ (.int kk ((max p q:Nat):Int)):=by
 have h:=yz (P:=P) (n:=n) (w0:=w0) (M:=M) (H:=H) (dd:=dd) (tt:=tt) (pos:=pos) (af:=af) (g:=g) (s:=s) (t:=t) hx hy
 first
 |rwa [show (if (p:Int)<(q:Int) then (q:Int) else (p:Int))=((max p q:Nat):Int) by rw[Nat.max_def];split<;>split<;>omega] at h
 |rwa [show (if (q:Int)<(p:Int) then (p:Int) else (q:Int))=((max p q:Nat):Int) by rw[Nat.max_def];split<;>split<;>omega] at h
end
end Go.Proofs.YtdeffdldifepkaaGreat.C
namespace Go.Proofs.YtdeffdldifepkaaGreat.C
open Go.RowKit
set_option linter.unusedVariables false
set_option linter.unusedSimpArgs false
def sO (vs:List Nat) (x:Nat):Prop:=x∈vs∧vs.length<2*vs.countP (fun v=>decide (x≤v))∧2*vs.countP (fun v=>decide (x<v))≤vs.length
theorem zI (vs:List Nat) {p q:Nat→Bool} (h: ∀ v,p v=true→q v=true):vs.countP p≤vs.countP q:=List.countP_mono_left fun v _ hv=>h v hv
theorem zJ {vs:List Nat} {x a:Nat} (h:sO vs x) (ha:vs.length<2*vs.countP (fun v=>decide (a≤v))):a≤x:=by
 rcases Nat.lt_or_ge x a with hc|hc
 ·have:=zI vs (p:=fun v=>decide (a≤v)) (q:=fun v=>decide (x<v)) fun v hv=>by simp at hv ⊢;omega
  have:=h.2.2
  omega
 ·exact hc
theorem mT (p:Nat→Prop) [DecidablePred p]: ∀ (l:List Nat) (b:Nat),b≤l.foldl (fun b a=>if p a then max b a else b) b
 |[],b=>Nat.le_refl _
 |a::l,b=>by
  refine Nat.le_trans ?_ (mT p l _)
  show b≤if p a then max b a else b
  split<;>omega
theorem rF (p:Nat→Prop) [DecidablePred p]: ∀ (l:List Nat) (b a:Nat),a∈l→p a→a≤l.foldl (fun b a=>if p a then max b a else b) b
 |c::l,b,a,h,hp=>by
  rcases List.mem_cons.1 h with rfl|h
  ·refine Nat.le_trans ?_ (mT p l _)
   show a≤if p a then max b a else b
   rw[if_pos hp]
   omega
  ·exact rF p l _ a h hp
theorem rG (p:Nat→Prop) [DecidablePred p] (x:Nat): ∀ (l:List Nat) (b:Nat),b≤x→(∀ a∈l,p a→a≤x)→l.foldl (fun b a=>if p a then max b a else b) b≤x
 |[],b,h,_=>h
 |a::l,b,h,H=>by
  refine rG p x l _ ?_ fun c hc=>H c (List.mem_cons_of_mem _ hc)
  show (if p a then max b a else b)≤x
  split
  ·have:=H a (List.mem_cons_self ..) (by assumption)
   omega
  ·exact h
def sP (L:List (Int×Nat)) (ms:List Int) (k:Nat):Nat:=(ms.take k).foldl (fun b m=>if ms.length<2*ms.countP (fun x=>decide (dH L m≤dH L x)) then max b (dH L m) else b) 0
theorem zK {L:List (Int×Nat)} {ms:List Int} {x:Nat} (h:sO (ms.map (dH L)) x):sP L ms ms.length=x:=by
 have e:sP L ms ms.length=(ms.map (dH L)).foldl (fun b a=>if (ms.map (dH L)).length<2*(ms.map (dH L)).countP (fun v=>decide (a≤v)) then max b a else b) 0:=by
  rw[sP,List.take_length,List.foldl_map]
  simp only[List.countP_map,List.length_map]
  rfl
 rw[e]
 refine Nat.le_antisymm (rG _ _ _ _ (Nat.zero_le _) fun a _ ha=>zJ h ha) (rF _ _ _ _ h.1 h.2.1)
theorem k8 (m:Int) (a:Nat): ∀ (L:List (Int×Nat)) (b:Nat),a≤L.foldl (fun n x=>if x.1=m then max n x.2 else n) b↔a≤b∨ ∃ x∈L,x.1=m∧a≤x.2
 |[],b=>by simp
 |y::L,b=>by
  rw[List.foldl_cons,k8 m a L]
  simp only[List.mem_cons,exists_eq_or_imp]
  by_cases hy:y.1=m
  ·rw[if_pos hy]
   constructor
   ·rintro(h|h)
    ·rcases Nat.le_total b y.2 with h2|h2
     ·exact .inr (.inl ⟨hy,by omega⟩)
     ·exact .inl (by omega)
    ·exact .inr (.inr h)
   ·rintro(h|h|h)
    ·exact .inl (by omega)
    ·exact .inl (by omega)
    ·exact .inr h
  ·rw[if_neg hy]
   constructor
   ·rintro(h|h)
    ·exact .inl h
    ·exact .inr (.inr h)
   ·rintro(h|h|h)
    ·exact .inl h
    ·exact absurd h.1 hy
    ·exact .inr h
theorem zL {L:List (Int×Nat)} {m:Int} {a:Nat} (ha:0<a):a≤dH L m↔ ∃ x∈L,x.1=m∧a≤x.2:=by
 rw[dH,k8]
 constructor
 ·rintro(h|h)
  ·omega
  ·exact h
 ·exact .inr
theorem pL {L:List (Int×Nat)} {ms:List Int} {x:Nat} (hr:right ms=true) (h0:0<x) (h:sO (ms.map (dH L)) x):dD ms ((L.filter fun y=>decide (x≤y.2)).map (·.1))=true:=by
 have h1:=h.2.1
 simp only[List.countP_map,List.length_map] at h1
 rw[dD,hr,Bool.true_and,decide_eq_true_eq]
 have:=List.countP_mono_left (l:=ms) (p:=(fun v=>decide (x≤v)) ∘ dH L) (q:=fun m=>decide (m∈(L.filter fun y=>decide (x≤y.2)).map (·.1))) fun m _ hm=>by
  simp only[Function.comp_apply,decide_eq_true_eq] at hm ⊢
  obtain⟨y,hy,hy1,hy2⟩:=(zL h0).1 hm
  exact List.mem_map.2 ⟨y,List.mem_filter.2 ⟨hy,by simpa using hy2⟩,hy1⟩
 omega
theorem xq {s vs:List Nat} (hp:s.Perm vs) (hs:s.Pairwise (· ≤ ·)) (h0:0<s.length):sO vs (s.getD ((s.length-1)/2) 0):=by
 obtain⟨k,hk⟩: ∃ k,(s.length-1)/2=k:=⟨_,O⟩
 have hkl:k<s.length:=by omega
 rw[hk]
 have hd:s=s.take k++s[k]::s.drop (k+1):=by rw[← List.drop_eq_getElem_cons hkl,List.take_append_drop]
 have hx:s.getD k 0=s[k]:=by simp[List.getD,hkl]
 rw[hx]
 have hs':=hs
 rw[hd,List.pairwise_append] at hs'
 obtain⟨_,hs2,hs3⟩:=hs'
 rw[List.pairwise_cons] at hs2
 refine⟨hp.mem_iff.1 (List.getElem_mem _),?_,?_⟩
 ·rw[← hp.countP_eq, ← hp.length_eq]
  have e:(s.drop k).countP (fun v=>decide (s[k]≤v))=(s.drop k).length:=by
   rw[List.countP_eq_length]
   intro a ha
   rw[List.drop_eq_getElem_cons hkl] at ha
   rcases List.mem_cons.1 ha with rfl|ha
   ·simp
   ·simpa using hs2.1 a ha
  have:=List.Sublist.countP_le (p:=fun v=>decide (s[k]≤v)) (List.drop_sublist k s)
  rw[e,List.length_drop] at this
  omega
 ·rw[← hp.countP_eq, ← hp.length_eq]
  have e:(s.take (k+1)).countP (fun v=>decide (s[k]<v))=0:=by
   rw[List.countP_eq_zero]
   intro a ha
   rw[List.take_succ_eq_append_getElem hkl] at ha
   rcases List.mem_append.1 ha with ha|ha
   ·have:=hs3 a ha s[k] (List.mem_cons_self ..)
    simpa using this
   ·rw[List.mem_singleton] at ha
    subst ha
    simp
  have e2:s.countP (fun v=>decide (s[k]<v))=(s.take (k+1)).countP (fun v=>decide (s[k]<v))+(s.drop (k+1)).countP (fun v=>decide (s[k]<v)):=by
   rw[← List.countP_append,List.take_append_drop]
  have e3:(s.drop (k+1)).countP (fun v=>decide (s[k]<v))≤s.length-(k+1):=by
   refine Nat.le_trans List.countP_le_length ?_
   rw[List.length_drop]
   exact Nat.le_refl _
  omega
end Go.Proofs.YtdeffdldifepkaaGreat.C
namespace Go.Proofs.YtdeffdldifepkaaGreat.C
open Go.RowKit
open Asn (pt row rb)
set_option linter.unusedVariables false
set_option linter.unusedSimpArgs false
section
variable {n:Nat} {w0:World} {M:Nat→Prop} {T:aF} {H Hr:List Asn} {dd:Option Tmp} {tt:TypeId} {pos:String} {af:Array Edge} {g:Option (Nat×Bool)} {x y z:Operand} {ts:Array TypeId} {A A1 A2:Option Addr} {m c m1 cc1 m2 cc2:Nat} {ms ks:List Int} {L:List (Int×Nat)} {a:Int}
end
theorem sQ (w:World) (m:Nat):
  Gives Tryz.prog 205 [uv m] [] w (X:=Unit) (fun _=> .bool false) (fun _=>True) (fun _=>[]):=by
 refine aP Tryz.func205 O Tryz.ntmps205 Tryz.results205 (by simp) (St.enter w) (fun B hB=>?_)
 focus (refine qs ?_;refine qp ?_;refine qn ?_;refine qp ?_;refine qp ?_;refine qt (aB O (by simp)) ?_;refine qp ?_;refine qz ?_)
 all_goals (refine hB _ _ _ _ _ O O fun w' hS=>⟨(),?_,trivial,hS⟩)
 all_goals first|rfl|(simp;rfl)
section
variable {n:Nat} {w0:World} {M:Nat→Prop} {T:aF} {H Hr:List Asn} {dd:Option Tmp} {tt:TypeId} {pos:String} {af:Array Edge} {g:Option (Nat×Bool)} {x y z:Operand} {ts:Array TypeId}
theorem xr {a:Nat} (hx:az T x=some (uv a)):
  Ef Tryz.prog n w0 M T H ⟨dd,.call ⟨.value (.func 205),#[x],ts⟩,tt,pos,af,g⟩ (fun u H'=>u= .bool false∧H'=H):=by
 refine(jG Gc (vs:=[uv a]) (by simp[cg,hx]) fun w hS=>sQ w a).mono ?_
 rintro v H' ⟨_,rfl,_,rfl⟩ w hS
 exact⟨_,_,O,⟨O,O⟩,hS⟩
end
theorem pM (w:World) (a b:Nat):
  Gives Tryz.prog 193 [uv a,uv b] [] w (X:=Unit) (fun _=> .bool (decide (a<b))) (fun _=>True) (fun _=>[]):=by
 refine aP Tryz.func193 O Tryz.ntmps193 Tryz.results193 (by simp) (St.enter w) (fun B hB=>?_)
 repeat' (first|refine bM O ?_ O O|refine ax ?_|refine aU ?_ O O|refine au O ?_|refine al O O ?_|(refine an (xr O) ?_ O O;rintro _ _ ⟨rfl,rfl⟩))
 all_goals (refine hB _ _ _ _ _ O O fun w' hS=>⟨(),?_,trivial,hS⟩)
 all_goals first|rfl|(show Value.bool _=_;congr 1;exact decide_eq_decide.2 (by omega))|(simp[*];rfl)
section
variable {n:Nat} {w0:World} {M:Nat→Prop} {T:aF} {H Hr:List Asn} {dd:Option Tmp} {tt:TypeId} {pos:String} {af:Array Edge} {g:Option (Nat×Bool)} {x y z:Operand} {ts:Array TypeId}
theorem uO {a b:Nat} {r:Bool} (hx:az T x=some (uv a)) (hy:az T y=some (uv b)) (hr:decide (a<b)=r):
  Ef Tryz.prog n w0 M T H ⟨dd,.call ⟨.value (.func 193),#[x,y],ts⟩,tt,pos,af,g⟩ (fun u H'=>u= .bool r∧H'=H):=by
 refine(jG Ga (vs:=[uv a,uv b]) (by simp[cg,hx,hy]) fun w hS=>pM w a b).mono ?_
 rintro v H' ⟨_,rfl,_,rfl⟩ w hS
 exact⟨_,_,O,⟨by rw[hr],O⟩,hS⟩
end
def wM (t:List Nat) (j:Nat):List Nat:=(t.set j (t.getD (j-1) 0)).set (j-1) (t.getD j 0)
theorem zM {t:List Nat} {j:Nat} (h0:0<j) (hj:j<t.length) (p:Nat):(wM t j).getD p 0=if p=j-1 then t.getD j 0 else if p=j then t.getD (j-1) 0 else t.getD p 0:=by
 simp only[wM,List.getD,List.getElem?_set,List.length_set]
 have hj1:j-1<t.length:=by omega
 by_cases h1:j-1=p
 ·subst h1
  simp[hj1]
 ·by_cases h2:j=p
  ·subst h2
   have h3: ¬ j=j-1:=by omega
   simp[h1,h3,hj]
  ·have h3: ¬ p=j-1:=by omega
   have h4: ¬ p=j:=by omega
   simp[h1,h2,h3,h4]
theorem uP {t:List Nat} {j:Nat} (h0:0<j) (hj:j<t.length):(wM t j).Perm t:=by
 have h:=List.set_set_perm hj (show j-1<t.length by omega)
 simpa[wM,List.getD,hj,show j-1<t.length by omega] using h
theorem uQ {s:List Nat} {j:Nat} (h:j<s.length):(s.map uv)[j]? =some (uv (s.getD j 0)):=by
 simp[List.getD,h]
theorem sR {s:List Nat} (h: ∀ p q,p<q→q<s.length→s.getD p 0≤s.getD q 0):s.Pairwise (· ≤ ·):=by
 rw[List.pairwise_iff_getElem]
 intro p q hp hq hpq
 have:=h p q hpq hq
 simpa[List.getD,hp,hq] using this
theorem sS (w:World) (A:Option Addr) (n c:Nat) (s:List Nat) (hl:s.length=n) (hn:n≤12) (hS0:St w (ar [row 34 1 A n c (s.map uv)]) [row 34 1 A n c (s.map uv)] w):
  Gives Tryz.prog 187 [.slice A n c,.int .i64 (0:Int),.int .i64 (n:Int)] [row 34 1 A n c (s.map uv)] w (X:=List Nat) (fun _=> .tuple #[]) (fun x=>x.Perm s∧x.Pairwise (· ≤ ·)) (fun x=>[row 34 1 A n c (x.map uv)]):=by
 refine rh Tryz.func187 O Tryz.ntmps187 Tryz.results187 (by simp) hS0 (fun B hB=>?_)
 refine eS A n c fun hmc hcm hne hxl=>?_
 focus (refine qs ?_;refine qp ?_;refine qt (ii O O O (by unfold aH;omega)) ?_;refine qp ?_;refine qz ?_;refine qb ?_)
 refine bV (X:=Nat×List Nat) (fun x=>[(0,.slice A n c),(1,.int .i64 (0:Int)),(2,.int .i64 (n:Int)),(6,.int .i64 (x.1:Int))]) (fun x=>[row 34 1 A n c (x.2.map uv)]) (fun x=>1≤x.1∧(x.1≤n∨x.1=1)∧x.2.Perm s∧ ∀ p q,p<q→q<x.1→q<n→x.2.getD p 0≤x.2.getD q 0) (fun x=>n-x.1) O (1,s) ⟨Nat.le_refl _,.inr O,.refl _,fun p q h1 h2 _=>by omega⟩ (Sub.cons O (Sub.cons O (Sub.cons O (Sub.cons O Sub.nil)))) (fun _ h=>h) ?_
 rintro⟨i,t⟩ ⟨hi0,hi,hp,hs⟩ J hJ
 simp only at hi0 hi hp hs ⊢
 have htl:t.length=n:=by rw[hp.length_eq,hl]
 rcases Nat.lt_or_ge i n with hil|hil
 rotate_left
 ·skip
  focus (refine qq ?_;refine qs ?_;refine qp ?_;refine qp ?_;refine qf ?_;refine qz ?_;refine qF ?_;refine bE O O ?_)
  refine hB _ _ fun w' hS=>⟨t,⟨hp,sR fun p q h1 h2=>hs p q h1 (by omega) (by omega)⟩,hS⟩
 repeat' (first|refine aa (ay O (by omega)) ?_ O O|refine bM O ?_ O O|refine ax ?_|refine au O ?_|refine al O O ?_|refine aC O O ?_|refine aG O ?_|refine aM O ?_)
 refine bV (X:=Nat×List Nat) (fun x=>[(0,.slice A n c),(1,.int .i64 (0:Int)),(2,.int .i64 (n:Int)),(6,.int .i64 (i:Int)),(7,.int .i64 (x.1:Int))]) (fun x=>[row 34 1 A n c (x.2.map uv)]) (fun x=>x.1≤i∧x.2.Perm s∧ ∀ p q,p<q→q≤i→q≠x.1→x.2.getD p 0≤x.2.getD q 0) (fun x=>x.1) O (i,t) ⟨Nat.le_refl _,hp,fun p q h1 h2 h3=>hs p q h1 (by omega) (by omega)⟩ (Sub.cons O (Sub.cons O (Sub.cons O (Sub.cons O (Sub.cons O Sub.nil))))) (fun _ h=>h) ?_
 clear hs hp htl
 rintro⟨j,t⟩ ⟨hj,hp,hs⟩ J2 hJ2
 simp only at hj hp hs ⊢
 have htl:t.length=n:=by rw[hp.length_eq,hl]
 rcases Nat.eq_zero_or_pos j with rfl|hj0
 ·skip
  focus (refine qq ?_;refine qq ?_)
  refine fG (_) (fun _ h=>h) (by kernel_rfl) O (by kernel_rfl) (by kernel_rfl:_=15) ?_
  refine dp 0 ?_
  refine dp 1 ?_
  refine eI 2 ?_
  refine dp 3 ?_
  refine dk 4 ?_
  refine dk 5 ?_
  refine dk 6 ?_
  refine dk 7 ?_
  refine dk 8 ?_
  refine dk 9 ?_
  refine dk 10 ?_
  refine dk 11 ?_
  refine dk 12 ?_
  refine dk 13 ?_
  refine dp 14 ?_
  refine dn ?_
  skip
  focus (refine qF ?_;refine bE O O ?_;refine aK ?_;refine qr ?_;refine qp ?_;refine qt (aI O O (by unfold aH;omega)) ?_;refine qp ?_;refine qz ?_)
  refine hJ (i+1,t) _ _ ⟨by show 1≤i+1;omega,.inl (by show i+1≤n;omega),hp,fun p q h1 h2 h3=>hs p q h1 (by show q≤i;omega) (by omega)⟩ (Sub.cons O (Sub.cons O (Sub.cons O (Sub.cons O Sub.nil)))) (fun _ h=>h) (by show n-(i+1)<_;omega)
 have hla:=uQ (s:=t) (j:=j) (by omega)
 have hlb:=uQ (s:=t) (j:=j-1) (by omega)
 have hsw:=zM (t:=t) hj0 (by omega)
 have hpw:=uP (t:=t) hj0 (by omega)
 have hsu:(wM t j).map uv=((t.map uv).set j (uv (t.getD (j-1) 0))).set (j-1) (uv (t.getD j 0)):=by rw[wM,List.map_set,List.map_set]
 obtain⟨a,ha⟩: ∃ a,t.getD j 0=a:=⟨_,O⟩
 obtain⟨b,hb⟩: ∃ b,t.getD (j-1) 0=b:=⟨_,O⟩
 rw[ha] at hla hsw hsu
 rw[hb] at hlb hsw hsu
 obtain⟨r,hr⟩: ∃ r,decide (a<b)=r:=⟨_,O⟩
 focus (refine qq ?_;refine qq ?_)
 refine dS [row 34 1 A n c (t.map uv)] 15 ?_
 refine dp 0 ?_
 refine dp 1 ?_
 refine cZ 2 ?_
 refine dp 3 ?_
 refine dp 4 ?_
 refine dp 5 ?_
 refine dt 6 O (fc O O O O O O (by first|assumption|exact hne (by omega)|exact hne2 (by omega)) (by omega)) ?_
 refine dt 7 O (bN O O O (Srd.row (n:=n) (c:=c)) (by omega) hla) ?_
 refine dp 8 ?_
 refine dp 9 ?_
 (refine dt 10 O (bU O O (by omega) (by unfold aH;omega)) ?_)
 refine dt 11 O (fc O O O O O O (by first|assumption|exact hne (by omega)|exact hne2 (by omega)) (by omega)) ?_
 refine dt 12 O (bN O O O (Srd.row (n:=n) (c:=c)) (by omega) hlb) ?_
 refine dE 13 O (uO O O hr) ?_
 rintro _ _ ⟨rfl,rfl⟩
 refine nx ?_
 refine dp 14 ?_
 refine dn ?_
 skip
 cases r
 ·focus (refine qF ?_;refine bE O O ?_;refine aK ?_;refine qr ?_;refine qp ?_;refine qt (aI O O (by unfold aH;omega)) ?_;refine qp ?_;refine qz ?_)
  have hab:=of_decide_eq_false hr
  refine hJ (i+1,t) _ _ ⟨by show 1≤i+1;omega,.inl (by show i+1≤n;omega),hp,fun p q h1 h2 h3=>?_⟩ (Sub.cons O (Sub.cons O (Sub.cons O (Sub.cons O Sub.nil)))) (fun _ h=>h) (by show n-(i+1)<_;omega)
  have h2:q<i+1:=h2
  show t.getD p 0≤t.getD q 0
  rcases Nat.lt_or_ge q j with hq|hq
  ·exact hs p q h1 (by omega) (by omega)
  rcases Nat.lt_or_ge j q with hq2|hq2
  ·exact hs p q h1 (by omega) (by omega)
  ·have:q=j:=by omega
   subst this
   rcases Nat.lt_or_ge p (q-1) with hp1|hp1
   ·have:=hs p (q-1) hp1 (by omega) (by omega)
    omega
   ·have:p=q-1:=by omega
    subst this
    omega
 ·have hab:=of_decide_eq_true hr
  focus (refine qT ?_;refine qx ?_;refine qq ?_;refine qb ?_)
  refine eo (X:=Unit) (fun _=>[(0,.slice A n c),(1,.int .i64 (0:Int)),(2,.int .i64 (n:Int)),(6,.int .i64 (i:Int)),(7,.int .i64 (j:Int))]) (fun _=>[row 34 1 A n c ((wM t j).map uv)]) (fun _=>True) (fun K hK=>?_) (fun _ _=>?_)
  ·skip
   refine dS [] 18 ?_
   refine dp 0 ?_
   refine dp 1 ?_
   refine dp 2 ?_
   refine dp 3 ?_
   (refine dt 4 O (bU O O (by omega) (by unfold aH;omega)) ?_)
   refine dp 5 ?_
   refine dp 6 ?_
   (refine dt 7 O (bU O O (by omega) (by unfold aH;omega)) ?_)
   refine dt 8 O (fc O O O O O O (by first|assumption|exact hne (by omega)|exact hne2 (by omega)) (by omega)) ?_
   refine dp 10 ?_
   refine dp 11 ?_
   refine dt 12 O (fc O O O O O O (by first|assumption|exact hne (by omega)|exact hne2 (by omega)) (by omega)) ?_
   refine fb 9 13 (by decide) O O (uq (bN O O O (Srd.row (n:=n) (c:=c)) (by omega) hlb)) (uq (bN O O O (Srd.row (n:=n) (c:=c)) (by omega) hla)) ?_ ?_ O O O O (by kernel_rfl)
   ·rintro _ _ ⟨rfl,rfl⟩
    refine nx ?_
    refine dE 13 O (uq (bN O O O (Srd.row (n:=n) (c:=c)) (by omega) hla)) ?_
    rintro _ _ ⟨rfl,rfl⟩
    refine nx ?_
    refine dt 14 O (fc O O O O O O (by first|assumption|exact hne (by omega)|exact hne2 (by omega)) (by omega)) ?_
    refine dE 15 O (jq (m:=n) (c:=c) (A:=A) (xs:=t.map uv) O O O O O (by rw[List.length_map];omega)) ?_
    rintro _ _ rfl
    refine nx ?_
    refine dt 16 O (fc O O O O O O (by first|assumption|exact hne (by omega)|exact hne2 (by omega)) (by omega)) ?_
    refine dE 17 O (jq (m:=n) (c:=c) (A:=A) (xs:=(t.map uv).set j (uv b)) O O O O O (by rw[List.length_set,List.length_map];omega)) ?_
    rintro _ _ rfl
    refine nx ?_
    refine dn ?_
    (rw[← hsu];exact hK () _ _ trivial (Sub.cons O (Sub.cons O (Sub.cons O (Sub.cons O (Sub.cons O Sub.nil))))) ae)
   ·rintro _ _ ⟨rfl,rfl⟩
    refine nx ?_
    refine dE 9 O (uq (bN O O O (Srd.row (n:=n) (c:=c)) (by omega) hlb)) ?_
    rintro _ _ ⟨rfl,rfl⟩
    refine nx ?_
    refine dt 14 O (fc O O O O O O (by first|assumption|exact hne (by omega)|exact hne2 (by omega)) (by omega)) ?_
    refine dE 15 O (jq (m:=n) (c:=c) (A:=A) (xs:=t.map uv) O O O O O (by rw[List.length_map];omega)) ?_
    rintro _ _ rfl
    refine nx ?_
    refine dt 16 O (fc O O O O O O (by first|assumption|exact hne (by omega)|exact hne2 (by omega)) (by omega)) ?_
    refine dE 17 O (jq (m:=n) (c:=c) (A:=A) (xs:=(t.map uv).set j (uv b)) O O O O O (by rw[List.length_set,List.length_map];omega)) ?_
    rintro _ _ rfl
    refine nx ?_
    refine dn ?_
    (rw[← hsu];exact hK () _ _ trivial (Sub.cons O (Sub.cons O (Sub.cons O (Sub.cons O (Sub.cons O Sub.nil))))) ae)
  focus (refine aK ?_;refine qr ?_;refine qp ?_;refine qt (bU O O (by omega) (by unfold aH;omega)) ?_;refine qp ?_;refine qz ?_)
  refine hJ2 (j-1,wM t j) _ _ ⟨by show j-1≤i;omega,hpw.trans hp,fun p q h1 h2 h3=>?_⟩ (Sub.cons O (Sub.cons O (Sub.cons O (Sub.cons O (Sub.cons O Sub.nil))))) (fun _ h=>h) (by show j-1<j;omega)
  have h2:q≤i:=h2
  have h3:q≠j-1:=h3
  show (wM t j).getD p 0≤(wM t j).getD q 0
  rw[hsw p,hsw q,if_neg h3]
  by_cases hqj:q=j
  ·subst hqj
   rw[if_pos O]
   by_cases hp1:p=q-1
   ·rw[if_pos hp1]
    omega
   ·rw[if_neg hp1,if_neg (by omega)]
    have:=hs p (q-1) (by omega) (by omega) (by omega)
    omega
  ·rw[if_neg hqj]
   by_cases hp1:p=j-1
   ·rw[if_pos hp1]
    have:=hs j q (by omega) h2 hqj
    omega
   ·rw[if_neg hp1]
    by_cases hp2:p=j
    ·rw[if_pos hp2]
     have:=hs (j-1) q (by omega) h2 hqj
     omega
    ·rw[if_neg hp2]
     exact hs p q h1 h2 hqj
theorem xu (x:UInt8):aH .i64 (x.toNat:Int):=by
 have:=x.toNat_lt
 unfold aH
 omega
theorem uR (x:UInt8):aH .i64 (0+(x.toNat:Int)):=by
 have:=x.toNat_lt
 unfold aH
 omega
theorem sU (w:World) (q:Nat) (hq:q<256):
  Gives Tryz.prog 197 [uv q] [] w (X:=Nat) (fun x=> .int .i64 (x:Int)) (fun x=>x<256) (fun _=>[]):=by
 refine aP Tryz.func197 O Tryz.ntmps197 Tryz.results197 (by simp) (St.enter w) (fun B hB=>?_)
 repeat' (first|refine aa (aB O (by omega)) ?_ O O|refine aa (bj O O O O (xu _)) ?_ O O|refine aa (ii O O O (uR _)) ?_ O O|refine bM O ?_ O O|refine ax ?_|refine aa (AH O O O O (by first|assumption|omega)) ?_ O O|refine aa (bj O O O O (by unfold aH;omega)) ?_ O O|refine au O ?_|refine al O O ?_|refine aA O O ?_|refine aM O ?_)
 refine hB _ _ _ _ _ O O fun w' hS=>⟨_,congrArg (Value.int .i64) (Int.zero_add _),UInt8.toNat_lt _,hS⟩
theorem xv (w:World) (q:Nat) (hq:q<256):
  Gives Tryz.prog 182 [uv q] [] w (X:=Nat) (fun x=> .int .i64 (x:Int)) (fun x=>x<256) (fun _=>[]):=by
 refine aP Tryz.func182 O Tryz.ntmps182 Tryz.results182 (by simp) (St.enter w) (fun B hB=>?_)
 focus (refine qs ?_;refine qp ?_;refine qz ?_;refine qq ?_;refine qF ?_;refine qx ?_;refine qs ?_;refine qp ?_;(refine qe (gG (f:=197) Gb O (fun w hS=>sU w q hq) (fun _=>O)) ?_;rintro _ _ ⟨k,rfl,hk,rfl⟩);refine qp ?_;refine qz ?_)
 all_goals (refine hB _ _ _ _ _ O O fun w' hS=>⟨_,O,by assumption,hS⟩)
theorem sV (w:World) (A:Option Addr) (n c k:Nat) (s:List Nat) (hl:s.length=n) (hn:n≤12) (hS0:St w (ar [row 34 1 A n c (s.map uv)]) [row 34 1 A n c (s.map uv)] w):
  Gives Tryz.prog 181 [.slice A n c,.int .i64 (0:Int),.int .i64 (n:Int),.int .i64 (k:Int)] [row 34 1 A n c (s.map uv)] w (X:=List Nat) (fun _=> .tuple #[]) (fun x=>x.Perm s∧x.Pairwise (· ≤ ·)) (fun x=>[row 34 1 A n c (x.map uv)]):=by
 refine aP (rs:=[]) Tryz.func181 O Tryz.ntmps181 Tryz.results181 (by simp) hS0 (fun B hB=>?_)
 focus (refine qs ?_;refine qp ?_;refine qn ?_;refine qp ?_;refine qz ?_;refine qb ?_)
 refine bV (X:=Unit) (fun _=>[(0,.slice A n c),(1,.int .i64 (0:Int)),(2,.int .i64 (n:Int))]) (fun _=>[row 34 1 A n c (s.map uv)]) (fun _=>True) (fun _=>0) O () trivial (Sub.cons O (Sub.cons O (Sub.cons O Sub.nil))) (fun _ h=>h) ?_
 rintro _ _ J hJ
 focus (refine qb ?_;refine qs ?_;refine qp ?_;refine qp ?_;refine qt (ii O O O (by unfold aH;omega)) ?_;refine qp ?_;refine qz ?_;refine qq ?_;refine qs ?_;refine qp ?_;refine qd ?_;refine qz ?_;refine qT ?_;refine qs ?_;(iterate 3 refine qp ?_);(refine qe (um (f:=187) F8 O (fun w hS hS2=>sS w A n c s hl hn hS2) (fun _=>O)) ?_;rintro _ _ ⟨x,rfl,hx,rfl⟩);refine qz ?_)
 refine hB _ _ _ _ _ O O fun w' hS=>⟨x,O,hx,hS⟩
theorem pN (w:World) (A:Option Addr) (n c:Nat) (s:List Nat) (hl:s.length=n) (hn:n≤12) (hS0:St w (ar [row 34 1 A n c (s.map uv)]) [row 34 1 A n c (s.map uv)] w):
  Gives Tryz.prog 170 [.slice A n c] [row 34 1 A n c (s.map uv)] w (X:=List Nat) (fun _=> .tuple #[]) (fun x=>x.Perm s∧x.Pairwise (· ≤ ·)) (fun x=>[row 34 1 A n c (x.map uv)]):=by
 refine rh Tryz.func170 O Tryz.ntmps170 Tryz.results170 (by simp) hS0 (fun B hB=>?_)
 focus (refine qs ?_;(iterate 3 refine qp ?_);refine qz ?_;refine qr ?_;(iterate 3 refine qp ?_);refine qt (bj O O O O (by unfold aH;omega)) ?_;(refine qe (gG (f:=182) F4 O (fun w hS=>xv w n (by omega)) (fun _=>O)) ?_;rintro _ _ ⟨k,rfl,hk,rfl⟩);(refine qe (um (f:=181) F3 O (fun w hS hS2=>sV w A n c k s hl hn hS2) (fun _=>O)) ?_;rintro _ _ ⟨x,rfl,hx,rfl⟩);refine qz ?_)
 refine hB _ _ fun w' hS=>⟨x,hx,hS⟩
theorem xx (w:World) (A A2:Option Addr) (n c n2 c2':Nat) (ms:List Int) (L:List (Int×Nat)) (h:Rd w bC 1 A n (ms.map zv)) (h2:Rd w bC 2 A2 n2 (pK L)) (hn:n≤900) (hn2:n2≤900):
  Gives Tryz.prog 131 [jM A n c,.slice A2 n2 c2'] [] w (X:=Nat) uv (fun x=>if right ms then sO (ms.map (dH L)) x else x=0) (fun _=>[]):=by
 refine aP Tryz.func131 O Tryz.ntmps131 Tryz.results131 (by simp) (St.enter w) (fun B hB=>?_)
 have hl:ms.length=n:=by have:=h.1;simpa using this
 have hne:0<n→A≠none:=fun h0=>by obtain⟨ad,rfl,_⟩:=h.2 h0;simp
 have hl2:L.length=n2:=by have:=h2.1;rw[rE] at this;omega
 have hne2:0<n2→A2≠none:=fun h0=>by obtain⟨ad,rfl,_⟩:=h2.2 h0;simp
 subst hl hl2
 have hld: ∀ j,j<ms.length→(ms.map zv)[j]? =some (zv (ms.getD j 0)):=fun j hj=>iW hj
 cases hrt:right ms
 ·obtain⟨e,he,he0⟩: ∃ e,eL ms=e∧e≠0:=⟨_,O,by rw[eL,hrt];decide⟩
  focus (refine qs ?_;(refine qe (ap O) ?_;rintro _ _ ⟨b,rfl,rfl⟩);refine qp ?_;refine qz ?_;refine qq ?_;refine qs ?_;refine qt (dg (ds:=[.slice A ms.length c]) O O O O (fun j v h=>by simpa using h)) ?_;(refine qe (uK O (Srd.old h (fun k _=>ao k)) (by omega) he) ?_;rintro _ _ ⟨rfl,rfl⟩);refine qt (ay O he0) ?_;refine qz ?_;refine qT ?_;refine qs ?_;refine qp ?_;refine qz ?_)
  refine hB _ _ _ _ _ O O fun w' hS=>⟨0,O,by simp[hrt],hS.sublist (List.nil_sublist _)⟩
 obtain⟨hm1,hm5⟩:=io hrt
 have he:eL ms=0:=by rw[eL,hrt];rfl
 focus (refine qs ?_;(refine qe (ap O) ?_;rintro _ _ ⟨b,rfl,rfl⟩);refine qp ?_;refine qz ?_;refine qq ?_;refine qs ?_;refine qt (dg (ds:=[.slice A ms.length c]) O O O O (fun j v h=>by simpa using h)) ?_;(refine qe (uK O (Srd.old h (fun k _=>ao k)) (by omega) he) ?_;rintro _ _ ⟨rfl,rfl⟩);refine qt (aB O (by simp)) ?_;refine qz ?_;refine qF ?_;refine qx ?_;refine qs ?_;refine qp ?_;refine qz ?_;refine qq ?_;refine qs ?_;refine qp ?_;refine qt (ah O O O (by first|rfl|assumption)) ?_;refine qp ?_;refine qp ?_;refine qz ?_;refine qb ?_)
 refine bV (X:=Nat×Option Addr×Nat) (fun y=>[(1,.slice A2 L.length c2'),(5,.slice y.2.1 y.1 y.2.2),(15,.slice A ms.length c),(16,.int .i64 (ms.length:Int)),(17,.int .i64 (y.1:Int))]) (fun y=>[row 34 1 y.2.1 y.1 y.2.2 (((ms.take y.1).map (dH L)).map uv)]) (fun y=>y.1≤ms.length) (fun y=>ms.length-y.1) O (0,none,0) (Nat.zero_le _) (Sub.cons O (Sub.cons O (Sub.cons O (Sub.cons O (Sub.cons O Sub.nil))))) (fun w hS=>(hS.nilrow _ _).sublist (.cons_cons _ (List.nil_sublist _))) ?_
 rintro⟨j,A3,c3⟩ hj J hJ
 simp only at hj ⊢
 rcases Nat.lt_or_ge j ms.length with hjl|hjl
 rotate_left
 ·have hjn:j=ms.length:=by omega
  subst hjn
  rw[List.take_length]
  obtain⟨vs,hvs⟩: ∃ vs,ms.map (dH L)=vs:=⟨_,O⟩
  rw[hvs]
  have hvl:vs.length=ms.length:=by rw[← hvs];simp
  refine eS A3 ms.length c3 fun hmc hcm hne3 hxl=>?_
  have hne3:=hne3 (by omega)
  focus (refine qs ?_;refine qf ?_;refine qz ?_;refine qq ?_;refine qF ?_;refine bE O O ?_;refine qs ?_;refine qp ?_;(refine qe (um (f:=170) FY O (fun w hS hS2=>pN w A3 ms.length c3 vs hvl (by omega) hS2) (fun _=>O)) ?_;rintro _ _ ⟨s,rfl,⟨hsp,hss⟩,rfl⟩);refine qn ?_;(iterate 3 refine qp ?_);refine qt (bU O O (by omega) (by unfold aH;omega)) ?_;refine qt (zh O O (by omega) (by unfold aH;omega)) ?_;refine qt (fc O O O O O O (by first|assumption|exact hne (by omega)|exact hne2 (by omega)) (by omega)) ?_)
  have hsl:s.length=ms.length:=by rw[hsp.length_eq,hvl]
  have hat:=uQ (s:=s) (j:=(ms.length-1)/2) (by omega)
  focus (refine qt (bN O O O (Srd.row (n:=ms.length) (c:=c3)) (by omega) hat) ?_;refine qp ?_;refine qz ?_)
  refine hB _ _ _ _ _ O O fun w' hS=>⟨s.getD ((ms.length-1)/2) 0,O,?_,hS.sublist (List.nil_sublist _)⟩
  rw[hrt,if_pos O,hvs, ← hsl]
  exact xq hsp hss (by omega)
 have hld':=hld j hjl
 have hnj:(ms.take (j+1)).map (dH L)=(ms.take j).map (dH L)++[dH L (ms.getD j 0)]:=by
  rw[List.take_succ_eq_append_getElem hjl,List.map_append]
  simp[List.getD,hjl]
 obtain⟨x,hx⟩: ∃ x,ms.getD j 0=x:=⟨_,O⟩
 rw[hx] at hld' hnj
 obtain⟨R,hR⟩: ∃ R,(ms.take j).map (dH L)=R:=⟨_,O⟩
 have hRl:R.length=j:=by rw[← hR,List.length_map,List.length_take];omega
 rw[hR] at hnj ⊢
 repeat' (first|refine aa (ay O (by omega)) ?_ O O|refine bM O ?_ O O|refine ax ?_|refine aa (bN O O O (Srd.old h (fun k _=>ao k)) (by omega) hld') ?_ O O|refine aa (fc O O O O O O (by first|assumption|exact hne (by omega)|exact hne2 (by omega)) (by omega)) ?_ O O|refine au O ?_|refine al O O ?_|refine aC O O ?_|refine aG O ?_|refine aM O ?_)
 refine bV (X:=Nat) (fun k=>[(1,.slice A2 L.length c2'),(5,.slice A3 j c3),(7,zv x),(8,uv (dH (L.take k) x)),(15,.slice A ms.length c),(16,.int .i64 (ms.length:Int)),(17,.int .i64 (j:Int)),(21,.slice A2 L.length c2'),(22,.int .i64 (L.length:Int)),(23,.int .i64 (k:Int))]) (fun _=>[row 34 1 A3 j c3 (R.map uv)]) (fun k=>k≤L.length) (fun k=>L.length-k) O 0 (Nat.zero_le _) (Sub.cons O (Sub.cons O (Sub.cons O (Sub.cons O (Sub.cons O (Sub.cons O (Sub.cons O (Sub.cons O (Sub.cons O (Sub.cons O Sub.nil)))))))))) (fun _ h=>h) ?_
 rintro k hk J2 hJ2
 rcases Nat.lt_or_ge k L.length with hkl|hkl
 rotate_left
 ·have hkn:k=L.length:=by omega
  subst hkn
  rw[List.take_length]
  obtain⟨v,hv⟩: ∃ v,dH L x=v:=⟨_,O⟩
  rw[hv] at hnj ⊢
  focus (refine qs ?_;refine qf ?_;refine qz ?_;refine qq ?_;refine qF ?_;refine bE O O ?_;refine qr ?_;refine qp ?_;refine qp ?_;(refine qe (d7 (m:=1) (vs:=[uv v]) O O O O O O O (by simp[uv,Value.oneCell']) (by decide)) ?_;rintro _ _ ⟨bx,rfl,rfl⟩);(refine qe (lV O O O O O O O (Srd.pt (ds:=[uv v]) O (fun j u hj=>by rw[Nat.zero_add];exact hj)) (by simp[uv,Value.oneCell']) (by show _*8≤_;omega) (by unfold maxLen;omega)) ?_;rintro _ _ ⟨A7,c7,rfl,rfl⟩);refine qp ?_;refine qz ?_;refine aK ?_;refine qr ?_;refine qt (aI O O (by unfold aH;omega)) ?_;refine qp ?_;refine qz ?_)
  refine hJ (j+1,A7,c7) _ _ (by show j+1≤_;omega) (Sub.cons O (Sub.cons O (Sub.cons O (Sub.cons O (Sub.cons O Sub.nil))))) (fun w' hS=>?_) (by show ms.length-(j+1)<_;omega)
  dsimp only
  rw[hnj,List.map_append]
  exact hS.sublist (.cons_cons _ (List.nil_sublist _))
 have hnx:=uM L x k hkl
 have hat:=uL L k hkl
 obtain⟨⟨a,v⟩,hx2⟩: ∃ x,L.getD k (0,0)=x:=⟨_,O⟩
 obtain⟨q,hq⟩: ∃ q,dH (L.take k) x=q:=⟨_,O⟩
 rw[hx2,hq] at hnx
 rw[hx2] at hat
 rw[hq]
 dsimp only at hnx hat
 by_cases ham:a=x
 ·rw[if_pos ham] at hnx
  focus (refine qs ?_;refine qd ?_;refine qz ?_;refine qq ?_;refine qT ?_;refine qx ?_;refine qq ?_;refine qb ?_;refine qs ?_;refine qt (w7 O O O O O (hne2 (by omega)) (by omega)) ?_;refine qt (ke (ds:=[zv a,uv v]) O O O h2 O (by omega) hat (fun k _=>ao k)) ?_;(refine qe (am O oy) ?_;rintro _ _ ⟨b7,rfl,rfl⟩);(refine qw (aj (cs:=[zv 0,uv 0]) O O O O (uN _ _) O) ?_;rintro _ _ rfl);refine qn ?_;refine qp ?_;refine qt (ah O O O (by first|rfl|assumption)) ?_;refine qp ?_;refine qd ?_;refine qz ?_;refine qT ?_;refine qr ?_;refine qp ?_;refine qp ?_;refine qt (ah O O O (by first|rfl|assumption)) ?_;refine qt (l5 O O) ?_;refine qp ?_;refine qz ?_;refine aK ?_;refine qr ?_;refine qt (aI O O (by unfold aH;omega)) ?_;refine qp ?_;refine qz ?_)
  refine hJ2 (k+1) _ _ (by omega) ?_ (fun _ hS=>hS.sublist (.cons _ (.refl _))) (by omega)
  rw[hnx]
  exact(Sub.cons O (Sub.cons O (Sub.cons O (Sub.cons O (Sub.cons O (Sub.cons O (Sub.cons O (Sub.cons O (Sub.cons O (Sub.cons O Sub.nil))))))))))
 ·rw[if_neg ham] at hnx
  focus (refine qs ?_;refine qd ?_;refine qz ?_;refine qq ?_;refine qT ?_;refine qx ?_;refine qq ?_;refine qb ?_;refine qs ?_;refine qt (w7 O O O O O (hne2 (by omega)) (by omega)) ?_;refine qt (ke (ds:=[zv a,uv v]) O O O h2 O (by omega) hat (fun k _=>ao k)) ?_;(refine qe (am O oy) ?_;rintro _ _ ⟨b7,rfl,rfl⟩);(refine qw (aj (cs:=[zv 0,uv 0]) O O O O (uN _ _) O) ?_;rintro _ _ rfl);refine qn ?_;refine qp ?_;refine qt (ah O O O (by first|rfl|assumption)) ?_;refine qp ?_;refine qt (aB O ham) ?_;refine qz ?_;refine qF ?_;refine qx ?_;refine aK ?_;refine qr ?_;refine qt (aI O O (by unfold aH;omega)) ?_;refine qp ?_;refine qz ?_)
  refine hJ2 (k+1) _ _ (by omega) ?_ (fun _ hS=>hS.sublist (.cons _ (.refl _))) (by omega)
  rw[hnx]
  exact(Sub.cons O (Sub.cons O (Sub.cons O (Sub.cons O (Sub.cons O (Sub.cons O (Sub.cons O (Sub.cons O (Sub.cons O (Sub.cons O Sub.nil))))))))))
end Go.Proofs.YtdeffdldifepkaaGreat.C
namespace Go.Proofs.YtdeffdldifepkaaGreat
open Go.RowKit
open Asn (pt row rb)
set_option linter.unusedVariables false
set_option linter.unusedSimpArgs false
abbrev Em:=Nat×Int×Dt
abbrev En:=Nat×Int×List UInt8
abbrev At:=Nat×Nat
def aN (m:Em):List Value:=[.int .u64 (m.1:Int),.int .i64 m.2.1,.slice m.2.2.1 m.2.2.2.2.length m.2.2.2.1]
def bA (m:Em):En:=(m.1,m.2.1,m.2.2.2.2)
def aO (a:At):List Value:=[.int .u64 (a.1:Int),.int .u64 (a.2:Int)]
def aE (a:At) (A:Option Addr) (n c:Nat):List Value:=[.int .u64 (a.1:Int),.int .u64 (a.2:Int),.slice A n c]
theorem bW (m:Em):(aN m).length=3:=rfl
theorem cC (m:Em): ∀ u∈aN m,u.oneCell'=true:=by simp[aN,Value.oneCell']
theorem aQ (a:At): ∀ u∈aO a,u.oneCell'=true:=by simp[aO,Value.oneCell']
theorem bD (a:At) (A:Option Addr) (n c:Nat): ∀ u∈aE a A n c,u.oneCell'=true:=by simp[aE,Value.oneCell']
theorem cu:AM.zero= .agg (aN (0,0,none,0,[])).toArray:=by kernel_rfl
theorem ba:w8.zero= .agg (aO (0,0)).toArray:=by kernel_rfl
theorem bP:AJ.zero= .agg (aE (0,0) none 0 0).toArray:=by kernel_rfl
theorem bY:Tryz.prog.built 36 []=some (aO (0,0)).toArray:=by kernel_rfl
theorem fL (i t:Nat):Tryz.prog.built 36 [(0,.int .u64 (i:Int)),(1,.int .u64 (t:Int))]=some (aO (i,t)).toArray:=by kernel_rfl
theorem eG:Tryz.prog.built 39 []=some (aE (0,0) none 0 0).toArray:=by kernel_rfl
theorem fd (a:At) (A:Option Addr) (n c:Nat):Tryz.prog.built 39 [(0,.agg (aO a).toArray),(1,.slice A n c)]=some (aE a A n c).toArray:=by kernel_rfl
section
variable {n:Nat} {w0:World} {M:Nat→Prop} {T:aF} {H:List Asn} {dd:Option Tmp} {tt:TypeId} {pos:String} {af:Array Edge} {g:Option (Nat×Bool)} {x y:Operand}
theorem gI {u:TypeId} {a b:At} {r:Bool} (hx:az T x=some (.agg (aO a).toArray)) (hy:az T y=some (.agg (aO b).toArray)) (hr:decide (a=b)=r):
  Tk Tryz.prog n w0 M T H ⟨dd,.binOp .eql 36 x y u,tt,pos,af,g⟩ (.bool (r)):=by
 refine Dq (r:=r) hx hy (s:=36) (i:=w8) O O (by kernel_rfl) (by kernel_rfl) O ?_
 subst hr
 obtain⟨a1,a2⟩:=a
 obtain⟨b1,b2⟩:=b
 show ((a1:Int)==(b1:Int)&&((a2:Int)==(b2:Int)&&true))=_
 rw[Bool.and_true,Bool.eq_iff_iff]
 simp
 omega
theorem zO {u:TypeId} {a b:At} {r:Bool} (hx:az T x=some (.agg (aO a).toArray)) (hy:az T y=some (.agg (aO b).toArray)) (hr:decide (a=b)=r):
  Tk Tryz.prog n w0 M T H ⟨dd,.binOp .neq 36 x y u,tt,pos,af,g⟩ (.bool (!r)):=by
 refine Dr (r:=r) hx hy (s:=36) (i:=w8) O O (by kernel_rfl) (by kernel_rfl) O ?_
 subst hr
 obtain⟨a1,a2⟩:=a
 obtain⟨b1,b2⟩:=b
 show ((a1:Int)==(b1:Int)&&((a2:Int)==(b2:Int)&&true))=_
 rw[Bool.and_true,Bool.eq_iff_iff]
 simp
 omega
end
def eQ (e:En):Bool:=if e.2.1=1 then decide (0<e.1)&&decide (e.2.2.length=0) else if e.2.1=2∨e.2.1=3 then decide (0<e.1)&&decide (e.2.2.length≤1024) else false
def eM (l:List En) (t:Nat):Nat:=match l.getLast? with|some e=>e.1|none=>t
def bw:List En→Nat→Bool
 |[],_=>true
 |e::l,t=>eQ e&&decide (t≤e.1)&&bw l e.1
def br (a:At) (l:List En):Bool:=(decide (a=(0,0))||(decide (0<a.1)&&decide (0<a.2)))&&decide (l.length≤16)&&decide (a.1≤18446744073709551614-l.length)&&bw l a.2
def cM (a:At) (l:List En):At:=(a.1+l.length,eM l a.2)
theorem gB (l1 l2:List En) (t:Nat):eM (l1++l2) t=eM l2 (eM l1 t):=by
 unfold eM
 rw[List.getLast?_append]
 cases l2.getLast?<;>rfl
theorem fM: ∀ (l1 l2:List En) (t:Nat),bw (l1++l2) t=(bw l1 t&&bw l2 (eM l1 t))
 |[],l2,t=>by simp[bw,eM]
 |e::l1,l2,t=>by
  have ih:=fM l1 l2 e.1
  have e2:eM (e::l1) t=eM l1 e.1:=by
   have:=gB [e] l1 t
   exact this
  rw[List.cons_append,bw,bw,ih,e2,Bool.and_assoc,Bool.and_assoc,Bool.and_assoc]
theorem kA (Q:List Em) (j:Nat) (hj:j<Q.length) {m:Em} (hm:Q.getD j default=m):(Q.take (j+1)).map bA=(Q.take j).map bA++[bA m]:=by
 subst hm
 rw[List.take_succ_eq_append_getElem hj,List.map_append]
 simp[List.getD,hj]
theorem oz (Q:List Em) (j:Nat) (hj:j<Q.length) {m:Em} (hm:Q.getD j default=m):Q.map bA=(Q.take j).map bA++bA m::(Q.drop (j+1)).map bA:=by
 subst hm
 conv=>lhs;rw[← List.take_append_drop j Q,List.drop_eq_getElem_cons hj]
 rw[List.map_append,List.map_cons]
 simp[List.getD,hj]
theorem iK (w:World) (m:Em):
  Gives Tryz.prog 129 [.agg (aN m).toArray] [] w (X:=Unit) (fun _=> .bool (eQ (bA m))) (fun _=>True) (fun _=>[]):=by
 refine aP Tryz.func129 O Tryz.ntmps129 Tryz.results129 (by simp) (St.enter w) (fun B hB=>?_)
 obtain⟨t,k,A,c,l⟩:=m
 obtain⟨n,hn⟩: ∃ n,l.length=n:=⟨_,O⟩
 have hp:eQ (bA (t,k,A,c,l))=if k=1 then decide (0<t)&&decide (n=0) else if k=2∨k=3 then decide (0<t)&&decide (n≤1024) else false:=by rw[← hn];rfl
 rw[hp]at hB
 rw[show (aN (t,k,A,c,l))=[.int .u64 (t:Int),.int .i64 k,.slice A n c] by rw[← hn];rfl]
 by_cases h1:k=1
 ·rw[if_pos h1] at hB
  by_cases h2:0<t
  ·by_cases h3:n=0
   ·rw[decide_eq_true h2,decide_eq_true h3] at hB
    repeat' (first|refine aa (ay O (by omega)) ?_ O O|refine bM O ?_ O O|refine ax ?_|refine aa (ah O O O O) ?_ O O|refine au O ?_|refine al O O ?_|refine aC O O ?_|refine aG O ?_|(refine an (ap (cs:=[.int .u64 (t:Int),.int .i64 k,.slice A n c]) O) ?_ O O;rintro _ _ ⟨b1,rfl,rfl⟩))
    exact hB _ _ _ _ _ O O (qE O)
   ·rw[decide_eq_true h2,decide_eq_false h3] at hB
    repeat' (first|refine aa (ay O (by omega)) ?_ O O|refine aa (aB O (by omega)) ?_ O O|refine bM O ?_ O O|refine ax ?_|refine aa (ah O O O O) ?_ O O|refine au O ?_|refine al O O ?_|refine aC O O ?_|refine aG O ?_|(refine an (ap (cs:=[.int .u64 (t:Int),.int .i64 k,.slice A n c]) O) ?_ O O;rintro _ _ ⟨b1,rfl,rfl⟩))
    exact hB _ _ _ _ _ O O (qE O)
  ·rw[decide_eq_false h2,Bool.false_and] at hB
   repeat' (first|refine aa (ay O (by omega)) ?_ O O|refine aa (aB O (by omega)) ?_ O O|refine bM O ?_ O O|refine ax ?_|refine aU ?_ O O|refine aa (ah O O O O) ?_ O O|refine au O ?_|refine al O O ?_|refine aC O O ?_|refine aG O ?_|(refine an (ap (cs:=[.int .u64 (t:Int),.int .i64 k,.slice A n c]) O) ?_ O O;rintro _ _ ⟨b1,rfl,rfl⟩))
   exact hB _ _ _ _ _ O O (qE O)
 rw[if_neg h1] at hB
 by_cases h23:k=2∨k=3
 ·rw[if_pos h23] at hB
  by_cases h2:0<t
  ·by_cases h3:n≤1024
   ·rw[decide_eq_true h2,decide_eq_true h3] at hB
    by_cases h4:k=2
    ·repeat' (first|refine aa (ay O (by omega)) ?_ O O|refine aa (aB O (by omega)) ?_ O O|refine bM O ?_ O O|refine ax ?_|refine aa (ah O O O O) ?_ O O|refine au O ?_|refine al O O ?_|refine aC O O ?_|refine aA O O ?_|refine aG O ?_|refine aM O ?_|(refine an (ap (cs:=[.int .u64 (t:Int),.int .i64 k,.slice A n c]) O) ?_ O O;rintro _ _ ⟨b1,rfl,rfl⟩))
     exact hB _ _ _ _ _ O O (qE O)
    ·repeat' (first|refine aa (ay O (by omega)) ?_ O O|refine aa (aB O (by omega)) ?_ O O|refine bM O ?_ O O|refine ax ?_|refine aa (ah O O O O) ?_ O O|refine au O ?_|refine al O O ?_|refine aC O O ?_|refine aA O O ?_|refine aG O ?_|(refine an (ap (cs:=[.int .u64 (t:Int),.int .i64 k,.slice A n c]) O) ?_ O O;rintro _ _ ⟨b1,rfl,rfl⟩))
     exact hB _ _ _ _ _ O O (qE O)
   ·rw[decide_eq_true h2,decide_eq_false h3] at hB
    by_cases h4:k=2
    ·repeat' (first|refine aa (ay O (by omega)) ?_ O O|refine aa (aB O (by omega)) ?_ O O|refine bM O ?_ O O|refine ax ?_|refine aa (ah O O O O) ?_ O O|refine au O ?_|refine al O O ?_|refine aC O O ?_|refine aA O O ?_|refine aG O ?_|refine aM O ?_|(refine an (ap (cs:=[.int .u64 (t:Int),.int .i64 k,.slice A n c]) O) ?_ O O;rintro _ _ ⟨b1,rfl,rfl⟩))
     exact hB _ _ _ _ _ O O (qE O)
    ·repeat' (first|refine aa (ay O (by omega)) ?_ O O|refine aa (aB O (by omega)) ?_ O O|refine bM O ?_ O O|refine ax ?_|refine aa (ah O O O O) ?_ O O|refine au O ?_|refine al O O ?_|refine aC O O ?_|refine aA O O ?_|refine aG O ?_|(refine an (ap (cs:=[.int .u64 (t:Int),.int .i64 k,.slice A n c]) O) ?_ O O;rintro _ _ ⟨b1,rfl,rfl⟩))
     exact hB _ _ _ _ _ O O (qE O)
  ·rw[decide_eq_false h2,Bool.false_and] at hB
   by_cases h4:k=2
   ·repeat' (first|refine aa (ay O (by omega)) ?_ O O|refine aa (aB O (by omega)) ?_ O O|refine bM O ?_ O O|refine ax ?_|refine aU ?_ O O|refine aa (ah O O O O) ?_ O O|refine au O ?_|refine al O O ?_|refine aC O O ?_|refine aA O O ?_|refine aG O ?_|refine aM O ?_|(refine an (ap (cs:=[.int .u64 (t:Int),.int .i64 k,.slice A n c]) O) ?_ O O;rintro _ _ ⟨b1,rfl,rfl⟩))
    exact hB _ _ _ _ _ O O (qE O)
   ·repeat' (first|refine aa (ay O (by omega)) ?_ O O|refine aa (aB O (by omega)) ?_ O O|refine bM O ?_ O O|refine ax ?_|refine aU ?_ O O|refine aa (ah O O O O) ?_ O O|refine au O ?_|refine al O O ?_|refine aC O O ?_|refine aA O O ?_|refine aG O ?_|(refine an (ap (cs:=[.int .u64 (t:Int),.int .i64 k,.slice A n c]) O) ?_ O O;rintro _ _ ⟨b1,rfl,rfl⟩))
    exact hB _ _ _ _ _ O O (qE O)
 ·rw[if_neg h23] at hB
  repeat' (first|refine aa (aB O (by omega)) ?_ O O|refine bM O ?_ O O|refine ax ?_|refine aa (ah O O O O) ?_ O O|refine au O ?_|refine al O O ?_|refine aA O O ?_|refine aG O ?_|refine aK ?_|refine aM O ?_|(refine an (ap (cs:=[.int .u64 (t:Int),.int .i64 k,.slice A n c]) O) ?_ O O;rintro _ _ ⟨b1,rfl,rfl⟩))
  exact hB _ _ _ _ _ O O (qE O)
theorem fN (w:World) (A:Option Addr) (c:Nat) (Q:List Em) (t:Nat) (h:Rd w bC 3 A Q.length (ab aN Q)) (hn:Q.length≤100000):
  Gives Tryz.prog 167 [.slice A Q.length c,.int .u64 (t:Int)] [] w (X:=Unit) (fun _=> .bool (bw (Q.map bA) t)) (fun _=>True) (fun _=>[]):=by
 refine aP Tryz.func167 O Tryz.ntmps167 Tryz.results167 (by simp) (St.enter w) (fun B hB=>?_)
 have hne:0<Q.length→A≠none:=fun h0=>by obtain⟨ad,rfl,_⟩:=h.2 (by omega);simp
 focus (refine qs ?_;refine qp ?_;refine qz ?_;refine qq ?_;refine qs ?_;(iterate 3 refine qp ?_);refine qz ?_;refine qb ?_)
 refine bV (X:=Nat×Nat) (fun x=>[(1,.int .u64 (x.2:Int)),(7,.slice A Q.length c),(8,.int .i64 (Q.length:Int)),(9,.int .i64 (x.1:Int))]) (fun _=>[]) (fun x=>x.1≤Q.length∧bw ((Q.take x.1).map bA) t=true∧eM ((Q.take x.1).map bA) t=x.2) (fun x=>Q.length-x.1) O (0,t) ⟨Nat.zero_le _,O,O⟩ (Sub.cons O (Sub.cons O (Sub.cons O (Sub.cons O Sub.nil)))) ae ?_
 rintro⟨j,u⟩ ⟨hj,hok,hu⟩ J hJ
 dsimp only at hj hok hu ⊢
 rcases Nat.lt_or_ge j Q.length with hjl|hjl
 ·have hne:=hne (by omega)
  have hat:=bi (f:=aN) bW Q default j hjl
  obtain⟨m,hm⟩: ∃ m,Q.getD j default=m:=⟨_,O⟩
  rw[hm] at hat
  have htk:=kA Q j hjl hm
  have hdr:=oz Q j hjl hm
  obtain⟨r,hr⟩: ∃ r,eQ (bA m)=r:=⟨_,O⟩
  have hfl:r=false∨m.1<u→bw (Q.map bA) t=false:=fun h=>by
   rw[hdr,fM,hok,hu,bw,hr]
   rcases h with h|h
   ·rw[h];rfl
   ·rw[decide_eq_false (by show ¬ u≤m.1;omega)];simp
  have hnx:r=true→u≤m.1→bw ((Q.take (j+1)).map bA) t=true∧eM ((Q.take (j+1)).map bA) t=m.1:=fun h1 h2=>by
   rw[htk,fM,gB,hok,hu,bw,bw,hr,h1]
   exact⟨by simp;exact h2,O⟩
  cases r
  ·rw[hfl (.inl O)] at hB
   focus (refine qs ?_;refine qd ?_;refine qz ?_;refine qq ?_;refine qT ?_;refine qx ?_;refine qq ?_;refine qb ?_;refine qs ?_;refine qt (bH (sz:=3) O O O O O O hne hjl) ?_;refine qt (cw (ds:=aN m) O O O (Srd.old h (fun k _=>ao k)) O (by omega) hat) ?_;(refine qe (am O cu) ?_;rintro _ _ ⟨b6,rfl,rfl⟩);(refine qw (aj (cs:=aN (0,0,none,0,[])) (ds:=aN m) O O O O (cC _) O) ?_;rintro _ _ rfl);refine qz ?_;refine qq ?_;refine qs ?_;refine qt (ai (ds:=aN m) O O O O O) ?_;(refine qh sJ (fun w hS=>iK w m) ?_;rw[hr]);refine qt (aR O) ?_;refine qd ?_;(iterate 4 refine qk ?_);refine qd ?_;refine qz ?_;refine qT ?_;refine qs ?_;refine qp ?_;refine qz ?_)
   exact hB _ _ _ _ _ O O (qE O)
  by_cases hmu:m.1<u
  ·rw[hfl (.inr hmu)] at hB
   focus (refine qs ?_;refine qd ?_;refine qz ?_;refine qq ?_;refine qT ?_;refine qx ?_;refine qq ?_;refine qb ?_;refine qs ?_;refine qt (bH (sz:=3) O O O O O O hne hjl) ?_;refine qt (cw (ds:=aN m) O O O (Srd.old h (fun k _=>ao k)) O (by omega) hat) ?_;(refine qe (am O cu) ?_;rintro _ _ ⟨b6,rfl,rfl⟩);(refine qw (aj (cs:=aN (0,0,none,0,[])) (ds:=aN m) O O O O (cC _) O) ?_;rintro _ _ rfl);refine qz ?_;refine qq ?_;refine qs ?_;refine qt (ai (ds:=aN m) O O O O O) ?_;(refine qh sJ (fun w hS=>iK w m) ?_;rw[hr]);refine qt (aR O) ?_;refine qp ?_;refine qp ?_;refine qt (ah O O O O) ?_;refine qp ?_;refine qd ?_;refine qd ?_;refine qz ?_;refine qT ?_;refine qs ?_;refine qp ?_;refine qz ?_)
   exact hB _ _ _ _ _ O O (qE O)
  ·focus (refine qs ?_;refine qd ?_;refine qz ?_;refine qq ?_;refine qT ?_;refine qx ?_;refine qq ?_;refine qb ?_;refine qs ?_;refine qt (bH (sz:=3) O O O O O O hne hjl) ?_;refine qt (cw (ds:=aN m) O O O (Srd.old h (fun k _=>ao k)) O (by omega) hat) ?_;(refine qe (am O cu) ?_;rintro _ _ ⟨b6,rfl,rfl⟩);(refine qw (aj (cs:=aN (0,0,none,0,[])) (ds:=aN m) O O O O (cC _) O) ?_;rintro _ _ rfl);refine qz ?_;refine qq ?_;refine qs ?_;refine qt (ai (ds:=aN m) O O O O O) ?_;(refine qh sJ (fun w hS=>iK w m) ?_;rw[hr]);refine qt (aR O) ?_;refine qp ?_;refine qp ?_;refine qt (ah O O O O) ?_;refine qp ?_;refine qf ?_;refine qp ?_;refine qz ?_;refine qF ?_;refine qx ?_;refine qr ?_;refine qp ?_;refine qt (ah O O O O) ?_;refine qp ?_;refine qz ?_;refine aK ?_;refine qr ?_;refine qt (aI O O (by unfold aH;omega)) ?_;refine qp ?_;refine qz ?_)
   exact hJ (j+1,m.1) _ _ ⟨by show j+1≤_;omega,hnx O (by omega)⟩ (Sub.cons O (Sub.cons O (Sub.cons O (Sub.cons O Sub.nil)))) ae (by show Q.length-(j+1)<_;omega)
 have hjn:j=Q.length:=by omega
 subst hjn
 rw[List.take_length] at hok
 rw[hok] at hB
 focus (refine qs ?_;refine qf ?_;refine qz ?_;refine qq ?_;refine qF ?_;refine bE O O ?_;refine qs ?_;refine qp ?_;refine qz ?_)
 exact hB _ _ _ _ _ O O (qE O)
def l6 (a:At):Bool:=decide (a=(0,0))||(decide (0<a.1)&&decide (0<a.2))
theorem k9 (a:At) (l:List En):br a l=(l6 a&&decide (l.length≤16)&&decide (a.1≤18446744073709551614-l.length)&&bw l a.2):=rfl
theorem dF {a:At} {l:List En} (h:br a l=true):l.length≤16∧a.1+l.length≤18446744073709551614:=by
 rw[k9,Bool.and_eq_true,Bool.and_eq_true,Bool.and_eq_true,decide_eq_true_eq,decide_eq_true_eq] at h
 omega
theorem uS (Q:List Em) (t:Nat) (h:0<Q.length):eM (Q.map bA) t=(Q.getD (Q.length-1) default).1:=by
 have e:Q=Q.take (Q.length-1)++[Q.getD (Q.length-1) default]:=by
  have:=List.take_succ_eq_append_getElem (l:=Q) (i:=Q.length-1) (by omega)
  rw[show Q.length-1+1=Q.length by omega,List.take_length] at this
  simpa[List.getD,show Q.length-1<Q.length by omega] using this
 conv=>lhs;rw[e]
 rw[List.map_append,gB]
 rfl
theorem bL (w:World) (a:At) (A:Option Addr) (c:Nat) (Q:List Em) (h:Rd w bC 3 A Q.length (ab aN Q)) (hn:Q.length≤100000):
  Gives Tryz.prog 121 [.agg (aE a A Q.length c).toArray] [] w (X:=Unit) (fun _=> .bool (br a (Q.map bA))) (fun _=>True) (fun _=>[]):=by
 refine aP Tryz.func121 O Tryz.ntmps121 Tryz.results121 (by simp) (St.enter w) (fun B hB=>?_)
 obtain⟨i,t⟩:=a
 have hq:br (i,t) (Q.map bA)=(l6 (i,t)&&decide (Q.length≤16)&&decide (i≤18446744073709551614-Q.length)&&bw (Q.map bA) t):=by rw[k9,List.length_map]
 rw[hq] at hB
 obtain⟨r,hr⟩: ∃ r,bw (Q.map bA) t=r:=⟨_,O⟩
 rw[hr] at hB
 by_cases hz:(i,t)=((0,0):At)
 ·have hb:l6 (i,t)=true:=by rw[l6,decide_eq_true hz];rfl
  have hz:=decide_eq_true hz
  by_cases h16:Q.length≤16
  ·by_cases hi:i≤18446744073709551614-Q.length
   ·rw[hb,decide_eq_true h16,decide_eq_true hi,Bool.and_self,Bool.and_self,Bool.true_and] at hB
    repeat' (first|refine aa (gI (a:=(i,t)) (b:=(0,0)) O O hz) ?_ O O|refine aa (ay O (by omega)) ?_ O O|refine bM O ?_ O O|refine ax ?_|refine aU ?_ O O|refine aa (ai (ds:=aO (i,t)) O O O O O) ?_ O O|refine aa (ah O O O O) ?_ O O|refine aa (bu bY) ?_ O O|refine aa (bU O O (by omega) (by unfold aH;omega)) ?_ O O|refine aa (bj O O O O (by unfold aH;omega)) ?_ O O|refine au O ?_|refine al O O ?_|(refine an (ap (cs:=aE (i,t) A Q.length c) O) ?_ O O;rintro _ _ ⟨b1,rfl,rfl⟩)|((refine an (aq (f:=167) sL (fun w hS=>fN w A c Q t ((Srd.old h (fun k _=>ao k)).rd w hS) hn) O O (fun _=>O)) ?_ O O;rintro _ _ ⟨_,rfl,_,rfl⟩);rw[hr]))
    exact hB _ _ _ _ _ O O (qE O)
   ·rw[hb,decide_eq_true h16,decide_eq_false hi,Bool.and_false,Bool.false_and] at hB
    repeat' (first|refine aa (gI (a:=(i,t)) (b:=(0,0)) O O hz) ?_ O O|refine aa (ay O (by omega)) ?_ O O|refine aa (aB O (by omega)) ?_ O O|refine bM O ?_ O O|refine ax ?_|refine aU ?_ O O|refine aa (ai (ds:=aO (i,t)) O O O O O) ?_ O O|refine aa (ah O O O O) ?_ O O|refine aa (bu bY) ?_ O O|refine aa (bU O O (by omega) (by unfold aH;omega)) ?_ O O|refine aa (bj O O O O (by unfold aH;omega)) ?_ O O|refine au O ?_|refine al O O ?_|(refine an (ap (cs:=aE (i,t) A Q.length c) O) ?_ O O;rintro _ _ ⟨b1,rfl,rfl⟩))
    exact hB _ _ _ _ _ O O (qE O)
  ·rw[hb,decide_eq_false h16,Bool.and_false,Bool.false_and,Bool.false_and] at hB
   repeat' (first|refine aa (gI (a:=(i,t)) (b:=(0,0)) O O hz) ?_ O O|refine aa (aB O (by omega)) ?_ O O|refine bM O ?_ O O|refine ax ?_|refine aU ?_ O O|refine aa (ai (ds:=aO (i,t)) O O O O O) ?_ O O|refine aa (ah O O O O) ?_ O O|refine aa (bu bY) ?_ O O|refine au O ?_|refine al O O ?_|(refine an (ap (cs:=aE (i,t) A Q.length c) O) ?_ O O;rintro _ _ ⟨b1,rfl,rfl⟩))
   exact hB _ _ _ _ _ O O (qE O)
 have hz2:l6 (i,t)=(decide (0<i)&&decide (0<t)):=by rw[l6,decide_eq_false hz];rfl
 have hz:=decide_eq_false hz
 by_cases hi0:0<i
 ·by_cases ht0:0<t
  ·have hb:l6 (i,t)=true:=by rw[hz2,decide_eq_true hi0,decide_eq_true ht0];rfl
   by_cases h16:Q.length≤16
   ·by_cases hi:i≤18446744073709551614-Q.length
    ·rw[hb,decide_eq_true h16,decide_eq_true hi,Bool.and_self,Bool.and_self,Bool.true_and] at hB
     repeat' (first|refine aa (gI (a:=(i,t)) (b:=(0,0)) O O hz) ?_ O O|refine aa (ay O (by omega)) ?_ O O|refine bM O ?_ O O|refine ax ?_|refine aa (ai (ds:=aO (i,t)) O O O O O) ?_ O O|refine aa (ah O O O O) ?_ O O|refine aa (bu bY) ?_ O O|refine aa (bU O O (by omega) (by unfold aH;omega)) ?_ O O|refine aa (bj O O O O (by unfold aH;omega)) ?_ O O|refine au O ?_|refine al O O ?_|(refine an (ap (cs:=aE (i,t) A Q.length c) O) ?_ O O;rintro _ _ ⟨b1,rfl,rfl⟩)|((refine an (aq (f:=167) sL (fun w hS=>fN w A c Q t ((Srd.old h (fun k _=>ao k)).rd w hS) hn) O O (fun _=>O)) ?_ O O;rintro _ _ ⟨_,rfl,_,rfl⟩);rw[hr]))
     exact hB _ _ _ _ _ O O (qE O)
    ·rw[hb,decide_eq_true h16,decide_eq_false hi,Bool.and_false,Bool.false_and] at hB
     repeat' (first|refine aa (gI (a:=(i,t)) (b:=(0,0)) O O hz) ?_ O O|refine aa (ay O (by omega)) ?_ O O|refine aa (aB O (by omega)) ?_ O O|refine bM O ?_ O O|refine ax ?_|refine aU ?_ O O|refine aa (ai (ds:=aO (i,t)) O O O O O) ?_ O O|refine aa (ah O O O O) ?_ O O|refine aa (bu bY) ?_ O O|refine aa (bU O O (by omega) (by unfold aH;omega)) ?_ O O|refine aa (bj O O O O (by unfold aH;omega)) ?_ O O|refine au O ?_|refine al O O ?_|(refine an (ap (cs:=aE (i,t) A Q.length c) O) ?_ O O;rintro _ _ ⟨b1,rfl,rfl⟩))
     exact hB _ _ _ _ _ O O (qE O)
   ·rw[hb,decide_eq_false h16,Bool.and_false,Bool.false_and,Bool.false_and] at hB
    repeat' (first|refine aa (gI (a:=(i,t)) (b:=(0,0)) O O hz) ?_ O O|refine aa (ay O (by omega)) ?_ O O|refine aa (aB O (by omega)) ?_ O O|refine bM O ?_ O O|refine ax ?_|refine aU ?_ O O|refine aa (ai (ds:=aO (i,t)) O O O O O) ?_ O O|refine aa (ah O O O O) ?_ O O|refine aa (bu bY) ?_ O O|refine au O ?_|refine al O O ?_|(refine an (ap (cs:=aE (i,t) A Q.length c) O) ?_ O O;rintro _ _ ⟨b1,rfl,rfl⟩))
    exact hB _ _ _ _ _ O O (qE O)
  ·rw[hz2,decide_eq_true hi0,decide_eq_false ht0,Bool.and_false,Bool.false_and,Bool.false_and,Bool.false_and] at hB
   repeat' (first|refine aa (gI (a:=(i,t)) (b:=(0,0)) O O hz) ?_ O O|refine aa (ay O (by omega)) ?_ O O|refine aa (aB O (by omega)) ?_ O O|refine bM O ?_ O O|refine ax ?_|refine aU ?_ O O|refine aa (ai (ds:=aO (i,t)) O O O O O) ?_ O O|refine aa (ah O O O O) ?_ O O|refine aa (bu bY) ?_ O O|refine au O ?_|refine al O O ?_|(refine an (ap (cs:=aE (i,t) A Q.length c) O) ?_ O O;rintro _ _ ⟨b1,rfl,rfl⟩))
   exact hB _ _ _ _ _ O O (qE O)
 ·rw[hz2,decide_eq_false hi0,Bool.false_and,Bool.false_and,Bool.false_and,Bool.false_and] at hB
  repeat' (first|refine aa (gI (a:=(i,t)) (b:=(0,0)) O O hz) ?_ O O|refine aa (aB O (by omega)) ?_ O O|refine bM O ?_ O O|refine ax ?_|refine aU ?_ O O|refine aa (ai (ds:=aO (i,t)) O O O O O) ?_ O O|refine aa (ah O O O O) ?_ O O|refine aa (bu bY) ?_ O O|refine au O ?_|refine al O O ?_|(refine an (ap (cs:=aE (i,t) A Q.length c) O) ?_ O O;rintro _ _ ⟨b1,rfl,rfl⟩))
  exact hB _ _ _ _ _ O O (qE O)
theorem fr (w:World) (a:At) (A:Option Addr) (c:Nat) (Q:List Em) (h:Rd w bC 3 A Q.length (ab aN Q)) (hn:Q.length≤100000) (hf:a.1+Q.length≤18446744073709551615):
  Gives Tryz.prog 124 [.agg (aE a A Q.length c).toArray] [] w (X:=Unit) (fun _=> .agg (aO (cM a (Q.map bA))).toArray) (fun _=>True) (fun _=>[]):=by
 refine cX Tryz.func124 O Tryz.ntmps124 Tryz.results124 (by simp) (St.enter w) (fun B hB=>?_)
 obtain⟨i,t⟩:=a
 have hf:i+Q.length≤18446744073709551615:=hf
 have hl:cM (i,t) (Q.map bA)=(i+Q.length,eM (Q.map bA) t):=by rw[cM,List.length_map]
 rw[hl] at hB
 have hne:0<Q.length→A≠none:=fun h0=>by obtain⟨ad,rfl,_⟩:=h.2 (by omega);simp
 by_cases h0:Q.length=0
 ·have e1:eM (Q.map bA) t=t:=by rw[List.eq_nil_of_length_eq_zero h0];rfl
  rw[e1,h0,Nat.add_zero] at hB
  focus (refine qs ?_;(refine qe (ap (cs:=aE (i,t) A Q.length c) O) ?_;rintro _ _ ⟨b1,rfl,rfl⟩);(refine qe (am O ba) ?_;rintro _ _ ⟨b2,rfl,rfl⟩);refine qn ?_;refine qp ?_;refine qt (ah O O O O) ?_;refine qp ?_;refine qp ?_;refine qz ?_;refine qq ?_;refine qs ?_;refine qp ?_;refine qd ?_;refine qz ?_;refine qT ?_;refine qs ?_;refine qp ?_;refine qt (ai (ds:=aO (i,t)) O O O O O) ?_;(refine qw (aj (cs:=aO (0,0)) (ds:=aO (i,t)) O O O O (aQ _) O) ?_;rintro _ _ rfl);refine qz ?_)
  refine hB _ _ _ _ _ O (.cell O O O inferInstance O .nil) fun w' hS=>⟨(),O,trivial,hS.sublist (List.nil_sublist _)⟩
 ·have hne:=hne (by omega)
  have e1:=uS Q t (by omega)
  have hat:=bi (f:=aN) bW Q default (Q.length-1) (by omega)
  have hlt:Q.length-1<Q.length:=by omega
  obtain⟨m,hm⟩: ∃ m,Q.getD (Q.length-1) default=m:=⟨_,O⟩
  rw[hm] at hat e1
  rw[e1] at hB
  have hat0:(ab aN Q)[(Q.length-1)*3+0]? =some (.int .u64 (m.1:Int)):=hat 0 _ O
  focus (refine qs ?_;(refine qe (ap (cs:=aE (i,t) A Q.length c) O) ?_;rintro _ _ ⟨b1,rfl,rfl⟩);(refine qe (am O ba) ?_;rintro _ _ ⟨b2,rfl,rfl⟩);refine qn ?_;refine qp ?_;refine qt (ah O O O O) ?_;refine qp ?_;refine qp ?_;refine qz ?_;refine qq ?_;refine qs ?_;refine qp ?_;refine qf ?_;refine qz ?_;refine qF ?_;refine qx ?_;refine qq ?_)
  refine dS [pt b1 39 (aE (i,t) A Q.length c)] 15 ?_
  refine dp 0 ?_
  refine dp 1 ?_
  refine dl 2 ?_
  refine dp 3 ?_
  (refine dt 4 O (bj O O O O (by unfold aH;omega)) ?_)
  (refine dt 5 O (aI O O (by unfold aH;omega)) ?_)
  refine dp 6 ?_
  refine dl 7 ?_
  refine dp 8 ?_
  (refine dt 9 O (bU O O (by omega) (by unfold aH;omega)) ?_)
  refine dt 10 O (bH (sz:=3) (q:=Q.length-1) O O O O O O hne hlt) ?_
  refine dt 11 O (dx O O O O O hne) ?_
  refine dt 12 O (bN O O O (Srd.old h (fun k _=>ao k)) (by omega) hat0) ?_
  refine dt 13 O (bS O O (fL (i+Q.length) m.1)) ?_
  refine dE 14 O (aj (cs:=aO (0,0)) (ds:=aO (i+Q.length,m.1)) O O O O (aQ _) O) ?_
  rintro _ _ rfl
  refine nx ?_
  refine dn ?_
  skip
  skip
  refine hB _ _ _ _ _ O (.cell O O O inferInstance O .nil) fun w' hS=>⟨(),O,trivial,hS.sublist (List.nil_sublist _)⟩
theorem sW (w:World) (a:At) (A:Option Addr) (c:Nat) (Q:List Em) (h:Rd w bC 3 A Q.length (ab aN Q)) (hn:Q.length≤100000):
  Gives Tryz.prog 50 [.agg (aE a A Q.length c).toArray] [] w (X:=Unit) (fun _=> .agg (aO (if br a (Q.map bA) then cM a (Q.map bA) else (0,0))).toArray) (fun _=>True) (fun _=>[]):=by
 refine cX Tryz.func50 O Tryz.ntmps50 Tryz.results50 (by simp) (St.enter w) (fun B hB=>?_)
 obtain⟨i,t⟩:=a
 obtain⟨r,hr⟩: ∃ r,br (i,t) (Q.map bA)=r:=⟨_,O⟩
 rw[hr] at hB
 cases r
 ·focus (refine qs ?_;(refine qe (ap (cs:=aE (i,t) A Q.length c) O) ?_;rintro _ _ ⟨b1,rfl,rfl⟩);(refine qe (am O ba) ?_;rintro _ _ ⟨b2,rfl,rfl⟩);refine qz ?_;refine qq ?_;refine qs ?_;refine qt (ai (ds:=aE (i,t) A Q.length c) O O O O O) ?_;(refine qh fh (fun w hS=>bL w (i,t) A c Q ((Srd.old h (fun k _=>ao k)).rd w hS) hn) ?_;rw[hr]);refine qt (aR O) ?_;refine qz ?_;refine qT ?_;refine qs ?_;refine qt (bu bY) ?_;(refine qw (aj (cs:=aO (0,0)) (ds:=aO (0,0)) O O O O (aQ _) O) ?_;rintro _ _ rfl);refine qz ?_)
  refine hB _ _ _ _ _ O (.cell O O O inferInstance O .nil) fun w' hS=>⟨(),O,trivial,hS.sublist (List.nil_sublist _)⟩
 ·have hff:=dF hr
  rw[List.length_map] at hff
  focus (refine qs ?_;(refine qe (ap (cs:=aE (i,t) A Q.length c) O) ?_;rintro _ _ ⟨b1,rfl,rfl⟩);(refine qe (am O ba) ?_;rintro _ _ ⟨b2,rfl,rfl⟩);refine qz ?_;refine qq ?_;refine qs ?_;refine qt (ai (ds:=aE (i,t) A Q.length c) O O O O O) ?_;(refine qh fh (fun w hS=>bL w (i,t) A c Q ((Srd.old h (fun k _=>ao k)).rd w hS) hn) ?_;rw[hr]);refine qt (aR O) ?_;refine qz ?_;refine qF ?_;refine qx ?_;refine qs ?_;refine qt (ai (ds:=aE (i,t) A Q.length c) O O O O O) ?_;refine qh kU (fun w hS=>fr w (i,t) A c Q ((Srd.old h (fun k _=>ao k)).rd w hS) hn (by show i+_≤_;omega)) ?_;(refine qw (aj (cs:=aO (0,0)) (ds:=aO (cM (i,t) (Q.map bA))) O O O O (aQ _) O) ?_;rintro _ _ rfl);refine qz ?_)
  refine hB _ _ _ _ _ O (.cell O O O inferInstance O .nil) fun w' hS=>⟨(),O,trivial,hS.sublist (List.nil_sublist _)⟩
def ja (a b:At):Bool:=if a.2≠b.2 then decide (b.2<a.2) else decide (b.1<a.1)
theorem sX (w:World) (a b:At):
  Gives Tryz.prog 183 [.agg (aO a).toArray,.agg (aO b).toArray] [] w (X:=Unit) (fun _=> .bool (ja a b)) (fun _=>True) (fun _=>[]):=by
 refine aP Tryz.func183 O Tryz.ntmps183 Tryz.results183 (by simp) (St.enter w) (fun B hB=>?_)
 obtain⟨i,t⟩:=a
 obtain⟨j,u⟩:=b
 by_cases h1:t=u
 ·rw[show ja (i,t) (j,u)=decide (j<i) by rw[ja,if_neg (by simpa using h1)]] at hB
  by_cases h2:j<i
  ·rw[decide_eq_true h2] at hB
   repeat' (first|refine aa (ay O (by omega)) ?_ O O|refine aa (aB O (by omega)) ?_ O O|refine bM O ?_ O O|refine ax ?_|refine aa (ah O O O O) ?_ O O|refine au O ?_|refine al O O ?_|refine aA O O ?_|refine aM O ?_|(refine an (ap (cs:=aO (i,t)) O) ?_ O O;rintro _ _ ⟨b2,rfl,rfl⟩)|(refine an (ap (cs:=aO (j,u)) O) ?_ O O;rintro _ _ ⟨b3,rfl,rfl⟩))
   exact hB _ _ _ _ _ O O (qE O)
  ·rw[decide_eq_false h2] at hB
   repeat' (first|refine aa (aB O (by omega)) ?_ O O|refine bM O ?_ O O|refine ax ?_|refine aa (ah O O O O) ?_ O O|refine au O ?_|refine al O O ?_|refine aA O O ?_|refine aM O ?_|(refine an (ap (cs:=aO (i,t)) O) ?_ O O;rintro _ _ ⟨b2,rfl,rfl⟩)|(refine an (ap (cs:=aO (j,u)) O) ?_ O O;rintro _ _ ⟨b3,rfl,rfl⟩))
   exact hB _ _ _ _ _ O O (qE O)
 ·rw[show ja (i,t) (j,u)=decide (u<t) by rw[ja,if_pos (by simpa using h1)]] at hB
  by_cases h2:u<t
  ·rw[decide_eq_true h2] at hB
   repeat' (first|refine aa (ay O (by omega)) ?_ O O|refine bM O ?_ O O|refine ax ?_|refine aa (ah O O O O) ?_ O O|refine au O ?_|refine al O O ?_|refine aC O O ?_|(refine an (ap (cs:=aO (i,t)) O) ?_ O O;rintro _ _ ⟨b2,rfl,rfl⟩)|(refine an (ap (cs:=aO (j,u)) O) ?_ O O;rintro _ _ ⟨b3,rfl,rfl⟩))
   exact hB _ _ _ _ _ O O (qE O)
  ·rw[decide_eq_false h2] at hB
   repeat' (first|refine aa (ay O (by omega)) ?_ O O|refine aa (aB O (by omega)) ?_ O O|refine bM O ?_ O O|refine ax ?_|refine aa (ah O O O O) ?_ O O|refine au O ?_|refine al O O ?_|refine aC O O ?_|(refine an (ap (cs:=aO (i,t)) O) ?_ O O;rintro _ _ ⟨b2,rfl,rfl⟩)|(refine an (ap (cs:=aO (j,u)) O) ?_ O O;rintro _ _ ⟨b3,rfl,rfl⟩))
   exact hB _ _ _ _ _ O O (qE O)
def db (a:At) (l:List En) (j:Nat):At:=if j=0 then a else (a.1+j,(l.getD (j-1) default).1)
def oA (a:At) (l:List En):List (List Value):=(List.range (l.length+1)).map fun(j:Nat)=>[.int .i64 (j:Int),.agg (aO (db a l j)).toArray]
theorem ip (a:At) (l:List En):(oA a l).length=l.length+1:=by simp[oA]
theorem nB (a:At) (l:List En) (j:Nat) (hj:j<l.length+1):(oA a l).getD j []=[.int .i64 (j:Int),.agg (aO (db a l j)).toArray]:=by simp[oA,List.getD,hj]
theorem sY (a:At) (Q:List Em) (j:Nat) (hj:j<Q.length) {m:Em} (hm:Q.getD j default=m):db a (Q.map bA) (j+1)=(a.1+(j+1),m.1):=by
 subst hm
 unfold db
 rw[if_neg (by omega),Nat.add_sub_cancel]
 simp[List.getD,hj,bA]
theorem l7 (w:World) (a:At) (A:Option Addr) (n c:Nat):
  Gives Tryz.prog 122 [.agg (aE a A n c).toArray] [] w (X:=Nat) (fun b=> .func (.func 168) #[] [Value.pointer (some ⟨b,0,none⟩)].toArray) (fun _=>True) (fun b=>[pt b 39 (aE a A n c)]):=by
 refine aP Tryz.func122 O Tryz.ntmps122 Tryz.results122 (by simp) (St.enter w) (fun B hB=>?_)
 focus (refine qs ?_;(refine qe (ap (cs:=aE a A n c) O) ?_;rintro _ _ ⟨b,rfl,rfl⟩);refine qp ?_;refine qn ?_;refine qt (gV O O) ?_;refine qp ?_;refine qz ?_)
 exact hB _ _ _ _ _ O O fun w' hS=>⟨b,O,trivial,hS⟩
theorem lB (w:World) (F:Nat→Prop) (b:Nat) (a:At) (A:Option Addr) (c:Nat) (Q:List Em) (hb:Rd w F 1 (some ⟨b,0,none⟩) 3 (aE a A Q.length c)) (h:Rd w F 3 A Q.length (ab aN Q)) (hn:Q.length≤100000) (hf:a.1+Q.length≤18446744073709551615):
  Do Tryz.prog 168 [.pointer (some ⟨b,0,none⟩)] F (oA a (Q.map bA)) w:=by
 intro l X Z I S x0 h0 hS hFM hy
 refine bO Tryz.func168 O Tryz.ntmps168 Tryz.results168 (by simp) hS (fun B hE hB=>?_)
 have hlen:(oA a (Q.map bA)).length=Q.length+1:=by rw[ip,List.length_map]
 have hget:=fun j (hj:j<Q.length+1)=>nB a (Q.map bA) j (by rw[List.length_map];exact hj)
 have hpl:=fun j hj m hm=>sY a Q j hj (m:=m) hm
 rw[hlen] at hE hB hy
 have hp0:db a (Q.map bA) 0=a:=rfl
 have hne:0<Q.length→A≠none:=fun h0=>by obtain⟨ad,rfl,_⟩:=h.2 (by omega);simp
 have hy0:=hy 0 x0
 rw[hget 0 (by omega),hp0] at hy0
 obtain⟨i,t⟩:=a
 have hf:i+Q.length≤18446744073709551615:=hf
 focus (refine qq ?_;refine qs ?_;refine qp ?_;refine qp ?_;refine qt (ko (F:=F) (m:=3) (sz:=1) (xs:=aE (i,t) A Q.length c) (ds:=aO (i,t)) O O O hb hFM O (by decide) O) ?_;(refine qe (ns (A:=Z x0) (Z:=Z) (I1:=I 1) (S1:=S 0) (fun w' hS=>hy0 w' h0 (by omega) (hS.sublist (by simp))) O O O) ?_;rintro _ _ ⟨y,bb,rfl,hy1,hy2,rfl⟩;cases bb);refine qt (aR O) ?_;refine qz ?_;refine qT ?_;rotate_left;refine qt (aR O) ?_;refine qz ?_;refine qF ?_;refine qx ?_;refine qs ?_;refine qp ?_;refine qt (cB O O O hb hFM O) ?_;refine qp ?_;refine qp ?_;refine qz ?_;refine qb ?_;rotate_left)
 ·skip
  exact hB _ _ _ _ O fun w' hS=>⟨(y,some 0),⟨by omega,hy2 O⟩,ae _ hS⟩
 have hy1:=hy1 O
 skip
 refine bV (X:=Nat×X) (fun x=>[(0,.func (.yield l) #[] #[]),(1,.pointer (some ⟨b,0,none⟩)),(11,.slice A Q.length c),(12,.int .i64 (Q.length:Int)),(13,.int .i64 (x.1:Int))]) (fun x=>[Z x.2]) (fun x=>x.1≤Q.length∧I (x.1+1) x.2) (fun x=>Q.length-x.1) O (0,y) ⟨Nat.zero_le _,hy1⟩ (Sub.cons O (Sub.cons O (Sub.cons O (Sub.cons O (Sub.cons O Sub.nil))))) ae ?_
 rintro⟨j,x⟩ ⟨hj,hI⟩ J hJ
 dsimp only at hj hI ⊢
 rcases Nat.lt_or_ge j Q.length with hjl|hjl
 ·have hne:=hne (by omega)
  have hat:=bi (f:=aN) bW Q default j hjl
  obtain⟨m,hm⟩: ∃ m,Q.getD j default=m:=⟨_,O⟩
  rw[hm] at hat
  have hyj:=hy (j+1) x
  rw[hget (j+1) (by omega),hpl j hjl m hm] at hyj
  focus (refine qs ?_;refine qd ?_;refine qz ?_;refine qq ?_;refine qT ?_;refine qx ?_;refine qq ?_;refine qb ?_;refine qs ?_;refine qp ?_;refine qt (bH (sz:=3) O O O O O O hne hjl) ?_;refine qt (cw (ds:=aN m) O O O (Srd.old h hFM) O (by omega) hat) ?_;(refine qe (am O cu) ?_;rintro _ _ ⟨b4,rfl,rfl⟩);refine qp ?_;(refine qw (aj (cs:=aN (0,0,none,0,[])) (ds:=aN m) O O O O (cC _) O) ?_;rintro _ _ rfl);refine qn ?_;refine qp ?_;refine qp ?_;refine qt (aI O O (by unfold aH;omega)) ?_;refine qp ?_;refine qp ?_;refine qt (cB O O O hb hFM O) ?_;refine qp ?_;refine qt (bj O O O O (by unfold aH;omega)) ?_;(iterate 2 refine qt (aI O O (by unfold aH;omega)) ?_);refine qp ?_;refine qt (ah O O O O) ?_;refine qt (bS O O (fL (i+j+1) m.1)) ?_;(refine qe (ns (A:=Z x) (Z:=Z) (I1:=I (j+1+1)) (S1:=S (j+1)) (fun w' hS=>hyj w' hI (by omega) (hS.sublist (by simp))) O O O) ?_;rintro _ _ ⟨y,bb,rfl,hy1,hy2,rfl⟩;cases bb);refine qt (aR O) ?_;refine qz ?_;refine qT ?_;rotate_left;refine qt (aR O) ?_;refine qz ?_;refine qF ?_;refine qx ?_;refine aK ?_;refine qr ?_;refine qt (aI O O (by unfold aH;omega)) ?_;refine qp ?_;refine qz ?_;rotate_left)
  ·skip
   exact hB _ _ _ _ O fun w' hS=>⟨(y,some (j+1)),⟨by omega,hy2 O⟩,ae _ hS⟩
  ·skip
   exact hJ (j+1,y) _ _ ⟨by show j+1≤_;omega,hy1 O⟩ (Sub.cons O (Sub.cons O (Sub.cons O (Sub.cons O (Sub.cons O Sub.nil))))) ae (by dsimp only;omega)
 have hjn:j=Q.length:=by omega
 subst hjn
 focus (refine qs ?_;refine qf ?_;refine qz ?_;refine qq ?_;refine qF ?_;refine bE O O ?_)
 first
  |exact hE _ _ fun w' hS=>⟨(x,none),hI,ae _ hS⟩
  |exact hB _ _ _ _ O fun w' hS=>⟨(x,none),hI,ae _ hS⟩
def d5 (a:At) (l:List En) (idx:Nat):Int×At:=if a.1≤idx∧idx≤a.1+l.length then ((idx-a.1:Nat),db a l (idx-a.1)) else (-1,(0,0))
theorem iL (a:At) (l:List En) (j:Nat):(db a l j).1=a.1+j:=by
 unfold db
 split
 ·rename_i h;rw[h];rfl
 ·rfl
theorem mU {a:At} {l:List En} {idx j:Nat} (hj:j<l.length+1) (h:(db a l j).1=idx):d5 a l idx=((j:Int),db a l j):=by
 rw[iL] at h
 unfold d5
 rw[if_pos ⟨by omega,by omega⟩,show idx-a.1=j by omega]
theorem sZ {a:At} {l:List En} {idx:Nat} (h: ∀ j,j<l.length+1→(db a l j).1≠idx):d5 a l idx=(-1,(0,0)):=by
 unfold d5
 refine if_neg fun⟨h1,h2⟩=>?_
 have:=h (idx-a.1) (by omega)
 rw[iL] at this
 omega
theorem fq (w:World) (a:At) (A:Option Addr) (c:Nat) (Q:List Em) (h:Rd w bC 3 A Q.length (ab aN Q)) (hn:Q.length≤100000) (hf:a.1+Q.length≤18446744073709551615) (idx:Nat):
  Gives Tryz.prog 125 [.agg (aE a A Q.length c).toArray,.int .u64 (idx:Int)] [] w (X:=Unit) (fun _=> .tuple #[zi (d5 a (Q.map bA) idx).1,.agg (aO (d5 a (Q.map bA) idx).2).toArray]) (fun _=>True) (fun _=>[]):=by
 refine rn Tryz.func125 O Tryz.ntmps125 Tryz.results125 (by simp) (St.enter w) (fun B hB0 hB=>?_)
 obtain⟨i,t⟩:=a
 obtain⟨l,hl⟩: ∃ l,Q.map bA=l:=⟨_,O⟩
 have hll:l.length=Q.length:=by rw[← hl,List.length_map]
 focus (refine qs ?_;(refine qe (ap (cs:=aE (i,t) A Q.length c) O) ?_;rintro _ _ ⟨b2,rfl,rfl⟩);(refine qe (fo (v:= .int .u64 (idx:Int)) O O) ?_;rintro _ _ ⟨b3,rfl,rfl⟩);(refine qe (lU (v:= .int .i64 0) O O O) ?_;rintro _ _ ⟨b4,rfl,rfl⟩);(refine qe (am O ba) ?_;rintro _ _ ⟨b5,rfl,rfl⟩);refine qz ?_;refine qq ?_;refine qs ?_;refine qt (ai (ds:=aE (i,t) A Q.length c) O O O O O) ?_;(refine qe (bB (f:=122) DA (fun w hS=>l7 w (i,t) A Q.length c) O O (fun _=>O)) ?_;rintro _ _ ⟨bI,rfl,_,rfl⟩);refine qz ?_;refine qb ?_)
 refine rm (F:=fun k=>k<w.heap.size∨k=bI) (es:=oA (i,t) l) (ps:=[10,11]) (X:=Int×At) (fun x=>[pt b4 3 [.int .i64 x.1],pt b5 36 (aO x.2)]) (fun j x=>x=(0,(0,0))∧ ∀ q,q<j→(db (i,t) l q).1≠idx) (fun j x=>x=((j:Int),db (i,t) l j)∧(db (i,t) l j).1=idx) (0,(0,0)) [pt bI 39 (aE (i,t) A Q.length c),pt b3 34 [.int .u64 (idx:Int)]] O O DK (by kernel_rfl) (fun e he=>?_) ⟨O,fun q hq=>absurd hq (Nat.not_lt_zero _)⟩ (fun w' hS=>ae (H':=[pt b4 3 [.int .i64 0],pt b5 36 (aO (0,0)),pt bI 39 (aE (i,t) A Q.length c),pt b3 34 [.int .u64 (idx:Int)]]) w' hS) (fun w' hS=>?_) (fun w' hS=>oh (b:=bI) (Hk:=[pt bI 39 (aE (i,t) A Q.length c),pt b3 34 [.int .u64 (idx:Int)]]) hS) (fun j x w' hx hj hS=>?_) (fun y D hy=>?_) (fun y D j hj hy=>?_)
 ·obtain⟨j,_,rfl⟩:=List.mem_map.1 he
  rfl
 ·rw[← hl]
  exact lB w' _ bI (i,t) A c Q (nv (b:=bI) hS O (.inr O)) (ut h (by decide) (fun k=>ao k) hS (fun k hk=> .inl hk)) hn hf
 ·rw[ip] at hj
  obtain⟨rfl,hno⟩:=hx
  rw[nB _ _ _ hj]
  obtain⟨p,hp⟩: ∃ p,db (i,t) l j=p:=⟨_,O⟩
  rw[hp]
  intro l2 rA rB B0 B1 J hfull hbeg hend hret
  have hC3:=dh (b:=b3) hfull O
  obtain⟨pi,pu⟩:=p
  focus (refine qs ?_;refine qp ?_;refine qz ?_;refine qr ?_;(refine qe (am O ba) ?_;rintro _ _ ⟨b7,rfl,rfl⟩);(refine qw (aj (cs:=aO (0,0)) (ds:=aO (pi,pu)) O O O O (aQ _) O) ?_;rintro _ _ rfl);refine qz ?_)
  refine hbeg _ [pt b7 36 (aO (pi,pu)),pt b4 3 [.int .i64 0],pt b5 36 (aO (0,0))] _ ?_ ae
  by_cases hpi:pi=idx
  ·focus (refine qb ?_;refine qs ?_;refine qp ?_;refine qt (ah O O O O) ?_;refine qt (cB O O O hC3 (fun k hk=>hk) O) ?_;refine qd ?_;refine qz ?_;refine qT ?_;refine qq ?_)
   refine iG ([pt b7 36 (aO (pi,pu))]) ae (by kernel_rfl) O (by kernel_rfl) (by kernel_rfl) (by kernel_rfl:_=4) ?_
   refine dp 0 ?_
   refine dt 1 O (ai (ds:=aO (pi,pu)) O O O O O) ?_
   refine dE 2 O (ey O O O O O O (by first|(simp;done)|(simp;omega)|decide)) ?_
   rintro _ _ rfl
   refine nx ?_
   refine dE 3 O (aj (cs:=aO (0,0)) (ds:=aO (pi,pu)) O O O O (aQ _) O) ?_
   rintro _ _ rfl
   refine nx ?_
   refine dn ?_
   skip
   skip
   refine hret ((j:Int),(pi,pu)) _ _ _ _ ⟨O,hpi⟩ O fun w' hS=>?_
   simp only[Nat.add_zero,List.set_cons_zero] at hS
   exact ae _ hS
  ·focus (refine qb ?_;refine qs ?_;refine qp ?_;refine qt (ah O O O O) ?_;refine qt (cB O O O hC3 (fun k hk=>hk) O) ?_;refine qf ?_;refine qz ?_;refine qF ?_;refine qx ?_;refine aK ?_)
   refine hend (0,(0,0)) _ _ ⟨O,fun q hq=>?_⟩ ae
   rcases Nat.lt_or_ge q j with h3|h3
   ·exact hno q h3
   ·rw[show q=j by omega,hp];exact hpi
 ·obtain⟨rfl,hno⟩:=hy
  rw[ip] at hno
  have hR:=sZ hno
  rw[hl,hR] at hB
  simp only[List.cons_append,List.nil_append]
  focus (refine aK ?_;refine qs ?_;refine qt (bu bY) ?_;(refine qw (ey O O O O O O (by first|(simp;done)|(simp;omega)|decide)) ?_;rintro _ _ rfl);(refine qw (aj (cs:=aO (0,0)) (ds:=aO (0,0)) O O O O (aQ _) O) ?_;rintro _ _ rfl);refine qz ?_)
  simp only[Nat.add_zero,List.set_cons_zero]
  refine hB _ _ _ _ _ _ _ O inferInstance (.cell1 O O O inferInstance (.cell O O O inferInstance O .nil)) fun w' hS=>⟨(),O,trivial,hS.sublist (List.nil_sublist _)⟩
 ·obtain⟨rfl,hno⟩:=hy
  rw[ip] at hj
  have hR:=mU hj hno
  rw[hl,hR] at hB
  simp only[List.cons_append,List.nil_append]
  refine hB _ _ _ _ _ _ _ O inferInstance (.cell1 O O O inferInstance (.cell O O O inferInstance O .nil)) fun w' hS=>⟨(),O,trivial,hS.sublist (List.nil_sublist _)⟩
def fu (a:At) (l:List En) (p:At):Bool:=decide (0≤(d5 a l p.1).1)&&decide ((d5 a l p.1).2=p)
theorem go (w:World) (a:At) (A:Option Addr) (c:Nat) (Q:List Em) (h:Rd w bC 3 A Q.length (ab aN Q)) (hn:Q.length≤100000) (hf:a.1+Q.length≤18446744073709551615) (p:At):
  Gives Tryz.prog 162 [.agg (aE a A Q.length c).toArray,.agg (aO p).toArray] [] w (X:=Unit) (fun _=> .bool (fu a (Q.map bA) p)) (fun _=>True) (fun _=>[]):=by
 refine aP Tryz.func162 O Tryz.ntmps162 Tryz.results162 (by simp) (St.enter w) (fun B hB=>?_)
 obtain⟨⟨k,q⟩,hR⟩: ∃ x,d5 a (Q.map bA) p.1=x:=⟨_,O⟩
 obtain⟨r,hr⟩: ∃ r,decide (q=p)=r:=⟨_,O⟩
 have hq:fu a (Q.map bA) p=(decide (0≤k)&&r):=by rw[fu,hR, ← hr]
 rw[hq] at hB
 obtain⟨pi,pu⟩:=p
 by_cases hk:0≤k
 ·rw[decide_eq_true hk,Bool.true_and] at hB
  focus (refine qs ?_;(refine qe (ap (cs:=aE a A Q.length c) O) ?_;rintro _ _ ⟨b2,rfl,rfl⟩);(refine qe (ap (cs:=aO (pi,pu)) O) ?_;rintro _ _ ⟨b3,rfl,rfl⟩);refine qp ?_;refine qn ?_;refine qt (ai (ds:=aE a A Q.length c) O O O O O) ?_;refine qp ?_;refine qt (ah O O O O) ?_;(refine qh pF (fun w hS=>fq w a A c Q ((Srd.old h (fun k _=>ao k)).rd w hS) hn hf pi) ?_;rw[hR]);(iterate 3 refine qp ?_);(refine qe (am O ba) ?_;rintro _ _ ⟨b6,rfl,rfl⟩);refine qp ?_;(refine qw (aj (cs:=aO (0,0)) (ds:=aO q) O O O O (aQ _) O) ?_;rintro _ _ rfl);refine qn ?_;refine qp ?_;refine qd ?_;refine qd ?_;refine qt (ai (ds:=aO q) O O O O O) ?_;refine qt (ai (ds:=aO (pi,pu)) O O O O O) ?_;refine qt (gI (a:=q) (b:=(pi,pu)) O O hr) ?_;refine qp ?_;refine qp ?_;refine qz ?_)
  exact hB _ _ _ _ _ O O (qE O)
 ·rw[decide_eq_false hk,Bool.false_and] at hB
  focus (refine qs ?_;(refine qe (ap (cs:=aE a A Q.length c) O) ?_;rintro _ _ ⟨b2,rfl,rfl⟩);(refine qe (ap (cs:=aO (pi,pu)) O) ?_;rintro _ _ ⟨b3,rfl,rfl⟩);refine qp ?_;refine qn ?_;refine qt (ai (ds:=aE a A Q.length c) O O O O O) ?_;refine qp ?_;refine qt (ah O O O O) ?_;(refine qh pF (fun w hS=>fq w a A c Q ((Srd.old h (fun k _=>ao k)).rd w hS) hn hf pi) ?_;rw[hR]);(iterate 3 refine qp ?_);(refine qe (am O ba) ?_;rintro _ _ ⟨b6,rfl,rfl⟩);refine qp ?_;(refine qw (aj (cs:=aO (0,0)) (ds:=aO q) O O O O (aQ _) O) ?_;rintro _ _ rfl);refine qn ?_;refine qp ?_;refine qf ?_;refine qp ?_;(iterate 3 refine qk ?_);refine qp ?_;refine qp ?_;refine qz ?_)
  exact hB _ _ _ _ _ O O (qE O)
theorem l8 (w:World) (A:Option Addr) (n c:Nat) (xs:List Value) (h:Rd w bC 1 A n xs) (h1: ∀ v∈xs,v.oneCell'=true) (hn:n≤100000):
  Gives Tryz.prog 123 [.slice A n c] [] w (X:=Option Addr×Nat) (fun x=> .slice x.1 n x.2) (fun _=>True) (fun x=>[row 5 1 x.1 n x.2 xs]):=by
 refine aP Tryz.func123 O Tryz.ntmps123 Tryz.results123 (by simp) (St.enter w) (fun B hB=>?_)
 cases hA:A with
 |none=>
  subst hA
  have hn0:n=0:=by
   rcases Nat.eq_zero_or_pos n with h0|h0
   ·exact h0
   ·obtain⟨ad,e,_⟩:=h.2 h0
    cases e
  subst hn0
  obtain rfl:xs=[]:=List.eq_nil_of_length_eq_zero (by simpa using h.1)
  repeat' (first|refine bM O ?_ O O|refine ax ?_|refine aa (fQ O O O O) ?_ O O|refine au O ?_|refine al O O ?_|refine aC O O ?_)
  all_goals (try (exfalso;simp_all;done))
  refine hB _ _ _ _ _ O O fun w' hS=>⟨(none,0),O,trivial,(hS.sublist (List.nil_sublist _)).nilrow _ _⟩
 |some ad=>
  subst hA
  focus (refine qs ?_;refine qp ?_;refine qz ?_;refine qq ?_;refine qs ?_;refine qp ?_;refine qt (fQ O O O O) ?_;refine qz ?_;refine qF ?_;refine qx ?_;refine qs ?_;(refine qe (d7 (m:=0) (vs:=[]) O O O O O O O (by simp) (by decide)) ?_;rintro _ _ ⟨bl,rfl,rfl⟩);refine qp ?_;(refine qe (jr O O O O O O O (by decide) .here (Srd.old h (fun k _=>ao k)) h1 (by show n*1≤_;omega) (by unfold maxLen;omega)) ?_;rintro _ _ ⟨A',c',rfl,rfl⟩);refine qp ?_;refine qz ?_)
  all_goals (try (exfalso;simp_all;done))
  refine hB _ _ _ _ _ O O fun w' hS=>⟨(A',c'),O,trivial,hS⟩
theorem pO (w:World) (A:Option Addr) (n c:Nat) (xs:List Value) (h:Rd w bC 3 A n xs) (h1: ∀ v∈xs,v.oneCell'=true) (hn:n≤1000):
  Gives Tryz.prog 169 [.slice A n c] [] w (X:=Option Addr×Nat) (fun x=> .slice x.1 n x.2) (fun _=>True) (fun x=>[row 59 3 x.1 n x.2 xs]):=by
 refine aP Tryz.func169 O Tryz.ntmps169 Tryz.results169 (by simp) (St.enter w) (fun B hB=>?_)
 cases hA:A with
 |none=>
  subst hA
  have hn0:n=0:=by
   rcases Nat.eq_zero_or_pos n with h0|h0
   ·exact h0
   ·obtain⟨ad,e,_⟩:=h.2 h0
    cases e
  subst hn0
  obtain rfl:xs=[]:=List.eq_nil_of_length_eq_zero (by simpa using h.1)
  repeat' (first|refine bM O ?_ O O|refine ax ?_|refine aa (fQ O O O O) ?_ O O|refine au O ?_|refine al O O ?_|refine aC O O ?_)
  all_goals (try (exfalso;simp_all;done))
  refine hB _ _ _ _ _ O O fun w' hS=>⟨(none,0),O,trivial,(hS.sublist (List.nil_sublist _)).nilrow _ _⟩
 |some ad=>
  subst hA
  focus (refine qs ?_;refine qp ?_;refine qz ?_;refine qq ?_;refine qs ?_;refine qp ?_;refine qt (fQ O O O O) ?_;refine qz ?_;refine qF ?_;refine qx ?_;refine qs ?_;(refine qe (cK (vs:=[]) (size:=3) (ds:=[]) O O O O O O (by simp) O (by omega)) ?_;rintro _ _ ⟨bl,rfl,rfl⟩);refine qp ?_;(refine qe (jr (sz:=3) O O O O O O O (by decide) .here (Srd.old h (fun k _=>ao k)) h1 (by show n*40≤_;omega) (by unfold maxLen;omega)) ?_;rintro _ _ ⟨A',c',rfl,rfl⟩);refine qp ?_;refine qz ?_)
  all_goals (try (exfalso;simp_all;done))
  refine hB _ _ _ _ _ O O fun w' hS=>⟨(A',c'),O,trivial,hS⟩
def cR (m:Em):Dt:=m.2.2
theorem s4 (P R:List Em) (m:Em) (d:Dt):(ab aN (P++m::R)).set (P.length*3+2) (.slice d.1 d.2.2.length d.2.1)=ab aN (P++(m.1,m.2.1,d)::R):=by
 have hl:=eV (f:=aN) bW P
 have e: ∀ m:Em,ab aN (P++m::R)=ab aN P++(aN m++ab aN R):=fun m=>by
  unfold ab
  rw[List.flatMap_append,List.flatMap_cons]
 rw[e,e,List.set_append_right _ _ (by omega),hl,show P.length*3+2-P.length*3=2 by omega]
 rfl
theorem uT (Q:List Em) (j:Nat) (hj:j<Q.length) {m:Em} (hm:Q.getD j default=m):Q.drop j=m::Q.drop (j+1):=by
 subst hm
 rw[List.drop_eq_getElem_cons hj]
 simp[List.getD,hj]
theorem kB (Q:List Em): ∀ v∈ab aN Q,v.oneCell'=true:=fun v hv=>by
 obtain⟨x,_,hx⟩:=List.mem_flatMap.1 hv
 exact cC x v hx
theorem kC (l:List UInt8): ∀ v∈l.map bv,v.oneCell'=true:=fun v hv=>by
 obtain⟨x,_,rfl⟩:=List.mem_map.1 hv
 rfl
def Cp (Q:List Em):Type:={q:List Em//q.map bA=Q.map bA}
theorem Cp.len {Q:List Em} (q:Cp Q):q.1.length=Q.length:=by
 have:=congrArg List.length q.2
 simpa using this
theorem iM (w:World) (A:Option Addr) (c:Nat) (Q:List Em) (h:Rd w bC 3 A Q.length (ab aN Q)) (hd:lZ w bC (Q.map cR)) (hn:Q.length≤1000) (hk: ∀ m∈Q,m.2.2.2.2.length≤100000):
  Gives Tryz.prog 130 [.slice A Q.length c] [] w (X:=(Option Addr×Nat)×Cp Q) (fun x=> .slice x.1.1 Q.length x.1.2) (fun _=>True) (fun x=>[row 59 3 x.1.1 Q.length x.1.2 (ab aN x.2.1),dq 5 (x.2.1.map cR)]):=by
 refine aP Tryz.func130 O Tryz.ntmps130 Tryz.results130 (by simp) (St.enter w) (fun B hB=>?_)
 focus (refine qs ?_;refine qp ?_;refine qn ?_;refine qp ?_;(refine qe (bB (f:=169) FX (fun w hS=>pO w A Q.length c (ab aN Q) ((Srd.old h (fun k _=>ao k)).rd w hS) (kB Q) (by omega)) O O (fun _=>O)) ?_;rintro _ _ ⟨⟨A5,c5⟩,rfl,_,rfl⟩);refine qp ?_;refine qz ?_;refine qq ?_;refine qs ?_;(iterate 3 refine qp ?_);refine qz ?_;refine qb ?_)
 refine eS A5 Q.length c5 fun _ _ hne5 _=>?_
 refine bV (X:=Nat×List Em) (fun x=>[(0,.slice A5 Q.length c5),(7,.int .i64 (Q.length:Int)),(8,.int .i64 (x.1:Int))]) (fun x=>[row 59 3 A5 Q.length c5 (ab aN (x.2++Q.drop x.1)),dq 5 (x.2.map cR)]) (fun x=>x.1≤Q.length∧x.2.length=x.1∧x.2.map bA=(Q.take x.1).map bA) (fun x=>Q.length-x.1) O (0,[]) ⟨Nat.zero_le _,O,O⟩ (Sub.cons O (Sub.cons O (Sub.cons O Sub.nil))) (fun w hS=>ae (H':=[row 59 3 A5 Q.length c5 (ab aN Q),dq 5 []]) w (nt (e:=5) hS)) ?_
 rintro⟨j,P⟩ ⟨hj,hPl,hP⟩ J hJ
 dsimp only at hj hPl hP ⊢
 rcases Nat.lt_or_ge j Q.length with hjl|hjl
 ·have hne5:=hne5 (by omega)
  obtain⟨m,hm⟩: ∃ m,Q.getD j default=m:=⟨_,O⟩
  have hmem:m∈Q:=by rw[← hm];simp[List.getD,hjl]
  have hsp:=uT Q j hjl hm
  have htk:=kA Q j hjl hm
  obtain⟨R,hR⟩: ∃ R,Q.drop (j+1)=R:=⟨_,O⟩
  rw[hR] at hsp
  rw[hsp]
  have hRl:R.length=Q.length-(j+1):=by rw[← hR,List.length_drop]
  have hat:=bi (f:=aN) bW (P++m::R) default j (by simp;omega)
  rw[show (P++m::R).getD j default=m by simp[List.getD, ← hPl]] at hat
  have hat2:(ab aN (P++m::R))[j*3+2]? =some (.slice m.2.2.1 m.2.2.2.2.length m.2.2.2.1):=hat 2 _ O
  have hput:=fun d=>s4 P R m d
  rw[hPl] at hput
  have hd1:=hd (cR m) (List.mem_map.2 ⟨m,hmem,O⟩)
  have hk1:=hk m hmem
  have hxl:j*3+2<(ab aN (P++m::R)).length:=(List.getElem?_eq_some_iff.1 hat2).1
  focus (refine qs ?_;refine qd ?_;refine qz ?_;refine qq ?_;refine qT ?_;refine qx ?_;refine qq ?_;refine qb ?_;refine qs ?_;refine qp ?_;refine qp ?_;refine qz ?_;refine qr ?_;(iterate 4 refine qp ?_);refine qt (bH (sz:=3) O O O O O O hne5 hjl) ?_;refine qt (dx O O O O O hne5) ?_;refine qt (bN O O O (Srd.row (n:=Q.length) (c:=c5)) (by omega) hat2) ?_;(refine qe (bB (f:=123) DB (fun w hS=>l8 w m.2.2.1 m.2.2.2.2.length m.2.2.2.1 (m.2.2.2.2.map bv) ((Srd.old hd1 (fun k _=>ao k)).rd w hS) (kC _) hk1) O O (fun _=>O)) ?_;rintro _ _ ⟨⟨A',c'⟩,rfl,_,rfl⟩);refine qt (bH (sz:=3) O O O O O O hne5 hjl) ?_;refine qt (dx O O O O O hne5) ?_;(refine qw (sG (m:=Q.length) (c:=c5) O O O O O hxl) ?_;rintro _ _ rfl);refine qz ?_;refine aK ?_;refine qr ?_;refine qt (aI O O (by unfold aH;omega)) ?_;refine qp ?_;refine qz ?_)
  refine hJ (j+1,P++[(m.1,m.2.1,A',c',m.2.2.2.2)]) _ _ ⟨by show j+1≤_;omega,by simp;omega,by dsimp only;rw[htk,List.map_append,hP];rfl⟩ (Sub.cons O (Sub.cons O (Sub.cons O Sub.nil))) (fun w' hS=>?_) (by show Q.length-(j+1)<_;omega)
  dsimp only
  have h1:=ae (H':=[row 5 1 A' m.2.2.2.2.length c' (m.2.2.2.2.map bv),dq 5 (P.map cR),row 59 3 A5 Q.length c5 ((ab aN (P++m::R)).set (j*3+2) (.slice A' m.2.2.2.2.length c'))]) w' hS
  have h2:=rz (d:=(A',c',m.2.2.2.2)) h1
  rw[hput (A',c',m.2.2.2.2)] at h2
  rw[hR,List.append_assoc,List.map_append]
  exact ae (H':=[row 59 3 A5 Q.length c5 (ab aN (P++(m.1,m.2.1,A',c',m.2.2.2.2)::R)),dq 5 (P.map cR++[(A',c',m.2.2.2.2)])]) w' h2
 have hjn:j=Q.length:=by omega
 subst hjn
 rw[List.drop_length,List.append_nil]
 rw[List.take_length] at hP
 focus (refine qs ?_;refine qf ?_;refine qz ?_;refine qq ?_;refine qF ?_;refine bE O O ?_;refine qs ?_;refine qp ?_;refine qp ?_;refine qz ?_)
 exact hB _ _ _ _ _ O O fun w' hS=>⟨((A5,c5),⟨P,hP⟩),O,trivial,ae _ hS⟩
theorem uU {n:Nat} {w0:World} {M:Nat→Prop} {T:aF} {H:List Asn} {dd:Option Tmp} {tt:TypeId} {pos:String} {af:Array Edge} {g:Option (Nat×Bool)} {x:Operand} {ts:Array TypeId} {A:Option Addr} {k c:Nat} {Q:List Em} (hx:az T x=some (.slice A k c)) (hk0:Q.length=k) (hs:Srd w0 M H 3 A k (ab aN Q)) (hd:SDt w0 M H (Q.map cR)) (hn:k≤1000) (hk: ∀ m∈Q,m.2.2.2.2.length≤100000):
  Ef Tryz.prog n w0 M T H ⟨dd,.call ⟨.value (.func 130),#[x],ts⟩,tt,pos,af,g⟩ (fun u H'=> ∃ A' c', ∃ Q':Cp Q,u= .slice A' k c'∧(0<k→A'≠none)∧k≤c'∧H'=row 59 3 A' k c' (ab aN Q'.1)::dq 5 (Q'.1.map cR)::H):=by
 subst hk0
 refine(jG nz (vs:=[.slice A Q.length c]) (by simp[cg,hx]) fun w hS=>iM w A c Q (hs.rd w hS) (hd.rd w hS) hn hk).mono ?_
 rintro v H' ⟨⟨⟨A',c'⟩,Q'⟩,rfl,_,rfl⟩ w hS
 have hf:=ep (hS.at_ (A:=row 59 3 A' Q.length c' (ab aN Q'.1)) (by simp))
 exact⟨_,_,O,⟨A',c',Q',O,hf.2.2.1,hf.1,O⟩,hS⟩
theorem zP {w:World} {F:Nat→Prop} {sz n c q:Nat} {A:Option Addr} {xs:List Value} (h:Rd w F sz A n xs) (hq:q≤n) (hc:n≤c):Rd w F sz (cutP A c q sz) (n-q) (xs.drop (q*sz)):=by
 refine⟨by rw[List.length_drop,h.1,Nat.sub_mul],fun h0=>?_⟩
 obtain⟨ad,rfl,hF,hcell⟩:=h.2 (by omega)
 refine⟨ad.add (q*sz),by unfold cutP;rw[if_neg (by omega)];rfl,by rw[dv];exact hF,fun j u hj=>?_⟩
 rw[List.getElem?_drop] at hj
 rw[gD]
 exact hcell _ u hj
theorem nC {w:World} {F:Nat→Prop} {c q:Nat} {A:Option Addr} {E:List Em} (h:Rd w F 3 A E.length (ab aN E)) (hq:q≤E.length) (hc:E.length≤c):Rd w F 3 (cutP A c q 3) (E.length-q) (ab aN (E.drop q)):=by
 rw[i6 bW]
 exact zP h hq hc
theorem l9 {w:World} {F:Nat→Prop} {E:List Em} (h:lZ w F (E.map cR)) (q:Nat):lZ w F ((E.drop q).map cR):=fun d hd=>h d (by
 obtain⟨m,hm,rfl⟩:=List.mem_map.1 hd
 exact List.mem_map.2 ⟨m,List.mem_of_mem_drop hm,O⟩)
def jK (a:At) (l:List En) (p:At) (es:List En) (i:Nat):Bool:=decide (a.1<p.1+i+1)&& !fu a l (p.1+i+1,(es.getD i default).1)
def eX (a:At) (l:List En) (p:At) (es:List En):Option Nat:=(List.range es.length).find? (jK a l p es)
def jd (a:At) (l:List En) (n:Nat):Nat:=if 0<n then (l.getD (n-1) default).1 else a.2
def Au (a:At) (l:List En) (p:At) (es:List En):Int×Nat×At×List En:=match eX a l p es with
 |none=>(0,p.1+es.length,a,l)
 |some i=>
  if (cM a l).1+1<p.1+i+1 then (4,0,(0,0),[]) else
   if (es.getD i default).1<jd a l (p.1+i-a.1) then (2,0,(0,0),[]) else
    if 16<p.1+i-a.1+(es.length-i) then (6,0,(0,0),[]) else
     (0,p.1+es.length,a,l.take (p.1+i-a.1)++es.drop i)
def jR (a:At) (l:List En) (p:At) (es:List En):Int×Nat×At×List En:=
 if br a l=true then
  if p.1≤18446744073709551614∧es.length≤18446744073709551614-p.1∧bw es p.2=true then
   if a.1≤p.1∧fu a l p=false then (4,0,(0,0),[]) else Au a l p es
  else (2,0,(0,0),[])
 else (220,0,(0,0),[])
theorem pP {a:At} {l:List En} {p:At} {es:List En} (h: ∀ i,i<es.length→jK a l p es i=false):eX a l p es=none:=by
 unfold eX
 rw[List.find?_range_eq_none]
 intro i hi
 simp[h i hi]
theorem pQ {a:At} {l:List En} {p:At} {es:List En} {j:Nat} (hj:j<es.length) (h: ∀ i,i<j→jK a l p es i=false) (hh:jK a l p es j=true):eX a l p es=some j:=by
 unfold eX
 rw[List.find?_range_eq_some]
 exact⟨hh,List.mem_range.2 hj,fun i hi=>by simp[h i hi]⟩
theorem kD (Q:List Em) (j:Nat) (hj:j<Q.length):((Q.map bA).getD j default).1=(Q.getD j default).1:=by simp[List.getD,hj,bA]
theorem cF {w0 w:World} {M:Nat→Prop} (h:St w0 M [] w):St w0 M [row 59 3 none 0 0 (ab aN []),dq 5 ([]:List Dt)] w:=(nt (e:=5) h).nilrow 59 3
theorem eN (w:World) (e:Int):
  Gives Tryz.prog 185 [zi e] [] w (X:=Unit) (fun _=> .tuple #[.agg (aE (0,0) none 0 0).toArray,.int .u64 (0:Nat),zi e]) (fun _=>True) (fun _=>[]):=by
 refine cX Tryz.func185 O Tryz.ntmps185 Tryz.results185 (by simp) (St.enter w) (fun B hB=>?_)
 focus (refine qs ?_;(refine qe (am O bP) ?_;rintro _ _ ⟨b2,rfl,rfl⟩);refine qp ?_;refine qp ?_;refine qn ?_;refine qt (bu eG) ?_;refine qp ?_;(refine qw (aj (cs:=aE (0,0) none 0 0) (ds:=aE (0,0) none 0 0) O O O O (bD _ _ _ _) O) ?_;rintro _ _ rfl);refine qp ?_;refine qp ?_;refine qz ?_)
 refine hB _ _ _ _ _ O (.cell O O O inferInstance O (.tmp O (.tmp O .nil))) fun w' hS=>⟨(),O,trivial,hS.sublist (List.nil_sublist _)⟩
theorem pR (w:World) (a:At) (A:Option Addr) (c:Nat) (Q:List Em) (h:Rd w bC 3 A Q.length (ab aN Q)) (hd:lZ w bC (Q.map cR)) (p:At) (A2:Option Addr) (cE:Nat) (E:List Em) (h2:Rd w bC 3 A2 E.length (ab aN E)) (hd2:lZ w bC (E.map cR)) (hcE:E.length≤cE) (hn:Q.length≤1000) (hn2:E.length≤1000) (hk: ∀ m∈Q,m.2.2.2.2.length≤100000) (hk2: ∀ m∈E,m.2.2.2.2.length≤100000):
  Gives Tryz.prog 174 [.agg (aE a A Q.length c).toArray,.agg (aO p).toArray,.slice A2 E.length cE] [] w (X:=(Option Addr×Nat)×List Em) (fun x=> .tuple #[.agg (aE (jR a (Q.map bA) p (E.map bA)).2.2.1 x.1.1 (jR a (Q.map bA) p (E.map bA)).2.2.2.length x.1.2).toArray,.int .u64 ((jR a (Q.map bA) p (E.map bA)).2.1:Int),zi (jR a (Q.map bA) p (E.map bA)).1]) (fun x=>x.2.map bA=(jR a (Q.map bA) p (E.map bA)).2.2.2) (fun x=>[row 59 3 x.1.1 (jR a (Q.map bA) p (E.map bA)).2.2.2.length x.1.2 (ab aN x.2),dq 5 (x.2.map cR)]):=by
 refine cX Tryz.func174 O Tryz.ntmps174 Tryz.results174 (by simp) (St.enter w) (fun B hB=>?_)
 obtain⟨i,t⟩:=a
 obtain⟨pi,pu⟩:=p
 obtain⟨l,hl⟩: ∃ l,Q.map bA=l:=⟨_,O⟩
 obtain⟨es,hes⟩: ∃ l,E.map bA=l:=⟨_,O⟩
 have hll:l.length=Q.length:=by rw[← hl,List.length_map]
 have hel:es.length=E.length:=by rw[← hes,List.length_map]
 rw[hl,hes] at hB
 obtain⟨r,hr0⟩: ∃ r,br (i,t) l=r:=⟨_,O⟩
 have hr:br (i,t) (Q.map bA)=r:=by rw[hl];exact hr0
 obtain⟨rs,hrs0⟩: ∃ r,bw es pu=r:=⟨_,O⟩
 have hrs:bw (E.map bA) pu=rs:=by rw[hes];exact hrs0
 cases r
 ·have hs:jR (i,t) l (pi,pu) es=(220,0,(0,0),[]):=by unfold jR;rw[hr0];rfl
  rw[hs] at hB
  focus (refine qs ?_;(refine qe (ap (cs:=aE (i,t) A Q.length c) O) ?_;rintro _ _ ⟨b3,rfl,rfl⟩);(refine qe (ap (cs:=aO (pi,pu)) O) ?_;rintro _ _ ⟨b4,rfl,rfl⟩);(refine qe (am (H:=[pt b4 36 (aO (pi,pu)),pt b3 39 (aE (i,t) A Q.length c)]) O bP) ?_;rintro _ _ ⟨b6,rfl,rfl⟩);refine qp ?_;refine qp ?_;refine qz ?_;refine iF O ?_;refine qs ?_;refine qp ?_;refine qn ?_;refine qp ?_;refine qp ?_;refine qt (bj O O O O (by unfold aH;omega)) ?_;refine qp ?_;refine qz ?_;refine qq ?_;refine qb ?_;refine qs ?_;refine qt (ai (ds:=aE (i,t) A Q.length c) O O O O O) ?_;(refine qh fh (fun w hS=>bL w (i,t) A c Q ((Srd.old h (fun k _=>ao k)).rd w hS) (by omega)) ?_;rw[hr]);refine qt (aR O) ?_;refine qd ?_;refine qz ?_;refine qT ?_;refine qs ?_;refine qp ?_;(refine qe (d4 (cap:=[]) O (aq (f:=185) mH (fun w hS=>eN w 220) O O (fun _=>O))) ?_;rintro _ _ ⟨_,rfl,_,rfl⟩);(iterate 3 refine qp ?_);(refine qw (aj (cs:=aE (0,0) none 0 0) (ds:=aE (0,0) none 0 0) O O O O (bD _ _ _ _) O) ?_;rintro _ _ rfl);refine qp ?_;refine qp ?_;refine qz ?_)
  refine hB _ _ _ _ _ O (.cell O O O inferInstance O (.tmp O (.tmp O .nil))) fun w' hS=>⟨((none,0),[]),O,O,cF (hS.sublist (List.nil_sublist _))⟩
 have hff:=dF hr0
 have hfit:(i,t).1+Q.length≤18446744073709551615:=by rw[← hll];show i+_≤_;have:i+l.length≤_:=hff.2;omega
 have hfit2:i+Q.length≤18446744073709551614:=by rw[← hll];exact hff.2
 have hq16:Q.length≤16:=by rw[← hll];exact hff.1
 have harg: ¬ (pi≤18446744073709551614∧es.length≤18446744073709551614-pi∧rs=true)→jR (i,t) l (pi,pu) es=(2,0,(0,0),[]):=fun hno=>by
  unfold jR
  rw[if_pos hr0,if_neg (by rw[hrs0];exact hno)]
 by_cases hp1:18446744073709551614<pi
 ·rw[harg (by omega)] at hB
  repeat' (first|refine aa (ay O (by omega)) ?_ O O|refine bM O ?_ O O|refine ax ?_|refine aU ?_ O O|refine aa (ai (ds:=aE (i,t) A Q.length c) O O O O O) ?_ O O|refine aa (ah O O O O) ?_ O O|refine aa (aR O) ?_ O O|refine aa (bj O O O O (by unfold aH;omega)) ?_ O O|refine au O ?_|refine al O O ?_|refine aC O O ?_|refine aA O O ?_|refine aG O ?_|refine iF O ?_|(refine an (ap (cs:=aE (i,t) A Q.length c) O) ?_ O O;rintro _ _ ⟨b3,rfl,rfl⟩)|(refine an (ap (cs:=aO (pi,pu)) O) ?_ O O;rintro _ _ ⟨b4,rfl,rfl⟩)|(refine an (am (H:=[pt b4 36 (aO (pi,pu)),pt b3 39 (aE (i,t) A Q.length c)]) O bP) ?_ O O;rintro _ _ ⟨b6,rfl,rfl⟩)|((refine an (aq (f:=121) fh (fun w hS=>bL w (i,t) A c Q ((Srd.old h (fun k _=>ao k)).rd w hS) (by omega)) O O (fun _=>O)) ?_ O O;rintro _ _ ⟨_,rfl,_,rfl⟩);rw[hr])|(refine an (d4 (cap:=[]) O (aq (f:=185) mH (fun w hS=>eN w 2) O O (fun _=>O))) ?_ O O;rintro _ _ ⟨_,rfl,_,rfl⟩)|(refine bh (aj (cs:=aE (0,0) none 0 0) (ds:=aE (0,0) none 0 0) O O O O (bD _ _ _ _) O) ?_ O;rintro _ _ rfl))
  refine hB _ _ _ _ _ O (.cell O O O inferInstance O (.tmp O (.tmp O .nil))) fun w' hS=>⟨((none,0),[]),O,O,cF (hS.sublist (List.nil_sublist _))⟩
 by_cases hp2:18446744073709551614-pi<E.length
 ·rw[harg (by omega)] at hB
  focus (refine qs ?_;(refine qe (ap (cs:=aE (i,t) A Q.length c) O) ?_;rintro _ _ ⟨b3,rfl,rfl⟩);(refine qe (ap (cs:=aO (pi,pu)) O) ?_;rintro _ _ ⟨b4,rfl,rfl⟩);(refine qe (am (H:=[pt b4 36 (aO (pi,pu)),pt b3 39 (aE (i,t) A Q.length c)]) O bP) ?_;rintro _ _ ⟨b6,rfl,rfl⟩);refine qp ?_;refine qp ?_;refine qz ?_;refine iF O ?_;refine qs ?_;refine qp ?_;refine qn ?_;refine qp ?_;refine qp ?_;refine qt (bj O O O O (by unfold aH;omega)) ?_;refine qp ?_;refine qz ?_;refine qq ?_;refine qb ?_;refine qs ?_;refine qt (ai (ds:=aE (i,t) A Q.length c) O O O O O) ?_;(refine qh fh (fun w hS=>bL w (i,t) A c Q ((Srd.old h (fun k _=>ao k)).rd w hS) (by omega)) ?_;rw[hr]);refine qt (aR O) ?_;refine qp ?_;refine qz ?_;refine qF ?_;refine qs ?_;refine qp ?_;refine qt (ah O O O O) ?_;refine qf ?_;(iterate 3 refine qp ?_);refine qt (ah O O O O) ?_;refine qt (bU O O (by omega) (by unfold aH;omega)) ?_;(iterate 3 refine qd ?_);(iterate 5 refine qk ?_);refine qd ?_;refine qd ?_;refine qz ?_;refine qT ?_;refine qs ?_;refine qp ?_;(refine qe (d4 (cap:=[]) O (aq (f:=185) mH (fun w hS=>eN w 2) O O (fun _=>O))) ?_;rintro _ _ ⟨_,rfl,_,rfl⟩);(iterate 3 refine qp ?_);(refine qw (aj (cs:=aE (0,0) none 0 0) (ds:=aE (0,0) none 0 0) O O O O (bD _ _ _ _) O) ?_;rintro _ _ rfl);refine qp ?_;refine qp ?_;refine qz ?_)
  refine hB _ _ _ _ _ O (.cell O O O inferInstance O (.tmp O (.tmp O .nil))) fun w' hS=>⟨((none,0),[]),O,O,cF (hS.sublist (List.nil_sublist _))⟩
 cases rs
 ·rw[harg (by simp)] at hB
  focus (refine qs ?_;(refine qe (ap (cs:=aE (i,t) A Q.length c) O) ?_;rintro _ _ ⟨b3,rfl,rfl⟩);(refine qe (ap (cs:=aO (pi,pu)) O) ?_;rintro _ _ ⟨b4,rfl,rfl⟩);(refine qe (am (H:=[pt b4 36 (aO (pi,pu)),pt b3 39 (aE (i,t) A Q.length c)]) O bP) ?_;rintro _ _ ⟨b6,rfl,rfl⟩);refine qp ?_;refine qp ?_;refine qz ?_;refine iF O ?_;refine qs ?_;refine qp ?_;refine qn ?_;refine qp ?_;refine qp ?_;refine qt (bj O O O O (by unfold aH;omega)) ?_;refine qp ?_;refine qz ?_;refine qq ?_;refine qb ?_;refine qs ?_;refine qt (ai (ds:=aE (i,t) A Q.length c) O O O O O) ?_;(refine qh fh (fun w hS=>bL w (i,t) A c Q ((Srd.old h (fun k _=>ao k)).rd w hS) (by omega)) ?_;rw[hr]);refine qt (aR O) ?_;refine qp ?_;refine qz ?_;refine qF ?_;refine qs ?_;refine qp ?_;refine qt (ah O O O O) ?_;refine qf ?_;(iterate 3 refine qp ?_);refine qt (ah O O O O) ?_;refine qt (bU O O (by omega) (by unfold aH;omega)) ?_;refine qf ?_;(iterate 4 refine qp ?_);refine qt (ah O O O O) ?_;(refine qh sL (fun w hS=>fN w A2 cE E pu ((Srd.old h2 (fun k _=>ao k)).rd w hS) (by omega)) ?_;rw[hrs]);refine qt (aR O) ?_;refine qd ?_;refine qd ?_;refine qz ?_;refine qT ?_;refine qs ?_;refine qp ?_;(refine qe (d4 (cap:=[]) O (aq (f:=185) mH (fun w hS=>eN w 2) O O (fun _=>O))) ?_;rintro _ _ ⟨_,rfl,_,rfl⟩);(iterate 3 refine qp ?_);(refine qw (aj (cs:=aE (0,0) none 0 0) (ds:=aE (0,0) none 0 0) O O O O (bD _ _ _ _) O) ?_;rintro _ _ rfl);refine qp ?_;refine qp ?_;refine qz ?_)
  refine hB _ _ _ _ _ O (.cell O O O inferInstance O (.tmp O (.tmp O .nil))) fun w' hS=>⟨((none,0),[]),O,O,cF (hS.sublist (List.nil_sublist _))⟩
 have hok:jR (i,t) l (pi,pu) es=if i≤pi∧fu (i,t) l (pi,pu)=false then ((4,0,(0,0),[]):Int×Nat×At×List En) else Au (i,t) l (pi,pu) es:=by
  unfold jR
  rw[if_pos hr0,if_pos ⟨by show pi≤_;omega,by show _≤_-pi;omega,hrs0⟩]
 rw[hok] at hB
 obtain⟨q,hh0⟩: ∃ q,fu (i,t) l (pi,pu)=q:=⟨_,O⟩
 have hh:fu (i,t) (Q.map bA) (pi,pu)=q:=by rw[hl];exact hh0
 have hla:cM (i,t) (Q.map bA)=(i+Q.length,(cM (i,t) l).2):=by rw[hl,cM,hll]
 have hla2:(cM (i,t) l).1=i+Q.length:=by rw[cM,hll]
 obtain⟨lt,hlt⟩: ∃ x,(cM (i,t) l).2=x:=⟨_,O⟩
 rw[hlt] at hla
 rw[hh0] at hB
 by_cases hbad:i≤pi∧q=false
 ·rw[if_pos hbad] at hB
  obtain⟨hb1,rfl⟩:=hbad
  repeat' (first|refine aa (ay O (by omega)) ?_ O O|refine aa (aB O (by omega)) ?_ O O|refine bM O ?_ O O|refine ax ?_|refine aa (ai (ds:=aE (i,t) A Q.length c) O O O O O) ?_ O O|refine aa (ai (ds:=aO (pi,pu)) O O O O O) ?_ O O|refine aa (ah O O O O) ?_ O O|refine aa (bU O O (by omega) (by unfold aH;omega)) ?_ O O|refine aa (aR O) ?_ O O|refine aa (bj O O O O (by unfold aH;omega)) ?_ O O|refine au O ?_|refine al O O ?_|refine aC O O ?_|refine aA O O ?_|refine aG O ?_|refine iF O ?_|(refine an (ap (cs:=aE (i,t) A Q.length c) O) ?_ O O;rintro _ _ ⟨b3,rfl,rfl⟩)|(refine an (ap (cs:=aO (pi,pu)) O) ?_ O O;rintro _ _ ⟨b4,rfl,rfl⟩)|(refine an (am (H:=[pt b4 36 (aO (pi,pu)),pt b3 39 (aE (i,t) A Q.length c)]) O bP) ?_ O O;rintro _ _ ⟨b6,rfl,rfl⟩)|((refine an (aq (f:=121) fh (fun w hS=>bL w (i,t) A c Q ((Srd.old h (fun k _=>ao k)).rd w hS) (by omega)) O O (fun _=>O)) ?_ O O;rintro _ _ ⟨_,rfl,_,rfl⟩);rw[hr])|(refine an (d4 (cap:=[]) O (aq (f:=185) mH (fun w hS=>eN w 4) O O (fun _=>O))) ?_ O O;rintro _ _ ⟨_,rfl,_,rfl⟩)|(refine bh (aj (cs:=aE (0,0) none 0 0) (ds:=aE (0,0) none 0 0) O O O O (bD _ _ _ _) O) ?_ O;rintro _ _ rfl)|((refine an (aq (f:=167) sL (fun w hS=>fN w A2 cE E pu ((Srd.old h2 (fun k _=>ao k)).rd w hS) (by omega)) O O (fun _=>O)) ?_ O O;rintro _ _ ⟨_,rfl,_,rfl⟩);rw[hrs])|((refine an (aq (f:=162) sK (fun w hS=>go w (i,t) A c Q ((Srd.old h (fun k _=>ao k)).rd w hS) (by omega) hfit (pi,pu)) O O (fun _=>O)) ?_ O O;rintro _ _ ⟨_,rfl,_,rfl⟩);rw[hh]))
  refine hB _ _ _ _ _ O (.cell O O O inferInstance O (.tmp O (.tmp O .nil))) fun w' hS=>⟨((none,0),[]),O,O,cF (hS.sublist (List.nil_sublist _))⟩
 rw[if_neg hbad] at hB
 have hE0:Au (i,t) l (pi,pu) es=match eX (i,t) l (pi,pu) es with
  |none=>(0,pi+es.length,(i,t),l)
  |some j=>
   if (cM (i,t) l).1+1<pi+j+1 then (4,0,(0,0),[]) else
    if (es.getD j default).1<jd (i,t) l (pi+j-i) then (2,0,(0,0),[]) else
     if 16<pi+j-i+(es.length-j) then (6,0,(0,0),[]) else
      (0,pi+es.length,(i,t),l.take (pi+j-i)++es.drop j):=rfl
 rw[hla2] at hE0
 have hcopy: ∀ (b3 b4 b6:Nat) (z:Int),(∀ (b16:Nat) (A5:Option Addr) (c5:Nat) (Q5:Cp Q),RS Tryz.prog B 190 w (ar []) [.code (c2 (c2 (c2 (c2 (c2 (c2 (c2 (c2 (c1 (c2 (dM Tryz.f174))))))))))),.seg] [(2,.slice A2 E.length cE),(3,.pointer (some ⟨b3,0,none⟩)),(4,.pointer (some ⟨b4,0,none⟩)),(6,.pointer (some ⟨b6,0,none⟩)),(9,.func (.func 185) #[] #[]),(10,.int .u64 (E.length:Int)),(12,.int .i64 z),(16,.pointer (some ⟨b16,0,none⟩))] [pt b16 39 (aE (i,t) A5 Q.length c5),row 59 3 A5 Q.length c5 (ab aN Q5.1),dq 5 (Q5.1.map cR),pt b6 39 (aE (0,0) none 0 0),pt b4 36 (aO (pi,pu)),pt b3 39 (aE (i,t) A Q.length c)])→
   RS Tryz.prog B 190 w (ar []) [.code (c1 (c2 (c2 (c2 (c2 (c2 (c2 (c2 (c1 (c2 (dM Tryz.f174))))))))))),.code (c2 (c2 (c2 (c2 (c2 (c2 (c2 (c2 (c1 (c2 (dM Tryz.f174))))))))))),.seg] [(2,.slice A2 E.length cE),(3,.pointer (some ⟨b3,0,none⟩)),(4,.pointer (some ⟨b4,0,none⟩)),(6,.pointer (some ⟨b6,0,none⟩)),(9,.func (.func 185) #[] #[]),(10,.int .u64 (E.length:Int)),(12,.int .i64 z)] [pt b6 39 (aE (0,0) none 0 0),pt b4 36 (aO (pi,pu)),pt b3 39 (aE (i,t) A Q.length c)]:=fun b3 b4 b6 z hnext=>by
  refine eo (X:=Nat×Option Addr×Nat×Cp Q) (fun y=>[(2,.slice A2 E.length cE),(3,.pointer (some ⟨b3,0,none⟩)),(4,.pointer (some ⟨b4,0,none⟩)),(6,.pointer (some ⟨b6,0,none⟩)),(9,.func (.func 185) #[] #[]),(10,.int .u64 (E.length:Int)),(12,.int .i64 z),(16,.pointer (some ⟨y.1,0,none⟩))]) (fun y=>[pt y.1 39 (aE (i,t) y.2.1 Q.length y.2.2.1),row 59 3 y.2.1 Q.length y.2.2.1 (ab aN y.2.2.2.1),dq 5 (y.2.2.2.1.map cR),pt b6 39 (aE (0,0) none 0 0),pt b4 36 (aO (pi,pu)),pt b3 39 (aE (i,t) A Q.length c)]) (fun _=>True) (fun J hJ=>?_) (fun y _=>hnext y.1 y.2.1 y.2.2.1 y.2.2.2)
  refine dS [pt b3 39 (aE (i,t) A Q.length c)] 8 ?_
  refine dp 0 ?_
  refine dt 1 O (ai (ds:=aO (i,t)) O O O O O) ?_
  refine dp 2 ?_
  refine dl 3 ?_
  refine lY #[U,U,U,U,U,U,U,Y] (fun x:Option Addr×Nat×Cp Q×Nat=>[(121,.agg (aE (i,t) x.1 Q.length x.2.1).toArray),(16,.pointer (some ⟨x.2.2.2,0,none⟩)),(120,.slice x.1 Q.length x.2.1),(117,.agg (aO (i,t)).toArray),(119,.slice A Q.length c),(2,.slice A2 E.length cE),(3,.pointer (some ⟨b3,0,none⟩)),(4,.pointer (some ⟨b4,0,none⟩)),(6,.pointer (some ⟨b6,0,none⟩)),(9,.func (.func 185) #[] #[]),(10,.int .u64 (E.length:Int)),(12,.int .i64 z)]) (fun x:Option Addr×Nat×Cp Q×Nat=>[pt x.2.2.2 39 (aE (0,0) none 0 0),row 59 3 x.1 Q.length x.2.1 (ab aN x.2.2.1.1),dq 5 (x.2.2.1.1.map cR),pt b6 39 (aE (0,0) none 0 0),pt b4 36 (aO (pi,pu)),pt b3 39 (aE (i,t) A Q.length c)]) (fun nd0=>?_) (fun x=>?_)
  refine ct #[U,U,U,U,U,U,Y,Y] (fun x:Option Addr×Nat×Cp Q=>[(121,.agg (aE (i,t) x.1 Q.length x.2.1).toArray),(120,.slice x.1 Q.length x.2.1),(117,.agg (aO (i,t)).toArray),(119,.slice A Q.length c),(2,.slice A2 E.length cE),(3,.pointer (some ⟨b3,0,none⟩)),(4,.pointer (some ⟨b4,0,none⟩)),(6,.pointer (some ⟨b6,0,none⟩)),(9,.func (.func 185) #[] #[]),(10,.int .u64 (E.length:Int)),(12,.int .i64 z)]) (fun x:Option Addr×Nat×Cp Q=>[row 59 3 x.1 Q.length x.2.1 (ab aN x.2.2.1),dq 5 (x.2.2.1.map cR),pt b6 39 (aE (0,0) none 0 0),pt b4 36 (aO (pi,pu)),pt b3 39 (aE (i,t) A Q.length c)]) (fun x=>?_) (fun nd1=>?_)
  ·skip
   obtain⟨A5,c5,Q5⟩:=x
   try dsimp only
   refine dE 6 O (am O bP) ?_
   rintro _ _ ⟨b16,rfl,rfl⟩
   refine nx ?_
   have h:=nd0 (A5,c5,Q5,b16)
   try dsimp only at h
   exact Da h
  refine ct #[U,U,U,U,Y,Y,U,Y] (fun x:Nat=>[(16,.pointer (some ⟨x,0,none⟩)),(117,.agg (aO (i,t)).toArray),(119,.slice A Q.length c),(2,.slice A2 E.length cE),(3,.pointer (some ⟨b3,0,none⟩)),(4,.pointer (some ⟨b4,0,none⟩)),(6,.pointer (some ⟨b6,0,none⟩)),(9,.func (.func 185) #[] #[]),(10,.int .u64 (E.length:Int)),(12,.int .i64 z)]) (fun x:Nat=>[pt x 39 (aE (0,0) none 0 0),pt b6 39 (aE (0,0) none 0 0),pt b4 36 (aO (pi,pu)),pt b3 39 (aE (i,t) A Q.length c)]) (fun x=>?_) (fun nd2=>?_)
  ·skip
   revert x;intro b16
   try dsimp only
   refine dE 4 O (jG nz O (fun w hS=>iM w A c Q ((Srd.old h (fun k _=>ao k)).rd w hS) ((SDt.old hd (fun k _=>ao k)).rd w hS) (by omega) hk)) ?_
   rintro _ _ ⟨⟨⟨A5,c5⟩,Q5⟩,rfl,_,rfl⟩;dsimp only[List.cons_append,List.nil_append]
   refine nx ?_
   refine dt 5 O (bS O O (fd (i,t) _ _ _)) ?_
   have h:=nd0 (A5,c5,Q5,b16)
   try dsimp only at h
   exact Da h
  refine ct #[U,U,U,U,Y,Y,Y,Y] (fun _:Unit=>[(117,.agg (aO (i,t)).toArray),(119,.slice A Q.length c),(2,.slice A2 E.length cE),(3,.pointer (some ⟨b3,0,none⟩)),(4,.pointer (some ⟨b4,0,none⟩)),(6,.pointer (some ⟨b6,0,none⟩)),(9,.func (.func 185) #[] #[]),(10,.int .u64 (E.length:Int)),(12,.int .i64 z)]) (fun _:Unit=>[pt b6 39 (aE (0,0) none 0 0),pt b4 36 (aO (pi,pu)),pt b3 39 (aE (i,t) A Q.length c)]) (fun x=>?_) (fun nd3=>?_)
  ·skip
   obtain⟨⟩:=x
   try dsimp only
   refine fb 4 6 (by decide) O O (jG nz O (fun w hS=>iM w A c Q ((Srd.old h (fun k _=>ao k)).rd w hS) ((SDt.old hd (fun k _=>ao k)).rd w hS) (by omega) hk)) (am O bP) ?_ ?_ O O O O (by kernel_rfl)
   ·rintro _ _ ⟨⟨⟨A5,c5⟩,Q5⟩,rfl,_,rfl⟩;dsimp only[List.cons_append,List.nil_append]
    refine nx ?_
    refine dt 5 O (bS O O (fd (i,t) _ _ _)) ?_
    have h:=nd1 (A5,c5,Q5)
    try dsimp only at h
    exact Da h
   ·rintro _ _ ⟨b16,rfl,rfl⟩
    refine nx ?_
    have h:=nd2 (b16)
    try dsimp only at h
    exact Da h
  have h:=nd3 ()
  try dsimp only at h
  exact Da h
  obtain⟨A5,c5,Q5,b16⟩:=x
  try dsimp only
  refine dE 7 O (aj (cs:=aE (0,0) none 0 0) (ds:=aE (i,t) A5 Q.length c5) O O O O (bD _ _ _ _) O) ?_
  rintro _ _ rfl
  refine nx ?_
  refine dn ?_
  skip
  exact hJ (b16,A5,c5,Q5) _ _ trivial (Sub.cons O (Sub.cons O (Sub.cons O (Sub.cons O (Sub.cons O (Sub.cons O (Sub.cons O (Sub.cons O Sub.nil)))))))) ae
 have hnone: ∀ b3 b4 b6,eX (i,t) l (pi,pu) es=none→RS Tryz.prog B 190 w (ar []) [.code (c1 (c2 (c2 (c2 (c2 (c2 (c2 (c2 (c1 (c2 (dM Tryz.f174))))))))))),.code (c2 (c2 (c2 (c2 (c2 (c2 (c2 (c2 (c1 (c2 (dM Tryz.f174))))))))))),.seg] [(2,.slice A2 E.length cE),(3,.pointer (some ⟨b3,0,none⟩)),(4,.pointer (some ⟨b4,0,none⟩)),(6,.pointer (some ⟨b6,0,none⟩)),(9,.func (.func 185) #[] #[]),(10,.int .u64 (E.length:Int)),(12,.int .i64 (-1))] [pt b6 39 (aE (0,0) none 0 0),pt b4 36 (aO (pi,pu)),pt b3 39 (aE (i,t) A Q.length c)]:=fun b3 b4 b6 hf=>by
  refine hcopy b3 b4 b6 (-1) fun b16 A5 c5 Q5=>?_
  rw[hE0,hf] at hB
  dsimp only at hB
  rw[hel,hll] at hB
  focus (refine qq ?_;refine qs ?_;refine qp ?_;refine qd ?_;refine qz ?_;refine qT ?_;refine qq ?_)
  refine dS [pt b16 39 (aE (i,t) A5 Q.length c5),pt b4 36 (aO (pi,pu))] 8 ?_
  refine dt 0 O (ai (ds:=aE (i,t) A5 Q.length c5) O O O O O) ?_
  refine dp 1 ?_
  refine dl 2 ?_
  refine dp 3 ?_
  (refine dt 4 O (aI O O (by unfold aH;omega)) ?_)
  refine dE 5 O (aj (cs:=aE (0,0) none 0 0) (ds:=aE (i,t) A5 Q.length c5) O O O O (bD _ _ _ _) O) ?_
  rintro _ _ rfl
  refine nx ?_
  refine dp 6 ?_
  refine dp 7 ?_
  refine dn ?_
  skip
  skip
  refine hB _ _ _ _ _ O (.cell O O O inferInstance O (.tmp O (.tmp O .nil))) fun w' hS=>⟨((A5,c5),Q5.1),O,Q5.2.trans hl,ae _ hS⟩
 have hsome: ∀ b3 b4 b6 j,eX (i,t) l (pi,pu) es=some j→j<E.length→i<pi+j+1→pi+j+1≤i+Q.length+1→RS Tryz.prog B 190 w (ar []) [.code (c1 (c2 (c2 (c2 (c2 (c2 (c2 (c2 (c1 (c2 (dM Tryz.f174))))))))))),.code (c2 (c2 (c2 (c2 (c2 (c2 (c2 (c2 (c1 (c2 (dM Tryz.f174))))))))))),.seg] [(2,.slice A2 E.length cE),(3,.pointer (some ⟨b3,0,none⟩)),(4,.pointer (some ⟨b4,0,none⟩)),(6,.pointer (some ⟨b6,0,none⟩)),(9,.func (.func 185) #[] #[]),(10,.int .u64 (E.length:Int)),(12,.int .i64 (j:Int))] [pt b6 39 (aE (0,0) none 0 0),pt b4 36 (aO (pi,pu)),pt b3 39 (aE (i,t) A Q.length c)]:=fun b3 b4 b6 j hf hj hi1 hi2=>by
  refine hcopy b3 b4 b6 j fun b16 A5 c5 Q5=>?_
  rw[hE0,hf] at hB
  dsimp only at hB
  rw[if_neg (by omega),hel] at hB
  obtain⟨mt,hmt⟩: ∃ x,(es.getD j default).1=x:=⟨_,O⟩
  obtain⟨at_,hat_⟩: ∃ x,jd (i,t) l (pi+j-i)=x:=⟨_,O⟩
  rw[hmt,hat_] at hB
  have hne:0<Q.length→A≠none:=fun h0=>by obtain⟨ad,rfl,_⟩:=h.2 (by omega);simp
  have hcutr:=nC (q:=j) h2 (by omega) hcE
  have hcutd:=l9 hd2 j
  have hkd: ∀ m∈E.drop j,m.2.2.2.2.length≤100000:=fun m hm=>hk2 m (List.mem_of_mem_drop hm)
  refine eS A5 Q.length c5 fun hc5 _ _ _=>?_
  repeat' (first|refine aa (aB O (by omega)) ?_ O O|refine bM O ?_ O O|refine ax ?_|refine aa (ah O O O O) ?_ O O|refine aa (lW (sz:=3) (q:=j) O O O O O O (by omega) hcE) ?_ O O|refine aa (aI O O (by unfold aH;omega)) ?_ O O|refine aa (bU O O (by omega) (by unfold aH;omega)) ?_ O O|refine aa (bj O O O O (by unfold aH;omega)) ?_ O O|refine au O ?_|refine al O O ?_|refine aA O O ?_|refine aM O ?_|(refine an (uU (Q:=E.drop j) (k:=E.length-j) O (by rw[List.length_drop]) (Srd.old hcutr (fun k _=>ao k)) (SDt.old hcutd (fun k _=>ao k)) (by omega) hkd) ?_ O O;rintro _ _ ⟨A7,c7,E7,rfl,hne7,hc7,rfl⟩))
  have h7l:E7.1.length=E.length-j:=by rw[E7.len,List.length_drop]
  have hne7:=hne7 (by omega)
  have hat7:(ab aN E7.1)[0*3+0]? =some (.int .u64 (mt:Int)):=by
   have h0:=bi (f:=aN) bW E7.1 default 0 (by omega) 0 _ O
   have h1:(E7.1.getD 0 default).1=mt:=by
    rw[← hmt, ← hes,kD _ _ (by omega), ← kD _ _ (by omega),E7.2,kD _ _ (by rw[List.length_drop];omega)]
    simp[List.getD,List.getElem?_drop]
   rw[h1] at h0
   exact h0
  have hlt7:0<E.length-j:=by omega
  have hlen:(l.take (pi+j-i)++es.drop j).length=pi+j-i+(E.length-j):=by
   rw[List.length_append,List.length_take,List.length_drop,hel,hll]
   omega
  refine sE O O (fun hs=>?_) (fun hs=>?_)
  ·have hs:(0:Int)<((pi+j-i:Nat):Int):=hs
   have hn0:0<pi+j-i:=by omega
   have hlq:pi+j-i-1<Q.length:=by omega
   have hne:=hne (by omega)
   have hatq:(ab aN Q)[(pi+j-i-1)*3+0]? =some (.int .u64 (at_:Int)):=by
    have h0:=bi (f:=aN) bW Q default (pi+j-i-1) hlq 0 _ O
    have h1:(Q.getD (pi+j-i-1) default).1=at_:=by
     rw[← hat_,jd,if_pos hn0, ← hl,kD _ _ hlq]
    rw[h1] at h0
    exact h0
   by_cases h28:mt<at_
   ·rw[if_pos h28] at hB
    focus (refine qr ?_;refine qp ?_;refine qt (ah O O O O) ?_;refine qp ?_;refine qt (bU O O (by omega) (by unfold aH;omega)) ?_;refine qt (bH (sz:=3) (q:=pi+j-i-1) O O O O O O hne hlq) ?_;refine qt (dx O O O O O hne) ?_;refine qt (bN O O O (Srd.old h (fun k _=>ao k)) (by omega) hatq) ?_;refine qp ?_;refine qz ?_;refine qq ?_;refine qb ?_;refine qs ?_;refine qp ?_;refine qt (bH (sz:=3) (q:=0) O O O O O O hne7 hlt7) ?_;refine qt (dx O O O O O hne7) ?_;refine qt (bN O O O (Srd.row (A:=A7) (n:=E.length-j) (c:=c7)) (by omega) hat7) ?_;refine qp ?_;refine qd ?_;refine qp ?_;refine qz ?_;refine qT ?_;refine qs ?_;refine qp ?_;(refine qe (d4 (cap:=[]) O (aq (f:=185) mH (fun w hS=>eN w 2) O O (fun _=>O))) ?_;rintro _ _ ⟨_,rfl,_,rfl⟩);(iterate 3 refine qp ?_);(refine qw (aj (cs:=aE (0,0) none 0 0) (ds:=aE (0,0) none 0 0) O O O O (bD _ _ _ _) O) ?_;rintro _ _ rfl);refine qp ?_;refine qp ?_;refine qz ?_)
    refine hB _ _ _ _ _ O (.cell O O O inferInstance O (.tmp O (.tmp O .nil))) fun w' hS=>⟨((none,0),[]),O,O,cF (hS.sublist (List.nil_sublist _))⟩
   rw[if_neg h28] at hB
   by_cases h30:16<pi+j-i+(E.length-j)
   ·rw[if_pos h30] at hB
    focus (refine qr ?_;refine qp ?_;refine qt (ah O O O O) ?_;refine qp ?_;refine qt (bU O O (by omega) (by unfold aH;omega)) ?_;refine qt (bH (sz:=3) (q:=pi+j-i-1) O O O O O O hne hlq) ?_;refine qt (dx O O O O O hne) ?_;refine qt (bN O O O (Srd.old h (fun k _=>ao k)) (by omega) hatq) ?_;refine qp ?_;refine qz ?_;refine qq ?_;refine qb ?_;refine qs ?_;refine qp ?_;refine qt (bH (sz:=3) (q:=0) O O O O O O hne7 hlt7) ?_;refine qt (dx O O O O O hne7) ?_;refine qt (bN O O O (Srd.row (A:=A7) (n:=E.length-j) (c:=c7)) (by omega) hat7) ?_;refine qp ?_;refine qf ?_;refine qp ?_;refine qz ?_;refine qF ?_;refine qs ?_;(iterate 3 refine qp ?_);refine qt (aI O O (by unfold aH;omega)) ?_;refine qd ?_;refine qp ?_;refine qz ?_;refine qT ?_;refine qs ?_;refine qp ?_;(refine qe (d4 (cap:=[]) O (aq (f:=185) mH (fun w hS=>eN w 6) O O (fun _=>O))) ?_;rintro _ _ ⟨_,rfl,_,rfl⟩);(iterate 3 refine qp ?_);(refine qw (aj (cs:=aE (0,0) none 0 0) (ds:=aE (0,0) none 0 0) O O O O (bD _ _ _ _) O) ?_;rintro _ _ rfl);refine qp ?_;refine qp ?_;refine qz ?_)
    refine hB _ _ _ _ _ O (.cell O O O inferInstance O (.tmp O (.tmp O .nil))) fun w' hS=>⟨((none,0),[]),O,O,cF (hS.sublist (List.nil_sublist _))⟩
   rw[if_neg h30,hlen] at hB
   refine mQ A5 Q.length c5 (pi+j-i) (by omega) ?_
   focus (refine qr ?_;refine qp ?_;refine qt (ah O O O O) ?_;refine qp ?_;refine qt (bU O O (by omega) (by unfold aH;omega)) ?_;refine qt (bH (sz:=3) (q:=pi+j-i-1) O O O O O O hne hlq) ?_;refine qt (dx O O O O O hne) ?_;refine qt (bN O O O (Srd.old h (fun k _=>ao k)) (by omega) hatq) ?_;refine qp ?_;refine qz ?_;refine qq ?_;refine qb ?_;refine qs ?_;refine qp ?_;refine qt (bH (sz:=3) (q:=0) O O O O O O hne7 hlt7) ?_;refine qt (dx O O O O O hne7) ?_;refine qt (bN O O O (Srd.row (A:=A7) (n:=E.length-j) (c:=c7)) (by omega) hat7) ?_;refine qp ?_;refine qf ?_;refine qp ?_;refine qz ?_;refine qF ?_;refine qs ?_;(iterate 3 refine qp ?_);refine qt (aI O O (by unfold aH;omega)) ?_;refine qf ?_;refine qp ?_;refine qz ?_;refine qF ?_;refine qx ?_;refine aK ?_;refine qs ?_;refine qp ?_;refine qt (ah O O O O) ?_;refine qp ?_;refine qt (lX O O O O O (by omega)) ?_;refine qp ?_;(refine qe (gd (sz:=3) (m:=pi+j-i) (c:=c5) (A:=A5) O O O O O O O (by decide) (Srd.row (A:=A7) (n:=E.length-j) (c:=c7)) (kB E7.1) (by show (pi+j-i+(E.length-j))*40≤_;omega) (by unfold maxLen;omega)) ?_;rintro _ _ ⟨A8,c8,rfl,rfl⟩);refine qp ?_;(refine qw (ey O O O O O O (by show _<3;omega)) ?_;rintro _ _ rfl);refine qz ?_;refine qq ?_)
   refine dS [pt b16 39 ((aE (i,t) A5 Q.length c5).set (0+2) (.slice A8 (pi+j-i+(E.length-j)) c8)),pt b4 36 (aO (pi,pu))] 8 ?_
   refine dt 0 O (ai (ds:=aE (i,t) A8 (pi+j-i+(E.length-j)) c8) O O O O O) ?_
   refine dp 1 ?_
   refine dl 2 ?_
   refine dp 3 ?_
   (refine dt 4 O (aI O O (by unfold aH;omega)) ?_)
   refine dE 5 O (aj (cs:=aE (0,0) none 0 0) (ds:=aE (i,t) A8 (pi+j-i+(E.length-j)) c8) O O O O (bD _ _ _ _) O) ?_
   rintro _ _ rfl
   refine nx ?_
   refine dp 6 ?_
   refine dp 7 ?_
   refine dn ?_
   skip
   skip
   refine hB _ _ _ _ _ O (.cell O O O inferInstance O (.tmp O (.tmp O .nil))) fun w' hS=>⟨((A8,c8),Q5.1.take (pi+j-i)++E7.1),O,?_,?_⟩
   ·show (Q5.1.take (pi+j-i)++E7.1).map bA=_
    rw[List.map_append,List.map_take,Q5.2,E7.2,List.map_drop,hl,hes]
   ·dsimp only
    rw[dC,gO bW,List.map_append,List.map_take]
    have h9:=ae (H':=[dq 5 (Q5.1.map cR),dq 5 (E7.1.map cR),row 59 3 A8 (pi+j-i+(E.length-j)) c8 ((ab aN Q5.1).take ((pi+j-i)*3)++ab aN E7.1)]) w' hS
    have h10:=nu (rC (List.take_sublist (pi+j-i) (Q5.1.map cR)) h9)
    exact ae w' h10
  ·have hs: ¬ (0:Int)<((pi+j-i:Nat):Int):=hs
   have hn0: ¬ 0<pi+j-i:=by omega
   have hat0:at_=t:=by rw[← hat_,jd,if_neg hn0]
   rw[hat0] at hB
   by_cases h28:mt<t
   ·rw[if_pos h28] at hB
    focus (refine qx ?_;refine qq ?_;refine qb ?_;refine qs ?_;refine qp ?_;refine qt (bH (sz:=3) (q:=0) O O O O O O hne7 hlt7) ?_;refine qt (dx O O O O O hne7) ?_;refine qt (bN O O O (Srd.row (A:=A7) (n:=E.length-j) (c:=c7)) (by omega) hat7) ?_;refine qp ?_;refine qd ?_;refine qp ?_;refine qz ?_;refine qT ?_;refine qs ?_;refine qp ?_;(refine qe (d4 (cap:=[]) O (aq (f:=185) mH (fun w hS=>eN w 2) O O (fun _=>O))) ?_;rintro _ _ ⟨_,rfl,_,rfl⟩);(iterate 3 refine qp ?_);(refine qw (aj (cs:=aE (0,0) none 0 0) (ds:=aE (0,0) none 0 0) O O O O (bD _ _ _ _) O) ?_;rintro _ _ rfl);refine qp ?_;refine qp ?_;refine qz ?_)
    refine hB _ _ _ _ _ O (.cell O O O inferInstance O (.tmp O (.tmp O .nil))) fun w' hS=>⟨((none,0),[]),O,O,cF (hS.sublist (List.nil_sublist _))⟩
   rw[if_neg h28] at hB
   by_cases h30:16<pi+j-i+(E.length-j)
   ·rw[if_pos h30] at hB
    focus (refine qx ?_;refine qq ?_;refine qb ?_;refine qs ?_;refine qp ?_;refine qt (bH (sz:=3) (q:=0) O O O O O O hne7 hlt7) ?_;refine qt (dx O O O O O hne7) ?_;refine qt (bN O O O (Srd.row (A:=A7) (n:=E.length-j) (c:=c7)) (by omega) hat7) ?_;refine qp ?_;refine qf ?_;refine qp ?_;refine qz ?_;refine qF ?_;refine qs ?_;(iterate 3 refine qp ?_);refine qt (aI O O (by unfold aH;omega)) ?_;refine qd ?_;refine qp ?_;refine qz ?_;refine qT ?_;refine qs ?_;refine qp ?_;(refine qe (d4 (cap:=[]) O (aq (f:=185) mH (fun w hS=>eN w 6) O O (fun _=>O))) ?_;rintro _ _ ⟨_,rfl,_,rfl⟩);(iterate 3 refine qp ?_);(refine qw (aj (cs:=aE (0,0) none 0 0) (ds:=aE (0,0) none 0 0) O O O O (bD _ _ _ _) O) ?_;rintro _ _ rfl);refine qp ?_;refine qp ?_;refine qz ?_)
    refine hB _ _ _ _ _ O (.cell O O O inferInstance O (.tmp O (.tmp O .nil))) fun w' hS=>⟨((none,0),[]),O,O,cF (hS.sublist (List.nil_sublist _))⟩
   rw[if_neg h30,hlen] at hB
   refine mQ A5 Q.length c5 (pi+j-i) (by omega) ?_
   focus (refine qx ?_;refine qq ?_;refine qb ?_;refine qs ?_;refine qp ?_;refine qt (bH (sz:=3) (q:=0) O O O O O O hne7 hlt7) ?_;refine qt (dx O O O O O hne7) ?_;refine qt (bN O O O (Srd.row (A:=A7) (n:=E.length-j) (c:=c7)) (by omega) hat7) ?_;refine qp ?_;refine qf ?_;refine qp ?_;refine qz ?_;refine qF ?_;refine qs ?_;(iterate 3 refine qp ?_);refine qt (aI O O (by unfold aH;omega)) ?_;refine qf ?_;refine qp ?_;refine qz ?_;refine qF ?_;refine qx ?_;refine aK ?_;refine qs ?_;refine qp ?_;refine qt (ah O O O O) ?_;refine qp ?_;refine qt (lX O O O O O (by omega)) ?_;refine qp ?_;(refine qe (gd (sz:=3) (m:=pi+j-i) (c:=c5) (A:=A5) O O O O O O O (by decide) (Srd.row (A:=A7) (n:=E.length-j) (c:=c7)) (kB E7.1) (by show (pi+j-i+(E.length-j))*40≤_;omega) (by unfold maxLen;omega)) ?_;rintro _ _ ⟨A8,c8,rfl,rfl⟩);refine qp ?_;(refine qw (ey O O O O O O (by show _<3;omega)) ?_;rintro _ _ rfl);refine qz ?_;refine qq ?_)
   refine dS [pt b16 39 ((aE (i,t) A5 Q.length c5).set (0+2) (.slice A8 (pi+j-i+(E.length-j)) c8)),pt b4 36 (aO (pi,pu))] 8 ?_
   refine dt 0 O (ai (ds:=aE (i,t) A8 (pi+j-i+(E.length-j)) c8) O O O O O) ?_
   refine dp 1 ?_
   refine dl 2 ?_
   refine dp 3 ?_
   (refine dt 4 O (aI O O (by unfold aH;omega)) ?_)
   refine dE 5 O (aj (cs:=aE (0,0) none 0 0) (ds:=aE (i,t) A8 (pi+j-i+(E.length-j)) c8) O O O O (bD _ _ _ _) O) ?_
   rintro _ _ rfl
   refine nx ?_
   refine dp 6 ?_
   refine dp 7 ?_
   refine dn ?_
   skip
   skip
   refine hB _ _ _ _ _ O (.cell O O O inferInstance O (.tmp O (.tmp O .nil))) fun w' hS=>⟨((A8,c8),Q5.1.take (pi+j-i)++E7.1),O,?_,?_⟩
   ·show (Q5.1.take (pi+j-i)++E7.1).map bA=_
    rw[List.map_append,List.map_take,Q5.2,E7.2,List.map_drop,hl,hes]
   ·dsimp only
    rw[dC,gO bW,List.map_append,List.map_take]
    have h9:=ae (H':=[dq 5 (Q5.1.map cR),dq 5 (E7.1.map cR),row 59 3 A8 (pi+j-i+(E.length-j)) c8 ((ab aN Q5.1).take ((pi+j-i)*3)++ab aN E7.1)]) w' hS
    have h10:=nu (rC (List.take_sublist (pi+j-i) (Q5.1.map cR)) h9)
    exact ae w' h10
 have hloop: ∀ b3 b4 b6 b11,RS Tryz.prog B 190 w (ar []) [.code (c1 (c2 (c1 (c2 (c2 (c2 (c2 (c2 (c2 (c1 (c2 (dM Tryz.f174)))))))))))),.blk 1,.code (c2 (c2 (c2 (c2 (c2 (c2 (c2 (c1 (c2 (dM Tryz.f174)))))))))),.seg] [(2,.slice A2 E.length cE),(3,.pointer (some ⟨b3,0,none⟩)),(4,.pointer (some ⟨b4,0,none⟩)),(6,.pointer (some ⟨b6,0,none⟩)),(9,.func (.func 185) #[] #[]),(10,.int .u64 (E.length:Int)),(11,.pointer (some ⟨b11,0,none⟩)),(12,.int .i64 (-1)),(75,.slice A2 E.length cE),(76,.int .i64 (E.length:Int)),(77,.int .i64 (0:Int))] [pt b11 36 (aO (i+Q.length,lt)),pt b6 39 (aE (0,0) none 0 0),pt b4 36 (aO (pi,pu)),pt b3 39 (aE (i,t) A Q.length c)]:=fun b3 b4 b6 b11=>by
  refine bV (X:=Nat) (fun j=>[(2,.slice A2 E.length cE),(3,.pointer (some ⟨b3,0,none⟩)),(4,.pointer (some ⟨b4,0,none⟩)),(6,.pointer (some ⟨b6,0,none⟩)),(9,.func (.func 185) #[] #[]),(10,.int .u64 (E.length:Int)),(11,.pointer (some ⟨b11,0,none⟩)),(12,.int .i64 (-1)),(75,.slice A2 E.length cE),(76,.int .i64 (E.length:Int)),(77,.int .i64 (j:Int))]) (fun _=>[pt b11 36 (aO (i+Q.length,lt)),pt b6 39 (aE (0,0) none 0 0),pt b4 36 (aO (pi,pu)),pt b3 39 (aE (i,t) A Q.length c)]) (fun j=>j≤E.length∧ ∀ q,q<j→jK (i,t) l (pi,pu) es q=false) (fun j=>E.length-j) O 0 ⟨Nat.zero_le _,fun q hq=>absurd hq (Nat.not_lt_zero _)⟩ (Sub.cons O (Sub.cons O (Sub.cons O (Sub.cons O (Sub.cons O (Sub.cons O (Sub.cons O (Sub.cons O (Sub.cons O (Sub.cons O (Sub.cons O Sub.nil))))))))))) ae ?_
  rintro j ⟨hj,hno⟩ J hJ
  rcases Nat.lt_or_ge j E.length with hjl|hjl
  ·have hne2:A2≠none:=by obtain⟨ad,rfl,_⟩:=h2.2 (by omega);simp
   have hat:=bi (f:=aN) bW E default j hjl
   obtain⟨m,hm⟩: ∃ m,E.getD j default=m:=⟨_,O⟩
   rw[hm] at hat
   have hm1:(es.getD j default).1=m.1:=by rw[← hes,kD _ _ hjl,hm]
   obtain⟨q,hq⟩: ∃ q,fu (i,t) l (pi+j+1,m.1)=q:=⟨_,O⟩
   have hq2:fu (i,t) (Q.map bA) (pi+j+1,m.1)=q:=by rw[hl];exact hq
   have hhit:jK (i,t) l (pi,pu) es j=(decide (i<pi+j+1)&& !q):=by
    unfold jK
    rw[hm1,hq]
   by_cases hgt:i<pi+j+1
   ·cases q
    ·have hh1:jK (i,t) l (pi,pu) es j=true:=by rw[hhit,decide_eq_true hgt];rfl
     have hf:=pQ (by omega) hno hh1
     by_cases hfar:i+Q.length+1<pi+j+1
     ·rw[hE0,hf] at hB
      dsimp only at hB
      rw[if_pos hfar] at hB
      repeat' (first|refine aa (ay O (by omega)) ?_ O O|refine bM O ?_ O O|refine ax ?_|refine aa (bH (sz:=3) O O O O O O hne2 hjl) ?_ O O|refine aa (cw (ds:=aN m) O O O (Srd.old h2 (fun k _=>ao k)) O (by omega) hat) ?_ O O|refine aa (ai (ds:=aE (i,t) A Q.length c) O O O O O) ?_ O O|refine aa (ai (ds:=aO (pi+j+1,m.1)) O O O O O) ?_ O O|refine aa (ah O O O O) ?_ O O|refine aa (bS O O (fL (pi+j+1) m.1)) ?_ O O|refine aa (aI O O (by unfold aH;omega)) ?_ O O|refine aa (aR O) ?_ O O|refine aa (bj O O O O (by unfold aH;omega)) ?_ O O|refine au O ?_|refine al O O ?_|refine aC O O ?_|refine aG O ?_|refine aM O ?_|(refine an (am O cu) ?_ O O;rintro _ _ ⟨b14,rfl,rfl⟩)|(refine bh (aj (cs:=aN (0,0,none,0,[])) (ds:=aN m) O O O O (cC _) O) ?_ O;rintro _ _ rfl)|(refine an (am O ba) ?_ O O;rintro _ _ ⟨b15,rfl,rfl⟩)|(refine bh (aj (cs:=aO (0,0)) (ds:=aO (pi+j+1,m.1)) O O O O (aQ _) O) ?_ O;rintro _ _ rfl)|((refine an (aq (f:=162) sK (fun w hS=>go w (i,t) A c Q ((Srd.old h (fun k _=>ao k)).rd w hS) (by omega) hfit (pi+j+1,m.1)) O O (fun _=>O)) ?_ O O;rintro _ _ ⟨_,rfl,_,rfl⟩);rw[hq2])|(refine an (d4 (cap:=[]) O (aq (f:=185) mH (fun w hS=>eN w 4) O O (fun _=>O))) ?_ O O;rintro _ _ ⟨_,rfl,_,rfl⟩)|(refine bh (aj (cs:=aE (0,0) none 0 0) (ds:=aE (0,0) none 0 0) O O O O (bD _ _ _ _) O) ?_ O;rintro _ _ rfl))
      refine hB _ _ _ _ _ O (.cell O O O inferInstance O (.tmp O (.tmp O .nil))) fun w' hS=>⟨((none,0),[]),O,O,cF (hS.sublist (List.nil_sublist _))⟩
     ·repeat' (first|refine aa (ay O (by omega)) ?_ O O|refine aa (aB O (by omega)) ?_ O O|refine bM O ?_ O O|refine ax ?_|refine aa (bH (sz:=3) O O O O O O hne2 hjl) ?_ O O|refine aa (cw (ds:=aN m) O O O (Srd.old h2 (fun k _=>ao k)) O (by omega) hat) ?_ O O|refine aa (ai (ds:=aE (i,t) A Q.length c) O O O O O) ?_ O O|refine aa (ai (ds:=aO (pi+j+1,m.1)) O O O O O) ?_ O O|refine aa (ah O O O O) ?_ O O|refine aa (bS O O (fL (pi+j+1) m.1)) ?_ O O|refine aa (aI O O (by unfold aH;omega)) ?_ O O|refine aa (aR O) ?_ O O|refine aa (bj O O O O (by unfold aH;omega)) ?_ O O|refine au O ?_|refine al O O ?_|refine aC O O ?_|refine aA O O ?_|refine aG O ?_|refine bE O O ?_|refine aM O ?_|(refine an (am O cu) ?_ O O;rintro _ _ ⟨b14,rfl,rfl⟩)|(refine bh (aj (cs:=aN (0,0,none,0,[])) (ds:=aN m) O O O O (cC _) O) ?_ O;rintro _ _ rfl)|(refine an (am O ba) ?_ O O;rintro _ _ ⟨b15,rfl,rfl⟩)|(refine bh (aj (cs:=aO (0,0)) (ds:=aO (pi+j+1,m.1)) O O O O (aQ _) O) ?_ O;rintro _ _ rfl)|((refine an (aq (f:=162) sK (fun w hS=>go w (i,t) A c Q ((Srd.old h (fun k _=>ao k)).rd w hS) (by omega) hfit (pi+j+1,m.1)) O O (fun _=>O)) ?_ O O;rintro _ _ ⟨_,rfl,_,rfl⟩);rw[hq2]))
      exact iD (Sub.cons O (Sub.cons O (Sub.cons O (Sub.cons O (Sub.cons O (Sub.cons O (Sub.cons O Sub.nil))))))) (eu ae (hsome b3 b4 b6 j hf hjl hgt (by omega)))
    ·focus (refine qs ?_;refine qd ?_;refine qz ?_;refine qq ?_;refine qT ?_;refine qx ?_;refine qq ?_;refine qb ?_;refine qs ?_;refine qp ?_;refine qt (bH (sz:=3) O O O O O O hne2 hjl) ?_;refine qt (cw (ds:=aN m) O O O (Srd.old h2 (fun k _=>ao k)) O (by omega) hat) ?_;(refine qe (am O cu) ?_;rintro _ _ ⟨b14,rfl,rfl⟩);refine qp ?_;(refine qw (aj (cs:=aN (0,0,none,0,[])) (ds:=aN m) O O O O (cC _) O) ?_;rintro _ _ rfl);refine qn ?_;refine qp ?_;refine qt (ah O O O O) ?_;refine qp ?_;refine qt (bj O O O O (by unfold aH;omega)) ?_;(iterate 2 refine qt (aI O O (by unfold aH;omega)) ?_);refine qp ?_;refine qt (ah O O O O) ?_;refine qt (bS O O (fL (pi+j+1) m.1)) ?_;(refine qe (am O ba) ?_;rintro _ _ ⟨b15,rfl,rfl⟩);(refine qw (aj (cs:=aO (0,0)) (ds:=aO (pi+j+1,m.1)) O O O O (aQ _) O) ?_;rintro _ _ rfl);refine qn ?_;refine qp ?_;refine qt (ah O O O O) ?_;refine qp ?_;refine qp ?_;refine qt (ah O O O O) ?_;refine qd ?_;refine qp ?_;refine qt (ai (ds:=aE (i,t) A Q.length c) O O O O O) ?_;refine qt (ai (ds:=aO (pi+j+1,m.1)) O O O O O) ?_;(refine qh sK (fun w hS=>go w (i,t) A c Q ((Srd.old h (fun k _=>ao k)).rd w hS) (by omega) hfit (pi+j+1,m.1)) ?_;rw[hq2]);refine qt (aR O) ?_;refine qp ?_;refine qz ?_;refine qF ?_;refine qx ?_;refine aK ?_;refine qr ?_;refine qt (aI O O (by unfold aH;omega)) ?_;refine qp ?_;refine qz ?_)
     refine hJ (j+1) _ _ ⟨by omega,fun q hq=>?_⟩ (Sub.cons O (Sub.cons O (Sub.cons O (Sub.cons O (Sub.cons O (Sub.cons O (Sub.cons O (Sub.cons O (Sub.cons O (Sub.cons O (Sub.cons O Sub.nil))))))))))) ae (by omega)
     rcases Nat.lt_or_ge q j with h3|h3
     ·exact hno q h3
     ·rw[show q=j by omega,hhit];simp
   ·repeat' (first|refine aa (ay O (by omega)) ?_ O O|refine aa (aB O (by omega)) ?_ O O|refine bM O ?_ O O|refine ax ?_|refine aU ?_ O O|refine aa (bH (sz:=3) O O O O O O hne2 hjl) ?_ O O|refine aa (cw (ds:=aN m) O O O (Srd.old h2 (fun k _=>ao k)) O (by omega) hat) ?_ O O|refine aa (ah O O O O) ?_ O O|refine aa (bS O O (fL (pi+j+1) m.1)) ?_ O O|refine aa (aI O O (by unfold aH;omega)) ?_ O O|refine aa (bj O O O O (by unfold aH;omega)) ?_ O O|refine au O ?_|refine al O O ?_|refine aC O O ?_|refine aA O O ?_|refine aG O ?_|refine aK ?_|refine aM O ?_|(refine an (am O cu) ?_ O O;rintro _ _ ⟨b14,rfl,rfl⟩)|(refine bh (aj (cs:=aN (0,0,none,0,[])) (ds:=aN m) O O O O (cC _) O) ?_ O;rintro _ _ rfl)|(refine an (am O ba) ?_ O O;rintro _ _ ⟨b15,rfl,rfl⟩)|(refine bh (aj (cs:=aO (0,0)) (ds:=aO (pi+j+1,m.1)) O O O O (aQ _) O) ?_ O;rintro _ _ rfl))
    refine hJ (j+1) _ _ ⟨by omega,fun q hq=>?_⟩ (Sub.cons O (Sub.cons O (Sub.cons O (Sub.cons O (Sub.cons O (Sub.cons O (Sub.cons O (Sub.cons O (Sub.cons O (Sub.cons O (Sub.cons O Sub.nil))))))))))) ae (by omega)
    rcases Nat.lt_or_ge q j with h3|h3
    ·exact hno q h3
    ·rw[show q=j by omega,hhit,decide_eq_false hgt];rfl
  have hjn:j=E.length:=by omega
  subst hjn
  focus (refine qs ?_;refine qf ?_;refine qz ?_;refine qq ?_;refine qF ?_;refine bE O O ?_;refine qq ?_)
  exact iD (Sub.cons O (Sub.cons O (Sub.cons O (Sub.cons O (Sub.cons O (Sub.cons O (Sub.cons O Sub.nil))))))) (eu ae (hnone b3 b4 b6 (pP fun q hq=>hno q (by omega))))
 by_cases hge:i≤pi
 ·obtain rfl:q=true:=by cases q<;>simp_all
  repeat' (first|refine aa (ay O (by omega)) ?_ O O|refine aa (aB O (by omega)) ?_ O O|refine bM O ?_ O O|refine ax ?_|refine aa (ai (ds:=aE (i,t) A Q.length c) O O O O O) ?_ O O|refine aa (ai (ds:=aO (pi,pu)) O O O O O) ?_ O O|refine aa (ah O O O O) ?_ O O|refine aa (bU O O (by omega) (by unfold aH;omega)) ?_ O O|refine aa (aR O) ?_ O O|refine aa (bj O O O O (by unfold aH;omega)) ?_ O O|refine au O ?_|refine al O O ?_|refine aA O O ?_|refine aG O ?_|refine aK ?_|refine aM O ?_|refine re O ?_|refine iF O ?_|(refine an (ap (cs:=aE (i,t) A Q.length c) O) ?_ O O;rintro _ _ ⟨b3,rfl,rfl⟩)|(refine an (ap (cs:=aO (pi,pu)) O) ?_ O O;rintro _ _ ⟨b4,rfl,rfl⟩)|(refine an (am (H:=[pt b4 36 (aO (pi,pu)),pt b3 39 (aE (i,t) A Q.length c)]) O bP) ?_ O O;rintro _ _ ⟨b6,rfl,rfl⟩)|((refine an (aq (f:=121) fh (fun w hS=>bL w (i,t) A c Q ((Srd.old h (fun k _=>ao k)).rd w hS) (by omega)) O O (fun _=>O)) ?_ O O;rintro _ _ ⟨_,rfl,_,rfl⟩);rw[hr])|((refine an (aq (f:=167) sL (fun w hS=>fN w A2 cE E pu ((Srd.old h2 (fun k _=>ao k)).rd w hS) (by omega)) O O (fun _=>O)) ?_ O O;rintro _ _ ⟨_,rfl,_,rfl⟩);rw[hrs])|((refine an (aq (f:=162) sK (fun w hS=>go w (i,t) A c Q ((Srd.old h (fun k _=>ao k)).rd w hS) (by omega) hfit (pi,pu)) O O (fun _=>O)) ?_ O O;rintro _ _ ⟨_,rfl,_,rfl⟩);rw[hh])|((refine an (aq (f:=124) kU (fun w hS=>fr w (i,t) A c Q ((Srd.old h (fun k _=>ao k)).rd w hS) (by omega) hfit) O O (fun _=>O)) ?_ O O;rintro _ _ ⟨_,rfl,_,rfl⟩);rw[hla])|(refine an (am O ba) ?_ O O;rintro _ _ ⟨b11,rfl,rfl⟩)|(refine bh (aj (cs:=aO (0,0)) (ds:=aO (i+Q.length,lt)) O O O O (aQ _) O) ?_ O;rintro _ _ rfl))
  exact iD (Sub.cons O (Sub.cons O (Sub.cons O (Sub.cons O (Sub.cons O (Sub.cons O (Sub.cons O (Sub.cons O (Sub.cons O (Sub.cons O (Sub.cons O Sub.nil))))))))))) (eu ae (hloop b3 b4 b6 b11))
 ·skip
  repeat' (first|refine aa (aB O (by omega)) ?_ O O|refine bM O ?_ O O|refine ax ?_|refine aU ?_ O O|refine aa (ai (ds:=aE (i,t) A Q.length c) O O O O O) ?_ O O|refine aa (ah O O O O) ?_ O O|refine aa (bU O O (by omega) (by unfold aH;omega)) ?_ O O|refine aa (aR O) ?_ O O|refine aa (bj O O O O (by unfold aH;omega)) ?_ O O|refine au O ?_|refine al O O ?_|refine aA O O ?_|refine aG O ?_|refine aK ?_|refine aM O ?_|refine re O ?_|refine iF O ?_|(refine an (ap (cs:=aE (i,t) A Q.length c) O) ?_ O O;rintro _ _ ⟨b3,rfl,rfl⟩)|(refine an (ap (cs:=aO (pi,pu)) O) ?_ O O;rintro _ _ ⟨b4,rfl,rfl⟩)|(refine an (am (H:=[pt b4 36 (aO (pi,pu)),pt b3 39 (aE (i,t) A Q.length c)]) O bP) ?_ O O;rintro _ _ ⟨b6,rfl,rfl⟩)|((refine an (aq (f:=121) fh (fun w hS=>bL w (i,t) A c Q ((Srd.old h (fun k _=>ao k)).rd w hS) (by omega)) O O (fun _=>O)) ?_ O O;rintro _ _ ⟨_,rfl,_,rfl⟩);rw[hr])|((refine an (aq (f:=167) sL (fun w hS=>fN w A2 cE E pu ((Srd.old h2 (fun k _=>ao k)).rd w hS) (by omega)) O O (fun _=>O)) ?_ O O;rintro _ _ ⟨_,rfl,_,rfl⟩);rw[hrs])|((refine an (aq (f:=124) kU (fun w hS=>fr w (i,t) A c Q ((Srd.old h (fun k _=>ao k)).rd w hS) (by omega) hfit) O O (fun _=>O)) ?_ O O;rintro _ _ ⟨_,rfl,_,rfl⟩);rw[hla])|(refine an (am O ba) ?_ O O;rintro _ _ ⟨b11,rfl,rfl⟩)|(refine bh (aj (cs:=aO (0,0)) (ds:=aO (i+Q.length,lt)) O O O O (aQ _) O) ?_ O;rintro _ _ rfl))
  exact iD (Sub.cons O (Sub.cons O (Sub.cons O (Sub.cons O (Sub.cons O (Sub.cons O (Sub.cons O (Sub.cons O (Sub.cons O (Sub.cons O (Sub.cons O Sub.nil))))))))))) (eu ae (hloop b3 b4 b6 b11))
def lC (a:At) (l:List En) (idx:Nat):Int×At×List En:=
 if br a l=true then (if (d5 a l idx).1<0 then (4,(0,0),[]) else (0,(d5 a l idx).2,l.drop (d5 a l idx).1.toNat)) else (220,(0,0),[])
theorem oB (a:At) (l:List En) (idx:Nat):(∃ n:Nat,d5 a l idx=((n:Int),db a l n)∧n≤l.length∧a.1+n=idx)∨(d5 a l idx=(-1,(0,0))∧ ¬ (a.1≤idx∧idx≤a.1+l.length)):=by
 unfold d5
 by_cases hc:a.1≤idx∧idx≤a.1+l.length
 ·rw[if_pos hc]
  exact .inl ⟨idx-a.1,O,by omega,by omega⟩
 ·rw[if_neg hc]
  exact .inr ⟨O,hc⟩
theorem oC (w:World) (a:At) (A:Option Addr) (c:Nat) (Q:List Em) (h:Rd w bC 3 A Q.length (ab aN Q)) (hd:lZ w bC (Q.map cR)) (hc:Q.length≤c) (hn:Q.length≤1000) (hk: ∀ m∈Q,m.2.2.2.2.length≤100000) (idx:Nat):
  Gives Tryz.prog 100 [.agg (aE a A Q.length c).toArray,.int .u64 (idx:Int)] [] w (X:=(Option Addr×Nat)×List Em) (fun x=> .tuple #[.agg (aE (lC a (Q.map bA) idx).2.1 x.1.1 (lC a (Q.map bA) idx).2.2.length x.1.2).toArray,zi (lC a (Q.map bA) idx).1]) (fun x=>x.2.map bA=(lC a (Q.map bA) idx).2.2∧(lC a (Q.map bA) idx).2.2.length≤x.1.2) (fun x=>[row 59 3 x.1.1 (lC a (Q.map bA) idx).2.2.length x.1.2 (ab aN x.2),dq 5 (x.2.map cR)]):=by
 refine cX Tryz.func100 O Tryz.ntmps100 Tryz.results100 (by simp) (St.enter w) (fun B hB=>?_)
 obtain⟨i,t⟩:=a
 obtain⟨l,hl⟩: ∃ l,Q.map bA=l:=⟨_,O⟩
 have hll:l.length=Q.length:=by rw[← hl,List.length_map]
 rw[hl] at hB
 obtain⟨r,hr0⟩: ∃ r,br (i,t) l=r:=⟨_,O⟩
 have hr:br (i,t) (Q.map bA)=r:=by rw[hl];exact hr0
 cases r
 ·have hs:lC (i,t) l idx=(220,(0,0),[]):=by unfold lC;rw[hr0];rfl
  rw[hs] at hB
  focus (refine qs ?_;(refine qe (ap (cs:=aE (i,t) A Q.length c) O) ?_;rintro _ _ ⟨b2,rfl,rfl⟩);(refine qe (am O bP) ?_;rintro _ _ ⟨b4,rfl,rfl⟩);refine qp ?_;refine qz ?_;refine qq ?_;refine qs ?_;refine qt (ai (ds:=aE (i,t) A Q.length c) O O O O O) ?_;(refine qh fh (fun w hS=>bL w (i,t) A c Q ((Srd.old h (fun k _=>ao k)).rd w hS) (by omega)) ?_;rw[hr]);refine qt (aR O) ?_;refine qz ?_;refine qT ?_;refine qs ?_;refine qt (bu eG) ?_;(refine qw (aj (cs:=aE (0,0) none 0 0) (ds:=aE (0,0) none 0 0) O O O O (bD _ _ _ _) O) ?_;rintro _ _ rfl);refine qp ?_;refine qz ?_)
  refine hB _ _ _ _ _ O (.cell O O O inferInstance O (.tmp O .nil)) fun w' hS=>⟨((none,0),[]),O,⟨O,Nat.le_refl _⟩,cF (hS.sublist (List.nil_sublist _))⟩
 have hff:=dF hr0
 have hfit:(i,t).1+Q.length≤18446744073709551615:=by rw[← hll];show i+_≤_;have:i+l.length≤_:=hff.2;omega
 obtain⟨⟨k,q⟩,hf0⟩: ∃ x,d5 (i,t) l idx=x:=⟨_,O⟩
 have hfi:d5 (i,t) (Q.map bA) idx=(k,q):=by rw[hl];exact hf0
 have hs:lC (i,t) l idx=if k<0 then ((4,(0,0),[]):Int×At×List En) else (0,q,l.drop k.toNat):=by
  unfold lC
  rw[if_pos hr0,hf0]
 rw[hs] at hB
 rcases oB (i,t) l idx with⟨n,hfn,hnl,hni⟩|⟨hfn,_⟩
 ·rw[hf0] at hfn
  injection hfn with e1 e2
  subst e1
  rw[if_neg (by omega),Int.toNat_natCast] at hB
  have hcutr:=nC (q:=n) h (by omega) hc
  have hcutd:=l9 hd n
  have hkd: ∀ m∈Q.drop n,m.2.2.2.2.length≤100000:=fun m hm=>hk m (List.mem_of_mem_drop hm)
  have hdl:(l.drop n).length=Q.length-n:=by rw[List.length_drop,hll]
  have hnl:n≤Q.length:=by omega
  focus (refine qs ?_;(refine qe (ap (cs:=aE (i,t) A Q.length c) O) ?_;rintro _ _ ⟨b2,rfl,rfl⟩);(refine qe (am O bP) ?_;rintro _ _ ⟨b4,rfl,rfl⟩);refine qp ?_;refine qz ?_;refine qq ?_;refine qs ?_;refine qt (ai (ds:=aE (i,t) A Q.length c) O O O O O) ?_;(refine qh fh (fun w hS=>bL w (i,t) A c Q ((Srd.old h (fun k _=>ao k)).rd w hS) (by omega)) ?_;rw[hr]);refine qt (aR O) ?_;refine qz ?_;refine qF ?_;refine qx ?_;refine qs ?_;refine qt (ai (ds:=aE (i,t) A Q.length c) O O O O O) ?_;refine qp ?_;(refine qh pF (fun w hS=>fq w (i,t) A c Q ((Srd.old h (fun k _=>ao k)).rd w hS) (by omega) hfit idx) ?_;rw[hfi]);(iterate 3 refine qp ?_);(refine qe (am O ba) ?_;rintro _ _ ⟨b7,rfl,rfl⟩);refine qp ?_;(refine qw (aj (cs:=aO (0,0)) (ds:=aO q) O O O O (aQ _) O) ?_;rintro _ _ rfl);refine qz ?_;refine qq ?_;refine qs ?_;refine qp ?_;refine qf ?_;refine qz ?_;refine qF ?_;refine qx ?_;refine qq ?_)
  refine dS [pt b7 36 (aO q),pt b2 39 (aE (i,t) A Q.length c)] 9 ?_
  refine dt 0 O (ai (ds:=aO q) O O O O O) ?_
  refine dp 1 ?_
  refine dl 2 ?_
  refine dp 3 ?_
  refine dt 4 O (lW (sz:=3) (q:=n) O O O O O O hnl hc) ?_
  refine dE 5 O (uU (Q:=Q.drop n) (k:=Q.length-n) O (by rw[List.length_drop]) (Srd.old hcutr (fun k _=>ao k)) (SDt.old hcutd (fun k _=>ao k)) (by omega) hkd) ?_
  rintro _ _ ⟨A7,c7,E7,rfl,hne7,hc7,rfl⟩
  refine nx ?_
  refine dt 6 O (bS O O (fd q _ _ _)) ?_
  refine dE 7 O (aj (cs:=aE (0,0) none 0 0) (ds:=aE q A7 (Q.length-n) c7) O O O O (bD _ _ _ _) O) ?_
  rintro _ _ rfl
  refine nx ?_
  refine dp 8 ?_
  refine dn ?_
  skip
  skip
  dsimp only at hB
  rw[hdl] at hB
  refine hB _ _ _ _ _ O (.cell O O O inferInstance O (.tmp O .nil)) fun w' hS=>⟨((A7,c7),E7.1),O,⟨?_,hc7⟩,ae _ hS⟩
  show E7.1.map bA=_
  rw[E7.2,List.map_drop,hl]
 ·rw[hf0] at hfn
  injection hfn with e1 e2
  subst e1
  rw[if_pos (by omega)] at hB
  focus (refine qs ?_;(refine qe (ap (cs:=aE (i,t) A Q.length c) O) ?_;rintro _ _ ⟨b2,rfl,rfl⟩);(refine qe (am O bP) ?_;rintro _ _ ⟨b4,rfl,rfl⟩);refine qp ?_;refine qz ?_;refine qq ?_;refine qs ?_;refine qt (ai (ds:=aE (i,t) A Q.length c) O O O O O) ?_;(refine qh fh (fun w hS=>bL w (i,t) A c Q ((Srd.old h (fun k _=>ao k)).rd w hS) (by omega)) ?_;rw[hr]);refine qt (aR O) ?_;refine qz ?_;refine qF ?_;refine qx ?_;refine qs ?_;refine qt (ai (ds:=aE (i,t) A Q.length c) O O O O O) ?_;refine qp ?_;(refine qh pF (fun w hS=>fq w (i,t) A c Q ((Srd.old h (fun k _=>ao k)).rd w hS) (by omega) hfit idx) ?_;rw[hfi]);(iterate 3 refine qp ?_);(refine qe (am O ba) ?_;rintro _ _ ⟨b7,rfl,rfl⟩);refine qp ?_;(refine qw (aj (cs:=aO (0,0)) (ds:=aO q) O O O O (aQ _) O) ?_;rintro _ _ rfl);refine qz ?_;refine qq ?_;refine qs ?_;refine qp ?_;refine qd ?_;refine qz ?_;refine qT ?_;refine qs ?_;refine qt (bu eG) ?_;(refine qw (aj (cs:=aE (0,0) none 0 0) (ds:=aE (0,0) none 0 0) O O O O (bD _ _ _ _) O) ?_;rintro _ _ rfl);refine qp ?_;refine qz ?_)
  refine hB _ _ _ _ _ O (.cell O O O inferInstance O (.tmp O .nil)) fun w' hS=>⟨((none,0),[]),O,⟨O,Nat.le_refl _⟩,cF (hS.sublist (List.nil_sublist _))⟩
def eC (a:At) (l:List En) (idx:Nat):Nat×Bool:=if br a l=true then ((d5 a l idx).2.2,decide (0≤(d5 a l idx).1)) else (0,false)
theorem uV (w:World) (a:At) (A:Option Addr) (c:Nat) (Q:List Em) (h:Rd w bC 3 A Q.length (ab aN Q)) (hn:Q.length≤1000) (idx:Nat):
  Gives Tryz.prog 51 [.agg (aE a A Q.length c).toArray,.int .u64 (idx:Int)] [] w (X:=Unit) (fun _=> .tuple #[.int .u64 ((eC a (Q.map bA) idx).1:Int),.bool (eC a (Q.map bA) idx).2]) (fun _=>True) (fun _=>[]):=by
 refine aP Tryz.func51 O Tryz.ntmps51 Tryz.results51 (by simp) (St.enter w) (fun B hB=>?_)
 obtain⟨i,t⟩:=a
 obtain⟨l,hl⟩: ∃ l,Q.map bA=l:=⟨_,O⟩
 have hll:l.length=Q.length:=by rw[← hl,List.length_map]
 rw[hl] at hB
 obtain⟨r,hr0⟩: ∃ r,br (i,t) l=r:=⟨_,O⟩
 have hr:br (i,t) (Q.map bA)=r:=by rw[hl];exact hr0
 cases r
 ·have hs:eC (i,t) l idx=(0,false):=by unfold eC;rw[hr0];rfl
  rw[hs] at hB
  focus (refine qs ?_;(refine qe (ap (cs:=aE (i,t) A Q.length c) O) ?_;rintro _ _ ⟨b2,rfl,rfl⟩);refine qp ?_;refine qp ?_;refine qz ?_;refine qq ?_;refine qs ?_;refine qt (ai (ds:=aE (i,t) A Q.length c) O O O O O) ?_;(refine qh fh (fun w hS=>bL w (i,t) A c Q ((Srd.old h (fun k _=>ao k)).rd w hS) (by omega)) ?_;rw[hr]);refine qt (aR O) ?_;refine qz ?_;refine qT ?_;refine qs ?_;refine qp ?_;refine qp ?_;refine qz ?_)
  exact hB _ _ _ _ _ O O (qE O)
 have hff:=dF hr0
 have hfit:(i,t).1+Q.length≤18446744073709551615:=by rw[← hll];show i+_≤_;have:i+l.length≤_:=hff.2;omega
 obtain⟨⟨k,q⟩,hf0⟩: ∃ x,d5 (i,t) l idx=x:=⟨_,O⟩
 have hfi:d5 (i,t) (Q.map bA) idx=(k,q):=by rw[hl];exact hf0
 have hs:eC (i,t) l idx=(q.2,decide (0≤k)):=by
  unfold eC
  rw[if_pos hr0,hf0]
 rw[hs] at hB
 obtain⟨qi,qu⟩:=q
 by_cases hk:0≤k
 ·rw[decide_eq_true hk] at hB
  focus (refine qs ?_;(refine qe (ap (cs:=aE (i,t) A Q.length c) O) ?_;rintro _ _ ⟨b2,rfl,rfl⟩);refine qp ?_;refine qp ?_;refine qz ?_;refine qq ?_;refine qs ?_;refine qt (ai (ds:=aE (i,t) A Q.length c) O O O O O) ?_;(refine qh fh (fun w hS=>bL w (i,t) A c Q ((Srd.old h (fun k _=>ao k)).rd w hS) (by omega)) ?_;rw[hr]);refine qt (aR O) ?_;refine qz ?_;refine qF ?_;refine qx ?_;refine qs ?_;refine qt (ai (ds:=aE (i,t) A Q.length c) O O O O O) ?_;refine qp ?_;(refine qh pF (fun w hS=>fq w (i,t) A c Q ((Srd.old h (fun k _=>ao k)).rd w hS) (by omega) hfit idx) ?_;rw[hfi]);(iterate 3 refine qp ?_);(refine qe (am O ba) ?_;rintro _ _ ⟨b7,rfl,rfl⟩);refine qp ?_;(refine qw (aj (cs:=aO (0,0)) (ds:=aO (qi,qu)) O O O O (aQ _) O) ?_;rintro _ _ rfl);refine qn ?_;refine qp ?_;refine qt (ah O O O O) ?_;(iterate 2 refine qp ?_;refine qd ?_);refine qz ?_)
  exact hB _ _ _ _ _ O O (qE O)
 ·rw[decide_eq_false hk] at hB
  focus (refine qs ?_;(refine qe (ap (cs:=aE (i,t) A Q.length c) O) ?_;rintro _ _ ⟨b2,rfl,rfl⟩);refine qp ?_;refine qp ?_;refine qz ?_;refine qq ?_;refine qs ?_;refine qt (ai (ds:=aE (i,t) A Q.length c) O O O O O) ?_;(refine qh fh (fun w hS=>bL w (i,t) A c Q ((Srd.old h (fun k _=>ao k)).rd w hS) (by omega)) ?_;rw[hr]);refine qt (aR O) ?_;refine qz ?_;refine qF ?_;refine qx ?_;refine qs ?_;refine qt (ai (ds:=aE (i,t) A Q.length c) O O O O O) ?_;refine qp ?_;(refine qh pF (fun w hS=>fq w (i,t) A c Q ((Srd.old h (fun k _=>ao k)).rd w hS) (by omega) hfit idx) ?_;rw[hfi]);(iterate 3 refine qp ?_);(refine qe (am O ba) ?_;rintro _ _ ⟨b7,rfl,rfl⟩);refine qp ?_;(refine qw (aj (cs:=aO (0,0)) (ds:=aO (qi,qu)) O O O O (aQ _) O) ?_;rintro _ _ rfl);refine qn ?_;refine qp ?_;refine qt (ah O O O O) ?_;refine qp ?_;refine qf ?_;refine qp ?_;refine qp ?_;refine qz ?_)
  exact hB _ _ _ _ _ O O (qE O)
theorem uW (w:World) (a:At) (A:Option Addr) (c:Nat) (Q:List Em) (h:Rd w bC 3 A Q.length (ab aN Q)) (hn:Q.length≤1000) (p:At):
  Gives Tryz.prog 109 [.agg (aE a A Q.length c).toArray,.agg (aO p).toArray] [] w (X:=Unit) (fun _=> .bool (br a (Q.map bA)&&fu a (Q.map bA) p)) (fun _=>True) (fun _=>[]):=by
 refine aP Tryz.func109 O Tryz.ntmps109 Tryz.results109 (by simp) (St.enter w) (fun B hB=>?_)
 obtain⟨i,t⟩:=a
 obtain⟨r,hr⟩: ∃ r,br (i,t) (Q.map bA)=r:=⟨_,O⟩
 obtain⟨q,hq⟩: ∃ q,fu (i,t) (Q.map bA) p=q:=⟨_,O⟩
 rw[hr,hq] at hB
 cases r
 ·rw[Bool.false_and] at hB
  focus (refine qs ?_;(refine qe (ap (cs:=aE (i,t) A Q.length c) O) ?_;rintro _ _ ⟨b2,rfl,rfl⟩);(refine qe (ap (cs:=aO p) O) ?_;rintro _ _ ⟨b3,rfl,rfl⟩);refine qp ?_;refine qn ?_;refine qt (ai (ds:=aE (i,t) A Q.length c) O O O O O) ?_;(refine qh fh (fun w hS=>bL w (i,t) A c Q ((Srd.old h (fun k _=>ao k)).rd w hS) (by omega)) ?_;rw[hr]);refine qp ?_;(iterate 3 refine qk ?_);refine qp ?_;refine qp ?_;refine qz ?_)
  exact hB _ _ _ _ _ O O (qE O)
 have hff:=dF hr
 rw[List.length_map] at hff
 have hfit:(i,t).1+Q.length≤18446744073709551615:=by show i+_≤_;have:i+Q.length≤_:=hff.2;omega
 focus (refine qs ?_;(refine qe (ap (cs:=aE (i,t) A Q.length c) O) ?_;rintro _ _ ⟨b2,rfl,rfl⟩);(refine qe (ap (cs:=aO p) O) ?_;rintro _ _ ⟨b3,rfl,rfl⟩);refine qp ?_;refine qn ?_;refine qt (ai (ds:=aE (i,t) A Q.length c) O O O O O) ?_;(refine qh fh (fun w hS=>bL w (i,t) A c Q ((Srd.old h (fun k _=>ao k)).rd w hS) (by omega)) ?_;rw[hr]);refine qd ?_;refine qt (ai (ds:=aE (i,t) A Q.length c) O O O O O) ?_;refine qt (ai (ds:=aO p) O O O O O) ?_;(refine qh sK (fun w hS=>go w (i,t) A c Q ((Srd.old h (fun k _=>ao k)).rd w hS) (by omega) hfit p) ?_;rw[hq]);refine qp ?_;refine qp ?_;refine qz ?_)
 exact hB _ _ _ _ _ O O (qE O)
def eL (a:At) (l:List En) (top:Nat):Int:=if br a l=true then (if top<(cM a l).2 then 2 else 0) else 220
theorem ma (w:World) (a:At) (A:Option Addr) (c:Nat) (Q:List Em) (h:Rd w bC 3 A Q.length (ab aN Q)) (hn:Q.length≤1000) (top:Nat):
  Gives Tryz.prog 94 [.agg (aE a A Q.length c).toArray,.int .u64 (top:Int)] [] w (X:=Unit) (fun _=>zi (eL a (Q.map bA) top)) (fun _=>True) (fun _=>[]):=by
 refine aP Tryz.func94 O Tryz.ntmps94 Tryz.results94 (by simp) (St.enter w) (fun B hB=>?_)
 obtain⟨i,t⟩:=a
 obtain⟨r,hr⟩: ∃ r,br (i,t) (Q.map bA)=r:=⟨_,O⟩
 obtain⟨⟨li,lu⟩,hla⟩: ∃ x,cM (i,t) (Q.map bA)=x:=⟨_,O⟩
 have hs:eL (i,t) (Q.map bA) top=if r=true then (if top<lu then 2 else 0) else 220:=by rw[eL,hr,hla]
 rw[hs] at hB
 cases r
 ·focus (refine qs ?_;(refine qe (ap (cs:=aE (i,t) A Q.length c) O) ?_;rintro _ _ ⟨b2,rfl,rfl⟩);refine qp ?_;refine qz ?_;refine qq ?_;refine qb ?_;refine qs ?_;refine qt (ai (ds:=aE (i,t) A Q.length c) O O O O O) ?_;(refine qh fh (fun w hS=>bL w (i,t) A c Q ((Srd.old h (fun k _=>ao k)).rd w hS) (by omega)) ?_;rw[hr]);refine qt (aR O) ?_;refine qd ?_;refine qz ?_;refine qT ?_;refine qs ?_;refine qp ?_;refine qz ?_)
  exact hB _ _ _ _ _ O O (qE O)
 have hff:=dF hr
 rw[List.length_map] at hff
 have hfit:(i,t).1+Q.length≤18446744073709551615:=by show i+_≤_;have:i+Q.length≤_:=hff.2;omega
 rw[if_pos O] at hB
 by_cases ht:top<lu
 ·rw[if_pos ht] at hB
  focus (refine qs ?_;(refine qe (ap (cs:=aE (i,t) A Q.length c) O) ?_;rintro _ _ ⟨b2,rfl,rfl⟩);refine qp ?_;refine qz ?_;refine qq ?_;refine qb ?_;refine qs ?_;refine qt (ai (ds:=aE (i,t) A Q.length c) O O O O O) ?_;(refine qh fh (fun w hS=>bL w (i,t) A c Q ((Srd.old h (fun k _=>ao k)).rd w hS) (by omega)) ?_;rw[hr]);refine qt (aR O) ?_;refine qp ?_;refine qz ?_;refine qF ?_;refine qs ?_;refine qt (ai (ds:=aE (i,t) A Q.length c) O O O O O) ?_;(refine qh kU (fun w hS=>fr w (i,t) A c Q ((Srd.old h (fun k _=>ao k)).rd w hS) (by omega) hfit) ?_;rw[hla]);refine qt (cW (xs:=aO (li,lu)) O O O O O O) ?_;refine qp ?_;refine qd ?_;refine qd ?_;refine qz ?_;refine qT ?_;refine qs ?_;refine qp ?_;refine qz ?_)
  exact hB _ _ _ _ _ O O (qE O)
 ·rw[if_neg ht] at hB
  focus (refine qs ?_;(refine qe (ap (cs:=aE (i,t) A Q.length c) O) ?_;rintro _ _ ⟨b2,rfl,rfl⟩);refine qp ?_;refine qz ?_;refine qq ?_;refine qb ?_;refine qs ?_;refine qt (ai (ds:=aE (i,t) A Q.length c) O O O O O) ?_;(refine qh fh (fun w hS=>bL w (i,t) A c Q ((Srd.old h (fun k _=>ao k)).rd w hS) (by omega)) ?_;rw[hr]);refine qt (aR O) ?_;refine qp ?_;refine qz ?_;refine qF ?_;refine qs ?_;refine qt (ai (ds:=aE (i,t) A Q.length c) O O O O O) ?_;(refine qh kU (fun w hS=>fr w (i,t) A c Q ((Srd.old h (fun k _=>ao k)).rd w hS) (by omega) hfit) ?_;rw[hla]);refine qt (cW (xs:=aO (li,lu)) O O O O O O) ?_;refine qp ?_;refine qf ?_;refine qp ?_;refine qz ?_;refine qF ?_;refine qx ?_;refine aK ?_;refine qs ?_;refine qp ?_;refine qz ?_)
  exact hB _ _ _ _ _ O O (qE O)
theorem k0 {P:Program} {n:Nat} {w0:World} {M:Nat→Prop} {T:aF} {H:List Asn} {dd:Option Tmp} {tt:TypeId} {pos:String} {af:Array Edge} {g:Option (Nat×Bool)} {x y:Operand} {s t:TypeId} {kk:IntKind} {i j:Int} {p q:Nat} (hx:az T x=some (.int kk i)) (hy:az T y=some (.int kk j)) [hi:NatOf i p] [hj:NatOf j q]:Tk P n w0 M T H ⟨dd,.call ⟨.builtin .min,#[x,y],#[s,t]⟩,tt,pos,af,g⟩ (.int kk ((min p q:Nat):Int)):=by
 have h:=yy (P:=P) (n:=n) (w0:=w0) (M:=M) (H:=H) (dd:=dd) (tt:=tt) (pos:=pos) (af:=af) (g:=g) (s:=s) (t:=t) hx hy
 rw[hi.is,hj.is] at h
 rwa [show (if (q:Int)<(p:Int) then (q:Int) else (p:Int))=((min p q:Nat):Int) by rw[Nat.min_def];split<;>split<;>omega] at h
def frm (a:At) (l:List En) (idx:Nat) (n:Int):Int×At×List En:=
 if br a l=true then
  if idx≤a.1∨(cM a l).1+1<idx then (4,(0,0),[]) else
   if n<0 then (2,(0,0),[]) else (0,db a l (idx-1-a.1),(l.drop (idx-1-a.1)).take (min n.toNat (l.length-(idx-1-a.1))))
 else (220,(0,0),[])
theorem rH {w:World} {F:Nat→Prop} {sz n q:Nat} {A:Option Addr} {xs:List Value} (h:Rd w F sz A n xs) (hq:q≤n):Rd w F sz A q (xs.take (q*sz)):=by
 have hle:q*sz≤n*sz:=Nat.mul_le_mul_right _ hq
 refine⟨by rw[List.length_take,h.1];omega,fun h0=>?_⟩
 obtain⟨ad,e,hF,hcell⟩:=h.2 (by omega)
 refine⟨ad,e,hF,fun j u hj=>hcell j u ?_⟩
 rw[List.getElem?_take] at hj
 split at hj
 ·exact hj
 ·cases hj
theorem uX {w:World} {F:Nat→Prop} {q n:Nat} {A:Option Addr} {E:List Em} (h:Rd w F 3 A n (ab aN E)) (hq:q≤n):Rd w F 3 A q (ab aN (E.take q)):=by
 rw[gO bW]
 exact rH h hq
theorem uY (w:World) (a:At) (A:Option Addr) (c:Nat) (Q:List Em) (h:Rd w bC 3 A Q.length (ab aN Q)) (hd:lZ w bC (Q.map cR)) (hc:Q.length≤c) (hn:Q.length≤1000) (hk: ∀ m∈Q,m.2.2.2.2.length≤100000) (idx:Nat) (hidx:idx≤18446744073709551615) (n:Int):
  Gives Tryz.prog 135 [.agg (aE a A Q.length c).toArray,.int .u64 (idx:Int),zi n] [] w (X:=(Option Addr×Nat)×List Em) (fun x=> .tuple #[.agg (aO (frm a (Q.map bA) idx n).2.1).toArray,.slice x.1.1 (frm a (Q.map bA) idx n).2.2.length x.1.2,zi (frm a (Q.map bA) idx n).1]) (fun x=>x.2.map bA=(frm a (Q.map bA) idx n).2.2) (fun x=>[row 59 3 x.1.1 (frm a (Q.map bA) idx n).2.2.length x.1.2 (ab aN x.2),dq 5 (x.2.map cR)]):=by
 refine cX Tryz.func135 O Tryz.ntmps135 Tryz.results135 (by simp) (St.enter w) (fun B hB=>?_)
 obtain⟨i,t⟩:=a
 obtain⟨l,hl⟩: ∃ l,Q.map bA=l:=⟨_,O⟩
 have hll:l.length=Q.length:=by rw[← hl,List.length_map]
 rw[hl] at hB
 obtain⟨r,hr0⟩: ∃ r,br (i,t) l=r:=⟨_,O⟩
 have hr:br (i,t) (Q.map bA)=r:=by rw[hl];exact hr0
 cases r
 ·have hs:frm (i,t) l idx n=(220,(0,0),[]):=by unfold frm;rw[hr0];rfl
  rw[hs] at hB
  focus (refine qs ?_;(refine qe (ap (cs:=aE (i,t) A Q.length c) O) ?_;rintro _ _ ⟨b3,rfl,rfl⟩);(refine qe (am O ba) ?_;rintro _ _ ⟨b6,rfl,rfl⟩);refine qp ?_;refine qp ?_;refine qz ?_;refine qq ?_;refine qb ?_;refine qs ?_;refine qt (ai (ds:=aE (i,t) A Q.length c) O O O O O) ?_;(refine qh fh (fun w hS=>bL w (i,t) A c Q ((Srd.old h (fun k _=>ao k)).rd w hS) (by omega)) ?_;rw[hr]);refine qt (aR O) ?_;refine qd ?_;refine qz ?_;refine qT ?_;refine qs ?_;refine qt (bu bY) ?_;(refine qw (aj (cs:=aO (0,0)) (ds:=aO (0,0)) O O O O (aQ _) O) ?_;rintro _ _ rfl);refine qp ?_;refine qp ?_;refine qz ?_)
  refine hB _ _ _ _ _ O (.cell O O O inferInstance O (.tmp O (.tmp O .nil))) fun w' hS=>⟨((none,0),[]),O,O,cF (hS.sublist (List.nil_sublist _))⟩
 have hff:=dF hr0
 have hfit2:i+Q.length≤18446744073709551614:=by rw[← hll];exact hff.2
 have hfit:(i,t).1+Q.length≤18446744073709551615:=by show i+_≤_;omega
 have hla:cM (i,t) (Q.map bA)=(i+Q.length,(cM (i,t) l).2):=by rw[hl,cM,hll]
 have hla2:(cM (i,t) l).1=i+Q.length:=by rw[cM,hll]
 obtain⟨lt,hlt⟩: ∃ x,(cM (i,t) l).2=x:=⟨_,O⟩
 rw[hlt] at hla
 have hs:frm (i,t) l idx n=if idx≤i∨i+Q.length+1<idx then ((4,(0,0),[]):Int×At×List En) else if n<0 then (2,(0,0),[]) else (0,db (i,t) l (idx-1-i),(l.drop (idx-1-i)).take (min n.toNat (l.length-(idx-1-i)))):=by
  unfold frm
  rw[if_pos hr0,hla2]
 rw[hs] at hB
 by_cases h1:idx≤i
 ·rw[if_pos (.inl h1)] at hB
  focus (refine qs ?_;(refine qe (ap (cs:=aE (i,t) A Q.length c) O) ?_;rintro _ _ ⟨b3,rfl,rfl⟩);(refine qe (am O ba) ?_;rintro _ _ ⟨b6,rfl,rfl⟩);refine qp ?_;refine qp ?_;refine qz ?_;refine qq ?_;refine qb ?_;refine qs ?_;refine qt (ai (ds:=aE (i,t) A Q.length c) O O O O O) ?_;(refine qh fh (fun w hS=>bL w (i,t) A c Q ((Srd.old h (fun k _=>ao k)).rd w hS) (by omega)) ?_;rw[hr]);refine qt (aR O) ?_;refine qp ?_;refine qz ?_;refine qF ?_;refine qs ?_;(iterate 3 refine qp ?_);refine qt (ah O O O O) ?_;refine qd ?_;refine qd ?_;(iterate 6 refine qk ?_);refine qd ?_;refine qd ?_;refine qz ?_;refine qT ?_;refine qs ?_;refine qt (bu bY) ?_;(refine qw (aj (cs:=aO (0,0)) (ds:=aO (0,0)) O O O O (aQ _) O) ?_;rintro _ _ rfl);refine qp ?_;refine qp ?_;refine qz ?_)
  refine hB _ _ _ _ _ O (.cell O O O inferInstance O (.tmp O (.tmp O .nil))) fun w' hS=>⟨((none,0),[]),O,O,cF (hS.sublist (List.nil_sublist _))⟩
 by_cases h2:i+Q.length+1<idx
 ·rw[if_pos (.inr h2)] at hB
  focus (refine qs ?_;(refine qe (ap (cs:=aE (i,t) A Q.length c) O) ?_;rintro _ _ ⟨b3,rfl,rfl⟩);(refine qe (am O ba) ?_;rintro _ _ ⟨b6,rfl,rfl⟩);refine qp ?_;refine qp ?_;refine qz ?_;refine qq ?_;refine qb ?_;refine qs ?_;refine qt (ai (ds:=aE (i,t) A Q.length c) O O O O O) ?_;(refine qh fh (fun w hS=>bL w (i,t) A c Q ((Srd.old h (fun k _=>ao k)).rd w hS) (by omega)) ?_;rw[hr]);refine qt (aR O) ?_;refine qp ?_;refine qz ?_;refine qF ?_;refine qs ?_;(iterate 3 refine qp ?_);refine qt (ah O O O O) ?_;refine qf ?_;refine qp ?_;refine qp ?_;refine qt (ai (ds:=aE (i,t) A Q.length c) O O O O O) ?_;(refine qh kU (fun w hS=>fr w (i,t) A c Q ((Srd.old h (fun k _=>ao k)).rd w hS) (by omega) hfit) ?_;rw[hla]);refine qt (cW (xs:=aO (i+Q.length,lt)) O O O O O O) ?_;refine qt (aI O O (by unfold aH;omega)) ?_;(iterate 3 refine qd ?_);refine qz ?_;refine qT ?_;refine qs ?_;refine qt (bu bY) ?_;(refine qw (aj (cs:=aO (0,0)) (ds:=aO (0,0)) O O O O (aQ _) O) ?_;rintro _ _ rfl);refine qp ?_;refine qp ?_;refine qz ?_)
  refine hB _ _ _ _ _ O (.cell O O O inferInstance O (.tmp O (.tmp O .nil))) fun w' hS=>⟨((none,0),[]),O,O,cF (hS.sublist (List.nil_sublist _))⟩
 rw[if_neg (fun e=>Or.elim e h1 h2)] at hB
 by_cases h3:n<0
 ·rw[if_pos h3] at hB
  focus (refine qs ?_;(refine qe (ap (cs:=aE (i,t) A Q.length c) O) ?_;rintro _ _ ⟨b3,rfl,rfl⟩);(refine qe (am O ba) ?_;rintro _ _ ⟨b6,rfl,rfl⟩);refine qp ?_;refine qp ?_;refine qz ?_;refine qq ?_;refine qb ?_;refine qs ?_;refine qt (ai (ds:=aE (i,t) A Q.length c) O O O O O) ?_;(refine qh fh (fun w hS=>bL w (i,t) A c Q ((Srd.old h (fun k _=>ao k)).rd w hS) (by omega)) ?_;rw[hr]);refine qt (aR O) ?_;refine qp ?_;refine qz ?_;refine qF ?_;refine qs ?_;(iterate 3 refine qp ?_);refine qt (ah O O O O) ?_;refine qf ?_;refine qp ?_;refine qp ?_;refine qt (ai (ds:=aE (i,t) A Q.length c) O O O O O) ?_;(refine qh kU (fun w hS=>fr w (i,t) A c Q ((Srd.old h (fun k _=>ao k)).rd w hS) (by omega) hfit) ?_;rw[hla]);refine qt (cW (xs:=aO (i+Q.length,lt)) O O O O O O) ?_;refine qt (aI O O (by unfold aH;omega)) ?_;refine qf ?_;refine qp ?_;refine qp ?_;refine qz ?_;refine qF ?_;refine qs ?_;refine qp ?_;refine qd ?_;refine qd ?_;refine qz ?_;refine qT ?_;refine qs ?_;refine qt (bu bY) ?_;(refine qw (aj (cs:=aO (0,0)) (ds:=aO (0,0)) O O O O (aQ _) O) ?_;rintro _ _ rfl);refine qp ?_;refine qp ?_;refine qz ?_)
  refine hB _ _ _ _ _ O (.cell O O O inferInstance O (.tmp O (.tmp O .nil))) fun w' hS=>⟨((none,0),[]),O,O,cF (hS.sublist (List.nil_sublist _))⟩
 rw[if_neg h3] at hB
 obtain⟨m,rfl⟩: ∃ m:Nat,n=(m:Int):=⟨n.toNat,by omega⟩
 rw[Int.toNat_natCast] at hB
 obtain⟨k,hk0⟩: ∃ k,idx-1-i=k:=⟨_,O⟩
 rw[hk0] at hB
 have hkl:k≤Q.length:=by omega
 have hfi:d5 (i,t) (Q.map bA) (idx-1)=((k:Int),db (i,t) l k):=by
  rw[hl]
  refine mU (by omega) ?_
  rw[iL]
  show i+k=idx-1
  omega
 obtain⟨q,hq⟩: ∃ q,db (i,t) l k=q:=⟨_,O⟩
 rw[hq] at hfi hB
 have hcutr:=uX (nC (q:=k) h hkl hc) (Nat.min_le_right m (Q.length-k))
 have hcutd:lZ w bC (((Q.drop k).take (min m (Q.length-k))).map cR):=fun d hd'=>l9 hd k d (by
  obtain⟨e,he,rfl⟩:=List.mem_map.1 hd'
  exact List.mem_map.2 ⟨e,List.mem_of_mem_take he,O⟩)
 have hkd: ∀ e∈(Q.drop k).take (min m (Q.length-k)),e.2.2.2.2.length≤100000:=fun e he=>hk e (List.mem_of_mem_drop (List.mem_of_mem_take he))
 have hml:((Q.drop k).take (min m (Q.length-k))).length=min m (Q.length-k):=by rw[List.length_take,List.length_drop];omega
 have hml2:((l.drop k).take (min m (l.length-k))).length=min m (Q.length-k):=by rw[List.length_take,List.length_drop,hll];omega
 repeat' (first|refine aa (aB O (by omega)) ?_ O O|refine bM O ?_ O O|refine ax ?_|refine aa (ai (ds:=aE (i,t) A Q.length c) O O O O O) ?_ O O|refine aa (ah O O O O) ?_ O O|refine aa (lW (sz:=3) (q:=k) O O O O O O hkl hc) ?_ O O|refine aa (cW (xs:=aO (i+Q.length,lt)) O O O O O O) ?_ O O|refine aa (aI O O (by unfold aH;omega)) ?_ O O|refine aa (bU O O (by omega) (by unfold aH;omega)) ?_ O O|refine aa (aR O) ?_ O O|refine au O ?_|refine al O O ?_|refine aA O O ?_|refine aG O ?_|refine aK ?_|refine aM O ?_|(refine an (ap (cs:=aE (i,t) A Q.length c) O) ?_ O O;rintro _ _ ⟨b3,rfl,rfl⟩)|(refine an (am O ba) ?_ O O;rintro _ _ ⟨b6,rfl,rfl⟩)|((refine an (aq (f:=121) fh (fun w hS=>bL w (i,t) A c Q ((Srd.old h (fun k _=>ao k)).rd w hS) (by omega)) O O (fun _=>O)) ?_ O O;rintro _ _ ⟨_,rfl,_,rfl⟩);rw[hr])|((refine an (aq (f:=124) kU (fun w hS=>fr w (i,t) A c Q ((Srd.old h (fun k _=>ao k)).rd w hS) (by omega) hfit) O O (fun _=>O)) ?_ O O;rintro _ _ ⟨_,rfl,_,rfl⟩);rw[hla])|((refine an (aq (f:=125) pF (fun w hS=>fq w (i,t) A c Q ((Srd.old h (fun k _=>ao k)).rd w hS) (by omega) hfit (idx-1)) O O (fun _=>O)) ?_ O O;rintro _ _ ⟨_,rfl,_,rfl⟩);rw[hfi])|(refine bh (aj (cs:=aO (0,0)) (ds:=aO q) O O O O (aQ _) O) ?_ O;rintro _ _ rfl))
 refine dS [pt b6 36 (aO q)] 11 ?_
 refine dt 0 O (ai (ds:=aO q) O O O O O) ?_
 refine dp 1 ?_
 refine dp 2 ?_
 refine dp 3 ?_
 refine dp 4 ?_
 refine dt 5 O (k0 O O) ?_
 refine dt 6 O (lX (q:=min m (Q.length-k)) O O O O O (by omega)) ?_
 refine dE 7 O (uU (Q:=(Q.drop k).take (min m (Q.length-k))) (k:=min m (Q.length-k)) O hml (Srd.old hcutr (fun k _=>ao k)) (SDt.old hcutd (fun k _=>ao k)) (by omega) hkd) ?_
 rintro _ _ ⟨A7,c7,E7,rfl,hne7,hc7,rfl⟩
 refine nx ?_
 refine dE 8 O (aj (cs:=aO (0,0)) (ds:=aO q) O O O O (aQ _) O) ?_
 rintro _ _ rfl
 refine nx ?_
 refine dp 9 ?_
 refine dp 10 ?_
 refine dn ?_
 skip
 skip
 dsimp only at hB
 rw[hml2] at hB
 refine hB _ _ _ _ _ O (.cell O O O inferInstance O (.tmp O (.tmp O .nil))) fun w' hS=>⟨((A7,c7),E7.1),O,?_,ae _ hS⟩
 show E7.1.map bA=_
 rw[E7.2,List.map_take,List.map_drop,hl,hll]
theorem mb {w0 w:World} {M:Nat→Prop} {H:List Asn} {e:TypeId} {D:List Dt} (hS:St w0 M H w) (hm:dq e D∈H): ∀ d∈D,d.2.2.length≤d.2.1:=fun d hd=>
 (ep ((hS.all _ hm).1.1 (pD e d) (List.mem_map.2 ⟨d,hd,O⟩))).1
theorem mV (t k:Int) (A:Option Addr) (n c:Nat):Tryz.prog.built 59 [(0,.int .u64 t),(1,.int .i64 k),(2,.slice A n c)]=some [Value.int .u64 t,.int .i64 k,.slice A n c].toArray:=by kernel_rfl
end Go.Proofs.YtdeffdldifepkaaGreat
namespace Go.Proofs.YtdeffdldifepkaaGreat
open Go.RowKit Go.ChangeShapes Go.WideShapes Go.ChangeAt
open Asn (pt row rb)
set_option linter.unusedVariables false
set_option linter.unusedSimpArgs false
section
variable {H:Type} {enc:TypeId×Value→H} {W:World}
end
theorem pS {P:List Em} {l:List En} (h:P.map bA=l):P.length=l.length:=by rw[← h,List.length_map]
end Go.Proofs.YtdeffdldifepkaaGreat
namespace Go.Proofs.YtdeffdldifepkaaGreat
set_option linter.unusedVariables false
set_option linter.unusedSimpArgs false
theorem pT (l:List En) (t k:Nat) (hk:k≤l.length) (a1:Nat):eM (l.take k) t=(db (a1,t) l k).2:=by
 unfold db
 split
 ·rename_i h;rw[h];rfl
 ·rename_i h
  have e:l.take k=l.take (k-1)++[l.getD (k-1) default]:=by
   have:=List.take_succ_eq_append_getElem (l:=l) (i:=k-1) (by omega)
   rw[show k-1+1=k by omega] at this
   simpa[List.getD,show k-1<l.length by omega] using this
  rw[e,gB]
  rfl
end Go.Proofs.YtdeffdldifepkaaGreat
namespace Go.Proofs.YtdeffdldifepkaaGreat
open Go.RowKit Go.ChangeShapes Go.WideShapes Go.ChangeAt
open Asn (pt row rb)
set_option linter.unusedVariables false
set_option linter.unusedSimpArgs false
theorem Gives.pure12 {P:Program} {f:FuncId} {vs:List Value} {w:World} {v:Value} {I:Unit→Prop} {A:Unit→List Asn} (h:Gives P f vs [] w (fun _=>v) I A):Calls P f vs.toArray w fun e w'=>e= .returned v∧Kp bC w w':=
 h.mono fun e w' ⟨_,he,_,hS⟩=>⟨he,hS.kpO⟩
theorem mW (w:World) (a:At) (A:Option Addr) (c k:Nat) (Q:List Em) (l:List En) (hk:Q.length=k) (hl:Q.map bA=l) (h:Rd w bC 3 A k (ab aN Q)) (hd:lZ w bC (Q.map cR)) (hc:k≤c) (hn:k≤1000) (hkk: ∀ m∈Q,m.2.2.2.2.length≤100000) (idx:Nat) (e:Int) (b:At) (r:List En) (hr:lC a l idx=(e,b,r)):
  Gives Tryz.prog 100 [.agg (aE a A k c).toArray,.int .u64 (idx:Int)] [] w (X:=(Option Addr×Nat)×List Em) (fun x=> .tuple #[.agg (aE b x.1.1 r.length x.1.2).toArray,zi e]) (fun x=>x.2.map bA=r∧r.length≤x.1.2) (fun x=>[row 59 3 x.1.1 r.length x.1.2 (ab aN x.2),dq 5 (x.2.map cR)]):=by
 subst hk
 subst hl
 have:=oC w a A c Q h hd hc hn hkk idx
 rw[hr] at this
 exact this
theorem g6 (w:World) (a:At) (A:Option Addr) (c k:Nat) (Q:List Em) (l:List En) (hk:Q.length=k) (hl:Q.map bA=l) (h:Rd w bC 3 A k (ab aN Q)) (hn:k≤1000) (idx:Nat) (r:Nat×Bool) (hr:eC a l idx=r):
  Gives Tryz.prog 51 [.agg (aE a A k c).toArray,.int .u64 (idx:Int)] [] w (X:=Unit) (fun _=> .tuple #[.int .u64 (r.1:Int),.bool r.2]) (fun _=>True) (fun _=>[]):=by
 subst hk
 subst hl
 subst hr
 exact uV w a A c Q h hn idx
theorem nD (w:World) (a:At) (A:Option Addr) (c k:Nat) (Q:List Em) (l:List En) (hk:Q.length=k) (hl:Q.map bA=l) (h:Rd w bC 3 A k (ab aN Q)) (hn:k≤1000) (top:Nat) (r:Int) (hr:eL a l top=r):
  Gives Tryz.prog 94 [.agg (aE a A k c).toArray,.int .u64 (top:Int)] [] w (X:=Unit) (fun _=>zi r) (fun _=>True) (fun _=>[]):=by
 subst hk
 subst hl
 subst hr
 exact ma w a A c Q h hn top
theorem eD {P:Program} {n:Nat} {w0:World} {M:Nat→Prop} {T:aF} {H:List Asn} {dd:Option Tmp} {tt:TypeId} {pos:String} {af:Array Edge} {g:Option (Nat×Bool)} {ts:Array TypeId} {f:FuncId} {xs:Array Operand} {vs vs':List Value} {X:Type} {V:X→Value} {I:X→Prop} {A:X→List Asn} (hf:Fn_ P f) (hc: ∀ w,St w0 M H w→Gives P f vs' [] w V I A) (hx:cg T xs.toList=some vs) (hv:vs=vs'):
  Ef P n w0 M T H ⟨dd,.call ⟨.value (.func f),xs,ts⟩,tt,pos,af,g⟩ (fun u H'=> ∃ x,u=V x∧I x∧H'=A x++H):=by
 subst hv
 exact jG hf hx hc
end Go.Proofs.YtdeffdldifepkaaGreat
namespace Go.Proofs.YtdeffdldifepkaaGreat
open Go.RowKit
open Asn (pt row rb)
set_option linter.unusedVariables false
set_option linter.unusedSimpArgs false
def mz (w:World) (m:Em):Prop:=Bs w bC m.2.2.1 m.2.2.2.2.length m.2.2.2.1 m.2.2.2.2
theorem xy (w:World) (A A2:Option Addr) (n c n2 c2:Nat) (l l2:List UInt8) (h:Bs w bC A n c l) (h2:Bs w bC A2 n2 c2 l2):
  Gives Tryz.prog 137 [.slice A n c,.slice A2 n2 c2] [] w (X:=Unit) (fun _=> .bool (decide (l=l2))) (fun _=>True) (fun _=>[]):=by
 refine aP Tryz.func137 O Tryz.ntmps137 Tryz.results137 (by simp) (St.enter w) (fun B hB=>?_)
 obtain⟨r,hr⟩: ∃ r,decide (l=l2)=r:=⟨_,O⟩
 rw[hr] at hB
 have hsc:ub .eql (bl ⟨l.toArray⟩) (bl ⟨l2.toArray⟩)=some r:=by rw[← hr];simp[ub,bl];first|done|exact decide_eq_decide.2 Iff.rfl|rfl|congr
 focus (refine qs ?_;refine qp ?_;refine qn ?_;refine qp ?_;refine qt (yF O O O O O O O (Src.old h (fun k _=>ao k))) ?_;refine qp ?_;refine qt (yF O O O O O O O (Src.old h2 (fun k _=>ao k))) ?_;refine qt (uc (r:=⟨l.toArray⟩) (s:=⟨l2.toArray⟩) O O hsc) ?_;refine qp ?_;refine qz ?_)
 exact hB _ _ _ _ _ O O (qE O)
theorem oD (w:World) (m m2:Em) (h:mz w m) (h2:mz w m2):
  Gives Tryz.prog 136 [.agg (aN m).toArray,.agg (aN m2).toArray] [] w (X:=Unit) (fun _=> .bool (decide (bA m=bA m2))) (fun _=>True) (fun _=>[]):=by
 refine aP Tryz.func136 O Tryz.ntmps136 Tryz.results136 (by simp) (St.enter w) (fun B hB=>?_)
 obtain⟨t,k,A,c,l⟩:=m
 obtain⟨t2,k2,A2,c2',l2⟩:=m2
 have h:Bs w bC A l.length c l:=h
 have h2:Bs w bC A2 l2.length c2' l2:=h2
 obtain⟨r,hr⟩: ∃ r,decide (l=l2)=r:=⟨_,O⟩
 have he:decide (bA (t,k,A,c,l)=bA (t2,k2,A2,c2',l2))=(decide (t=t2)&&(decide (k=k2)&&r)):=by
  rw[← hr]
  show decide (((t,k,l):En)=(t2,k2,l2))=_
  rw[Bool.eq_iff_iff]
  simp
 rw[he] at hB
 by_cases h1:t=t2
 ·by_cases h3:k=k2
  ·rw[decide_eq_true h1,decide_eq_true h3,Bool.true_and,Bool.true_and] at hB
   repeat' (first|refine aa (ay O (by omega)) ?_ O O|refine bM O ?_ O O|refine ax ?_|refine aa (ah O O O O) ?_ O O|refine au O ?_|refine al O O ?_|(refine an (ap (cs:=[.int .u64 (t:Int),.int .i64 k,.slice A l.length c]) O) ?_ O O;rintro _ _ ⟨b2,rfl,rfl⟩)|(refine an (ap (cs:=[.int .u64 (t2:Int),.int .i64 k2,.slice A2 l2.length c2']) O) ?_ O O;rintro _ _ ⟨b3,rfl,rfl⟩)|((refine an (aq (f:=137) FM (fun w hS=>xy w A A2 l.length c l2.length c2' l l2 ((Src.old h (fun k _=>ao k)).bs w hS) ((Src.old h2 (fun k _=>ao k)).bs w hS)) O O (fun _=>O)) ?_ O O;rintro _ _ ⟨_,rfl,_,rfl⟩);rw[hr]))
   exact hB _ _ _ _ _ O O (qE O)
  ·rw[decide_eq_false h3,Bool.false_and,Bool.and_false] at hB
   repeat' (first|refine aa (ay O (by omega)) ?_ O O|refine aa (aB O (by omega)) ?_ O O|refine bM O ?_ O O|refine ax ?_|refine aU ?_ O O|refine aa (ah O O O O) ?_ O O|refine au O ?_|refine al O O ?_|(refine an (ap (cs:=[.int .u64 (t:Int),.int .i64 k,.slice A l.length c]) O) ?_ O O;rintro _ _ ⟨b2,rfl,rfl⟩)|(refine an (ap (cs:=[.int .u64 (t2:Int),.int .i64 k2,.slice A2 l2.length c2']) O) ?_ O O;rintro _ _ ⟨b3,rfl,rfl⟩))
   exact hB _ _ _ _ _ O O (qE O)
 ·rw[decide_eq_false h1,Bool.false_and] at hB
  repeat' (first|refine aa (aB O (by omega)) ?_ O O|refine bM O ?_ O O|refine ax ?_|refine aU ?_ O O|refine aa (ah O O O O) ?_ O O|refine au O ?_|refine al O O ?_|(refine an (ap (cs:=[.int .u64 (t:Int),.int .i64 k,.slice A l.length c]) O) ?_ O O;rintro _ _ ⟨b2,rfl,rfl⟩)|(refine an (ap (cs:=[.int .u64 (t2:Int),.int .i64 k2,.slice A2 l2.length c2']) O) ?_ O O;rintro _ _ ⟨b3,rfl,rfl⟩))
  exact hB _ _ _ _ _ O O (qE O)
theorem uZ {L M:List En} (hl:L.length=M.length) (h: ∀ i,i<L.length→L.getD i default=M.getD i default):L=M:=by
 refine List.ext_getElem hl fun i h1 h2=>?_
 have:=h i h1
 simpa[List.getD,h1,h2] using this
theorem u0 (w:World) (A A2:Option Addr) (c c2':Nat) (Q M:List Em) (h:Rd w bC 3 A Q.length (ab aN Q)) (h2:Rd w bC 3 A2 M.length (ab aN M)) (hq: ∀ m∈Q,mz w m) (hm: ∀ m∈M,mz w m) (hn:Q.length≤100000) (hn2:M.length≤100000):
  Gives Tryz.prog 138 [.slice A Q.length c,.slice A2 M.length c2',.func (.func 136) #[] #[]] [] w (X:=Unit) (fun _=> .bool (decide (Q.map bA=M.map bA))) (fun _=>True) (fun _=>[]):=by
 refine aP Tryz.func138 O Tryz.ntmps138 Tryz.results138 (by simp) (St.enter w) (fun B hB=>?_)
 have hne:0<Q.length→A≠none:=fun h0=>by obtain⟨ad,rfl,_⟩:=h.2 (by omega);simp
 have hne2:0<M.length→A2≠none:=fun h0=>by obtain⟨ad,rfl,_⟩:=h2.2 (by omega);simp
 by_cases hlm:Q.length=M.length
 ·skip
  repeat' (first|refine aa (aB O (by omega)) ?_ O O|refine bM O ?_ O O|refine ax ?_|refine au O ?_|refine al O O ?_|refine aA O O ?_|refine aG O ?_|refine aM O ?_)
  refine bV (X:=Nat) (fun j=>[(1,.slice A2 M.length c2'),(2,.func (.func 136) #[] #[]),(15,.slice A Q.length c),(16,.int .i64 (Q.length:Int)),(17,.int .i64 (j:Int))]) (fun _=>[]) (fun j=>j≤Q.length∧ ∀ i,i<j→(Q.map bA).getD i default=(M.map bA).getD i default) (fun j=>Q.length-j) O 0 ⟨Nat.zero_le _,fun i hi=>by omega⟩ (Sub.cons O (Sub.cons O (Sub.cons O (Sub.cons O (Sub.cons O Sub.nil))))) (fun _ h=>h) ?_
  rintro j ⟨hj,hok⟩ J hJ
  rcases Nat.lt_or_ge j Q.length with hjl|hjl
  ·have hne:=hne (by omega)
   have hne2:=hne2 (by omega)
   have hjm:j<M.length:=by omega
   have hat:=bi (f:=aN) bW Q default j hjl
   have hat2:=bi (f:=aN) bW M default j hjm
   have eq1:(Q.map bA).getD j default=bA (Q.getD j default):=by simp[List.getD,hjl]
   have eq2:(M.map bA).getD j default=bA (M.getD j default):=by simp[List.getD,hjm]
   have hb1:=hq (Q.getD j default) (by simp[List.getD,hjl])
   have hb2:=hm (M.getD j default) (by simp[List.getD,hjm])
   have hnx:bA (Q.getD j default)=bA (M.getD j default)→ ∀ i,i<j+1→(Q.map bA).getD i default=(M.map bA).getD i default:=fun e i hi=>by
    rcases Nat.lt_or_ge i j with h3|h3
    ·exact hok i h3
    ·rw[show i=j by omega,eq1,eq2];exact e
   have hne3:bA (Q.getD j default)≠bA (M.getD j default)→ ¬ Q.map bA=M.map bA:=fun e e2=>e (by rw[← eq1, ← eq2,e2])
   obtain⟨x,hx⟩: ∃ x,Q.getD j default=x:=⟨_,O⟩
   obtain⟨y,hy⟩: ∃ y,M.getD j default=y:=⟨_,O⟩
   rw[hx] at hat hnx hne3 hb1
   rw[hy] at hat2 hnx hne3 hb2
   obtain⟨r,hr⟩: ∃ r,decide (bA x=bA y)=r:=⟨_,O⟩
   cases r
   ·rw[decide_eq_false (hne3 (of_decide_eq_false hr))] at hB
    focus (refine qs ?_;refine qd ?_;refine qz ?_;refine qq ?_;refine qT ?_;refine qx ?_;refine qq ?_;refine qb ?_;refine qs ?_;refine qp ?_;refine qt (bH (sz:=3) O O O O O O hne hjl) ?_;refine qt (cw (ds:=aN x) O O O (Srd.old h (fun k _=>ao k)) O (by omega) hat) ?_;(refine qe (am O cu) ?_;rintro _ _ ⟨b8,rfl,rfl⟩);refine qp ?_;(refine qw (aj (cs:=aN (0,0,none,0,[])) (ds:=aN x) O O O O (cC _) O) ?_;rintro _ _ rfl);refine qn ?_;refine qp ?_;refine qp ?_;refine qt (bH (sz:=3) O O O O O O hne2 hjm) ?_;refine qt (cw (ds:=aN y) O O O (Srd.old h2 (fun k _=>ao k)) O (by omega) hat2) ?_;(refine qe (am O cu) ?_;rintro _ _ ⟨b8,rfl,rfl⟩);(refine qw (aj (cs:=aN (0,0,none,0,[])) (ds:=aN y) O O O O (cC _) O) ?_;rintro _ _ rfl);refine qn ?_;refine qp ?_;refine qt (ai (ds:=aN x) O O O O O) ?_;refine qt (ai (ds:=aN y) O O O O O) ?_;(refine qe (d4 (cap:=[]) O (aq (f:=136) DH (fun w hS=>oD w x y ((Src.old hb1 (fun k _=>ao k)).bs w hS) ((Src.old hb2 (fun k _=>ao k)).bs w hS)) O O (fun _=>O))) ?_;rintro _ _ ⟨_,rfl,_,rfl⟩;rw[hr]);refine qt (aR O) ?_;refine qz ?_;refine qT ?_;refine qs ?_;refine qp ?_;refine qz ?_)
    exact hB _ _ _ _ _ O O (qE O)
   ·focus (refine qs ?_;refine qd ?_;refine qz ?_;refine qq ?_;refine qT ?_;refine qx ?_;refine qq ?_;refine qb ?_;refine qs ?_;refine qp ?_;refine qt (bH (sz:=3) O O O O O O hne hjl) ?_;refine qt (cw (ds:=aN x) O O O (Srd.old h (fun k _=>ao k)) O (by omega) hat) ?_;(refine qe (am O cu) ?_;rintro _ _ ⟨b8,rfl,rfl⟩);refine qp ?_;(refine qw (aj (cs:=aN (0,0,none,0,[])) (ds:=aN x) O O O O (cC _) O) ?_;rintro _ _ rfl);refine qn ?_;refine qp ?_;refine qp ?_;refine qt (bH (sz:=3) O O O O O O hne2 hjm) ?_;refine qt (cw (ds:=aN y) O O O (Srd.old h2 (fun k _=>ao k)) O (by omega) hat2) ?_;(refine qe (am O cu) ?_;rintro _ _ ⟨b8,rfl,rfl⟩);(refine qw (aj (cs:=aN (0,0,none,0,[])) (ds:=aN y) O O O O (cC _) O) ?_;rintro _ _ rfl);refine qn ?_;refine qp ?_;refine qt (ai (ds:=aN x) O O O O O) ?_;refine qt (ai (ds:=aN y) O O O O O) ?_;(refine qe (d4 (cap:=[]) O (aq (f:=136) DH (fun w hS=>oD w x y ((Src.old hb1 (fun k _=>ao k)).bs w hS) ((Src.old hb2 (fun k _=>ao k)).bs w hS)) O O (fun _=>O))) ?_;rintro _ _ ⟨_,rfl,_,rfl⟩;rw[hr]);refine qt (aR O) ?_;refine qz ?_;refine qF ?_;refine qx ?_;refine aK ?_;refine qr ?_;refine qt (aI O O (by unfold aH;omega)) ?_;refine qp ?_;refine qz ?_)
    exact hJ (j+1) _ _ ⟨by omega,hnx (of_decide_eq_true hr)⟩ (Sub.cons O (Sub.cons O (Sub.cons O (Sub.cons O (Sub.cons O Sub.nil))))) (fun _ h=>h.sublist (List.nil_sublist _)) (by omega)
  have hjn:j=Q.length:=by omega
  subst hjn
  rw[decide_eq_true (uZ (by simpa using hlm) (fun i hi=>hok i (by simpa using hi)))] at hB
  focus (refine qs ?_;refine qf ?_;refine qz ?_;refine qq ?_;refine qF ?_;refine bE O O ?_;refine qs ?_;refine qp ?_;refine qz ?_)
  exact hB _ _ _ _ _ O O (qE O)
 ·rw[decide_eq_false (fun e=>hlm (by simpa using congrArg List.length e))] at hB
  repeat' (first|refine aa (ay O (by omega)) ?_ O O|refine bM O ?_ O O|refine ax ?_|refine au O ?_|refine al O O ?_|refine aC O O ?_)
  exact hB _ _ _ _ _ O O (qE O)
end Go.Proofs.YtdeffdldifepkaaGreat
namespace Go.Proofs.YtdeffdldifepkaaGreat
set_option linter.unusedVariables false
set_option linter.unusedSimpArgs false
theorem nE {e:En} {l:List En} {t u:Nat} (h:bw (e::l) t=true) (hu:u≤e.1):bw (e::l) u=true:=by
 rw[bw,Bool.and_eq_true,Bool.and_eq_true] at h ⊢
 exact⟨⟨h.1.1,decide_eq_true hu⟩,h.2⟩
theorem pU (a:At) (l:List En) (n:Nat) (hn:n≤l.length):jd a l n=eM (l.take n) a.2:=by
 obtain⟨i,t⟩:=a
 rw[pT l t n hn i]
 unfold jd db
 by_cases h:0<n
 ·rw[if_pos h,if_neg (by omega)]
 ·rw[if_neg h,if_pos (by omega)]
theorem u9 {a:At} {l:List En} {p:At} {es:List En} {last:Nat} {b:At} {r:List En} (h:jR a l p es=(0,last,b,r)):
  br a l=true∧(p.1≤18446744073709551614∧es.length≤18446744073709551614-p.1∧bw es p.2=true)∧ ¬ (a.1≤p.1∧fu a l p=false)∧last=p.1+es.length∧b=a∧
   ((eX a l p es=none∧r=l)∨ ∃ i,eX a l p es=some i∧i<es.length∧jK a l p es i=true∧(∀ q,q<i→jK a l p es q=false)∧p.1+i-a.1≤l.length∧a.1<p.1+i+1∧jd a l (p.1+i-a.1)≤(es.getD i default).1∧p.1+i-a.1+(es.length-i)≤16∧r=l.take (p.1+i-a.1)++es.drop i):=by
 unfold jR at h
 by_cases h1:br a l=true
 ·rw[if_pos h1] at h
  by_cases h2:p.1≤18446744073709551614∧es.length≤18446744073709551614-p.1∧bw es p.2=true
  ·rw[if_pos h2] at h
   by_cases h3:a.1≤p.1∧fu a l p=false
   ·rw[if_pos h3] at h;cases h
   ·rw[if_neg h3] at h
    refine⟨h1,h2,h3,?_⟩
    unfold Au at h
    cases hf:eX a l p es with
    |none=>
     rw[hf] at h
     injection h with _ h
     injection h with e1 h
     injection h with e2 e3
     exact⟨e1.symm,e2.symm,.inl ⟨O,e3.symm⟩⟩
    |some i=>
     rw[hf] at h
     have hfs:=hf
     unfold eX at hfs
     rw[List.find?_range_eq_some] at hfs
     obtain⟨g1,g2,g3⟩:=hfs
     have g2:=List.mem_range.1 g2
     have g4:a.1<p.1+i+1:=by
      unfold jK at g1
      rw[Bool.and_eq_true,decide_eq_true_eq] at g1
      exact g1.1
     dsimp only at h
     split at h
     ·cases h
     ·rename_i k1
      split at h
      ·cases h
      ·rename_i k2
       split at h
       ·cases h
       ·rename_i k3
        injection h with _ h
        injection h with e1 h
        injection h with e2 e3
        have k1: ¬ a.1+l.length+1<p.1+i+1:=k1
        exact⟨e1.symm,e2.symm,.inr ⟨i,O,g2,g1,fun q hq=>by have:=g3 q hq;simpa using this,by omega,g4,by omega,by omega,e3.symm⟩⟩
  ·rw[if_neg h2] at h;cases h
 ·rw[if_neg h1] at h;cases h
theorem xz {a:At} {l:List En} {p:At} {es:List En} (h:(jR a l p es).1≠0): ∃ e:Int,e≠0∧jR a l p es=(e,0,(0,0),[]):=by
 unfold jR at h ⊢
 split
 ·split
  ·split
   ·exact⟨4,by decide,O⟩
   ·rename_i k1 k2 k3
    rw[if_pos k1,if_pos k2,if_neg k3] at h
    unfold Au at h ⊢
    cases hf:eX a l p es with
    |none=>rw[hf] at h;exact absurd O h
    |some i=>
     rw[hf] at h
     dsimp only at h ⊢
     split
     ·exact⟨4,by decide,O⟩
     ·rename_i j1
      rw[if_neg j1] at h
      split
      ·exact⟨2,by decide,O⟩
      ·rename_i j2
       rw[if_neg j2] at h
       split
       ·exact⟨6,by decide,O⟩
       ·rename_i j3
        rw[if_neg j3] at h
        exact absurd O h
  ·exact⟨2,by decide,O⟩
 ·exact⟨220,by decide,O⟩
theorem pV {a:At} {l:List En} {p:At} {es:List En} {last:Nat} {b:At} {r:List En} (h:jR a l p es=(0,last,b,r)):br a r=true:=by
 obtain⟨h1,⟨h2,h3,h4⟩,_,_,_,h5⟩:=u9 h
 rcases h5 with⟨_,rfl⟩|⟨i,_,hi,_,_,hn,ha,hah,hfull,rfl⟩
 ·exact h1
 ·obtain⟨n,hnn⟩: ∃ n,p.1+i-a.1=n:=⟨_,O⟩
  rw[hnn] at hn hah hfull ⊢
  have hrl:(l.take n++es.drop i).length=n+(es.length-i):=by
   rw[List.length_append,List.length_take,List.length_drop]
   omega
  have h1':=h1
  rw[k9] at h1 ⊢
  rw[Bool.and_eq_true,Bool.and_eq_true,Bool.and_eq_true,decide_eq_true_eq,decide_eq_true_eq] at h1 ⊢
  obtain⟨⟨⟨k1,_⟩,_⟩,k4⟩:=h1
  refine⟨⟨⟨k1,by omega⟩,by rw[hrl];omega⟩,?_⟩
  have e1:=fM (l.take n) (l.drop n) a.2
  rw[List.take_append_drop,k4] at e1
  have e1:=e1.symm
  rw[Bool.and_eq_true] at e1
  rw[fM,e1.1,Bool.true_and]
  have e2:=fM (es.take i) (es.drop i) p.2
  rw[List.take_append_drop,h4] at e2
  have e2:=e2.symm
  rw[Bool.and_eq_true] at e2
  have e3:es.drop i=es.getD i default::es.drop (i+1):=by
   rw[List.drop_eq_getElem_cons hi]
   simp[List.getD,hi]
  rw[e3] at e2 ⊢
  refine nE e2.2 ?_
  rw[← pU a l n hn]
  exact hah
end Go.Proofs.YtdeffdldifepkaaGreat
namespace Go.Proofs.YtdeffdldifepkaaGreat
open Go.RowKit Go.ChangeShapes Go.WideShapes Go.ChangeAt
open Asn (pt row rb)
set_option linter.unusedVariables false
set_option linter.unusedSimpArgs false
section
variable {H:Type} {enc:TypeId×Value→H} {W:World}
end
theorem va (w:World) (a:At) (A:Option Addr) (c k:Nat) (Q:List Em) (l:List En) (hk:Q.length=k) (hl:Q.map bA=l) (h:Rd w bC 3 A k (ab aN Q)) (hd:lZ w bC (Q.map cR)) (p:At) (A2:Option Addr) (cE k2:Nat) (E:List Em) (es:List En) (hk2:E.length=k2) (hl2:E.map bA=es) (h2:Rd w bC 3 A2 k2 (ab aN E)) (hd2:lZ w bC (E.map cR)) (hcE:k2≤cE) (hn:k≤1000) (hn2:k2≤1000) (hkk: ∀ m∈Q,m.2.2.2.2.length≤100000) (hkk2: ∀ m∈E,m.2.2.2.2.length≤100000) (e:Int) (last:Nat) (b:At) (r:List En) (hs:jR a l p es=(e,last,b,r)):
  Gives Tryz.prog 174 [.agg (aE a A k c).toArray,.agg (aO p).toArray,.slice A2 k2 cE] [] w (X:=(Option Addr×Nat)×List Em) (fun x=> .tuple #[.agg (aE b x.1.1 r.length x.1.2).toArray,.int .u64 (last:Int),zi e]) (fun x=>x.2.map bA=r) (fun x=>[row 59 3 x.1.1 r.length x.1.2 (ab aN x.2),dq 5 (x.2.map cR)]):=by
 subst hk
 subst hl
 subst hk2
 subst hl2
 have:=pR w a A c Q h hd p A2 cE E h2 hd2 hcE hn hn2 hkk hkk2
 rw[hs] at this
 exact this
theorem vd (w:World) (a:At) (A:Option Addr) (c k:Nat) (Q:List Em) (l:List En) (hk:Q.length=k) (hl:Q.map bA=l) (h:Rd w bC 3 A k (ab aN Q)) (hn:k≤1000) (p:At) (r:Bool) (hr:(br a l&&fu a l p)=r):
  Gives Tryz.prog 109 [.agg (aE a A k c).toArray,.agg (aO p).toArray] [] w (X:=Unit) (fun _=> .bool r) (fun _=>True) (fun _=>[]):=by
 subst hk
 subst hl
 subst hr
 exact uW w a A c Q h hn p
end Go.Proofs.YtdeffdldifepkaaGreat
namespace Go.Proofs.YtdeffdldifepkaaGreat
open Go.RowKit
open Asn (pt row rb)
set_option linter.unusedVariables false
set_option linter.unusedSimpArgs false
end Go.Proofs.YtdeffdldifepkaaGreat
namespace Go.Proofs.YtdeffdldifepkaaGreat
open Go.RowKit Go.ChangeShapes Go.WideShapes Go.ChangeAt
open Asn (pt row rb)
set_option linter.unusedVariables false
set_option linter.unusedSimpArgs false
theorem cU {P:Program} [HasTab P] {n:Nat} {w0:World} {M:Nat→Prop} {T:aF} {H:List Asn} {dd:Option Tmp} {tt:TypeId} {pos:String} {af:Array Edge} {g:Option (Nat×Bool)} {x y:Operand} {t u:TypeId} {b c r:Bool} {i:Ti} (hx:az T x=some (.bool b)) (hy:az T y=some (.bool c)) (ht:ty P t=some i) (hi:i.desc= .bool) (hr:(b !=c)=r):
  Tk P n w0 M T H ⟨dd,.binOp .neq t x y u,tt,pos,af,g⟩ (.bool r):=hr▸AF hx hy ht hi
def Sh (L:List En):Type:={P:List Em//P.map bA=L∧ ∀ m∈P,m.2.2.2.2.length≤m.2.2.2.1}
end Go.Proofs.YtdeffdldifepkaaGreat
namespace Go.Proofs.YtdeffdldifepkaaGreat
open Go.RowKit
open Asn (pt row rb)
set_option linter.unusedVariables false
set_option linter.unusedSimpArgs false
end Go.Proofs.YtdeffdldifepkaaGreat
namespace Go.Proofs.YtdeffdldifepkaaGreat
open Go.RowKit Go.ChangeShapes Go.WideShapes Go.ChangeAt
open Asn (pt row rb)
set_option linter.unusedVariables false
set_option linter.unusedSimpArgs false
theorem xB {a:At} {l:List En} {p:At} {es:List En} {e:Int} {last:Nat} {b:At} {r:List En} (h:jR a l p es=(e,last,b,r)) {N:Nat} (h1: ∀ x∈l,x.2.2.length≤N) (h2: ∀ x∈es,x.2.2.length≤N):r.length≤16∧(∀ x∈r,x.2.2.length≤N)∧(e=0→b=a):=by
 by_cases he:e=0
 ·subst he
  obtain⟨_,_,_,_,hba,hform⟩:=u9 h
  subst hba
  refine⟨(dF (pV h)).1,fun x hx=>?_,fun _=>O⟩
  rcases hform with⟨_,rfl⟩|⟨i,_,_,_,_,_,_,_,_,rfl⟩
  ·exact h1 x hx
  ·rcases List.mem_append.1 hx with hx|hx
   ·exact h1 x (List.mem_of_mem_take hx)
   ·exact h2 x (List.mem_of_mem_drop hx)
 ·obtain⟨e',_,hs⟩:=xz (by rw[h];exact he:(jR a l p es).1≠0)
  rw[h] at hs
  injection hs with _ e2
  injection e2 with _ e3
  injection e3 with _ e4
  subst e4
  exact⟨Nat.zero_le _,fun x hx=>absurd hx (by simp),fun h=>absurd h he⟩
theorem oE (w:World) (a:At) (A:Option Addr) (c k:Nat) (Q:List Em) (l:List En) (hk:Q.length=k) (hl:Q.map bA=l) (h:Rd w bC 3 A k (ab aN Q)) (hd:lZ w bC (Q.map cR)) (p:At) (A2:Option Addr) (cE k2:Nat) (E:List Em) (es:List En) (hk2:E.length=k2) (hl2:E.map bA=es) (h2:Rd w bC 3 A2 k2 (ab aN E)) (hd2:lZ w bC (E.map cR)) (hcE:k2≤cE) (hn:k≤1000) (hn2:k2≤1000) (hkk: ∀ m∈Q,m.2.2.2.2.length≤100000) (hkk2: ∀ m∈E,m.2.2.2.2.length≤100000) (e:Int) (last:Nat) (b:At) (r:List En) (K:Nat) (hK:r.length=K) (hs:jR a l p es=(e,last,b,r)):
  Gives Tryz.prog 174 [.agg (aE a A k c).toArray,.agg (aO p).toArray,.slice A2 k2 cE] [] w (X:=(Option Addr×Nat)×Sh r) (fun x=> .tuple #[.agg (aE b x.1.1 K x.1.2).toArray,.int .u64 (last:Int),zi e]) (fun _=>True) (fun x=>[row 59 3 x.1.1 K x.1.2 (ab aN x.2.1),dq 5 (x.2.1.map cR)]):=by
 subst hK
 exact(va w a A c k Q l hk hl h hd p A2 cE k2 E es hk2 hl2 h2 hd2 hcE hn hn2 hkk hkk2 e last b r hs).mono fun u w' ⟨⟨⟨A5,c5⟩,P⟩,he,h1,hS⟩=>⟨((A5,c5),⟨P,h1,fun m hm=>mb (e:=5) (D:=P.map cR) hS (by simp) (cR m) (List.mem_map.2 ⟨m,hm,O⟩)⟩),he,trivial,hS⟩
end Go.Proofs.YtdeffdldifepkaaGreat
namespace Go.Proofs.YtdeffdldifepkaaGreat
open Go.RowKit
open Asn (pt row rb)
set_option linter.unusedVariables false
set_option linter.unusedSimpArgs false
def app (a:At) (l:List En) (x:En):Int×At×At×List En:=
 if br a l=true then
  if eQ x=true∧(cM a l).2≤x.1 then
   if l.length=16∨(cM a l).1=18446744073709551614 then (6,(0,0),(0,0),[]) else (0,cM a (l++[x]),a,l++[x])
  else (2,(0,0),(0,0),[])
 else (220,(0,0),(0,0),[])
theorem ve (a:At) (l:List En) (x:En):cM a (l++[x])=(a.1+(l.length+1),x.1):=by
 rw[cM,gB,List.length_append]
 rfl
theorem kE (w:World) (a:At) (A:Option Addr) (c k:Nat) (Q:List Em) (l:List En) (hk:Q.length=k) (hl:Q.map bA=l) (h:Rd w bC 3 A k (ab aN Q)) (hn:k≤100000) (r:Bool) (hr:br a l=r):
  Gives Tryz.prog 121 [.agg (aE a A k c).toArray] [] w (X:=Unit) (fun _=> .bool r) (fun _=>True) (fun _=>[]):=by
 subst hk
 subst hl
 subst hr
 exact bL w a A c Q h hn
theorem kF (w:World) (a:At) (A:Option Addr) (c k:Nat) (Q:List Em) (l:List En) (hk:Q.length=k) (hl:Q.map bA=l) (h:Rd w bC 3 A k (ab aN Q)) (hn:k≤100000) (hf:a.1+k≤18446744073709551615) (p:At) (hp:cM a l=p):
  Gives Tryz.prog 124 [.agg (aE a A k c).toArray] [] w (X:=Unit) (fun _=> .agg (aO p).toArray) (fun _=>True) (fun _=>[]):=by
 subst hk
 subst hl
 subst hp
 exact fr w a A c Q h hn hf
theorem mc (w:World) (m:Em) (r:Bool) (hr:eQ (bA m)=r):
  Gives Tryz.prog 129 [.agg (aN m).toArray] [] w (X:=Unit) (fun _=> .bool r) (fun _=>True) (fun _=>[]):=by
 subst hr
 exact iK w m
theorem iq (w:World) (A:Option Addr) (c k:Nat) (Q:List Em) (l:List En) (hk:Q.length=k) (hl:Q.map bA=l) (h:Rd w bC 3 A k (ab aN Q)) (hd:lZ w bC (Q.map cR)) (hn:k≤1000) (hkk: ∀ m∈Q,m.2.2.2.2.length≤100000):
  Gives Tryz.prog 130 [.slice A k c] [] w (X:=(Option Addr×Nat)×Sh l) (fun x=> .slice x.1.1 k x.1.2) (fun _=>True) (fun x=>[row 59 3 x.1.1 k x.1.2 (ab aN x.2.1),dq 5 (x.2.1.map cR)]):=by
 subst hk
 exact(iM w A c Q h hd hn hkk).mono fun u w' ⟨⟨⟨A5,c5⟩,P⟩,he,h1,hS⟩=>⟨((A5,c5),⟨P.1,P.2.trans hl,fun m hm=>mb (e:=5) (D:=P.1.map cR) hS (by simp) (cR m) (List.mem_map.2 ⟨m,hm,O⟩)⟩),he,trivial,hS⟩
theorem ju (w:World) (a:At) (A:Option Addr) (c k:Nat) (Q:List Em) (l:List En) (hk:Q.length=k) (hl:Q.map bA=l) (h:Rd w bC 3 A k (ab aN Q)) (hd:lZ w bC (Q.map cR)) (hn:k≤1000) (hkk: ∀ m∈Q,m.2.2.2.2.length≤100000) (m:Em) (hm:Rd w bC 1 m.2.2.1 m.2.2.2.2.length (m.2.2.2.2.map bv)) (hmk:m.2.2.2.2.length≤100000) (e:Int) (p b:At) (r:List En) (K:Nat) (hK:r.length=K) (hs:app a l (bA m)=(e,p,b,r)):
  Gives Tryz.prog 54 [.agg (aE a A k c).toArray,.agg (aN m).toArray] [] w (X:=(Option Addr×Nat)×Sh r) (fun x=> .tuple #[.agg (aE b x.1.1 K x.1.2).toArray,.agg (aO p).toArray,zi e]) (fun _=>True) (fun x=>[row 59 3 x.1.1 K x.1.2 (ab aN x.2.1),dq 5 (x.2.1.map cR)]):=by
 refine cX Tryz.func54 O Tryz.ntmps54 Tryz.results54 (by simp) (St.enter w) (fun B hB=>?_)
 obtain⟨i,t⟩:=a
 have hll:l.length=k:=by rw[← hl,List.length_map,hk]
 obtain⟨lt,hla0⟩: ∃ x,(cM (i,t) l).2=x:=⟨_,O⟩
 have hla:cM (i,t) l=(i+k,lt):=by
  have:cM (i,t) l=(i+k,(cM (i,t) l).2):=by rw[cM,hll]
  rw[this,hla0]
 obtain⟨q0,hp⟩: ∃ q,eQ (bA m)=q:=⟨_,O⟩
 have hla8:cM (i,t) (l++[bA m])=(i+(k+1),m.1):=by rw[ve,hll];rfl
 obtain⟨r0,hr0⟩: ∃ q,br (i,t) l=q:=⟨_,O⟩
 have hs:(if r0=true then if q0=true∧lt≤m.1 then if k=16∨i+k=18446744073709551614 then (6,(0,0),(0,0),[]) else (0,cM (i,t) (l++[bA m]),(i,t),l++[bA m]) else (2,(0,0),(0,0),[]) else ((220,(0,0),(0,0),[]):Int×At×At×List En))=(e,p,b,r):=by
  rw[← hs,app,hr0,hp,hla,hll]
  rfl
 cases r0
 ·rw[if_neg Bool.false_ne_true] at hs
  injection hs with e1 e2
  injection e2 with e2 e3
  injection e3 with e3 e4
  subst e1 e2 e3 e4 hK
  focus (refine qs ?_;(refine qe (ap (cs:=aE (i,t) A k c) O) ?_;rintro _ _ ⟨b2,rfl,rfl⟩);(refine qe (ap (cs:=aN m) O) ?_;rintro _ _ ⟨b3,rfl,rfl⟩);(refine qe (am O bP) ?_;rintro _ _ ⟨b4,rfl,rfl⟩);(refine qe (am O ba) ?_;rintro _ _ ⟨b5,rfl,rfl⟩);refine qp ?_;refine qn ?_;refine qp ?_;refine qz ?_;refine qq ?_;refine qb ?_;refine qs ?_;refine qt (ai (ds:=aE (i,t) A k c) O O O O O) ?_;(refine qh fh (fun w hS=>kE w (i,t) A c k Q l hk hl ((Srd.old h (fun k _=>ao k)).rd w hS) (by omega) _ hr0) ?_);refine qt (aR O) ?_;refine qd ?_;refine qz ?_;refine qT ?_;refine qr ?_;refine qp ?_;refine qz ?_;refine aK ?_;refine qq ?_;refine qs ?_;refine qp ?_;refine qd ?_;refine qz ?_;refine qT ?_;refine qs ?_;refine qt (bu eG) ?_;refine qt (bu bY) ?_;refine qp ?_;(refine qw (aj (cs:=aE (0,0) none 0 0) (ds:=aE (0,0) none 0 0) O O O O (bD _ _ _ _) O) ?_;rintro _ _ rfl);(refine qw (aj (cs:=aO (0,0)) (ds:=aO (0,0)) O O O O (aQ _) O) ?_;rintro _ _ rfl);refine qp ?_;refine qz ?_)
  refine hB _ _ _ _ _ O (.cell O O O inferInstance O (.cell O O O inferInstance O (.tmp O .nil))) fun w' hS=>⟨((none,0),⟨[],O,fun m hm=>absurd hm (by simp)⟩),O,trivial,cF (hS.sublist (List.nil_sublist _))⟩
 have hff:=dF hr0
 rw[hll] at hff
 have hff:k≤16∧i+k≤18446744073709551614:=hff
 have hfit:(i,t).1+k≤18446744073709551615:=by show i+k≤_;omega
 rw[if_pos O] at hs
 cases q0
 ·rw[if_neg (fun h=>Bool.false_ne_true h.1)] at hs
  injection hs with e1 e2
  injection e2 with e2 e3
  injection e3 with e3 e4
  subst e1 e2 e3 e4 hK
  focus (refine qs ?_;(refine qe (ap (cs:=aE (i,t) A k c) O) ?_;rintro _ _ ⟨b2,rfl,rfl⟩);(refine qe (ap (cs:=aN m) O) ?_;rintro _ _ ⟨b3,rfl,rfl⟩);(refine qe (am O bP) ?_;rintro _ _ ⟨b4,rfl,rfl⟩);(refine qe (am O ba) ?_;rintro _ _ ⟨b5,rfl,rfl⟩);refine qp ?_;refine qn ?_;refine qp ?_;refine qz ?_;refine qq ?_;refine qb ?_;refine qs ?_;refine qt (ai (ds:=aE (i,t) A k c) O O O O O) ?_;(refine qh fh (fun w hS=>kE w (i,t) A c k Q l hk hl ((Srd.old h (fun k _=>ao k)).rd w hS) (by omega) _ hr0) ?_);refine qt (aR O) ?_;refine qp ?_;refine qz ?_;refine qF ?_;refine qq ?_)
  refine dS [pt b3 59 (aN m),pt b2 39 (aE (i,t) A k c)] 12 ?_
  refine dt 0 O (ai (ds:=aN m) O O O O O) ?_
  refine dE 1 O (aq (f:=129) sJ (fun w hS=>mc w m _ hp) O O (fun _=>O)) ?_
  rintro _ _ ⟨_,rfl,_,rfl⟩
  refine nx ?_
  refine dt 2 O (aR O) ?_
  refine cZ 3 ?_
  refine dk 4 ?_
  refine dk 5 ?_
  refine dk 6 ?_
  refine dk 7 ?_
  refine dk 8 ?_
  refine dk 9 ?_
  refine cZ 10 ?_
  refine cZ 11 ?_
  refine dn ?_
  skip
  focus (refine qT ?_;refine qr ?_;refine qp ?_;refine qz ?_;refine aK ?_;refine qq ?_;refine qs ?_;refine qp ?_;refine qd ?_;refine qz ?_;refine qT ?_;refine qs ?_;refine qt (bu eG) ?_;refine qt (bu bY) ?_;refine qp ?_;(refine qw (aj (cs:=aE (0,0) none 0 0) (ds:=aE (0,0) none 0 0) O O O O (bD _ _ _ _) O) ?_;rintro _ _ rfl);(refine qw (aj (cs:=aO (0,0)) (ds:=aO (0,0)) O O O O (aQ _) O) ?_;rintro _ _ rfl);refine qp ?_;refine qz ?_)
  refine hB _ _ _ _ _ O (.cell O O O inferInstance O (.cell O O O inferInstance O (.tmp O .nil))) fun w' hS=>⟨((none,0),⟨[],O,fun m hm=>absurd hm (by simp)⟩),O,trivial,cF (hS.sublist (List.nil_sublist _))⟩
 focus (refine qs ?_;(refine qe (ap (cs:=aE (i,t) A k c) O) ?_;rintro _ _ ⟨b2,rfl,rfl⟩);(refine qe (ap (cs:=aN m) O) ?_;rintro _ _ ⟨b3,rfl,rfl⟩);(refine qe (am O bP) ?_;rintro _ _ ⟨b4,rfl,rfl⟩);(refine qe (am O ba) ?_;rintro _ _ ⟨b5,rfl,rfl⟩);refine qp ?_;refine qn ?_;refine qp ?_;refine qz ?_;refine qq ?_;refine qb ?_;refine qs ?_;refine qt (ai (ds:=aE (i,t) A k c) O O O O O) ?_;(refine qh fh (fun w hS=>kE w (i,t) A c k Q l hk hl ((Srd.old h (fun k _=>ao k)).rd w hS) (by omega) _ hr0) ?_);refine qt (aR O) ?_;refine qp ?_;refine qz ?_;refine qF ?_;refine qq ?_)
 by_cases hlt:m.1<lt
 ·rw[if_neg (by omega)] at hs
  injection hs with e1 e2
  injection e2 with e2 e3
  injection e3 with e3 e4
  subst e1 e2 e3 e4 hK
  refine dS [pt b3 59 (aN m),pt b2 39 (aE (i,t) A k c)] 12 ?_
  refine dt 0 O (ai (ds:=aN m) O O O O O) ?_
  refine dE 1 O (aq (f:=129) sJ (fun w hS=>mc w m _ hp) O O (fun _=>O)) ?_
  rintro _ _ ⟨_,rfl,_,rfl⟩
  refine nx ?_
  refine dt 2 O (aR O) ?_
  refine dp 3 ?_
  refine dp 4 ?_
  refine dl 5 ?_
  refine dt 6 O (ai (ds:=aE (i,t) A k c) O O O O O) ?_
  refine dE 7 O (aq (f:=124) kU (fun w hS=>kF w (i,t) A c k Q l hk hl ((Srd.old h (fun k _=>ao k)).rd w hS) (by omega) hfit _ hla) O O (fun _=>O)) ?_
  rintro _ _ ⟨_,rfl,_,rfl⟩
  refine nx ?_
  refine dt 8 O (cW (xs:=aO (i+k,lt)) O O O O O O) ?_
  refine cZ 9 ?_
  refine cZ 10 ?_
  refine cZ 11 ?_
  refine dn ?_
  skip
  focus (refine qT ?_;refine qr ?_;refine qp ?_;refine qz ?_;refine aK ?_;refine qq ?_;refine qs ?_;refine qp ?_;refine qd ?_;refine qz ?_;refine qT ?_;refine qs ?_;refine qt (bu eG) ?_;refine qt (bu bY) ?_;refine qp ?_;(refine qw (aj (cs:=aE (0,0) none 0 0) (ds:=aE (0,0) none 0 0) O O O O (bD _ _ _ _) O) ?_;rintro _ _ rfl);(refine qw (aj (cs:=aO (0,0)) (ds:=aO (0,0)) O O O O (aQ _) O) ?_;rintro _ _ rfl);refine qp ?_;refine qz ?_)
  refine hB _ _ _ _ _ O (.cell O O O inferInstance O (.cell O O O inferInstance O (.tmp O .nil))) fun w' hS=>⟨((none,0),⟨[],O,fun m hm=>absurd hm (by simp)⟩),O,trivial,cF (hS.sublist (List.nil_sublist _))⟩
 rw[if_pos ⟨O,by omega⟩] at hs
 refine dS [pt b3 59 (aN m),pt b2 39 (aE (i,t) A k c)] 12 ?_
 refine dt 0 O (ai (ds:=aN m) O O O O O) ?_
 refine dE 1 O (aq (f:=129) sJ (fun w hS=>mc w m _ hp) O O (fun _=>O)) ?_
 rintro _ _ ⟨_,rfl,_,rfl⟩
 refine nx ?_
 refine dt 2 O (aR O) ?_
 refine dp 3 ?_
 refine dp 4 ?_
 refine dl 5 ?_
 refine dt 6 O (ai (ds:=aE (i,t) A k c) O O O O O) ?_
 refine dE 7 O (aq (f:=124) kU (fun w hS=>kF w (i,t) A c k Q l hk hl ((Srd.old h (fun k _=>ao k)).rd w hS) (by omega) hfit _ hla) O O (fun _=>O)) ?_
 rintro _ _ ⟨_,rfl,_,rfl⟩
 refine nx ?_
 refine dt 8 O (cW (xs:=aO (i+k,lt)) O O O O O O) ?_
 refine eI 9 ?_
 refine dp 10 ?_
 refine dp 11 ?_
 refine dn ?_
 skip
 by_cases hfull:k=16∨i+k=18446744073709551614
 ·rw[if_pos hfull] at hs
  injection hs with e1 e2
  injection e2 with e2 e3
  injection e3 with e3 e4
  subst e1 e2 e3 e4 hK
  by_cases h16:k=16
  ·repeat' (first|refine aa (ay O (by omega)) ?_ O O|refine bM O ?_ O O|refine ax ?_|refine aU ?_ O O|refine aa (ah O O O O) ?_ O O|refine aa (bu eG) ?_ O O|refine aa (bu bY) ?_ O O|refine au O ?_|refine al O O ?_|refine aC O O ?_|refine aA O O ?_|refine aK ?_|(refine bh (aj (cs:=aE (0,0) none 0 0) (ds:=aE (0,0) none 0 0) O O O O (bD _ _ _ _) O) ?_ O;rintro _ _ rfl)|(refine bh (aj (cs:=aO (0,0)) (ds:=aO (0,0)) O O O O (aQ _) O) ?_ O;rintro _ _ rfl))
   refine hB _ _ _ _ _ O (.cell O O O inferInstance O (.cell O O O inferInstance O (.tmp O .nil))) fun w' hS=>⟨((none,0),⟨[],O,fun m hm=>absurd hm (by simp)⟩),O,trivial,cF (hS.sublist (List.nil_sublist _))⟩
  ·focus (refine qF ?_;refine qs ?_;refine qp ?_;refine qt (ah O O O O) ?_;refine qp ?_;refine qf ?_;refine qp ?_;refine qt (ai (ds:=aE (i,t) A k c) O O O O O) ?_;(refine qh kU (fun w hS=>kF w (i,t) A c k Q l hk hl ((Srd.old h (fun k _=>ao k)).rd w hS) (by omega) hfit _ hla) ?_);refine qt (cW (xs:=aO (i+k,lt)) O O O O O O) ?_;(iterate 3 refine qd ?_);refine qz ?_;refine qT ?_;refine qr ?_;refine qp ?_;refine qz ?_;refine aK ?_;refine qq ?_;refine qs ?_;refine qp ?_;refine qd ?_;refine qz ?_;refine qT ?_;refine qs ?_;refine qt (bu eG) ?_;refine qt (bu bY) ?_;refine qp ?_;(refine qw (aj (cs:=aE (0,0) none 0 0) (ds:=aE (0,0) none 0 0) O O O O (bD _ _ _ _) O) ?_;rintro _ _ rfl);(refine qw (aj (cs:=aO (0,0)) (ds:=aO (0,0)) O O O O (aQ _) O) ?_;rintro _ _ rfl);refine qp ?_;refine qz ?_)
   refine hB _ _ _ _ _ O (.cell O O O inferInstance O (.cell O O O inferInstance O (.tmp O .nil))) fun w' hS=>⟨((none,0),⟨[],O,fun m hm=>absurd hm (by simp)⟩),O,trivial,cF (hS.sublist (List.nil_sublist _))⟩
 rw[if_neg hfull,hla8] at hs
 injection hs with e1 e2
 injection e2 with e2 e3
 injection e3 with e3 e4
 subst e1 e2 e3 e4
 have hKK:K=k+1:=by rw[← hK,List.length_append,hll];rfl
 subst hKK
 focus (refine qF ?_;refine qs ?_;refine qp ?_;refine qt (ah O O O O) ?_;refine qp ?_;refine qf ?_;refine qp ?_;refine qt (ai (ds:=aE (i,t) A k c) O O O O O) ?_;(refine qh kU (fun w hS=>kF w (i,t) A c k Q l hk hl ((Srd.old h (fun k _=>ao k)).rd w hS) (by omega) hfit _ hla) ?_);refine qt (cW (xs:=aO (i+k,lt)) O O O O O O) ?_;refine qf ?_;refine qp ?_;refine qp ?_;refine qz ?_;refine qF ?_;refine qx ?_;refine aK ?_;refine qq ?_;refine qs ?_;refine qp ?_;refine qf ?_;refine qz ?_;refine qF ?_;refine qx ?_;refine qq ?_)
 have hl1:[m].map bA=[bA m]:=rfl
 have hk1: ∀ m'∈[m],m'.2.2.2.2.length≤100000:=fun m' h'=>by rw[List.mem_singleton.1 h'];exact hmk
 have hc1:ab aN [m]=aN m:=fI m
 have hd1:lZ w bC ([m].map cR):=fun d hd'=>by
  obtain⟨m',h',rfl⟩:=List.mem_map.1 hd'
  rw[List.mem_singleton.1 h']
  exact hm
 refine dS [pt b3 59 (aN m),pt b2 39 (aE (i,t) A k c)] 12 ?_
 refine dp 0 ?_
 refine dt 1 O (ai (ds:=aO (i,t)) O O O O O) ?_
 refine dp 2 ?_
 refine dl 3 ?_
 refine dt 5 O (ai (ds:=aN m) O O O O O) ?_
 refine lY #[U,U,U,U,U,U,U,U,U,U,U,Y] (fun x:Option Addr×Nat×Sh l×Nat×Option Addr×Nat×Sh [bA m]×Option Addr×Nat×Nat=>[(50,.agg (aE (i,t) x.2.2.2.2.2.2.2.1 (k+1) x.2.2.2.2.2.2.2.2.1).toArray),(8,.pointer (some ⟨x.2.2.2.2.2.2.2.2.2,0,none⟩)),(49,.slice x.2.2.2.2.2.2.2.1 (k+1) x.2.2.2.2.2.2.2.2.1),(48,.slice x.2.2.2.2.1 1 x.2.2.2.2.2.1),(47,.slice (some ⟨x.2.2.2.1,0,none⟩) 1 1),(45,.slice x.1 k x.2.1),(46,.agg (aN m).toArray),(44,.slice A k c),(42,.agg (aO (i,t)).toArray),(4,.pointer (some ⟨b4,0,none⟩)),(5,.pointer (some ⟨b5,0,none⟩))]) (fun x:Option Addr×Nat×Sh l×Nat×Option Addr×Nat×Sh [bA m]×Option Addr×Nat×Nat=>[pt x.2.2.2.2.2.2.2.2.2 39 (aE (0,0) none 0 0),row 59 3 x.2.2.2.2.2.2.2.1 (k+1) x.2.2.2.2.2.2.2.2.1 (ab aN x.2.2.1.1++ab aN x.2.2.2.2.2.2.1.1),dq 5 (x.2.2.1.1.map cR),row 59 3 x.2.2.2.2.1 1 x.2.2.2.2.2.1 (ab aN x.2.2.2.2.2.2.1.1),dq 5 (x.2.2.2.2.2.2.1.1.map cR),pt x.2.2.2.1 59 (aN m),pt b4 39 (aE (0,0) none 0 0),pt b5 36 (aO (0,0)),pt b3 59 (aN m),pt b2 39 (aE (i,t) A k c)]) (fun nd0=>?_) (fun x=>?_)
 refine ct #[U,U,U,U,U,U,U,U,U,U,Y,Y] (fun x:Option Addr×Nat×Sh l×Nat×Option Addr×Nat×Sh [bA m]×Option Addr×Nat=>[(50,.agg (aE (i,t) x.2.2.2.2.2.2.2.1 (k+1) x.2.2.2.2.2.2.2.2).toArray),(49,.slice x.2.2.2.2.2.2.2.1 (k+1) x.2.2.2.2.2.2.2.2),(48,.slice x.2.2.2.2.1 1 x.2.2.2.2.2.1),(47,.slice (some ⟨x.2.2.2.1,0,none⟩) 1 1),(45,.slice x.1 k x.2.1),(46,.agg (aN m).toArray),(44,.slice A k c),(42,.agg (aO (i,t)).toArray),(4,.pointer (some ⟨b4,0,none⟩)),(5,.pointer (some ⟨b5,0,none⟩))]) (fun x:Option Addr×Nat×Sh l×Nat×Option Addr×Nat×Sh [bA m]×Option Addr×Nat=>[row 59 3 x.2.2.2.2.2.2.2.1 (k+1) x.2.2.2.2.2.2.2.2 (ab aN x.2.2.1.1++ab aN x.2.2.2.2.2.2.1.1),dq 5 (x.2.2.1.1.map cR),row 59 3 x.2.2.2.2.1 1 x.2.2.2.2.2.1 (ab aN x.2.2.2.2.2.2.1.1),dq 5 (x.2.2.2.2.2.2.1.1.map cR),pt x.2.2.2.1 59 (aN m),pt b4 39 (aE (0,0) none 0 0),pt b5 36 (aO (0,0)),pt b3 59 (aN m),pt b2 39 (aE (i,t) A k c)]) (fun x=>?_) (fun nd1=>?_)
 ·skip
  obtain⟨A5,c5,P5,vb,A7,c7,P7,A8,c8⟩:=x
  try dsimp only
  refine dE 10 O (am O bP) ?_
  rintro _ _ ⟨b8,rfl,rfl⟩
  refine nx ?_
  have h:=nd0 (A5,c5,P5,vb,A7,c7,P7,A8,c8,b8)
  try dsimp only at h
  exact Da h
 refine ct #[U,U,U,U,U,U,U,U,Y,Y,U,Y] (fun x:Option Addr×Nat×Sh l×Nat×Option Addr×Nat×Sh [bA m]×Nat=>[(8,.pointer (some ⟨x.2.2.2.2.2.2.2,0,none⟩)),(48,.slice x.2.2.2.2.1 1 x.2.2.2.2.2.1),(47,.slice (some ⟨x.2.2.2.1,0,none⟩) 1 1),(45,.slice x.1 k x.2.1),(46,.agg (aN m).toArray),(44,.slice A k c),(42,.agg (aO (i,t)).toArray),(4,.pointer (some ⟨b4,0,none⟩)),(5,.pointer (some ⟨b5,0,none⟩))]) (fun x:Option Addr×Nat×Sh l×Nat×Option Addr×Nat×Sh [bA m]×Nat=>[pt x.2.2.2.2.2.2.2 39 (aE (0,0) none 0 0),row 59 3 x.2.2.2.2.1 1 x.2.2.2.2.2.1 (ab aN x.2.2.2.2.2.2.1.1),dq 5 (x.2.2.2.2.2.2.1.1.map cR),pt x.2.2.2.1 59 (aN m),row 59 3 x.1 k x.2.1 (ab aN x.2.2.1.1),dq 5 (x.2.2.1.1.map cR),pt b4 39 (aE (0,0) none 0 0),pt b5 36 (aO (0,0)),pt b3 59 (aN m),pt b2 39 (aE (i,t) A k c)]) (fun x=>?_) (fun nd2=>?_)
 ·skip
  obtain⟨A5,c5,P5,vb,A7,c7,P7,b8⟩:=x
  try dsimp only
  refine dE 8 O (gd (sz:=3) (m:=k) (c:=c5) (A:=A5) O O O O O O O (by decide) (Srd.row (A:=A7) (n:=1) (c:=c7)) (kB P7.1) (by show (k+1)*40≤_;omega) (by unfold maxLen;omega)) ?_
  rintro _ _ ⟨A8,c8,rfl,rfl⟩
  refine nx ?_
  refine dt 9 O (bS O O (fd (i,t) _ _ _)) ?_
  have h:=nd0 (A5,c5,P5,vb,A7,c7,P7,A8,c8,b8)
  try dsimp only at h
  exact Da h
 refine ct #[U,U,U,U,U,U,U,U,Y,Y,Y,Y] (fun x:Option Addr×Nat×Sh l×Nat×Option Addr×Nat×Sh [bA m]=>[(48,.slice x.2.2.2.2.1 1 x.2.2.2.2.2.1),(47,.slice (some ⟨x.2.2.2.1,0,none⟩) 1 1),(45,.slice x.1 k x.2.1),(46,.agg (aN m).toArray),(44,.slice A k c),(42,.agg (aO (i,t)).toArray),(4,.pointer (some ⟨b4,0,none⟩)),(5,.pointer (some ⟨b5,0,none⟩))]) (fun x:Option Addr×Nat×Sh l×Nat×Option Addr×Nat×Sh [bA m]=>[row 59 3 x.2.2.2.2.1 1 x.2.2.2.2.2.1 (ab aN x.2.2.2.2.2.2.1),dq 5 (x.2.2.2.2.2.2.1.map cR),pt x.2.2.2.1 59 (aN m),row 59 3 x.1 k x.2.1 (ab aN x.2.2.1.1),dq 5 (x.2.2.1.1.map cR),pt b4 39 (aE (0,0) none 0 0),pt b5 36 (aO (0,0)),pt b3 59 (aN m),pt b2 39 (aE (i,t) A k c)]) (fun x=>?_) (fun nd3=>?_)
 ·skip
  obtain⟨A5,c5,P5,vb,A7,c7,P7⟩:=x
  try dsimp only
  refine fb 8 10 (by decide) O O (gd (sz:=3) (m:=k) (c:=c5) (A:=A5) O O O O O O O (by decide) (Srd.row (A:=A7) (n:=1) (c:=c7)) (kB P7.1) (by show (k+1)*40≤_;omega) (by unfold maxLen;omega)) (am O bP) ?_ ?_ O O O O (by kernel_rfl)
  ·rintro _ _ ⟨A8,c8,rfl,rfl⟩
   refine nx ?_
   refine dt 9 O (bS O O (fd (i,t) _ _ _)) ?_
   have h:=nd1 (A5,c5,P5,vb,A7,c7,P7,A8,c8)
   try dsimp only at h
   exact Da h
  ·rintro _ _ ⟨b8,rfl,rfl⟩
   refine nx ?_
   have h:=nd2 (A5,c5,P5,vb,A7,c7,P7,b8)
   try dsimp only at h
   exact Da h
 refine ct #[U,U,U,U,U,U,U,Y,Y,Y,U,Y] (fun x:Option Addr×Nat×Sh l×Nat×Nat=>[(8,.pointer (some ⟨x.2.2.2.2,0,none⟩)),(47,.slice (some ⟨x.2.2.2.1,0,none⟩) 1 1),(45,.slice x.1 k x.2.1),(46,.agg (aN m).toArray),(44,.slice A k c),(42,.agg (aO (i,t)).toArray),(4,.pointer (some ⟨b4,0,none⟩)),(5,.pointer (some ⟨b5,0,none⟩))]) (fun x:Option Addr×Nat×Sh l×Nat×Nat=>[pt x.2.2.2.2 39 (aE (0,0) none 0 0),pt x.2.2.2.1 59 (aN m),row 59 3 x.1 k x.2.1 (ab aN x.2.2.1.1),dq 5 (x.2.2.1.1.map cR),pt b4 39 (aE (0,0) none 0 0),pt b5 36 (aO (0,0)),pt b3 59 (aN m),pt b2 39 (aE (i,t) A k c)]) (fun x=>?_) (fun nd4=>?_)
 ·skip
  obtain⟨A5,c5,P5,vb,b8⟩:=x
  try dsimp only
  refine dE 7 O (eD (f:=130) nz (fun w hS=>iq w (some ⟨vb,0,none⟩) 1 1 [m] [bA m] O hl1 (by rw[hc1];exact(Srd.pt (n:=1) (g:=vb) (ds:=aN m) O (fun j u hj=>by rw[Nat.zero_add];exact hj)).rd w hS) ((SDt.old hd1 (fun k _=>ao k)).rd w hS) (by omega) hk1) O O) ?_
  rintro _ _ ⟨⟨⟨A7,c7⟩,P7⟩,rfl,_,rfl⟩;dsimp only[List.cons_append,List.nil_append]
  refine nx ?_
  have h:=nd2 (A5,c5,P5,vb,A7,c7,P7,b8)
  try dsimp only at h
  exact Da h
 refine ct #[U,U,U,U,U,U,U,Y,Y,Y,Y,Y] (fun x:Option Addr×Nat×Sh l×Nat=>[(47,.slice (some ⟨x.2.2.2,0,none⟩) 1 1),(45,.slice x.1 k x.2.1),(46,.agg (aN m).toArray),(44,.slice A k c),(42,.agg (aO (i,t)).toArray),(4,.pointer (some ⟨b4,0,none⟩)),(5,.pointer (some ⟨b5,0,none⟩))]) (fun x:Option Addr×Nat×Sh l×Nat=>[pt x.2.2.2 59 (aN m),row 59 3 x.1 k x.2.1 (ab aN x.2.2.1.1),dq 5 (x.2.2.1.1.map cR),pt b4 39 (aE (0,0) none 0 0),pt b5 36 (aO (0,0)),pt b3 59 (aN m),pt b2 39 (aE (i,t) A k c)]) (fun x=>?_) (fun nd5=>?_)
 ·skip
  obtain⟨A5,c5,P5,vb⟩:=x
  try dsimp only
  refine fb 7 10 (by decide) O O (eD (f:=130) nz (fun w hS=>iq w (some ⟨vb,0,none⟩) 1 1 [m] [bA m] O hl1 (by rw[hc1];exact(Srd.pt (n:=1) (g:=vb) (ds:=aN m) O (fun j u hj=>by rw[Nat.zero_add];exact hj)).rd w hS) ((SDt.old hd1 (fun k _=>ao k)).rd w hS) (by omega) hk1) O O) (am O bP) ?_ ?_ O O O O (by kernel_rfl)
  ·rintro _ _ ⟨⟨⟨A7,c7⟩,P7⟩,rfl,_,rfl⟩;dsimp only[List.cons_append,List.nil_append]
   refine nx ?_
   have h:=nd3 (A5,c5,P5,vb,A7,c7,P7)
   try dsimp only at h
   exact Da h
  ·rintro _ _ ⟨b8,rfl,rfl⟩
   refine nx ?_
   have h:=nd4 (A5,c5,P5,vb,b8)
   try dsimp only at h
   exact Da h
 refine ct #[U,U,U,U,U,U,Y,Y,Y,Y,U,Y] (fun x:Option Addr×Nat×Sh l×Nat=>[(8,.pointer (some ⟨x.2.2.2,0,none⟩)),(45,.slice x.1 k x.2.1),(46,.agg (aN m).toArray),(44,.slice A k c),(42,.agg (aO (i,t)).toArray),(4,.pointer (some ⟨b4,0,none⟩)),(5,.pointer (some ⟨b5,0,none⟩))]) (fun x:Option Addr×Nat×Sh l×Nat=>[pt x.2.2.2 39 (aE (0,0) none 0 0),row 59 3 x.1 k x.2.1 (ab aN x.2.2.1.1),dq 5 (x.2.2.1.1.map cR),pt b4 39 (aE (0,0) none 0 0),pt b5 36 (aO (0,0)),pt b3 59 (aN m),pt b2 39 (aE (i,t) A k c)]) (fun x=>?_) (fun nd6=>?_)
 ·skip
  obtain⟨A5,c5,P5,b8⟩:=x
  try dsimp only
  refine dE 6 O (cK (vs:=[.agg (aN m).toArray]) (size:=3) (ds:=aN m) O O O O O O (by simp[aV,bW]) (by simp[aV]) (by omega)) ?_
  rintro _ _ ⟨vb,rfl,rfl⟩
  refine nx ?_
  have h:=nd4 (A5,c5,P5,vb,b8)
  try dsimp only at h
  exact Da h
 refine ct #[U,U,U,U,Y,U,U,Y,Y,Y,U,Y] (fun x:Nat×Nat=>[(8,.pointer (some ⟨x.2,0,none⟩)),(47,.slice (some ⟨x.1,0,none⟩) 1 1),(46,.agg (aN m).toArray),(44,.slice A k c),(42,.agg (aO (i,t)).toArray),(4,.pointer (some ⟨b4,0,none⟩)),(5,.pointer (some ⟨b5,0,none⟩))]) (fun x:Nat×Nat=>[pt x.2 39 (aE (0,0) none 0 0),pt x.1 59 (aN m),pt b4 39 (aE (0,0) none 0 0),pt b5 36 (aO (0,0)),pt b3 59 (aN m),pt b2 39 (aE (i,t) A k c)]) (fun x=>?_) (fun nd7=>?_)
 ·skip
  obtain⟨vb,b8⟩:=x
  try dsimp only
  refine dE 4 O (eD (f:=130) nz (fun w hS=>iq w A c k Q l hk hl ((Srd.old h (fun k _=>ao k)).rd w hS) ((SDt.old hd (fun k _=>ao k)).rd w hS) (by omega) hkk) O O) ?_
  rintro _ _ ⟨⟨⟨A5,c5⟩,P5⟩,rfl,_,rfl⟩;dsimp only[List.cons_append,List.nil_append]
  refine nx ?_
  have h:=nd4 (A5,c5,P5,vb,b8)
  try dsimp only at h
  exact Da h
 refine ct #[U,U,U,U,U,U,Y,Y,Y,Y,Y,Y] (fun x:Option Addr×Nat×Sh l=>[(45,.slice x.1 k x.2.1),(46,.agg (aN m).toArray),(44,.slice A k c),(42,.agg (aO (i,t)).toArray),(4,.pointer (some ⟨b4,0,none⟩)),(5,.pointer (some ⟨b5,0,none⟩))]) (fun x:Option Addr×Nat×Sh l=>[row 59 3 x.1 k x.2.1 (ab aN x.2.2.1),dq 5 (x.2.2.1.map cR),pt b4 39 (aE (0,0) none 0 0),pt b5 36 (aO (0,0)),pt b3 59 (aN m),pt b2 39 (aE (i,t) A k c)]) (fun x=>?_) (fun nd8=>?_)
 ·skip
  obtain⟨A5,c5,P5⟩:=x
  try dsimp only
  refine fb 6 10 (by decide) O O (cK (vs:=[.agg (aN m).toArray]) (size:=3) (ds:=aN m) O O O O O O (by simp[aV,bW]) (by simp[aV]) (by omega)) (am O bP) ?_ ?_ O O O O (by kernel_rfl)
  ·rintro _ _ ⟨vb,rfl,rfl⟩
   refine nx ?_
   have h:=nd5 (A5,c5,P5,vb)
   try dsimp only at h
   exact Da h
  ·rintro _ _ ⟨b8,rfl,rfl⟩
   refine nx ?_
   have h:=nd6 (A5,c5,P5,b8)
   try dsimp only at h
   exact Da h
 refine ct #[U,U,U,U,Y,U,U,Y,Y,Y,Y,Y] (fun x:Nat=>[(47,.slice (some ⟨x,0,none⟩) 1 1),(46,.agg (aN m).toArray),(44,.slice A k c),(42,.agg (aO (i,t)).toArray),(4,.pointer (some ⟨b4,0,none⟩)),(5,.pointer (some ⟨b5,0,none⟩))]) (fun x:Nat=>[pt x 59 (aN m),pt b4 39 (aE (0,0) none 0 0),pt b5 36 (aO (0,0)),pt b3 59 (aN m),pt b2 39 (aE (i,t) A k c)]) (fun x=>?_) (fun nd9=>?_)
 ·skip
  revert x;intro vb
  try dsimp only
  refine fb 4 10 (by decide) O O (eD (f:=130) nz (fun w hS=>iq w A c k Q l hk hl ((Srd.old h (fun k _=>ao k)).rd w hS) ((SDt.old hd (fun k _=>ao k)).rd w hS) (by omega) hkk) O O) (am O bP) ?_ ?_ O O O O (by kernel_rfl)
  ·rintro _ _ ⟨⟨⟨A5,c5⟩,P5⟩,rfl,_,rfl⟩;dsimp only[List.cons_append,List.nil_append]
   refine nx ?_
   have h:=nd5 (A5,c5,P5,vb)
   try dsimp only at h
   exact Da h
  ·rintro _ _ ⟨b8,rfl,rfl⟩
   refine nx ?_
   have h:=nd7 (vb,b8)
   try dsimp only at h
   exact Da h
 refine ct #[U,U,U,U,Y,U,Y,Y,Y,Y,U,Y] (fun x:Nat=>[(8,.pointer (some ⟨x,0,none⟩)),(46,.agg (aN m).toArray),(44,.slice A k c),(42,.agg (aO (i,t)).toArray),(4,.pointer (some ⟨b4,0,none⟩)),(5,.pointer (some ⟨b5,0,none⟩))]) (fun x:Nat=>[pt x 39 (aE (0,0) none 0 0),pt b4 39 (aE (0,0) none 0 0),pt b5 36 (aO (0,0)),pt b3 59 (aN m),pt b2 39 (aE (i,t) A k c)]) (fun x=>?_) (fun nd10=>?_)
 ·skip
  revert x;intro b8
  try dsimp only
  refine fb 4 6 (by decide) O O (eD (f:=130) nz (fun w hS=>iq w A c k Q l hk hl ((Srd.old h (fun k _=>ao k)).rd w hS) ((SDt.old hd (fun k _=>ao k)).rd w hS) (by omega) hkk) O O) (cK (vs:=[.agg (aN m).toArray]) (size:=3) (ds:=aN m) O O O O O O (by simp[aV,bW]) (by simp[aV]) (by omega)) ?_ ?_ O O O O (by kernel_rfl)
  ·rintro _ _ ⟨⟨⟨A5,c5⟩,P5⟩,rfl,_,rfl⟩;dsimp only[List.cons_append,List.nil_append]
   refine nx ?_
   have h:=nd6 (A5,c5,P5,b8)
   try dsimp only at h
   exact Da h
  ·rintro _ _ ⟨vb,rfl,rfl⟩
   refine nx ?_
   have h:=nd7 (vb,b8)
   try dsimp only at h
   exact Da h
 refine ct #[U,U,U,U,Y,U,Y,Y,Y,Y,Y,Y] (fun _:Unit=>[(46,.agg (aN m).toArray),(44,.slice A k c),(42,.agg (aO (i,t)).toArray),(4,.pointer (some ⟨b4,0,none⟩)),(5,.pointer (some ⟨b5,0,none⟩))]) (fun _:Unit=>[pt b4 39 (aE (0,0) none 0 0),pt b5 36 (aO (0,0)),pt b3 59 (aN m),pt b2 39 (aE (i,t) A k c)]) (fun x=>?_) (fun nd11=>?_)
 ·skip
  obtain⟨⟩:=x
  try dsimp only
  refine rk 4 6 10 O O O (eD (f:=130) nz (fun w hS=>iq w A c k Q l hk hl ((Srd.old h (fun k _=>ao k)).rd w hS) ((SDt.old hd (fun k _=>ao k)).rd w hS) (by omega) hkk) O O) (cK (vs:=[.agg (aN m).toArray]) (size:=3) (ds:=aN m) O O O O O O (by simp[aV,bW]) (by simp[aV]) (by omega)) (am O bP) ?_ ?_ ?_ O O O O O O (by kernel_rfl)
  ·rintro _ _ ⟨⟨⟨A5,c5⟩,P5⟩,rfl,_,rfl⟩;dsimp only[List.cons_append,List.nil_append]
   refine nx ?_
   have h:=nd8 (A5,c5,P5)
   try dsimp only at h
   exact Da h
  ·rintro _ _ ⟨vb,rfl,rfl⟩
   refine nx ?_
   have h:=nd9 (vb)
   try dsimp only at h
   exact Da h
  ·rintro _ _ ⟨b8,rfl,rfl⟩
   refine nx ?_
   have h:=nd10 (b8)
   try dsimp only at h
   exact Da h
 have h:=nd11 ()
 try dsimp only at h
 exact Da h
 obtain⟨A5,c5,P5,vb,A7,c7,P7,A8,c8,b8⟩:=x
 try dsimp only
 refine dE 11 O (aj (cs:=aE (0,0) none 0 0) (ds:=aE (i,t) A8 (k+1) c8) O O O O (bD _ _ _ _) O) ?_
 rintro _ _ rfl
 refine nx ?_
 refine dn ?_
 skip
 have hl5:P5.1.length=k:=(pS P5.2.1).trans hll
 have hl7:P7.1.length=1:=(pS P7.2.1).trans O
 focus (refine qq ?_)
 refine dS [pt b8 39 (aE (i,t) A8 (k+1) c8)] 6 ?_
 refine dt 0 O (ai (ds:=aE (i,t) A8 (k+1) c8) O O O O O) ?_
 refine dt 1 O (ai (ds:=aE (i,t) A8 (k+1) c8) O O O O O) ?_
 refine dE 2 O (aq (f:=124) kU (fun w hS=>kF w (i,t) A8 c8 (k+1) (P5.1++P7.1) (l++[bA m]) (by rw[List.length_append,hl5,hl7]) (by rw[List.map_append,P5.2.1,P7.2.1]) (by rw[dC];exact((Srd.row (A:=A8) (n:=(k+1)) (c:=c8)).rd w hS)) (by omega) (by show i+(k+1)≤_;omega) _ hla8) O O (fun _=>O)) ?_
 rintro _ _ ⟨_,rfl,_,rfl⟩
 refine nx ?_
 refine dE 3 O (aj (cs:=aE (0,0) none 0 0) (ds:=aE (i,t) A8 (k+1) c8) O O O O (bD _ _ _ _) O) ?_
 rintro _ _ rfl
 refine nx ?_
 refine dE 4 O (aj (cs:=aO (0,0)) (ds:=aO (i+(k+1),m.1)) O O O O (aQ _) O) ?_
 rintro _ _ rfl
 refine nx ?_
 refine dp 5 ?_
 refine dn ?_
 skip
 skip
 refine hB _ _ _ _ _ O (.cell O O O inferInstance O (.cell O O O inferInstance O (.tmp O .nil))) fun w' hS=>⟨((A8,c8),⟨P5.1++P7.1,by rw[List.map_append,P5.2.1,P7.2.1],fun m hm=>(List.mem_append.1 hm).elim (P5.2.2 m) (P7.2.2 m)⟩),O,trivial,?_⟩
 dsimp only
 rw[dC,List.map_append]
 have h9:=ae (H':=[dq 5 (P5.1.map cR),dq 5 (P7.1.map cR),row 59 3 A8 (k+1) c8 (ab aN P5.1++ab aN P7.1)]) w' hS
 have h10:=nu h9
 exact ae w' h10
end Go.Proofs.YtdeffdldifepkaaGreat
namespace Go.Proofs.YtdeffdldifepkaaGreat
open Go.RowKit Go.ChangeShapes Go.WideShapes Go.ChangeAt
open Asn (pt row rb)
set_option linter.unusedVariables false
set_option linter.unusedSimpArgs false
theorem xD {a:At} {l:List En} {x:En} {e:Int} {p b:At} {r:List En} (h:app a l x=(e,p,b,r)):r.length≤l.length+1∧ ∀ y∈r,y∈l∨y=x:=by
 have:r=[]∨r=l++[x]:=by
  unfold app at h
  split at h
  ·split at h
   ·split at h
    ·injection h with _ e2
     injection e2 with _ e3
     injection e3 with _ e4
     exact .inl e4.symm
    ·injection h with _ e2
     injection e2 with _ e3
     injection e3 with _ e4
     exact .inr e4.symm
   ·injection h with _ e2
    injection e2 with _ e3
    injection e3 with _ e4
    exact .inl e4.symm
  ·injection h with _ e2
   injection e2 with _ e3
   injection e3 with _ e4
   exact .inl e4.symm
 rcases this with rfl|rfl
 ·exact⟨Nat.zero_le _,fun y hy=>absurd hy (by simp)⟩
 ·exact⟨by rw[List.length_append];exact Nat.le_refl _,fun y hy=>(List.mem_append.1 hy).imp id fun h=>List.mem_singleton.1 h⟩
end Go.Proofs.YtdeffdldifepkaaGreat
