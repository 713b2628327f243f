/- Lemmas of the proof, part 2. -/
import Derived.Test.YtdeffdldifepkaaGreatProg
import Derived.Deep.QuietTactic
import Derived.BigQuiet
import Derived.Test.YtdeffdldifepkaaGreatZp1
set_option maxRecDepth 100000
set_option maxHeartbeats 4000000
namespace Go.Proofs.YtdeffdldifepkaaGreat
open Go.RowKit
open Asn (pt row rb)
set_option linter.unusedVariables false
section
variable {P:Program} {ro:Option Nat} {ds:List Deferred} {B:Bk ro ds} {n:Nat} {w0:World} {M:Nat→Prop} {k:List It} {T:Slots} {H C:List Asn} {d:Tmp} {dd:Option Tmp} {tt:TypeId} {pos:String} {af:Array Edge} {g:Option (Nat×Bool)} {l σ:List Oper} {op:Op} {v:Value} {c:Code} {x:Operand} {L:Array Bool}
theorem qp [HasTab P] (h:RG P B n w0 M l k σ ((d,v)::T) H) (hr:pev P T op=some v:=by exact rfl) (hw:wants l T g=some true:=by exact rfl) (hd:dok n (some d)=true:=by exact rfl):RG P B n w0 M l k (⟨some d,op,tt,pos,af,g⟩::σ) T H:=R_p hr h hw hd
theorem qk (h:RG P B n w0 M l k σ ((d,undef)::T) H) (hw:wants l T g=some false:=by exact rfl) (hd:dok n (some d)=true:=by exact rfl):RG P B n w0 M l k (⟨some d,op,tt,pos,af,g⟩::σ) T H:=R_skip h hw hd
theorem qd [HasTab P] (h:RG P B n w0 M l k σ ((d,.bool true)::T) H) (ht:Tk P n w0 M T H ⟨some d,op,tt,pos,af,g⟩ (.bool true):=by first|exact T_decT rfl (by omega)|exact pev_ok rfl) (hw:wants l T g=some true:=by exact rfl) (hd:dok n (some d)=true:=by exact rfl):RG P B n w0 M l k (⟨some d,op,tt,pos,af,g⟩::σ) T H:=R_take ht h hw hd
theorem qf [HasTab P] (h:RG P B n w0 M l k σ ((d,.bool false)::T) H) (ht:Tk P n w0 M T H ⟨some d,op,tt,pos,af,g⟩ (.bool false):=by first|exact T_decF rfl (by omega)|exact pev_ok rfl) (hw:wants l T g=some true:=by exact rfl) (hd:dok n (some d)=true:=by exact rfl):RG P B n w0 M l k (⟨some d,op,tt,pos,af,g⟩::σ) T H:=R_take ht h hw hd
theorem qt (hr:Tk P n w0 M T H ⟨some d,op,tt,pos,af,g⟩ v) (h:RG P B n w0 M l k σ ((d,v)::T) H) (hw:wants l T g=some true:=by exact rfl) (hd:dok n (some d)=true:=by exact rfl):RG P B n w0 M l k (⟨some d,op,tt,pos,af,g⟩::σ) T H:=R_take hr h hw hd
theorem qe {E:Value→List Asn→Prop} (hr:Ef P n w0 M T H ⟨some d,op,tt,pos,af,g⟩ E) (h: ∀ v H',E v H'→RG P B n w0 M l k σ ((d,v)::T) H') (hw:wants l T g=some true:=by exact rfl) (hd:dok n (some d)=true:=by exact rfl):RG P B n w0 M l k (⟨some d,op,tt,pos,af,g⟩::σ) T H:=R_eff hr h hw hd
theorem qw {E:Value→List Asn→Prop} (hr:Ef P n w0 M T H ⟨none,op,tt,pos,af,g⟩ E) (h: ∀ v H',E v H'→RG P B n w0 M l k σ T H') (hw:wants l T g=some true:=by exact rfl):RG P B n w0 M l k (⟨none,op,tt,pos,af,g⟩::σ) T H:=R_eff0 hr h hw
theorem qh [HasTab P] {f:FuncId} {xs:Array Operand} {ts:Array TypeId} {vs vs':List Value} {I:Unit→Prop} {V:Unit→Value} (hf:Fn_ P f) (hc: ∀ w,St w0 M H w→Gives P f vs' [] w (X:=Unit) V I (fun _=>[])) (h:RG P B n w0 M l k σ ((d,V ())::T) H) (hx:ogets T xs.toList=some vs:=by exact rfl) (hv:vs=vs':=by exact rfl) (hw:wants l T g=some true:=by exact rfl) (hd:dok n (some d)=true:=by exact rfl):RG P B n w0 M l k (⟨some d,.call ⟨.value (.func f),xs,ts⟩,tt,pos,af,g⟩::σ) T H:=by
 subst hv
 refine R_eff (E_gv0 hf hx hc fun _=>rfl) ?_ hw hd
 rintro _ _ ⟨⟨⟩,rfl,_,rfl⟩
 exact h
theorem qE {w:World} {H:List Asn} {V:Unit→Value} {u:Value} (he:u=V ()): ∀ w',St w (owns []) H w'→ ∃ x:Unit,u=V x∧True∧St w (owns []) [] w':=fun w' hS=>⟨(),he,trivial,hS.sublist (List.nil_sublist _)⟩
theorem qz (h:RS P B n w0 M k T H):RG P B n w0 M l k [] T H:=R_nil h
theorem qr {l:List Oper} (h:RG P B n w0 M (regL c) k l T H) (hk:kind c= .region false:=by exact rfl) (hl:regL c=l:=by exact rfl):RS P B n w0 M (.code c::k) T H:=S_region hk hl h
theorem qq (h:RS P B n w0 M (.code (c1 c):: .code (c2 c)::k) T H) (hk:kind c= .seq:=by exact rfl):RS P B n w0 M (.code c::k) T H:=S_seq hk h
theorem qs {l:List Oper} (h:RG P B n w0 M (regL (c1 c)) (.code (c2 c)::k) l T H) (hk:kind c= .seq:=by exact rfl) (hk2:kind (c1 c)= .region false:=by exact rfl) (hl:regL (c1 c)=l:=by exact rfl):RS P B n w0 M (.code c::k) T H:=S_seq hk (S_region hk2 hl h)
theorem qn {l l':List Oper} (h:RG P B n w0 M (regL (c1 c)) (.code (c2 c)::k) l T H) (hk:kind c= .seq:=by exact rfl) (hk2:kind (c1 c)= .region false:=by exact rfl) (hl:regL (c1 c)=l:=by exact rfl):RG P B n w0 M l' (.code c::k) [] T H:=R_nil (S_seq hk (S_region hk2 hl h))
theorem qT (h:RS P B n w0 M (.code (c1 c)::k) T H) (hk:kind c= .cond x:=by exact rfl) (hc:oget T x=some (.bool true):=by exact rfl):RS P B n w0 M (.code c::k) T H:=S_true hk hc h
theorem qF (h:RS P B n w0 M (.code (c2 c)::k) T H) (hk:kind c= .cond x:=by exact rfl) (hc:oget T x=some (.bool false):=by exact rfl):RS P B n w0 M (.code c::k) T H:=S_false hk hc h
theorem qx (h:RS P B n w0 M k T H) (hk:kind c= .skip:=by exact rfl):RS P B n w0 M (.code c::k) T H:=S_skip hk h
theorem qb {id:Nat} (h:RS P B n w0 M (.code (c1 c):: .blk id::k) T H) (hk:kind c= .block id:=by exact rfl):RS P B n w0 M (.code c::k) T H:=S_block hk h
theorem dt (i:Nat) (ho:l[i]? =some ⟨some d,op,tt,pos,af,g⟩) (ht:Tk P n w0 M T C ⟨some d,op,tt,pos,af,g⟩ v) (h:RD P B n w0 M l k (L.setIfInBounds i true) C ((d,v)::T) H)
  (hw:wants l T g=some true:=by exact rfl) (hd:dok n (some d)=true:=by exact rfl) (hf:Region.free .any l.toArray L i=true:=by kernel_rfl) (hr:(Region.ready .any l.toArray L).contains i=true:=by kernel_rfl):RD P B n w0 M l k L C T H:=D_take i ho ht h hw hd hf hr
end
end Go.Proofs.YtdeffdldifepkaaGreat
namespace Go.Proofs.YtdeffdldifepkaaGreat
open Go.RowKit
theorem F2:Fn_ Tryz.prog 2:=⟨_,Tryz.func2,rfl,by kernel_rfl⟩
theorem F9:Fn_ Tryz.prog 9:=⟨_,Tryz.func9,rfl,by kernel_rfl⟩
theorem F10:Fn_ Tryz.prog 10:=⟨_,Tryz.func10,rfl,by kernel_rfl⟩
theorem F14:Fn_ Tryz.prog 14:=⟨_,Tryz.func14,rfl,by kernel_rfl⟩
theorem F16:Fn_ Tryz.prog 16:=⟨_,Tryz.func16,rfl,by kernel_rfl⟩
theorem F18:Fn_ Tryz.prog 18:=⟨_,Tryz.func18,rfl,by kernel_rfl⟩
theorem F19:Fn_ Tryz.prog 19:=⟨_,Tryz.func19,rfl,by kernel_rfl⟩
theorem F20:Fn_ Tryz.prog 20:=⟨_,Tryz.func20,rfl,by kernel_rfl⟩
theorem F21:Fn_ Tryz.prog 21:=⟨_,Tryz.func21,rfl,by kernel_rfl⟩
theorem F22:Fn_ Tryz.prog 22:=⟨_,Tryz.func22,rfl,by kernel_rfl⟩
theorem F23:Fn_ Tryz.prog 23:=⟨_,Tryz.func23,rfl,by kernel_rfl⟩
theorem F24:Fn_ Tryz.prog 24:=⟨_,Tryz.func24,rfl,by kernel_rfl⟩
theorem F27:Fn_ Tryz.prog 27:=⟨_,Tryz.func27,rfl,by kernel_rfl⟩
theorem F30:Fn_ Tryz.prog 30:=⟨_,Tryz.func30,rfl,by kernel_rfl⟩
theorem F31:Fn_ Tryz.prog 31:=⟨_,Tryz.func31,rfl,by kernel_rfl⟩
theorem F32:Fn_ Tryz.prog 32:=⟨_,Tryz.func32,rfl,by kernel_rfl⟩
theorem F33:Fn_ Tryz.prog 33:=⟨_,Tryz.func33,rfl,by kernel_rfl⟩
theorem F34:Fn_ Tryz.prog 34:=⟨_,Tryz.func34,rfl,by kernel_rfl⟩
theorem F35:Fn_ Tryz.prog 35:=⟨_,Tryz.func35,rfl,by kernel_rfl⟩
theorem F36:Fn_ Tryz.prog 36:=⟨_,Tryz.func36,rfl,by kernel_rfl⟩
theorem F37:Fn_ Tryz.prog 37:=⟨_,Tryz.func37,rfl,by kernel_rfl⟩
theorem F39:Fn_ Tryz.prog 39:=⟨_,Tryz.func39,rfl,by kernel_rfl⟩
theorem F40:Fn_ Tryz.prog 40:=⟨_,Tryz.func40,rfl,by kernel_rfl⟩
theorem F42:Fn_ Tryz.prog 42:=⟨_,Tryz.func42,rfl,by kernel_rfl⟩
theorem F43:Fn_ Tryz.prog 43:=⟨_,Tryz.func43,rfl,by kernel_rfl⟩
theorem F44:Fn_ Tryz.prog 44:=⟨_,Tryz.func44,rfl,by kernel_rfl⟩
theorem F45:Fn_ Tryz.prog 45:=⟨_,Tryz.func45,rfl,by kernel_rfl⟩
theorem F46:Fn_ Tryz.prog 46:=⟨_,Tryz.func46,rfl,by kernel_rfl⟩
theorem F47:Fn_ Tryz.prog 47:=⟨_,Tryz.func47,rfl,by kernel_rfl⟩
theorem F48:Fn_ Tryz.prog 48:=⟨_,Tryz.func48,rfl,by kernel_rfl⟩
theorem F49:Fn_ Tryz.prog 49:=⟨_,Tryz.func49,rfl,by kernel_rfl⟩
theorem F50:Fn_ Tryz.prog 50:=⟨_,Tryz.func50,rfl,by kernel_rfl⟩
theorem F51:Fn_ Tryz.prog 51:=⟨_,Tryz.func51,rfl,by kernel_rfl⟩
theorem F52:Fn_ Tryz.prog 52:=⟨_,Tryz.func52,rfl,by kernel_rfl⟩
theorem F53:Fn_ Tryz.prog 53:=⟨_,Tryz.func53,rfl,by kernel_rfl⟩
theorem F54:Fn_ Tryz.prog 54:=⟨_,Tryz.func54,rfl,by kernel_rfl⟩
theorem F55:Fn_ Tryz.prog 55:=⟨_,Tryz.func55,rfl,by kernel_rfl⟩
theorem F56:Fn_ Tryz.prog 56:=⟨_,Tryz.func56,rfl,by kernel_rfl⟩
theorem F57:Fn_ Tryz.prog 57:=⟨_,Tryz.func57,rfl,by kernel_rfl⟩
theorem F58:Fn_ Tryz.prog 58:=⟨_,Tryz.func58,rfl,by kernel_rfl⟩
theorem F59:Fn_ Tryz.prog 59:=⟨_,Tryz.func59,rfl,by kernel_rfl⟩
theorem F60:Fn_ Tryz.prog 60:=⟨_,Tryz.func60,rfl,by kernel_rfl⟩
theorem F62:Fn_ Tryz.prog 62:=⟨_,Tryz.func62,rfl,by kernel_rfl⟩
theorem F63:Fn_ Tryz.prog 63:=⟨_,Tryz.func63,rfl,by kernel_rfl⟩
theorem F64:Fn_ Tryz.prog 64:=⟨_,Tryz.func64,rfl,by kernel_rfl⟩
theorem F65:Fn_ Tryz.prog 65:=⟨_,Tryz.func65,rfl,by kernel_rfl⟩
theorem F66:Fn_ Tryz.prog 66:=⟨_,Tryz.func66,rfl,by kernel_rfl⟩
theorem F67:Fn_ Tryz.prog 67:=⟨_,Tryz.func67,rfl,by kernel_rfl⟩
theorem F68:Fn_ Tryz.prog 68:=⟨_,Tryz.func68,rfl,by kernel_rfl⟩
theorem F69:Fn_ Tryz.prog 69:=⟨_,Tryz.func69,rfl,by kernel_rfl⟩
theorem F70:Fn_ Tryz.prog 70:=⟨_,Tryz.func70,rfl,by kernel_rfl⟩
theorem F71:Fn_ Tryz.prog 71:=⟨_,Tryz.func71,rfl,by kernel_rfl⟩
theorem F72:Fn_ Tryz.prog 72:=⟨_,Tryz.func72,rfl,by kernel_rfl⟩
theorem F73:Fn_ Tryz.prog 73:=⟨_,Tryz.func73,rfl,by kernel_rfl⟩
theorem F75:Fn_ Tryz.prog 75:=⟨_,Tryz.func75,rfl,by kernel_rfl⟩
theorem F79:Fn_ Tryz.prog 79:=⟨_,Tryz.func79,rfl,by kernel_rfl⟩
theorem F84:Fn_ Tryz.prog 84:=⟨_,Tryz.func84,rfl,by kernel_rfl⟩
theorem F87:Fn_ Tryz.prog 87:=⟨_,Tryz.func87,rfl,by kernel_rfl⟩
theorem F92:Fn_ Tryz.prog 92:=⟨_,Tryz.func92,rfl,by kernel_rfl⟩
theorem F93:Fn_ Tryz.prog 93:=⟨_,Tryz.func93,rfl,by kernel_rfl⟩
theorem F94:Fn_ Tryz.prog 94:=⟨_,Tryz.func94,rfl,by kernel_rfl⟩
theorem F95:Fn_ Tryz.prog 95:=⟨_,Tryz.func95,rfl,by kernel_rfl⟩
theorem F96:Fn_ Tryz.prog 96:=⟨_,Tryz.func96,rfl,by kernel_rfl⟩
theorem F97:Fn_ Tryz.prog 97:=⟨_,Tryz.func97,rfl,by kernel_rfl⟩
theorem F98:Fn_ Tryz.prog 98:=⟨_,Tryz.func98,rfl,by kernel_rfl⟩
theorem F99:Fn_ Tryz.prog 99:=⟨_,Tryz.func99,rfl,by kernel_rfl⟩
theorem F100:Fn_ Tryz.prog 100:=⟨_,Tryz.func100,rfl,by kernel_rfl⟩
theorem F101:Fn_ Tryz.prog 101:=⟨_,Tryz.func101,rfl,by kernel_rfl⟩
theorem F102:Fn_ Tryz.prog 102:=⟨_,Tryz.func102,rfl,by kernel_rfl⟩
theorem F103:Fn_ Tryz.prog 103:=⟨_,Tryz.func103,rfl,by kernel_rfl⟩
theorem F104:Fn_ Tryz.prog 104:=⟨_,Tryz.func104,rfl,by kernel_rfl⟩
theorem F105:Fn_ Tryz.prog 105:=⟨_,Tryz.func105,rfl,by kernel_rfl⟩
theorem F106:Fn_ Tryz.prog 106:=⟨_,Tryz.func106,rfl,by kernel_rfl⟩
theorem F107:Fn_ Tryz.prog 107:=⟨_,Tryz.func107,rfl,by kernel_rfl⟩
theorem F108:Fn_ Tryz.prog 108:=⟨_,Tryz.func108,rfl,by kernel_rfl⟩
theorem F110:Fn_ Tryz.prog 110:=⟨_,Tryz.func110,rfl,by kernel_rfl⟩
theorem F111:Fn_ Tryz.prog 111:=⟨_,Tryz.func111,rfl,by kernel_rfl⟩
theorem F112:Fn_ Tryz.prog 112:=⟨_,Tryz.func112,rfl,by kernel_rfl⟩
theorem F113:Fn_ Tryz.prog 113:=⟨_,Tryz.func113,rfl,by kernel_rfl⟩
theorem F114:Fn_ Tryz.prog 114:=⟨_,Tryz.func114,rfl,by kernel_rfl⟩
theorem F115:Fn_ Tryz.prog 115:=⟨_,Tryz.func115,rfl,by kernel_rfl⟩
theorem F116:Fn_ Tryz.prog 116:=⟨_,Tryz.func116,rfl,by kernel_rfl⟩
theorem F117:Fn_ Tryz.prog 117:=⟨_,Tryz.func117,rfl,by kernel_rfl⟩
theorem F118:Fn_ Tryz.prog 118:=⟨_,Tryz.func118,rfl,by kernel_rfl⟩
theorem F119:Fn_ Tryz.prog 119:=⟨_,Tryz.func119,rfl,by kernel_rfl⟩
theorem F120:Fn_ Tryz.prog 120:=⟨_,Tryz.func120,rfl,by kernel_rfl⟩
theorem F121:Fn_ Tryz.prog 121:=⟨_,Tryz.func121,rfl,by kernel_rfl⟩
theorem F122:Fn_ Tryz.prog 122:=⟨_,Tryz.func122,rfl,by kernel_rfl⟩
theorem F123:Fn_ Tryz.prog 123:=⟨_,Tryz.func123,rfl,by kernel_rfl⟩
theorem F124:Fn_ Tryz.prog 124:=⟨_,Tryz.func124,rfl,by kernel_rfl⟩
theorem F125:Fn_ Tryz.prog 125:=⟨_,Tryz.func125,rfl,by kernel_rfl⟩
theorem F126:Fn_ Tryz.prog 126:=⟨_,Tryz.func126,rfl,by kernel_rfl⟩
theorem F127:Fn_ Tryz.prog 127:=⟨_,Tryz.func127,rfl,by kernel_rfl⟩
theorem F128:Fn_ Tryz.prog 128:=⟨_,Tryz.func128,rfl,by kernel_rfl⟩
theorem F129:Fn_ Tryz.prog 129:=⟨_,Tryz.func129,rfl,by kernel_rfl⟩
theorem F130:Fn_ Tryz.prog 130:=⟨_,Tryz.func130,rfl,by kernel_rfl⟩
theorem F131:Fn_ Tryz.prog 131:=⟨_,Tryz.func131,rfl,by kernel_rfl⟩
theorem F132:Fn_ Tryz.prog 132:=⟨_,Tryz.func132,rfl,by kernel_rfl⟩
theorem F133:Fn_ Tryz.prog 133:=⟨_,Tryz.func133,rfl,by kernel_rfl⟩
theorem F134:Fn_ Tryz.prog 134:=⟨_,Tryz.func134,rfl,by kernel_rfl⟩
theorem F135:Fn_ Tryz.prog 135:=⟨_,Tryz.func135,rfl,by kernel_rfl⟩
theorem F139:Fn_ Tryz.prog 139:=⟨_,Tryz.func139,rfl,by kernel_rfl⟩
theorem F140:Fn_ Tryz.prog 140:=⟨_,Tryz.func140,rfl,by kernel_rfl⟩
theorem F141:Fn_ Tryz.prog 141:=⟨_,Tryz.func141,rfl,by kernel_rfl⟩
theorem F143:Fn_ Tryz.prog 143:=⟨_,Tryz.func143,rfl,by kernel_rfl⟩
theorem F150:Fn_ Tryz.prog 150:=⟨_,Tryz.func150,rfl,by kernel_rfl⟩
theorem F151:Fn_ Tryz.prog 151:=⟨_,Tryz.func151,rfl,by kernel_rfl⟩
theorem F153:Fn_ Tryz.prog 153:=⟨_,Tryz.func153,rfl,by kernel_rfl⟩
theorem F154:Fn_ Tryz.prog 154:=⟨_,Tryz.func154,rfl,by kernel_rfl⟩
theorem F155:Fn_ Tryz.prog 155:=⟨_,Tryz.func155,rfl,by kernel_rfl⟩
theorem F156:Fn_ Tryz.prog 156:=⟨_,Tryz.func156,rfl,by kernel_rfl⟩
theorem F157:Fn_ Tryz.prog 157:=⟨_,Tryz.func157,rfl,by kernel_rfl⟩
theorem F158:Fn_ Tryz.prog 158:=⟨_,Tryz.func158,rfl,by kernel_rfl⟩
theorem F159:Fn_ Tryz.prog 159:=⟨_,Tryz.func159,rfl,by kernel_rfl⟩
theorem F160:Fn_ Tryz.prog 160:=⟨_,Tryz.func160,rfl,by kernel_rfl⟩
theorem F161:Fn_ Tryz.prog 161:=⟨_,Tryz.func161,rfl,by kernel_rfl⟩
theorem F163:Fn_ Tryz.prog 163:=⟨_,Tryz.func163,rfl,by kernel_rfl⟩
theorem F164:Fn_ Tryz.prog 164:=⟨_,Tryz.func164,rfl,by kernel_rfl⟩
theorem F166:Fn_ Tryz.prog 166:=⟨_,Tryz.func166,rfl,by kernel_rfl⟩
theorem F167:Fn_ Tryz.prog 167:=⟨_,Tryz.func167,rfl,by kernel_rfl⟩
theorem F168:Fn_ Tryz.prog 168:=⟨_,Tryz.func168,rfl,by kernel_rfl⟩
theorem F169:Fn_ Tryz.prog 169:=⟨_,Tryz.func169,rfl,by kernel_rfl⟩
theorem F170:Fn_ Tryz.prog 170:=⟨_,Tryz.func170,rfl,by kernel_rfl⟩
theorem F172:Fn_ Tryz.prog 172:=⟨_,Tryz.func172,rfl,by kernel_rfl⟩
theorem F176:Fn_ Tryz.prog 176:=⟨_,Tryz.func176,rfl,by kernel_rfl⟩
theorem F177:Fn_ Tryz.prog 177:=⟨_,Tryz.func177,rfl,by kernel_rfl⟩
theorem F178:Fn_ Tryz.prog 178:=⟨_,Tryz.func178,rfl,by kernel_rfl⟩
theorem F179:Fn_ Tryz.prog 179:=⟨_,Tryz.func179,rfl,by kernel_rfl⟩
theorem F180:Fn_ Tryz.prog 180:=⟨_,Tryz.func180,rfl,by kernel_rfl⟩
theorem F181:Fn_ Tryz.prog 181:=⟨_,Tryz.func181,rfl,by kernel_rfl⟩
theorem F182:Fn_ Tryz.prog 182:=⟨_,Tryz.func182,rfl,by kernel_rfl⟩
theorem F184:Fn_ Tryz.prog 184:=⟨_,Tryz.func184,rfl,by kernel_rfl⟩
theorem F186:Fn_ Tryz.prog 186:=⟨_,Tryz.func186,rfl,by kernel_rfl⟩
theorem F187:Fn_ Tryz.prog 187:=⟨_,Tryz.func187,rfl,by kernel_rfl⟩
theorem F193:Fn_ Tryz.prog 193:=⟨_,Tryz.func193,rfl,by kernel_rfl⟩
theorem F197:Fn_ Tryz.prog 197:=⟨_,Tryz.func197,rfl,by kernel_rfl⟩
theorem F205:Fn_ Tryz.prog 205:=⟨_,Tryz.func205,rfl,by kernel_rfl⟩
end Go.Proofs.YtdeffdldifepkaaGreat
namespace Go.Proofs.YtdeffdldifepkaaGreat
open Go.RowKit
open Asn (pt row rb)
set_option linter.unusedVariables false
section
variable {P:Program} {ro:Option Nat} {ds:List Deferred} {B:Bk ro ds} {n:Nat} {w0:World} {M:Nat→Prop} {k:List It} {T:Slots} {H C:List Asn} {d:Tmp} {dd:Option Tmp} {tt:TypeId} {pos:String} {af:Array Edge} {g:Option (Nat×Bool)} {l σ:List Oper} {op:Op} {v:Value} {c:Code} {x:Operand} {L:Array Bool}
theorem dp [HasTab P] (i:Nat) (h:RD P B n w0 M l k (L.setIfInBounds i true) C ((d,v)::T) H) (ho:l[i]? =some ⟨some d,op,tt,pos,af,g⟩:=by exact rfl) (ht:pev P T op=some v:=by exact rfl) (hw:wants l T g=some true:=by exact rfl) (hd:dok n (some d)=true:=by exact rfl) (hf:Region.free .any l.toArray L i=true:=by kernel_rfl) (hr:(Region.ready .any l.toArray L).contains i=true:=by kernel_rfl):RD P B n w0 M l k L C T H:=D_take i ho (pev_ok ht) h hw hd hf hr
theorem dl [HasTab P] (i:Nat) (h:RD P B n w0 M l k (L.setIfInBounds i true) C ((d,v)::T) H) (ho:l[i]? =some ⟨some d,op,tt,pos,af,g⟩:=by exact rfl) (ht:Tk P n w0 M T C ⟨some d,op,tt,pos,af,g⟩ v:=by exact T_load rfl rfl rfl rfl) (hw:wants l T g=some true:=by exact rfl) (hd:dok n (some d)=true:=by exact rfl) (hf:Region.free .any l.toArray L i=true:=by kernel_rfl) (hr:(Region.ready .any l.toArray L).contains i=true:=by kernel_rfl):RD P B n w0 M l k L C T H:=D_take i ho ht h hw hd hf hr
theorem dqT [HasTab P] (i:Nat) (h:RD P B n w0 M l k (L.setIfInBounds i true) C ((d,.bool true)::T) H) (ho:l[i]? =some ⟨some d,op,tt,pos,af,g⟩:=by exact rfl) (ht:Tk P n w0 M T C ⟨some d,op,tt,pos,af,g⟩ (.bool true):=by first|exact T_decT rfl (by omega)|exact pev_ok rfl) (hw:wants l T g=some true:=by exact rfl) (hd:dok n (some d)=true:=by exact rfl) (hf:Region.free .any l.toArray L i=true:=by kernel_rfl) (hr:(Region.ready .any l.toArray L).contains i=true:=by kernel_rfl):RD P B n w0 M l k L C T H:=D_take i ho ht h hw hd hf hr
theorem dqF [HasTab P] (i:Nat) (h:RD P B n w0 M l k (L.setIfInBounds i true) C ((d,.bool false)::T) H) (ho:l[i]? =some ⟨some d,op,tt,pos,af,g⟩:=by exact rfl) (ht:Tk P n w0 M T C ⟨some d,op,tt,pos,af,g⟩ (.bool false):=by first|exact T_decF rfl (by omega)|exact pev_ok rfl) (hw:wants l T g=some true:=by exact rfl) (hd:dok n (some d)=true:=by exact rfl) (hf:Region.free .any l.toArray L i=true:=by kernel_rfl) (hr:(Region.ready .any l.toArray L).contains i=true:=by kernel_rfl):RD P B n w0 M l k L C T H:=D_take i ho ht h hw hd hf hr
theorem dk (i:Nat) (h:RD P B n w0 M l k (L.setIfInBounds i true) C ((d,undef)::T) H) (ho:l[i]? =some ⟨some d,op,tt,pos,af,g⟩:=by exact rfl) (hw:wants l T g=some false:=by exact rfl) (hd:dok n (some d)=true:=by exact rfl) (hf:Region.free .any l.toArray L i=true:=by kernel_rfl) (hr:(Region.ready .any l.toArray L).contains i=true:=by kernel_rfl):RD P B n w0 M l k L C T H:=D_skip i ho h hw hd hf hr
theorem Da {L':Array Bool} {T':Slots} {H':List Asn} (h:RD P B n w0 M l k L' C T' H') [hh:SubC H' H] (hs:Sub T' T:=by repeat first|exact Sub.nil|refine Sub.cons rfl ?_) (hL:L=L':=by kernel_rfl):RD P B n w0 M l k L C T H:=D_at h hs sub_st hL
theorem dn (h:RS P B n w0 M k T H) (hr:Region.ready .any l.toArray L=[]:=by kernel_rfl):RD P B n w0 M l k L C T H:=D_done h hr
theorem nx {i:Nat} [hh:SubC C H] (h:RD P B n w0 M l k (L.setIfInBounds i true) C T H):Nx P B n w0 M l k L C i T H:=Nx_same sub_st h
end
end Go.Proofs.YtdeffdldifepkaaGreat
namespace Go.Proofs.YtdeffdldifepkaaGreat
open Go.RowKit
open Go.Lib (hid)



def tookN (len:Nat) (why n:Int):Nat:=if why=0∧0≤n∧n≤len then n.toNat else 0
def whyN (len:Nat) (why n:Int):Int:=if why=0 then (if n<0 then 2 else if (len:Int)<n then 7 else 0) else why
end Go.Proofs.YtdeffdldifepkaaGreat
namespace Go.Proofs.YtdeffdldifepkaaGreat
open Go.RowKit
open Asn (pt row rb)
set_option linter.unusedVariables false
set_option linter.unusedSimpArgs false
section
variable {n:Nat} {w0:World} {M:Nat→Prop} {T:Slots} {H Hr:List Asn} {dd:Option Tmp} {tt:TypeId} {pos:String} {af:Array Edge} {g:Option (Nat×Bool)} {x y:Operand} {ts:Array TypeId}
end
end Go.Proofs.YtdeffdldifepkaaGreat
namespace Go.Proofs.YtdeffdldifepkaaGreat
open Go.RowKit
open Asn (pt row rb)
structure Rstep (l:List UInt8) (why n:Int) (t l1:List UInt8) (why1:Int):Prop where
 ht:t=l.take (tookN l.length why n)
 hl:l1=l.drop (tookN l.length why n)
 hw:why1=whyN l.length why n
 len:l1.length≤l.length
section
variable {n:Nat} {w0:World} {M:Nat→Prop} {T:Slots} {H Hr:List Asn} {dd:Option Tmp} {tt:TypeId} {pos:String} {af:Array Edge} {g:Option (Nat×Bool)} {x y:Operand} {ts:Array TypeId} {gb:Nat} {F:Nat→Prop} {l:List UInt8} {why:Int}
end
end Go.Proofs.YtdeffdldifepkaaGreat
namespace Go.Proofs.YtdeffdldifepkaaGreat
open Go.RowKit
def zv (n:Int):Value:= .int .i64 n
theorem zv_at {l:List Int} {j:Nat} (h:j<l.length):(l.map zv)[j]? =some (zv (l.getD j 0)):=by
 rw[List.getElem?_map,List.getElem?_eq_getElem h]
 simp[List.getD,h]
end Go.Proofs.YtdeffdldifepkaaGreat
namespace Go.Proofs.YtdeffdldifepkaaGreat.C
open Go.RowKit
open Asn (pt row rb)
set_option linter.unusedVariables false
set_option linter.unusedSimpArgs false
def memb (m:Int):Bool:=decide (1≤m∧m≤5)
def chk:List Int→Bool×Int→Bool×Int
 |[],s=>s
 |m::ms,s=>chk ms (s.1&&memb m&&decide (s.2<m),m)
def right (ms:List Int):Bool:=(chk ms (decide ((0:Int)<(ms.length:Int)),0)).1
theorem chk_next (ms:List Int) (s:Bool×Int) (j:Nat) (h:j<ms.length):chk (ms.take (j+1)) s=((chk (ms.take j) s).1&&memb (ms.getD j 0)&&decide ((chk (ms.take j) s).2<ms.getD j 0),ms.getD j 0):=by
 induction ms generalizing s j with
 |nil=>cases h
 |cons m ms ih=>
  cases j with
  |zero=>simp[chk]
  |succ j=>
   simp only[List.take_succ_cons,chk,List.getD_cons_succ]
   exact ih _ j (by simpa using h)
theorem member_any (w:World) (m:Int):
  Gives Tryz.prog 156 [zv m] [] w (X:=Unit) (fun _=> .bool (memb m)) (fun _=>True) (fun _=>[]):=by
 refine gives_S Tryz.func156 O Tryz.ntmps156 Tryz.results156 (by simp) (St.enter w) (fun B hB=>?_)
 repeat' (first|refine R_p O ?_ O O|refine R_nil ?_|refine R_skip ?_ O O|refine S_seq O ?_|refine S_region O O ?_|(refine R_splitd O O (fun hs=>?_) (fun hs=>?_)))
 all_goals (refine hB _ _ _ _ _ O O fun w' hS=>⟨(),?_,trivial,hS⟩)
 all_goals (simp[memb, *];rfl)
theorem nan_any (w:World) (m:Int):
  Gives Tryz.prog 186 [zv m] [] w (X:=Unit) (fun _=> .bool false) (fun _=>True) (fun _=>[]):=by
 refine gives_S Tryz.func186 O Tryz.ntmps186 Tryz.results186 (by simp) (St.enter w) (fun B hB=>?_)
 focus (refine qs ?_;refine qp ?_;refine qn ?_;(iterate 4 refine qp ?_);refine qz ?_)
 all_goals (refine hB _ _ _ _ _ O O fun w' hS=>⟨(),?_,trivial,hS⟩)
 all_goals (simp;rfl)
theorem nan2_any (w:World) (m:Int):
  Gives Tryz.prog 180 [zv m] [] w (X:=Unit) (fun _=> .bool false) (fun _=>True) (fun _=>[]):=by
 refine gives_S Tryz.func180 O Tryz.ntmps180 Tryz.results180 (by simp) (St.enter w) (fun B hB=>?_)
 focus (refine qs ?_;refine qp ?_;refine qn ?_;(iterate 4 refine qp ?_);refine qz ?_)
 all_goals (refine hB _ _ _ _ _ O O fun w' hS=>⟨(),?_,trivial,hS⟩)
 all_goals (simp;rfl)
section
variable {n:Nat} {w0:World} {M:Nat→Prop} {T:Slots} {H Hr:List Asn} {dd:Option Tmp} {tt:TypeId} {pos:String} {af:Array Edge} {g:Option (Nat×Bool)} {x y z:Operand} {ts:Array TypeId}
theorem E_nan {a:Int} (hx:oget T x=some (zv a)):
  Ef Tryz.prog n w0 M T H ⟨dd,.call ⟨.value (.func 186),#[x],ts⟩,tt,pos,af,g⟩ (fun u H'=>u= .bool false∧H'=H):=by
 refine(E_gv F186 (vs:=[zv a]) (by simp[ogets,hx]) fun w hS=>nan_any w a).mono ?_
 rintro v H' ⟨_,rfl,_,rfl⟩ w hS
 exact⟨_,_,O,⟨O,O⟩,hS⟩
theorem E_nan2 {a:Int} (hx:oget T x=some (zv a)):
  Ef Tryz.prog n w0 M T H ⟨dd,.call ⟨.value (.func 180),#[x],ts⟩,tt,pos,af,g⟩ (fun u H'=>u= .bool false∧H'=H):=by
 refine(E_gv F180 (vs:=[zv a]) (by simp[ogets,hx]) fun w hS=>nan2_any w a).mono ?_
 rintro v H' ⟨_,rfl,_,rfl⟩ w hS
 exact⟨_,_,O,⟨O,O⟩,hS⟩
theorem E_member {a:Int} (hx:oget T x=some (zv a)):
  Ef Tryz.prog n w0 M T H ⟨dd,.call ⟨.value (.func 156),#[x],ts⟩,tt,pos,af,g⟩ (fun u H'=>u= .bool (memb a)∧H'=H):=by
 refine(E_gv F156 (vs:=[zv a]) (by simp[ogets,hx]) fun w hS=>member_any w a).mono ?_
 rintro v H' ⟨_,rfl,_,rfl⟩ w hS
 exact⟨_,_,O,⟨O,O⟩,hS⟩
end
theorem less_any (w:World) (a b:Int):
  Gives Tryz.prog 179 [zv a,zv b] [] w (X:=Unit) (fun _=> .bool (decide (a<b))) (fun _=>True) (fun _=>[]):=by
 refine gives_S Tryz.func179 O Tryz.ntmps179 Tryz.results179 (by simp) (St.enter w) (fun B hB=>?_)
 repeat' (first|refine R_p O ?_ O O|refine R_nil ?_|refine R_skip ?_ O O|refine S_seq O ?_|refine S_region O O ?_|(refine R_eff (E_nan O) ?_ O O;rintro _ _ ⟨rfl,rfl⟩))
 all_goals (refine hB _ _ _ _ _ O O fun w' hS=>⟨(),?_,trivial,hS⟩)
 all_goals first|rfl|(simp[*];rfl)
section
variable {n:Nat} {w0:World} {M:Nat→Prop} {T:Slots} {H Hr:List Asn} {dd:Option Tmp} {tt:TypeId} {pos:String} {af:Array Edge} {g:Option (Nat×Bool)} {x y z:Operand} {ts:Array TypeId}
theorem E_less {a b:Int} (hx:oget T x=some (zv a)) (hy:oget T y=some (zv b)):
  Ef Tryz.prog n w0 M T H ⟨dd,.call ⟨.value (.func 179),#[x,y],ts⟩,tt,pos,af,g⟩ (fun u H'=>u= .bool (decide (a<b))∧H'=H):=by
 refine(E_gv F179 (vs:=[zv a,zv b]) (by simp[ogets,hx,hy]) fun w hS=>less_any w a b).mono ?_
 rintro v H' ⟨_,rfl,_,rfl⟩ w hS
 exact⟨_,_,O,⟨O,O⟩,hS⟩
end
def cfv (A:Option Addr) (n c:Nat):Value:= .agg #[.slice A n c]
def chkE (ms:List Int):Int:=if right ms then 0 else 240
theorem zv_at {l:List Int} {j:Nat} (h:j<l.length):(l.map zv)[j]? =some (zv (l.getD j 0)):=by
 simp[List.getD,h]
theorem check_any (w:World) (A:Option Addr) (n c:Nat) (ms:List Int) (h:Rd w All 1 A n (ms.map zv)) (hn:n≤100000):
  Gives Tryz.prog 95 [cfv A n c] [] w (X:=Unit) (fun _=> .int .i64 (chkE ms)) (fun _=>True) (fun _=>[]):=by
 refine gives_S Tryz.func95 O Tryz.ntmps95 Tryz.results95 (by simp) (St.enter w) (fun B hB=>?_)
 have hl:ms.length=n:=by have:=h.1;simpa using this
 have hne:0<n→A≠none:=fun h0=>by obtain⟨ad,rfl,_⟩:=h.2 h0;simp
 subst hl
 have hld: ∀ j,j<ms.length→(ms.map zv)[j]? =some (zv (ms.getD j 0)):=fun j hj=>zv_at hj
 repeat' (first|refine R_p O ?_ O O|refine R_nil ?_|refine R_take (T_load O O O (by first|rfl|assumption)) ?_ O O|refine S_seq O ?_|refine S_region O O ?_|refine S_block O ?_|(refine R_eff (E_boxa O) ?_ O O;rintro _ _ ⟨b,rfl,rfl⟩))
 obtain⟨st,hst⟩: ∃ st:Nat→Bool×Int, ∀ j,st j=chk (ms.take j) (decide ((0:Int)<(ms.length:Int)),0):=⟨_,fun _=>O⟩
 have hs0:=hst 0
 have hsn:=hst ms.length
 have hnx: ∀ j,j<ms.length→st (j+1)=((st j).1&&memb (ms.getD j 0)&&decide ((st j).2<ms.getD j 0),ms.getD j 0):=fun j hj=>by rw[hst,hst,chk_next ms _ j hj]
 refine S_loop (X:=Nat) (fun j=>[(3,zv (st j).2),(4,.bool (st j).1),(12,.slice A ms.length c),(13,.int .i64 (ms.length:Int)),(14,.int .i64 (j:Int))]) (fun _=>_) (fun j=>j≤ms.length) (fun j=>ms.length-j) O 0 (Nat.zero_le _) ?_ (fun _ h=>h) ?_
 ·rw[hs0];exact(Sub.cons O (Sub.cons O (Sub.cons O (Sub.cons O (Sub.cons O Sub.nil)))))
 intro j hj J hJ
 obtain⟨x,hx⟩: ∃ x,ms.getD j 0=x:=⟨_,O⟩
 have hnx':=hnx j
 have hld':=hld j
 obtain⟨b,hb⟩: ∃ b,(st j).1=b:=⟨_,O⟩
 obtain⟨y,hy⟩: ∃ y,(st j).2=y:=⟨_,O⟩
 rw[hx] at hnx' hld'
 rw[hb,hy] at hnx' ⊢
 repeat' (first|refine R_p O ?_ O O|refine R_nil ?_|refine R_skip ?_ O O|refine R_take (T_ldr O O O (Srd.old h (fun k _=>noOwns k)) (by omega) (hld' (by omega))) ?_ O O|refine R_take (T_addN O O (by unfold fits;omega)) ?_ O O|refine R_take (T_ixN O O O O O O (by first|assumption|exact hne (by omega)|exact hne2 (by omega)) (by omega)) ?_ O O|refine R_take (T_not O) ?_ O O|refine S_seq O ?_|refine S_region O O ?_|refine S_block O ?_|refine RS_blk ?_|refine S_exit O O ?_|refine S_skip O ?_|(refine R_eff (E_member O) ?_ O O;rintro _ _ ⟨rfl,rfl⟩)|(refine R_splitd O O (fun hs=>?_) (fun hs=>?_))|(refine R_split O O (fun hs=>?_) (fun hs=>?_))|(refine S_if O O (fun hs=>?_) (fun hs=>?_))|(refine S_cond O O (fun hs=>?_) (fun hs=>?_)))
 ·refine hJ (j+1) _ _ (by omega) ?_ (fun _ h=>h) (by omega)
  rw[hnx' (by omega),show (b&&memb x&&decide (y<x))=decide (y<x) by simp[memb, *]]
  exact(Sub.cons O (Sub.cons O (Sub.cons O (Sub.cons O (Sub.cons O Sub.nil)))))
 ·refine hJ (j+1) _ _ (by omega) ?_ (fun _ h=>h) (by omega)
  rw[hnx' (by omega),show (b&&memb x&&decide (y<x))=false by rw[show memb x=false by simp only[memb];exact decide_eq_false (by assumption),Bool.and_false,Bool.false_and]]
  exact(Sub.cons O (Sub.cons O (Sub.cons O (Sub.cons O (Sub.cons O Sub.nil)))))
 ·refine hJ (j+1) _ _ (by omega) ?_ (fun _ h=>h) (by omega)
  rw[hnx' (by omega),show (b&&memb x&&decide (y<x))=false by simp[*]]
  exact(Sub.cons O (Sub.cons O (Sub.cons O (Sub.cons O (Sub.cons O Sub.nil)))))
 all_goals
  have hjn:j=ms.length:=by omega
  subst hjn
  have hr:right ms=b:=by rw[right, ← hb,hst,List.take_length]
  refine hB _ _ _ _ _ O O fun w' hS=>⟨(),?_,trivial,hS.sublist (List.nil_sublist _)⟩
  rw[chkE,hr]
  simp_all
  try rfl
section
variable {n:Nat} {w0:World} {M:Nat→Prop} {T:Slots} {H Hr:List Asn} {dd:Option Tmp} {tt:TypeId} {pos:String} {af:Array Edge} {g:Option (Nat×Bool)} {x y z:Operand} {ts:Array TypeId}
theorem T_shrN {P:Program} {t u:TypeId} {kk kj:IntKind} {i j:Int} {p q:Nat} (hx:oget T x=some (.int kk i)) (hy:oget T y=some (.int kj j)) [hi:NatOf i p] [hj:NatOf j q] (hq:q≤kk.bits):
  Tk P n w0 M T H ⟨dd,.binOp .shr t x y u,tt,pos,af,g⟩ (.int kk ((p/2^q:Nat):Int)):=by
 rw[hi.is] at hx
 rw[hj.is] at hy
 have h:=T_shr (P:=P) (n:=n) (w0:=w0) (M:=M) (H:=H) (dd:=dd) (tt:=tt) (pos:=pos) (af:=af) (g:=g) (t:=t) (u:=u) hx hy (by omega)
 have e:Int.fdiv (p:Int) (2^(min ((q:Int)).toNat kk.bits))=((p/2^q:Nat):Int):=by
  have e1:min ((q:Int)).toNat kk.bits=q:=by rw[Int.toNat_natCast];omega
  rw[e1,Int.fdiv_eq_ediv_of_nonneg _ (Int.le_of_lt (Int.pow_pos (by decide))),Int.natCast_ediv,Int.natCast_pow]
  rfl
 rwa [e] at h
end
def cut (ms:List Int) (m:Int):Nat:=ms.findIdx (fun x=>decide (m≤x))
def Up_ (ms:List Int):Prop:=ms.Pairwise (· < ·)
theorem cut_is {ms:List Int} {m:Int} {i:Nat} (hi:i≤ms.length) (h1: ∀ k,k<i→ms.getD k 0<m) (h2: ∀ k,i≤k→k<ms.length→m≤ms.getD k 0):cut ms m=i:=by
 unfold cut
 rcases Nat.lt_or_ge i ms.length with h|h
 ·rw[List.findIdx_eq h]
  refine⟨?_,fun j hj=>?_⟩
  ·have:=h2 i (Nat.le_refl _) h
   simpa[List.getD,h] using this
  ·have:=h1 j hj
   have hj':j<ms.length:=by omega
   simp[List.getD,hj'] at this
   simpa using this
 ·have:i=ms.length:=by omega
  subst this
  rw[List.findIdx_eq_length]
  intro x hx
  obtain⟨j,hj,rfl⟩:=List.getElem_of_mem hx
  have:=h1 j hj
  simp[List.getD,hj] at this
  simpa using this
theorem up_lt {ms:List Int} (h:Up_ ms) {i j:Nat} (hij:i<j) (hj:j<ms.length):ms.getD i 0<ms.getD j 0:=by
 have:=List.pairwise_iff_getElem.1 h i j (by omega) hj hij
 simpa[List.getD,hj,show i<ms.length by omega] using this
theorem mem_cut {ms:List Int} {m:Int} {i:Nat} (h:Up_ ms) (hi:i≤ms.length) (h1: ∀ k,k<i→ms.getD k 0<m) (h2: ∀ k,i≤k→k<ms.length→m≤ms.getD k 0):decide (m∈ms)=(decide (i<ms.length)&&decide (ms.getD i 0=m)):=by
 rcases Nat.lt_or_ge i ms.length with hl|hl
 ·rw[decide_eq_true hl,Bool.true_and]
  congr 1
  apply propext
  constructor
  ·intro hm
   obtain⟨j,hj,he⟩:=List.getElem_of_mem hm
   have hg:ms.getD j 0=m:=by simp[List.getD,hj,he]
   rcases Nat.lt_trichotomy j i with h3|h3|h3
   ·have:=h1 j h3;omega
   ·rw[← h3];exact hg
   ·have:=up_lt h h3 hj
    have:=h2 i (Nat.le_refl _) hl
    omega
  ·intro he
   have:ms[i]=m:=by simpa[List.getD,hl] using he
   rw[← this]
   exact List.getElem_mem hl
 ·rw[decide_eq_false (by omega: ¬ i<ms.length),Bool.false_and,decide_eq_false]
  intro hm
  obtain⟨j,hj,he⟩:=List.getElem_of_mem hm
  have:=h1 j (by omega)
  simp[List.getD,hj,he] at this
theorem bins_any (w:World) (A:Option Addr) (n c:Nat) (ms:List Int) (m:Int) (h:Rd w All 1 A n (ms.map zv)) (hn:n≤1000) (hu:Up_ ms):
  Gives Tryz.prog 163 [.slice A n c,zv m] [] w (X:=Unit) (fun _=> .tuple #[.int .i64 (cut ms m:Int),.bool (decide (m∈ms))]) (fun _=>True) (fun _=>[]):=by
 refine gives_S Tryz.func163 O Tryz.ntmps163 Tryz.results163 (by simp) (St.enter w) (fun B hB=>?_)
 have hl:ms.length=n:=by have:=h.1;simpa using this
 have hne:0<n→A≠none:=fun h0=>by obtain⟨ad,rfl,_⟩:=h.2 h0;simp
 repeat' (first|refine R_p O ?_ O O|refine R_nil ?_|refine S_seq O ?_|refine S_region O O ?_|refine S_block O ?_)
 refine S_loop (X:=Nat×Nat) (fun s=>[(0,.slice A n c),(1,zv m),(6,.int .i64 (n:Int)),(7,.int .i64 (s.1:Int)),(8,.int .i64 (s.2:Int))]) (fun _=>_) (fun s=>s.1≤s.2∧s.2≤n∧(∀ k,k<s.1→ms.getD k 0<m)∧ ∀ k,s.2≤k→k<n→m≤ms.getD k 0) (fun s=>s.2-s.1) O (0,n) ⟨Nat.zero_le _,Nat.le_refl _,fun k hk=>by omega,fun k h1 h2=>by dsimp only at h1;omega⟩ (Sub.cons O (Sub.cons O (Sub.cons O (Sub.cons O (Sub.cons O Sub.nil))))) (fun _ h=>h) ?_
 rintro⟨i,j⟩ ⟨hij,hjn,h1,h2⟩ J hJ
 dsimp only at hij hjn h1 h2 ⊢
 obtain⟨x,hx⟩: ∃ x,ms.getD ((i+j)/2^1) 0=x:=⟨_,O⟩
 have hld:(i+j)/2^1<n→(ms.map zv)[(i+j)/2^1]? =some (zv x):=fun hlt=>by rw[← hx];exact zv_at (by omega)
 obtain⟨y,hy⟩: ∃ y,ms.getD i 0=y:=⟨_,O⟩
 have hld2:i<n→(ms.map zv)[i]? =some (zv y):=fun hlt=>by rw[← hy];exact zv_at (by omega)
 repeat' (first|refine R_p O ?_ O O|refine R_nil ?_|refine R_skip ?_ O O|refine R_take (T_shrN O O (by decide)) ?_ O O|refine R_take (T_convf O O O O (by unfold fits;omega)) ?_ O O|refine R_take (T_ldr O O O (Srd.old h (fun k _=>noOwns k)) (by omega) (hld (by omega))) ?_ O O|refine R_take (T_ldr O O O (Srd.old h (fun k _=>noOwns k)) (by omega) (hld2 (by omega))) ?_ O O|refine R_take (T_addN O O (by unfold fits;omega)) ?_ O O|refine R_take (T_ixN O O O O O O (by first|assumption|exact hne (by omega)|exact hne2 (by omega)) (by omega)) ?_ O O|refine S_seq O ?_|refine S_region O O ?_|refine S_block O ?_|refine RS_blk ?_|refine S_exit O O ?_|refine S_skip O ?_|(refine R_eff (E_less O O) ?_ O O;rintro _ _ ⟨rfl,rfl⟩)|(refine R_eff (E_nan2 O) ?_ O O;rintro _ _ ⟨rfl,rfl⟩)|(refine R_splitd O O (fun hs=>?_) (fun hs=>?_))|(refine S_if O O (fun hs=>?_) (fun hs=>?_)))
 ·refine hJ ((i+j)/2^1+1,j) _ _ ⟨by dsimp only;omega,by dsimp only;omega,fun k hk=>?_,h2⟩ (Sub.cons O (Sub.cons O (Sub.cons O (Sub.cons O (Sub.cons O Sub.nil))))) (fun _ h=>h) (by dsimp only;omega)
  dsimp only at hk
  rcases Nat.lt_or_ge k ((i+j)/2^1) with h3|h3
  ·have:=up_lt hu h3 (by omega);omega
  ·rw[show k=(i+j)/2^1 by omega,hx];assumption
 ·refine hJ (i,(i+j)/2^1) _ _ ⟨by dsimp only;omega,by dsimp only;omega,h1,fun k hk hkn=>?_⟩ (Sub.cons O (Sub.cons O (Sub.cons O (Sub.cons O (Sub.cons O Sub.nil))))) (fun _ h=>h) (by dsimp only;omega)
  dsimp only at hk
  rcases Nat.eq_or_lt_of_le hk with h3|h3
  ·rw[← h3,hx];omega
  ·have:=up_lt hu h3 (by omega);omega
 all_goals
  have hij':i=j:=by omega
  subst hij'
  refine hB _ _ _ _ _ O O fun w' hS=>⟨(),?_,trivial,hS⟩
  rw[cut_is (by omega) h1 (fun k a b=>h2 k a (by omega)),mem_cut hu (by omega) h1 (fun k a b=>h2 k a (by omega)),hy,hl]
  have hcast:((i:Int)<(n:Int))↔i<n:=by omega
  first|(rw[decide_eq_false (show ¬ i<n by omega),Bool.false_and];rfl)|(simp_all;done)|(simp_all;rfl)
theorem chk_up: ∀ (ms:List Int) (s:Bool×Int),(chk ms s).1=true→s.1=true∧(∀ m∈ms,1≤m∧m≤5∧s.2<m)∧Up_ ms
 |[],s,h=>⟨h,fun m hm=>(by cases hm),List.Pairwise.nil⟩
 |m::ms,s,h=>by
  obtain⟨h1,h2,h3⟩:=chk_up ms _ h
  simp only[Bool.and_eq_true,memb,decide_eq_true_eq] at h1
  refine⟨h1.1.1,fun x hx=>?_,List.Pairwise.cons (fun x hx=>(h2 x hx).2.2) h3⟩
  rcases List.mem_cons.1 hx with rfl|hx
  ·exact⟨h1.1.2.1,h1.1.2.2,h1.2⟩
  ·have:=h2 x hx
   have:=h1.2
   exact⟨by omega,by omega,by simp only at*;omega⟩
theorem right_up {ms:List Int} (h:right ms=true):ms≠[]∧(∀ m∈ms,1≤m∧m≤5)∧Up_ ms:=by
 obtain⟨h1,h2,h3⟩:=chk_up ms _ h
 refine⟨?_,fun m hm=>⟨(h2 m hm).1,(h2 m hm).2.1⟩,h3⟩
 rintro rfl
 simp at h1
section
variable {n:Nat} {w0:World} {M:Nat→Prop} {T:Slots} {H Hr:List Asn} {dd:Option Tmp} {tt:TypeId} {pos:String} {af:Array Edge} {g:Option (Nat×Bool)} {x y z:Operand} {ts:Array TypeId}
theorem E_check {A:Option Addr} {m c:Nat} {ms:List Int} (hx:oget T x=some (cfv A m c)) (hs:Srd w0 M H 1 A m (ms.map zv)) (hm:m≤100000):
  Ef Tryz.prog n w0 M T H ⟨dd,.call ⟨.value (.func 95),#[x],ts⟩,tt,pos,af,g⟩ (fun u H'=>u= .int .i64 (chkE ms)∧H'=H):=by
 refine(E_gv F95 (vs:=[cfv A m c]) (by simp[ogets,hx]) fun w hS=>check_any w A m c ms (hs.rd w hS) hm).mono ?_
 rintro v H' ⟨_,rfl,_,rfl⟩ w hS
 exact⟨_,_,O,⟨O,O⟩,hS⟩
theorem E_bins {A:Option Addr} {m c:Nat} {ms:List Int} {a:Int} (hx:oget T x=some (.slice A m c)) (hy:oget T y=some (zv a)) (hs:Srd w0 M H 1 A m (ms.map zv)) (hm:m≤1000) (hu:Up_ ms):
  Ef Tryz.prog n w0 M T H ⟨dd,.call ⟨.value (.func 163),#[x,y],ts⟩,tt,pos,af,g⟩ (fun u H'=>u= .tuple #[.int .i64 (cut ms a:Int),.bool (decide (a∈ms))]∧H'=H):=by
 refine(E_gv F163 (vs:=[.slice A m c,zv a]) (by simp[ogets,hx,hy]) fun w hS=>bins_any w A m c ms a (hs.rd w hS) hm hu).mono ?_
 rintro v H' ⟨_,rfl,_,rfl⟩ w hS
 exact⟨_,_,O,⟨O,O⟩,hS⟩
end
theorem find_any (w:World) (A:Option Addr) (n c:Nat) (ms:List Int) (m:Int) (h:Rd w All 1 A n (ms.map zv)) (hn:n≤1000) (hu:Up_ ms):
  Gives Tryz.prog 110 [cfv A n c,zv m] [] w (X:=Unit) (fun _=> .tuple #[.int .i64 (cut ms m:Int),.bool (decide (m∈ms))]) (fun _=>True) (fun _=>[]):=by
 refine gives_S Tryz.func110 O Tryz.ntmps110 Tryz.results110 (by simp) (St.enter w) (fun B hB=>?_)
 focus (refine qs ?_;(refine qe (E_boxa O) ?_;rintro _ _ ⟨b,rfl,rfl⟩);refine qp ?_;refine qp ?_;refine qn ?_;refine qp ?_;refine qt (T_load O O O (by first|rfl|assumption)) ?_;refine qp ?_;(refine qe (E_bins O O (Srd.old h (fun k _=>noOwns k)) hn hu) ?_;rintro _ _ ⟨rfl,rfl⟩);(iterate 4 refine qp ?_);refine qz ?_)
 refine hB _ _ _ _ _ O O fun w' hS=>⟨(),?_,trivial,hS.sublist (List.nil_sublist _)⟩
 rfl
section
variable {n:Nat} {w0:World} {M:Nat→Prop} {T:Slots} {H Hr:List Asn} {dd:Option Tmp} {tt:TypeId} {pos:String} {af:Array Edge} {g:Option (Nat×Bool)} {x y z:Operand} {ts:Array TypeId}
theorem E_find {A:Option Addr} {m c:Nat} {ms:List Int} {a:Int} (hx:oget T x=some (cfv A m c)) (hy:oget T y=some (zv a)) (hs:Srd w0 M H 1 A m (ms.map zv)) (hm:m≤1000) (hu:Up_ ms):
  Ef Tryz.prog n w0 M T H ⟨dd,.call ⟨.value (.func 110),#[x,y],ts⟩,tt,pos,af,g⟩ (fun u H'=>u= .tuple #[.int .i64 (cut ms a:Int),.bool (decide (a∈ms))]∧H'=H):=by
 refine(E_gv F110 (vs:=[cfv A m c,zv a]) (by simp[ogets,hx,hy]) fun w hS=>find_any w A m c ms a (hs.rd w hS) hm hu).mono ?_
 rintro v H' ⟨_,rfl,_,rfl⟩ w hS
 exact⟨_,_,O,⟨O,O⟩,hS⟩
theorem E_checkT {A:Option Addr} {m c:Nat} {ms:List Int} (hx:oget T x=some (cfv A m c)) (hs:Srd w0 M H 1 A m (ms.map zv)) (hm:m≤100000) (hr:right ms=true):
  Ef Tryz.prog n w0 M T H ⟨dd,.call ⟨.value (.func 95),#[x],ts⟩,tt,pos,af,g⟩ (fun u H'=>u= .int .i64 0∧H'=H):=by
 have h:=E_check (n:=n) (w0:=w0) (M:=M) (T:=T) (H:=H) (dd:=dd) (ts:=ts) (tt:=tt) (pos:=pos) (af:=af) (g:=g) hx hs hm
 rwa [chkE,if_pos hr] at h
theorem E_checkF {A:Option Addr} {m c:Nat} {ms:List Int} (hx:oget T x=some (cfv A m c)) (hs:Srd w0 M H 1 A m (ms.map zv)) (hm:m≤100000) (hr:right ms=false):
  Ef Tryz.prog n w0 M T H ⟨dd,.call ⟨.value (.func 95),#[x],ts⟩,tt,pos,af,g⟩ (fun u H'=>u= .int .i64 240∧H'=H):=by
 have h:=E_check (n:=n) (w0:=w0) (M:=M) (T:=T) (H:=H) (dd:=dd) (ts:=ts) (tt:=tt) (pos:=pos) (af:=af) (g:=g) hx hs hm
 rwa [chkE,if_neg (by simp[hr])] at h
end
theorem has_any (w:World) (A:Option Addr) (n c:Nat) (ms:List Int) (m:Int) (h:Rd w All 1 A n (ms.map zv)) (hn:n≤1000):
  Gives Tryz.prog 42 [cfv A n c,zv m] [] w (X:=Unit) (fun _=> .bool (right ms&&decide (m∈ms))) (fun _=>True) (fun _=>[]):=by
 refine gives_S Tryz.func42 O Tryz.ntmps42 Tryz.results42 (by simp) (St.enter w) (fun B hB=>?_)
 cases hr:right ms
 ·focus (refine qs ?_;(refine qe (E_boxa O) ?_;rintro _ _ ⟨b,rfl,rfl⟩);refine qp ?_;refine qz ?_;refine qq ?_;refine qs ?_;refine qt (T_loada (ds:=[.slice A n c]) O O O O (fun j v h=>by simpa using h)) ?_;(refine qe (E_checkF O (Srd.old h (fun k _=>noOwns k)) (by omega) hr) ?_;rintro _ _ ⟨rfl,rfl⟩);refine qp ?_;refine qz ?_;refine qT ?_;refine qs ?_;refine qp ?_;refine qz ?_)
  all_goals (try (exfalso;simp_all;done))
  refine hB _ _ _ _ _ O O fun w' hS=>⟨(),?_,trivial,hS.sublist (List.nil_sublist _)⟩
  rw[hr,Bool.false_and];rfl
 ·have hu:=(right_up hr).2.2
  repeat' (first|refine R_p O ?_ O O|refine R_nil ?_|refine R_take (T_loada (ds:=[.slice A n c]) O O O O (fun j v h=>by simpa using h)) ?_ O O|refine S_seq O ?_|refine S_region O O ?_|refine S_false O O ?_|refine S_skip O ?_|(refine R_eff (E_checkT O (Srd.old h (fun k _=>noOwns k)) (by omega) hr) ?_ O O;rintro _ _ ⟨rfl,rfl⟩)|(refine R_eff (E_find O O (Srd.old h (fun k _=>noOwns k)) hn hu) ?_ O O;rintro _ _ ⟨rfl,rfl⟩)|(refine R_eff (E_boxa O) ?_ O O;rintro _ _ ⟨b,rfl,rfl⟩))
  all_goals (try (exfalso;simp_all;done))
  refine hB _ _ _ _ _ O O fun w' hS=>⟨(),?_,trivial,hS.sublist (List.nil_sublist _)⟩
  rw[hr,Bool.true_and]
  rfl
theorem clone_any (w:World) (A:Option Addr) (n c:Nat) (xs:List Value) (h:Rd w All 1 A n xs) (h1: ∀ v∈xs,v.oneCell'=true) (hn:n≤1000):
  Gives Tryz.prog 92 [.slice A n c] [] w (X:=Option Addr×Nat) (fun x=> .slice x.1 n x.2) (fun _=>True) (fun x=>[row 3 1 x.1 n x.2 xs]):=by
 refine gives_S Tryz.func92 O Tryz.ntmps92 Tryz.results92 (by simp) (St.enter w) (fun B hB=>?_)
 cases hA:A with
 |none=>
  subst hA
  have hn0:n=0:=by
   rcases Nat.eq_zero_or_pos n with h0|h0
   ·exact h0
   ·obtain⟨ad,e,_⟩:=h.2 h0
    cases e
  subst hn0
  obtain rfl:xs=[]:=List.eq_nil_of_length_eq_zero (by simpa using h.1)
  repeat' (first|refine R_p O ?_ O O|refine R_nil ?_|refine R_take (T_eqnil O O O O) ?_ O O|refine S_seq O ?_|refine S_region O O ?_|refine S_true O O ?_)
  all_goals (try (exfalso;simp_all;done))
  refine hB _ _ _ _ _ O O fun w' hS=>⟨(none,0),O,trivial,(hS.sublist (List.nil_sublist _)).nilrow _ _⟩
 |some ad=>
  subst hA
  focus (refine qs ?_;refine qp ?_;refine qz ?_;refine qq ?_;refine qs ?_;refine qp ?_;refine qt (T_eqnil O O O O) ?_;refine qz ?_;refine qF ?_;refine qx ?_;refine qs ?_;(refine qe (E_lit1 (m:=0) (vs:=[]) O O O O O O O (by simp) (by decide)) ?_;rintro _ _ ⟨bl,rfl,rfl⟩);refine qp ?_;(refine qe (E_apple O O O O O O O (by decide) .here (Srd.old h (fun k _=>noOwns k)) h1 (by show n*8≤_;omega) (by unfold maxLen;omega)) ?_;rintro _ _ ⟨A',c',rfl,rfl⟩);refine qp ?_;refine qz ?_)
  all_goals (try (exfalso;simp_all;done))
  refine hB _ _ _ _ _ O O fun w' hS=>⟨(A',c'),O,trivial,hS⟩
theorem one_drop {xs:List Value} (h1: ∀ v∈xs,v.oneCell'=true) (i:Nat): ∀ v∈xs.drop i,v.oneCell'=true:=fun v hv=>h1 v (List.mem_of_mem_drop hv)
theorem part_at (xs ys:List Value) (i:Nat): ∀ j v,(xs.drop i)[j]? =some v→(xs++ys)[0+i*1+j]? =some v:=fun j v hj=>by
 rw[List.getElem?_drop] at hj
 have hl:=(List.getElem?_eq_some_iff.1 hj).1
 rw[Nat.zero_add,Nat.mul_one,List.getElem?_append_left hl]
 exact hj
theorem insert_any (w:World) (A:Option Addr) (m c vb i:Nat) (xs:List Value) (v:Value) (hi:i≤m) (hm:m≤1000) (h1: ∀ v∈xs,v.oneCell'=true) (hv1:v.oneCell'=true)
  (hS:St w (owns [row 3 1 A m c xs,pt vb 3 [v]]) [row 3 1 A m c xs,pt vb 3 [v]] w):
  Gives Tryz.prog 184 [.slice A m c,.int .i64 (i:Int),.slice (some ⟨vb,0,none⟩) 1 1] [row 3 1 A m c xs,pt vb 3 [v]] w (X:=Option Addr×Nat) (fun x=> .slice x.1 (m+1) x.2) (fun _=>True) (fun x=>[row 3 1 x.1 (m+1) x.2 (xs.take i++v::xs.drop i)]):=by
 refine gives_S Tryz.func184 O Tryz.ntmps184 Tryz.results184 (by simp) hS (fun B hB=>?_)
 refine RS_row A m c fun hmc hcm hne hxl=>?_
 have hxl':xs.length=m:=by simpa using hxl
 rcases Nat.lt_or_ge i m with him|him
 ·rcases Nat.lt_or_ge m c with hroom|hroom
  ·refine RS_open A m c (hne (by omega)) fun gb ys hA hyl _ _ _=>?_
   subst hA
   have hyl':ys.length=c-m:=by simpa using hyl
   refine RS_fact (p:=vb≠gb) (fun w hS=>fun e=>?_) fun hvg=>?_
   ·subst e
    exact(List.pairwise_cons.1 hS.apart).1 (pt vb 3 [v]) (by simp) vb O O
   repeat' (first|refine R_take (T_decF O (by omega)) ?_ O O|refine R_p O ?_ O O|refine R_nil ?_|refine R_take (T_cap O O O) ?_ O O|refine R_take (T_sllg (sz:=1) O O O O O O (by omega) (by omega) (by omega)) ?_ O O|refine R_take (T_slhN O O O O O (by omega)) ?_ O O|refine R_take (T_addN O O (by unfold fits;omega)) ?_ O O|refine R_take (T_not O) ?_ O O|refine S_seq O ?_|refine S_region O O ?_|refine S_true O O ?_|refine S_false O O ?_|refine S_skip O ?_|(refine R_eff (E_over (f:=198) (fn:=Tryz.f198) (s:=31) (b:=4) Tryz.func198 (by kernel_rfl) (by kernel_rfl) (by kernel_rfl) (by kernel_rfl) O O O O O inferInstance inferInstance hvg (by rw[List.length_append];omega)) ?_ O O;rintro _ _ ⟨rfl,rfl⟩))
   refine S_draw ([]) sub_st (by kernel_rfl) O (by kernel_rfl) (by kernel_rfl:_=9) ?_
   refine dp 0 ?_
   refine dp 1 ?_
   refine dp 2 ?_
   (refine dt 3 O (T_addN O O (by unfold fits;omega)) ?_)
   refine dt 4 O (T_sllg (sz:=1) O O O O O O (by omega) (by omega) (by omega)) ?_
   refine dp 5 ?_
   refine dp 6 ?_
   refine dt 7 O (T_sllg (sz:=1) O O O O O O (by omega) (by omega) (by omega)) ?_
   refine D_one 8 O (E_copyn (q:=m-i) (cs:=xs.drop i) O O O O O (Srd.pt (by show _=(m-i)*1;rw[List.length_drop];omega) (part_at xs ys i)) (by simp only[Nat.min_def];split<;>omega) (by rw[List.length_append,List.length_drop];omega) (one_drop h1 i) O) ?_ O O (by kernel_rfl)
   rintro _ _ ⟨rfl,rfl⟩
   refine nx ?_
   refine dn ?_
   skip
   focus (refine qs ?_;refine qp ?_;refine qp ?_;refine qt (T_sllg (sz:=1) O O O O O O (by omega) (by omega) (by omega)) ?_;refine qp ?_;(refine qe (E_copyn (q:=1) (cs:=[v]) O O O O O (Srd.pt (g:=vb) O (fun j u hj=>by rw[Nat.zero_add];exact hj)) (by simp only[Nat.min_def];split<;>omega) (by simp;omega) (by simpa using hv1) O) ?_;rintro _ _ ⟨rfl,rfl⟩);refine qn ?_;refine qp ?_;refine qp ?_;refine qz ?_)
   refine hB _ _ _ _ _ O O fun w' hS=>⟨(some ⟨gb,0,none⟩,c),O,trivial,?_⟩
   refine(hS.close (m:=m+1) (c:=c) (size:=1) (gb:=gb) (e:=3) (xs:=xs.take i++v::xs.drop i) (by omega) hcm ?_ ?_).sublist (by simp)
   ·simp only[List.length_append,List.length_take,List.length_drop,List.length_cons,List.length_nil];omega
   simp only[Nat.zero_add,Nat.mul_one]
   exact ins_shift xs ys v i m hxl' him (by omega) _
  ·skip
   repeat' (first|refine R_take (T_decF O (by omega)) ?_ O O|refine R_take (T_decT O (by omega)) ?_ O O|refine R_p O ?_ O O|refine R_nil ?_|refine R_take (T_cap O O O) ?_ O O|refine R_take (T_sllg (sz:=1) O O O O O O (by omega) (by omega) (by omega)) ?_ O O|refine R_take (T_slN O O O O O O (by omega) (by omega)) ?_ O O|refine R_take (T_slhN O O O O O (by omega)) ?_ O O|refine R_take (T_addN O O (by unfold fits;omega)) ?_ O O|refine R_take (T_subN O O (by omega) (by unfold fits;omega)) ?_ O O|refine S_seq O ?_|refine S_region O O ?_|refine S_true O O ?_|refine S_false O O ?_|refine S_skip O ?_|(refine R_eff (E_appz (sz:=1) (q:=m+1-i) O O O O O O O O O (by decide) ((Srd.row (n:=m) (c:=c)).head (by omega)) (by omega) (by omega) (by show (i+(m+1-i))*8≤_;omega) (by unfold maxLen;omega)) ?_ O O;rintro _ _ ⟨g2,cc2,zs,ys,rfl,hzs,hyl,hmc2,hcm2,rfl⟩)|(refine R_eff (E_copyn (q:=1) (cs:=[v]) O O O O O (Srd.pt (g:=vb) O (fun j u hj=>by rw[Nat.zero_add];exact hj)) (by simp only[Nat.min_def];split<;>omega) (by simp;omega) (by simpa using hv1) O) ?_ O O;rintro _ _ ⟨rfl,rfl⟩))
   have hzs':zs.length=m+1-i:=by rw[hzs,Nat.mul_one]
   have hyl':ys.length=cc2-(m+1):=by rw[hyl,Nat.mul_one];omega
   refine S_draw ([]) sub_st (by kernel_rfl) O (by kernel_rfl) (by kernel_rfl:_=9) ?_
   refine dp 0 ?_
   refine dp 1 ?_
   refine dp 2 ?_
   (refine dt 3 O (T_addN O O (by unfold fits;omega)) ?_)
   refine dt 4 O (T_sllg (sz:=1) O O O O O O (by omega) (by omega) (by omega)) ?_
   refine dp 5 ?_
   refine dp 6 ?_
   refine dt 7 O (T_slN O O O O O O (by omega) (by omega)) ?_
   refine D_one 8 O (E_copyn (q:=m-i) (cs:=xs.drop (i*1)) O O O O O ((Srd.row (n:=m) (c:=c)).cutP (by omega) (by omega)) (by simp only[Nat.min_def];split<;>omega) (by simp;omega) (by rw[Nat.mul_one];exact one_drop h1 i) O) ?_ O O (by kernel_rfl)
   rintro _ _ ⟨rfl,rfl⟩
   refine nx ?_
   refine dn ?_
   skip
   focus (refine qs ?_;refine qp ?_;refine qp ?_;refine qz ?_)
   refine hB _ _ _ _ _ O O fun w' hS=>⟨(some ⟨g2,0,none⟩,cc2),by simp only[retv];congr 1;omega,trivial,?_⟩
   refine(hS.close (m:=m+1) (c:=cc2) (size:=1) (gb:=g2) (e:=3) (xs:=xs.take i++v::xs.drop i) (by omega) hcm2 ?_ ?_).sublist (by simp)
   ·simp only[List.length_append,List.length_take,List.length_drop,List.length_cons,List.length_nil];omega
   simp only[Nat.zero_add,Nat.mul_one]
   exact ins_grow xs zs ys v i m hxl' him _ _
 ·obtain rfl:i=m:=by omega
  repeat' (first|refine R_take (T_decF O (by omega)) ?_ O O|refine R_take (T_decT O (by omega)) ?_ O O|refine R_p O ?_ O O|refine R_nil ?_|refine R_take (T_slN O O O O O O (by omega) (by omega)) ?_ O O|refine S_seq O ?_|refine S_region O O ?_|refine S_true O O ?_|refine S_false O O ?_|refine S_skip O ?_|(refine R_eff (E_app1 O O O O O O O (Srd.pt (g:=vb) (ds:=[v]) O (fun j u hj=>by rw[Nat.zero_add];exact hj)) (by simpa using hv1) (by show (i+1)*8≤_;omega) (by unfold maxLen;omega)) ?_ O O;rintro _ _ ⟨A2,cc2,rfl,rfl⟩))
  refine hB _ _ _ _ _ O O fun w' hS=>⟨(A2,cc2),O,trivial,?_⟩
  rw[List.take_of_length_le (by omega),List.drop_eq_nil_of_le (by omega)]
  exact hS.sublist (by simp)
theorem take2_succ {a b:List Int} (hl:a.length=b.length) {j:Nat} (hj:j<a.length):a.take (j+1)=b.take (j+1)↔a.take j=b.take j∧a.getD j 0=b.getD j 0:=by
 rw[List.take_succ_eq_append_getElem hj,List.take_succ_eq_append_getElem (by omega)]
 have e1:a.getD j 0=a[j]:=by simp[List.getD,hj]
 have e2:b.getD j 0=b[j]'(by omega):=by simp[List.getD,show j<b.length by omega]
 rw[e1,e2]
 constructor
 ·intro h
  have:=List.append_inj h (by simp[hl])
  exact⟨this.1,by simpa using this.2⟩
 ·rintro⟨h1,h2⟩
  rw[h1,h2]
theorem index_any (w:World) (A:Option Addr) (n c:Nat) (ms:List Int) (m:Int) (h:Rd w All 1 A n (ms.map zv)) (hn:n≤1000):
  Gives Tryz.prog 177 [.slice A n c,zv m] [] w (X:=Int) (fun x=> .int .i64 x) (fun x=>0≤x↔m∈ms) (fun _=>[]):=by
 refine gives_S Tryz.func177 O Tryz.ntmps177 Tryz.results177 (by simp) (St.enter w) (fun B hB=>?_)
 have hl:ms.length=n:=by have:=h.1;simpa using this
 have hne:0<n→A≠none:=fun h0=>by obtain⟨ad,rfl,_⟩:=h.2 h0;simp
 subst hl
 have hld: ∀ j,j<ms.length→(ms.map zv)[j]? =some (zv (ms.getD j 0)):=fun j hj=>zv_at hj
 focus (refine qs ?_;refine qp ?_;refine qz ?_;refine qq ?_;refine qs ?_;(iterate 3 refine qp ?_);refine qz ?_;refine qb ?_)
 refine S_loop (X:=Nat) (fun j=>[(0,.slice A ms.length c),(1,zv m),(7,.int .i64 (ms.length:Int)),(8,.int .i64 (j:Int))]) (fun _=>_) (fun j=>j≤ms.length∧ ¬ m∈ms.take j) (fun j=>ms.length-j) O 0 ⟨Nat.zero_le _,by simp⟩ (Sub.cons O (Sub.cons O (Sub.cons O (Sub.cons O Sub.nil)))) (fun _ h=>h) ?_
 rintro j ⟨hj,htk⟩ J hJ
 have hgm: ∀ hj:j<ms.length,ms.getD j 0=ms[j]:=fun hj=>by simp[List.getD,hj]
 repeat' (first|refine R_p O ?_ O O|refine R_nil ?_|refine R_take (T_ldr O O O (Srd.old h (fun k _=>noOwns k)) (by omega) (hld j (by omega))) ?_ O O|refine R_take (T_addN O O (by unfold fits;omega)) ?_ O O|refine R_take (T_ixN O O O O O O (by first|assumption|exact hne (by omega)|exact hne2 (by omega)) (by omega)) ?_ O O|refine S_seq O ?_|refine S_region O O ?_|refine S_block O ?_|refine RS_blk ?_|refine S_exit O O ?_|refine S_skip O ?_|(refine S_if O O (fun hs=>?_) (fun hs=>?_)))
 all_goals (try (exfalso;omega))
 ·rename_i hlt
  refine hB _ _ _ _ _ O O fun w' hS=>⟨(j:Int),O,⟨fun _=>?_,fun _=>by omega⟩,hS.sublist (List.nil_sublist _)⟩
  have hlt':j<ms.length:=by omega
  have heq':m=ms.getD j 0:=hs
  rw[heq',hgm hlt']
  exact List.getElem_mem _
 ·rename_i hlt
  have hlt':j<ms.length:=by omega
  refine hJ (j+1) _ _ ⟨by omega,?_⟩ (Sub.cons O (Sub.cons O (Sub.cons O (Sub.cons O Sub.nil)))) (fun _ h=>h) (by omega)
  rw[List.take_succ_eq_append_getElem hlt',List.mem_append,not_or]
  refine⟨htk,?_⟩
  rw[← hgm hlt']
  simpa[hgm hlt'] using hs
 ·have hjn:j=ms.length:=by omega
  subst hjn
  rw[List.take_length] at htk
  refine hB _ _ _ _ _ O O fun w' hS=>⟨-1,O,⟨fun h=>absurd h (by omega),fun h=>absurd h htk⟩,hS.sublist (List.nil_sublist _)⟩
theorem contains_any (w:World) (A:Option Addr) (n c:Nat) (ms:List Int) (m:Int) (h:Rd w All 1 A n (ms.map zv)) (hn:n≤1000):
  Gives Tryz.prog 158 [.slice A n c,zv m] [] w (X:=Unit) (fun _=> .bool (decide (m∈ms))) (fun _=>True) (fun _=>[]):=by
 refine gives_S Tryz.func158 O Tryz.ntmps158 Tryz.results158 (by simp) (St.enter w) (fun B hB=>?_)
 focus (refine qs ?_;refine qp ?_;refine qn ?_;refine qp ?_;refine qp ?_;(refine qe (E_gv0 (f:=177) F177 O (fun w hS=>index_any w A _ c ms m ((Srd.old h (fun k _=>noOwns k)).rd w hS) hn) (fun _=>O)) ?_;rintro _ _ ⟨x,rfl,hx,rfl⟩);refine qp ?_;refine qp ?_;refine qz ?_)
 refine hB _ _ _ _ _ O O fun w' hS=>⟨(),?_,trivial,hS.sublist (List.nil_sublist _)⟩
 rw[decide_eq_decide.2 hx.symm]
 rfl
theorem ogets_cap (T:Slots) (x:Operand) (v:Value) (hx:oget T x=some v): ∀ cap:List Value,ogets T (#[x]++(cap.map Operand.const).toArray).toList=some (v::cap):=fun cap=>by
 have h:ogets T (cap.map Operand.const)=some cap:=by
  induction cap with
  |nil=>rfl
  |cons u us ih=>simp[ogets,ih,oget]
 have e:(#[x]++(cap.map Operand.const).toArray).toList=x::cap.map Operand.const:=by simp
 rw[e]
 simp[ogets,hx,h]
theorem cnt_next (p:Int→Bool) (ms:List Int) (j:Nat) (hj:j<ms.length):(ms.take (j+1)).countP p=(ms.take j).countP p+(if p (ms.getD j 0) then 1 else 0):=by
 rw[List.take_succ_eq_append_getElem hj,List.countP_append]
 have e1:ms.getD j 0=ms[j]:=by simp[List.getD,hj]
 rw[e1,List.countP_singleton]
theorem counted_any (w:World) (A:Option Addr) (n c f:Nat) (cap:List Value) (ms:List Int) (p:Int→Bool) (h:Rd w All 1 A n (ms.map zv)) (hn:n≤1000) (hf:Fn_ Tryz.prog f)
  (hp: ∀ w',Kp All w w'→ ∀ m,Gives Tryz.prog f (zv m::cap) [] w' (X:=Unit) (fun _=> .bool (p m)) (fun _=>True) (fun _=>[])):
  Gives Tryz.prog 128 [cfv A n c,.func (.func f) #[] cap.toArray] [] w (X:=Unit) (fun _=> .int .i64 (ms.countP p:Nat)) (fun _=>True) (fun _=>[]):=by
 refine gives_S Tryz.func128 O Tryz.ntmps128 Tryz.results128 (by simp) (St.enter w) (fun B hB=>?_)
 have hl:ms.length=n:=by have:=h.1;simpa using this
 have hne:0<n→A≠none:=fun h0=>by obtain⟨ad,rfl,_⟩:=h.2 h0;simp
 subst hl
 have hld: ∀ j,j<ms.length→(ms.map zv)[j]? =some (zv (ms.getD j 0)):=fun j hj=>zv_at hj
 have hle: ∀ j,(ms.take j).countP p≤j:=fun j=>Nat.le_trans List.countP_le_length (by simp;omega)
 repeat' (first|refine R_p O ?_ O O|refine R_nil ?_|refine R_take (T_load O O O (by first|rfl|assumption)) ?_ O O|refine S_seq O ?_|refine S_region O O ?_|refine S_block O ?_|(refine R_eff (E_boxa O) ?_ O O;rintro _ _ ⟨b,rfl,rfl⟩))
 refine S_loop (X:=Nat) (fun j=>[(1,.func (.func f) #[] cap.toArray),(5,.int .i64 ((ms.take j).countP p:Nat)),(9,.slice A ms.length c),(10,.int .i64 (ms.length:Int)),(11,.int .i64 (j:Int))]) (fun _=>_) (fun j=>j≤ms.length) (fun j=>ms.length-j) O 0 (Nat.zero_le _) (Sub.cons O (Sub.cons O (Sub.cons O (Sub.cons O (Sub.cons O Sub.nil))))) (fun _ h=>h) ?_
 rintro j hj J hJ
 have hnx:=cnt_next p ms j
 have hld':=hld j
 have hlj:=hle j
 obtain⟨x,hx⟩: ∃ x,ms.getD j 0=x:=⟨_,O⟩
 obtain⟨q,hq⟩: ∃ q,(ms.take j).countP p=q:=⟨_,O⟩
 rw[hx] at hnx hld'
 rw[hq] at hnx hlj ⊢
 obtain⟨bx,hbx⟩: ∃ bx,p x=bx:=⟨_,O⟩
 rw[hbx] at hnx
 repeat' (first|refine R_p O ?_ O O|refine R_nil ?_|refine R_take (T_ldr O O O (Srd.old h (fun k _=>noOwns k)) (by omega) (hld' (by omega))) ?_ O O|refine R_take (T_addN O O (by unfold fits;omega)) ?_ O O|refine R_take (T_ixN O O O O O O (by first|assumption|exact hne (by omega)|exact hne2 (by omega)) (by omega)) ?_ O O|refine S_seq O ?_|refine S_region O O ?_|refine S_block O ?_|refine RS_blk ?_|refine S_exit O O ?_|refine S_skip O ?_|(refine R_eff (E_cloA (cap:=cap) O (E_gv0 hf (ogets_cap _ _ (zv x) O cap) (fun w' hS=>hp w' hS.kpO x) (fun _=>O))) ?_ O O;rintro _ _ ⟨_,rfl,_,rfl⟩)|(refine S_if O O (fun hs=>?_) (fun hs=>?_))|(refine S_cond O O (fun hs=>?_) (fun hs=>?_)))
 ·have e:(ms.take (j+1)).countP p=q+1:=by rw[hnx (by omega), ← hbx,hs];rfl
  refine hJ (j+1) _ _ (by omega) ?_ (fun _ h=>h) (by omega)
  rw[e]
  exact(Sub.cons O (Sub.cons O (Sub.cons O (Sub.cons O (Sub.cons O Sub.nil)))))
 ·have e:(ms.take (j+1)).countP p=q:=by rw[hnx (by omega), ← hbx,hs];rfl
  refine hJ (j+1) _ _ (by omega) ?_ (fun _ h=>h) (by omega)
  rw[e]
  exact(Sub.cons O (Sub.cons O (Sub.cons O (Sub.cons O (Sub.cons O Sub.nil)))))
 ·have hjn:j=ms.length:=by omega
  subst hjn
  rw[List.take_length] at hq
  refine hB _ _ _ _ _ O O fun w' hS=>⟨(),?_,trivial,hS.sublist (List.nil_sublist _)⟩
  rw[hq]
  rfl
def majB (ms set:List Int):Bool:=right ms&&decide (ms.length<2*ms.countP (fun m=>decide (m∈set)))
theorem maj1_any (w:World) (b:Nat) (A:Option Addr) (n c:Nat) (set:List Int) (m:Int) (hb:Rd w All 1 (some ⟨b,0,none⟩) 1 [.slice A n c]) (h:Rd w All 1 A n (set.map zv)) (hn:n≤1000):
  Gives Tryz.prog 164 [zv m,.pointer (some ⟨b,0,none⟩)] [] w (X:=Unit) (fun _=> .bool (decide (m∈set))) (fun _=>True) (fun _=>[]):=by
 refine gives_S Tryz.func164 O Tryz.ntmps164 Tryz.results164 (by simp) (St.enter w) (fun B hB=>?_)
 focus (refine qs ?_;refine qp ?_;refine qn ?_;refine qt (T_loadg O O O hb (fun k _=>noOwns k) O) ?_;refine qp ?_;(refine qe (E_gv0 (f:=158) F158 O (fun w hS=>contains_any w A _ c set m ((Srd.old h (fun k _=>noOwns k)).rd w hS) hn) (fun _=>O)) ?_;rintro _ _ ⟨_,rfl,_,rfl⟩);refine qp ?_;refine qz ?_)
 refine hB _ _ _ _ _ O O fun w' hS=>⟨(),O,trivial,hS.sublist (List.nil_sublist _)⟩
theorem maj_any (w:World) (A A2:Option Addr) (n c n2 c2:Nat) (ms set:List Int) (h:Rd w All 1 A n (ms.map zv)) (h2:Rd w All 1 A2 n2 (set.map zv)) (hn:n≤1000) (hn2:n2≤1000):
  Gives Tryz.prog 111 [cfv A n c,.slice A2 n2 c2] [] w (X:=Unit) (fun _=> .bool (majB ms set)) (fun _=>True) (fun _=>[]):=by
 refine gives_S Tryz.func111 O Tryz.ntmps111 Tryz.results111 (by simp) (St.enter w) (fun B hB=>?_)
 have hl:ms.length=n:=by have:=h.1;simpa using this
 subst hl
 have hcl:ms.countP (fun m=>decide (m∈set))≤ms.length:=List.countP_le_length
 focus (refine qs ?_;(refine qe (E_boxa O) ?_;rintro _ _ ⟨b,rfl,rfl⟩);(refine qe (E_box1 O O) ?_;rintro _ _ ⟨b,rfl,rfl⟩);refine qp ?_;refine qn ?_;refine qt (T_func O O) ?_;refine qp ?_;refine qz ?_;refine qq ?_)
 rename_i b1
 cases hr:right ms
 ·skip
  refine S_draw (_) (fun _ h=>h) (by kernel_rfl) O (by kernel_rfl) (by kernel_rfl:_=14) ?_
  refine dt 0 O (T_loada (ds:=[.slice A ms.length c]) O O O O (fun j v h=>by simpa using h)) ?_
  refine D_one 1 O (E_checkF O (Srd.old h (fun k _=>noOwns k)) (by omega) hr) ?_ O O (by kernel_rfl)
  rintro _ _ ⟨rfl,rfl⟩
  refine nx ?_
  refine dp 2 ?_
  refine dp 3 ?_
  refine dk 4 ?_
  refine dk 5 ?_
  refine dk 6 ?_
  refine dk 7 ?_
  refine dk 8 ?_
  refine dk 9 ?_
  refine dk 10 ?_
  refine dk 11 ?_
  refine dp 12 ?_
  refine dp 13 ?_
  refine dn ?_
  skip
  skip
  refine hB _ _ _ _ _ O O fun w' hS=>⟨(),?_,trivial,hS.sublist (List.nil_sublist _)⟩
  rw[majB,hr]
  rfl
 ·skip
  refine S_draw (_) (fun _ h=>h) (by kernel_rfl) O (by kernel_rfl) (by kernel_rfl:_=14) ?_
  refine dt 0 O (T_loada (ds:=[.slice A ms.length c]) O O O O (fun j v h=>by simpa using h)) ?_
  refine D_one 1 O (E_checkT O (Srd.old h (fun k _=>noOwns k)) (by omega) hr) ?_ O O (by kernel_rfl)
  rintro _ _ ⟨rfl,rfl⟩
  refine nx ?_
  refine dp 2 ?_
  refine dp 3 ?_
  refine dt 4 O (T_loada (ds:=[.slice A ms.length c]) O O O O (fun j v h=>by simpa using h)) ?_
  refine dp 5 ?_
  refine dp 8 ?_
  refine dt 9 O (T_load O O O (by first|rfl|assumption)) ?_
  refine dp 10 ?_
  refine D_one 6 O (E_gv0 (f:=128) F128 O (fun w hS=>counted_any w A _ c 164 [.pointer (some ⟨b,0,none⟩)] ms (fun m=>decide (m∈set)) ((Srd.old h (fun k _=>noOwns k)).rd w hS) hn F164 (fun w' hk m=>maj1_any w' b A2 n2 c2 set m (((Srd.pt (g:=b) (n:=1) (size:=1) (ds:=[.slice A2 n2 c2]) O (fun j v hj=>by rw[Nat.zero_add];exact hj)).rd w hS).keep hk) (((Srd.old h2 (fun k _=>noOwns k)).rd w hS).keep hk) hn2)) (fun _=>O)) ?_ O O (by kernel_rfl)
  rintro _ _ ⟨_,rfl,_,rfl⟩
  refine nx ?_
  (refine dt 7 O (T_mulN O O (by unfold fits;omega)) ?_)
  refine dp 11 ?_
  refine dp 12 ?_
  refine dp 13 ?_
  refine dn ?_
  skip
  skip
  refine hB _ _ _ _ _ O O fun w' hS=>⟨(),?_,trivial,hS.sublist (List.nil_sublist _)⟩
  rw[majB,hr,Bool.true_and]
  show Value.bool _=_
  congr 1
  exact decide_eq_decide.2 (by omega)
theorem stp1_any (w:World) (A:Option Addr) (n c:Nat):
  Gives Tryz.prog 126 [cfv A n c] [] w (X:=Nat) (fun b=> .func (.func 127) #[] #[.pointer (some ⟨b,0,none⟩)]) (fun _=>True) (fun b=>[pt b 33 [.slice A n c]]):=by
 refine gives_S Tryz.func126 O Tryz.ntmps126 Tryz.results126 (by simp) (St.enter w) (fun B hB=>?_)
 focus (refine qs ?_;(refine qe (E_boxa O) ?_;rintro _ _ ⟨b,rfl,rfl⟩);refine qp ?_;refine qn ?_;refine qt (T_func O O) ?_;refine qp ?_;refine qz ?_)
 refine hB _ _ _ _ _ O O fun w' hS=>⟨b,O,trivial,hS⟩
theorem stp2_any (w:World) (b:Nat) (A:Option Addr) (n c:Nat) (ms:List Int) (m:Int) (hb:Rd w All 1 (some ⟨b,0,none⟩) 1 [.slice A n c]) (h:Rd w All 1 A n (ms.map zv)) (hn:n≤1000):
  Gives Tryz.prog 127 [zv m,.pointer (some ⟨b,0,none⟩)] [] w (X:=Unit) (fun _=> .bool (!(right ms&&decide (m∈ms)))) (fun _=>True) (fun _=>[]):=by
 refine gives_S Tryz.func127 O Tryz.ntmps127 Tryz.results127 (by simp) (St.enter w) (fun B hB=>?_)
 focus (refine qs ?_;refine qp ?_;refine qn ?_;refine qt (T_loadga (ds:=[.slice A n c]) O O O hb (fun k _=>noOwns k) O (by decide) (fun j v h=>by rw[Nat.zero_add];exact h)) ?_;refine qp ?_;(refine qe (E_gv0 (f:=42) F42 O (fun w hS=>has_any w A _ c ms m ((Srd.old h (fun k _=>noOwns k)).rd w hS) hn) (fun _=>O)) ?_;rintro _ _ ⟨_,rfl,_,rfl⟩);refine qt (T_not O) ?_;refine qp ?_;refine qz ?_)
 refine hB _ _ _ _ _ O O fun w' hS=>⟨(),O,trivial,hS.sublist (List.nil_sublist _)⟩
def lackN (ms ks:List Int):Nat:=ms.countP (fun m=> !(right ks&&decide (m∈ks)))
def stpE (a b:List Int):Int:=if right a&&right b then (if lackN a b+lackN b a>1 then 241 else 0) else 240
theorem step_any (w:World) (A A2:Option Addr) (n c n2 c2:Nat) (ms ks:List Int) (h:Rd w All 1 A n (ms.map zv)) (h2:Rd w All 1 A2 n2 (ks.map zv)) (hn:n≤1000) (hn2:n2≤1000):
  Gives Tryz.prog 52 [cfv A n c,cfv A2 n2 c2] [] w (X:=Unit) (fun _=> .int .i64 (stpE ms ks)) (fun _=>True) (fun _=>[]):=by
 refine gives_S Tryz.func52 O Tryz.ntmps52 Tryz.results52 (by simp) (St.enter w) (fun B hB=>?_)
 have hl:ms.length=n:=by have:=h.1;simpa using this
 have hl2:ks.length=n2:=by have:=h2.1;simpa using this
 subst hl hl2
 have hc1:ms.countP (fun m=> !(right ks&&decide (m∈ks)))≤ms.length:=List.countP_le_length
 have hc2:ks.countP (fun m=> !(right ms&&decide (m∈ms)))≤ks.length:=List.countP_le_length
 cases hr:right ms
 ·skip
  repeat' (first|refine R_p O ?_ O O|refine R_nil ?_|refine R_skip ?_ O O|refine R_take (T_loada (ds:=[.slice A ms.length c]) O O O O (fun j v h=>by simpa using h)) ?_ O O|refine S_seq O ?_|refine S_region O O ?_|refine S_true O O ?_|(refine R_eff (E_checkF O (Srd.old h (fun k _=>noOwns k)) (by omega) hr) ?_ O O;rintro _ _ ⟨rfl,rfl⟩)|(refine R_eff (E_boxa O) ?_ O O;rintro _ _ ⟨b,rfl,rfl⟩))
  all_goals (try (exfalso;simp_all;done))
  refine hB _ _ _ _ _ O O fun w' hS=>⟨(),?_,trivial,hS.sublist (List.nil_sublist _)⟩
  rw[stpE,hr]
  rfl
 cases hr2:right ks
 ·skip
  focus (refine qs ?_;(iterate 2 (refine qe (E_boxa O) ?_;rintro _ _ ⟨b,rfl,rfl⟩));refine qp ?_;refine qz ?_;refine qq ?_;refine qs ?_;refine qt (T_loada (ds:=[.slice A ms.length c]) O O O O (fun j v h=>by simpa using h)) ?_;(refine qe (E_checkT O (Srd.old h (fun k _=>noOwns k)) (by omega) hr) ?_;rintro _ _ ⟨rfl,rfl⟩);refine qp ?_;refine qp ?_;refine qt (T_loada (ds:=[.slice A2 ks.length c2]) O O O O (fun j v h=>by simpa using h)) ?_;(refine qe (E_checkF O (Srd.old h2 (fun k _=>noOwns k)) (by omega) hr2) ?_;rintro _ _ ⟨rfl,rfl⟩);refine qp ?_;refine qp ?_;refine qz ?_;refine qT ?_;refine qs ?_;refine qp ?_;refine qz ?_)
  all_goals (try (exfalso;simp_all;done))
  refine hB _ _ _ _ _ O O fun w' hS=>⟨(),?_,trivial,hS.sublist (List.nil_sublist _)⟩
  rw[stpE,hr,hr2]
  rfl
 focus (refine qs ?_;(iterate 2 (refine qe (E_boxa O) ?_;rintro _ _ ⟨b,rfl,rfl⟩));refine qp ?_;refine qz ?_;refine qq ?_;refine qs ?_;refine qt (T_loada (ds:=[.slice A ms.length c]) O O O O (fun j v h=>by simpa using h)) ?_;(refine qe (E_checkT O (Srd.old h (fun k _=>noOwns k)) (by omega) hr) ?_;rintro _ _ ⟨rfl,rfl⟩);refine qp ?_;refine qp ?_;refine qt (T_loada (ds:=[.slice A2 ks.length c2]) O O O O (fun j v h=>by simpa using h)) ?_;(refine qe (E_checkT O (Srd.old h2 (fun k _=>noOwns k)) (by omega) hr2) ?_;rintro _ _ ⟨rfl,rfl⟩);refine qp ?_;refine qp ?_;refine qz ?_;refine qF ?_;refine qx ?_;refine qs ?_;refine qp ?_;refine qz ?_;refine qq ?_;refine qq ?_)
 all_goals (try (exfalso;simp_all;done))
 refine S_cut (X:=Unit) (fun _=>[(25,.bool (decide ((1:Int)<((lackN ms ks+lackN ks ms:Nat):Int))))]) (fun _=>[]) (fun _=>True) (fun J hJ=>?_) (fun x _=>?_)
 ·skip
  refine S_draw (_) (fun _ h=>h) (by kernel_rfl) O (by kernel_rfl) (by kernel_rfl:_=12) ?_
  refine dt 0 O (T_loada (ds:=[.slice A ms.length c]) O O O O (fun j v h=>by simpa using h)) ?_
  refine dp 1 ?_
  refine dt 2 O (T_loada (ds:=[.slice A2 ks.length c2]) O O O O (fun j v h=>by simpa using h)) ?_
  refine dt 5 O (T_loada (ds:=[.slice A2 ks.length c2]) O O O O (fun j v h=>by simpa using h)) ?_
  refine dp 6 ?_
  refine dt 7 O (T_loada (ds:=[.slice A ms.length c]) O O O O (fun j v h=>by simpa using h)) ?_
  refine D_one 3 O (E_cloA (cap:=[]) O (E_gv1 (f:=126) F126 O (fun w hS=>stp1_any w A2 ks.length c2) (fun _=>O))) ?_ O O (by kernel_rfl)
  rintro _ _ ⟨bx,rfl,_,rfl⟩
  refine nx ?_
  refine D_one 4 O (E_gv0 (f:=128) F128 O (fun w hS=>counted_any w A _ c 127 [.pointer (some ⟨bx,0,none⟩)] ms (fun m=> !(right ks&&decide (m∈ks))) ((Srd.old h (fun k _=>noOwns k)).rd w hS) hn F127 (fun w' hk m=>stp2_any w' bx A2 _ c2 ks m (((Srd.pt (g:=bx) (n:=1) (size:=1) (ds:=[.slice A2 ks.length c2]) O (fun j v hj=>by rw[Nat.zero_add];exact hj)).rd w hS).keep hk) (((Srd.old h2 (fun k _=>noOwns k)).rd w hS).keep hk) hn2)) (fun _=>O)) ?_ O O (by kernel_rfl)
  rintro _ _ ⟨_,rfl,_,rfl⟩
  refine nx ?_
  refine D_one 8 O (E_cloA (cap:=[]) O (E_gv1 (f:=126) F126 O (fun w hS=>stp1_any w A ms.length c) (fun _=>O))) ?_ O O (by kernel_rfl)
  rintro _ _ ⟨cx,rfl,_,rfl⟩
  refine nx ?_
  refine D_one 9 O (E_gv0 (f:=128) F128 O (fun w hS=>counted_any w A2 _ c2 127 [.pointer (some ⟨cx,0,none⟩)] ks (fun m=> !(right ms&&decide (m∈ms))) ((Srd.old h2 (fun k _=>noOwns k)).rd w hS) hn2 F127 (fun w' hk m=>stp2_any w' cx A _ c ms m (((Srd.pt (g:=cx) (n:=1) (size:=1) (ds:=[.slice A ms.length c]) O (fun j v hj=>by rw[Nat.zero_add];exact hj)).rd w hS).keep hk) (((Srd.old h (fun k _=>noOwns k)).rd w hS).keep hk) hn)) (fun _=>O)) ?_ O O (by kernel_rfl)
  rintro _ _ ⟨_,rfl,_,rfl⟩
  refine nx ?_
  (refine dt 10 O (T_addN O O (by unfold fits;omega)) ?_)
  refine dp 11 ?_
  refine dn ?_
  exact hJ () _ _ trivial (Sub.cons O Sub.nil) (fun w hS=>hS.sublist (List.nil_sublist _))
 focus ((refine S_if O O (fun hs=>?_) (fun hs=>?_));refine qs ?_;refine qp ?_;refine qz ?_;rotate_left;refine qx ?_;refine qs ?_;refine qp ?_;refine qz ?_;rotate_left)
 all_goals
  refine hB _ _ _ _ _ O O fun w' hS=>⟨(),?_,trivial,hS.sublist (List.nil_sublist _)⟩
  rw[stpE,hr,hr2]
  simp only[Bool.and_self,if_true]
  first
  |rw[if_pos (by omega)];rfl
  |rw[if_neg (by omega)];rfl
theorem up_len: ∀ (ms:List Int) (a b:Int),(∀ m∈ms,a<m∧m≤b)→Up_ ms→(ms.length:Int)≤max 0 (b-a)
 |[],a,b,_,_=>by simp;omega
 |m::ms,a,b,h,hu=>by
  obtain⟨h1,h2⟩:=List.pairwise_cons.1 hu
  have ih:=up_len ms m b (fun x hx=>⟨h1 x hx,(h x (by simp[hx])).2⟩) h2
  have:=h m (by simp)
  simp only[List.length_cons]
  omega
theorem right_len {ms:List Int} (h:right ms=true):0<ms.length∧ms.length≤5:=by
 obtain⟨h0,h1,h2⟩:=right_up h
 have:=up_len ms 0 5 (fun m hm=>by have:=h1 m hm;omega) h2
 refine⟨List.length_pos_iff.2 h0,by omega⟩
theorem cf_alloc:ti33.zero= .agg [Value.slice none 0 0].toArray:=by kernel_rfl
theorem cf_built0:Tryz.prog.built 33 []=some [Value.slice none 0 0].toArray:=by kernel_rfl
theorem cf_built1 (A:Option Addr) (n c:Nat):Tryz.prog.built 33 [(0,.slice A n c)]=some [Value.slice A n c].toArray:=by kernel_rfl
theorem sl_one (A:Option Addr) (n c:Nat): ∀ u∈[Value.slice A n c],u.oneCell'=true:=by simp[Value.oneCell']
theorem zv_ones (ms:List Int): ∀ v∈ms.map zv,v.oneCell'=true:=by simp[zv,Value.oneCell']
theorem cut_le (ms:List Int) (m:Int):cut ms m≤ms.length:=List.findIdx_le_length
def b0 (l:List UInt8):Nat:=(l.getD 0 0).toNat
def decM (l:List UInt8):List Int:=(l.drop 1).map fun b=>(b.toNat:Int)
def decE (l:List UInt8):Int:=if l.length≤b0 l then 7 else if l.length-1=b0 l∧right (decM l)=true then 0 else 240
def decL (l:List UInt8):List Int:=if decE l=0 then decM l else []
theorem decM_next (l:List UInt8) (j:Nat) (hj:j<l.length-1):(decM l).take (j+1)=(decM l).take j++[(((l.drop 1).getD j 0).toNat:Int)]:=by
 have h:j<(decM l).length:=by simp[decM];omega
 rw[List.take_succ_eq_append_getElem h]
 congr 1
 simp[decM,List.getD,show j+1<l.length by omega]
theorem decM_len (l:List UInt8):(decM l).length=l.length-1:=by simp[decM]
section
variable {n:Nat} {w0:World} {M:Nat→Prop} {T:Slots} {H Hr:List Asn} {dd:Option Tmp} {tt:TypeId} {pos:String} {af:Array Edge} {g:Option (Nat×Bool)} {x y z:Operand} {ts:Array TypeId}
end
theorem dec_any (w:World) (A:Option Addr) (n c:Nat) (l:List UInt8) (h:Bs w All A n c l) (hn:n≤100000):
  Gives Tryz.prog 120 [.slice A n c] [] w (X:=Option Addr×Nat) (fun x=> .tuple #[cfv x.1 (decL l).length x.2,.int .i64 (decE l)]) (fun _=>True) (fun x=>[row 3 1 x.1 (decL l).length x.2 ((decL l).map zv)]):=by
 refine gives_C Tryz.func120 O Tryz.ntmps120 Tryz.results120 (by simp) (St.enter w) (fun B hB=>?_)
 have hl:n=l.length:=h.len
 have hcap:=h.cap
 have hne:0<n→A≠none:=fun h0=>by obtain⟨ad,rfl,_⟩:=h.rd.2 h0;simp
 obtain⟨q,hq⟩: ∃ q,b0 l=q:=⟨_,O⟩
 have hq':(l.getD 0 0).toNat=q:=hq
 have hq8:(l.getD 0 0).toNat<256:=UInt8.toNat_lt _
 have hdl:=decM_len l
 by_cases hsh:l.length≤b0 l
 ·have e1:decE l=7:=by rw[decE,if_pos hsh]
  have e2:decL l=[]:=by rw[decL,e1];rfl
  rw[e1,e2] at hB
  rw[hq] at hsh
  repeat' (first|refine R_take (T_decT O (by omega)) ?_ O O|refine R_p O ?_ O O|refine R_nil ?_|refine R_skip ?_ O O|refine R_take (T_build0 cf_built0) ?_ O O|refine R_take (T_ldb (j:=0) O O O (Src.old h (fun k _=>noOwns k)) (by omega)) ?_ O O|refine R_take (T_ixN O O O O O O (by first|assumption|exact hne (by omega)|exact hne2 (by omega)) (by omega)) ?_ O O|refine R_take (T_convf O O O O (by unfold fits;omega)) ?_ O O|refine S_seq O ?_|refine S_region O O ?_|refine S_true O O ?_|(refine R_eff (E_alloca O cf_alloc) ?_ O O;rintro _ _ ⟨bc,rfl,rfl⟩)|(refine R_eff0 (E_storew (ds:=[.slice none 0 0]) (cs:=[.slice none 0 0]) O O O O (sl_one _ _ _) O) ?_ O;rintro _ _ rfl)|(refine R_splitd O O (fun hs=>?_) (fun hs=>?_)))
  all_goals (try (exfalso;first|contradiction|omega))
  all_goals (refine hB _ _ _ _ _ O (.cell O O O inferInstance O (.tmp O .nil)) fun w' hS=>⟨(none,0),O,trivial,(hS.sublist (List.nil_sublist _)).nilrow _ _⟩)
 have hsh': ¬ l.length≤q:=by rw[hq] at hsh;exact hsh
 repeat' (first|refine R_take (T_decF O (by omega)) ?_ O O|refine R_p O ?_ O O|refine R_nil ?_|refine R_take (T_slN (sz:=1) O O O O O O (by omega) (by omega)) ?_ O O|refine R_take (T_ldb (j:=0) O O O (Src.old h (fun k _=>noOwns k)) (by omega)) ?_ O O|refine R_take (T_ixN O O O O O O (by first|assumption|exact hne (by omega)|exact hne2 (by omega)) (by omega)) ?_ O O|refine R_take (T_convf O O O O (by unfold fits;omega)) ?_ O O|refine S_seq O ?_|refine S_region O O ?_|refine S_false O O ?_|refine S_block O ?_|refine S_skip O ?_|(refine R_eff (E_alloca O cf_alloc) ?_ O O;rintro _ _ ⟨bc,rfl,rfl⟩))
 rename_i b2
 have h1:=h.cutP (k:=1) (by omega)
 obtain⟨A1,hA1⟩: ∃ A1,cutP A c 1 1=A1:=⟨_,O⟩
 rw[hA1] at h1 ⊢
 have hne1:0<n-1→A1≠none:=fun h0=>by obtain⟨ad,rfl,_⟩:=h1.rd.2 h0;simp
 refine S_loop (X:=Nat×Option Addr×Nat) (fun x=>[(0,.slice A n c),(2,.pointer (some ⟨b2,0,none⟩)),(4,.pointer (some ⟨bc,0,none⟩)),(21,.slice A1 (n-1) (c-1)),(22,.int .i64 ((n-1:Nat):Int)),(23,.int .i64 (x.1:Int))]) (fun x=>[row 3 1 x.2.1 x.1 x.2.2 (((decM l).take x.1).map zv),pt bc 33 [.slice x.2.1 x.1 x.2.2],pt b2 33 [.slice none 0 0]]) (fun x=>x.1≤n-1) (fun x=>n-1-x.1) O (0,none,0) (Nat.zero_le _) (Sub.cons O (Sub.cons O (Sub.cons O (Sub.cons O (Sub.cons O (Sub.cons O Sub.nil)))))) (fun w hS=>hS.nilrow _ _) ?_
 rintro⟨j,A3,c3⟩ hj J hJ
 simp only at hj ⊢
 have hnx:=decM_next l j
 obtain⟨x,hx⟩: ∃ x,(l.drop 1).getD j 0=x:=⟨_,O⟩
 have hx8:x.toNat<256:=UInt8.toNat_lt _
 rw[hx] at hnx
 rcases Nat.lt_or_ge j (n-1) with hjl|hjl
 ·have hv:((l.drop 1).map bv)[j]? =some (.int .u8 (x.toNat:Int)):=by
   rw[← hx]
   have:j<(l.drop 1).length:=by simp;omega
   simp[bv,List.getD,show j+1<l.length by omega]
  focus (refine qs ?_;refine qd ?_;refine qz ?_;refine qq ?_;refine qT ?_;refine qx ?_;refine qq ?_;refine qb ?_;refine qs ?_;refine qt (T_ixN O O O O O O (hne1 (by omega)) (by omega)) ?_;refine qt (T_ldr (v:= .int .u8 (x.toNat:Int)) O O O (Src.old h1 (fun k _=>noOwns k)).rd (by omega) hv) ?_;refine qp ?_;refine qz ?_;refine qr ?_;refine qp ?_;refine qt (T_load O O O (by first|rfl|assumption)) ?_;refine qp ?_;refine qt (T_convf O O O O (by unfold fits;omega)) ?_;(refine qe (E_lit1 (m:=1) (vs:=[zv x.toNat]) O O O O O O O (by simp[zv,Value.oneCell']) (by decide)) ?_;rintro _ _ ⟨bm,rfl,rfl⟩);(refine qe (E_app1 O O O O O O O (Srd.pt (ds:=[zv x.toNat]) O (fun j u hj=>by rw[Nat.zero_add];exact hj)) (by simp[zv,Value.oneCell']) (by show _*8≤_;omega) (by unfold maxLen;omega)) ?_;rintro _ _ ⟨A6,c6,rfl,rfl⟩);refine qp ?_;(refine qw (E_store1 O O O O O O (by first|decide|(simp;done)|(simp;omega)|assumption)) ?_;rintro _ _ rfl);refine qz ?_;refine RS_blk ?_;refine qr ?_;refine qt (T_addN O O (by unfold fits;omega)) ?_;refine qp ?_;refine qz ?_)
  all_goals (try (exfalso;omega))
  refine hJ (j+1,A6,c6) _ _ (by show j+1≤_;omega) (Sub.cons O (Sub.cons O (Sub.cons O (Sub.cons O (Sub.cons O (Sub.cons O Sub.nil)))))) (fun w' hS=>?_) (by show n-1-(j+1)<_;omega)
  show St _ _ [row _ 1 _ _ _ (((decM l).take (j+1)).map zv),_,_] w'
  rw[hnx (by omega),List.map_append]
  exact hS.sublist (.cons_cons _ (.cons _ (.refl _)))
 have hjn:j=n-1:=by omega
 subst hjn
 rw[List.take_of_length_le (by omega)]
 by_cases hq1:n-1=q
 ·cases hr:right (decM l)
  ·have e1:decE l=240:=by rw[decE,if_neg hsh,if_neg];simp[hr]
   have e2:decL l=[]:=by rw[decL,e1];rfl
   rw[e1,e2] at hB
   focus (refine qs ?_;refine qf ?_;refine qz ?_;refine qq ?_;refine qF ?_;refine S_exit O O ?_;refine qq ?_;refine qq ?_)
   refine S_draw (_) (fun _ h=>h) (by kernel_rfl) O (by kernel_rfl) (by kernel_rfl:_=13) ?_
   refine dp 0 ?_
   refine dt 1 O (T_load O O O (by first|rfl|assumption)) ?_
   refine dp 2 ?_
   refine dp 3 ?_
   refine dt 4 O (T_ixN O O O O O O (hne (by omega)) (by omega)) ?_
   refine dt 5 O (T_ldb (j:=0) O O O (Src.old h (fun k _=>noOwns k)) (by omega)) ?_
   (refine dt 6 O (T_convf O O O O (by unfold fits;omega)) ?_)
   refine dqF 7 ?_
   refine dp 8 ?_
   refine dt 9 O (T_loada (ds:=[.slice A3 (n-1) c3]) O O O O (fun j v h=>by simpa using h)) ?_
   refine D_one 10 O (E_checkF O (Srd.row (n:=n-1) (c:=c3)) (by omega) hr) ?_ O O (by kernel_rfl)
   rintro _ _ ⟨rfl,rfl⟩
   refine nx ?_
   refine dp 11 ?_
   refine dp 12 ?_
   refine dn ?_
   skip
   focus (refine qT ?_;refine qs ?_;refine qt (T_build0 cf_built0) ?_;(refine qw (E_storew (ds:=[.slice none 0 0]) (cs:=[.slice none 0 0]) O O O O (sl_one _ _ _) O) ?_;rintro _ _ rfl);refine qp ?_;refine qz ?_)
   all_goals (try (exfalso;first|contradiction|omega))
   refine hB _ _ _ _ _ O (.cell O O O inferInstance O (.tmp O .nil)) fun w' hS=>⟨(none,0),O,trivial,(hS.sublist (List.nil_sublist _)).nilrow _ _⟩
  ·have e1:decE l=0:=by rw[decE,if_neg hsh,if_pos ⟨by omega,hr⟩]
   have e2:decL l=decM l:=by rw[decL,e1];rfl
   rw[e1,e2,hdl, ← hl] at hB
   focus (refine qs ?_;refine qf ?_;refine qz ?_;refine qq ?_;refine qF ?_;refine S_exit O O ?_;refine qq ?_;refine qq ?_)
   refine S_draw (_) (fun _ h=>h) (by kernel_rfl) O (by kernel_rfl) (by kernel_rfl:_=13) ?_
   refine dp 0 ?_
   refine dt 1 O (T_load O O O (by first|rfl|assumption)) ?_
   refine dp 2 ?_
   refine dp 3 ?_
   refine dt 4 O (T_ixN O O O O O O (hne (by omega)) (by omega)) ?_
   refine dt 5 O (T_ldb (j:=0) O O O (Src.old h (fun k _=>noOwns k)) (by omega)) ?_
   (refine dt 6 O (T_convf O O O O (by unfold fits;omega)) ?_)
   refine dqF 7 ?_
   refine dp 8 ?_
   refine dt 9 O (T_loada (ds:=[.slice A3 (n-1) c3]) O O O O (fun j v h=>by simpa using h)) ?_
   refine D_one 10 O (E_checkT O (Srd.row (n:=n-1) (c:=c3)) (by omega) hr) ?_ O O (by kernel_rfl)
   rintro _ _ ⟨rfl,rfl⟩
   refine nx ?_
   refine dqF 11 ?_
   refine dp 12 ?_
   refine dn ?_
   skip
   focus (refine qF ?_;refine qx ?_;refine qs ?_;refine qt (T_loada (ds:=[.slice A3 (n-1) c3]) O O O O (fun j v h=>by simpa using h)) ?_;(refine qw (E_storew (ds:=[.slice A3 (n-1) c3]) (cs:=[.slice none 0 0]) O O O O (sl_one _ _ _) O) ?_;rintro _ _ rfl);refine qp ?_;refine qz ?_)
   all_goals (try (exfalso;first|contradiction|omega))
   refine hB _ _ _ _ _ O (.cell O O O inferInstance O (.tmp O .nil)) fun w' hS=>⟨(A3,c3),O,trivial,sub_st _ hS⟩
 ·have e1:decE l=240:=by rw[decE,if_neg hsh,if_neg];rintro⟨h1,h2⟩;omega
  have e2:decL l=[]:=by rw[decL,e1];rfl
  rw[e1,e2] at hB
  focus (refine qs ?_;refine qf ?_;refine qz ?_;refine qq ?_;refine qF ?_;refine S_exit O O ?_;refine qq ?_;refine qq ?_)
  refine S_draw (_) (fun _ h=>h) (by kernel_rfl) O (by kernel_rfl) (by kernel_rfl:_=13) ?_
  refine dp 0 ?_
  refine dt 1 O (T_load O O O (by first|rfl|assumption)) ?_
  refine dp 2 ?_
  refine dp 3 ?_
  refine dt 4 O (T_ixN O O O O O O (hne (by omega)) (by omega)) ?_
  refine dt 5 O (T_ldb (j:=0) O O O (Src.old h (fun k _=>noOwns k)) (by omega)) ?_
  (refine dt 6 O (T_convf O O O O (by unfold fits;omega)) ?_)
  refine dqT 7 ?_
  refine dp 8 ?_
  refine dk 9 ?_
  refine dk 10 ?_
  refine dk 11 ?_
  refine dp 12 ?_
  refine dn ?_
  skip
  focus (refine qT ?_;refine qs ?_;refine qt (T_build0 cf_built0) ?_;(refine qw (E_storew (ds:=[.slice none 0 0]) (cs:=[.slice none 0 0]) O O O O (sl_one _ _ _) O) ?_;rintro _ _ rfl);refine qp ?_;refine qz ?_)
  all_goals (try (exfalso;first|contradiction|omega))
  refine hB _ _ _ _ _ O (.cell O O O inferInstance O (.tmp O .nil)) fun w' hS=>⟨(none,0),O,trivial,(hS.sublist (List.nil_sublist _)).nilrow _ _⟩
theorem getD_at {ms:List Int} {j:Nat} (h:j<ms.length):ms.getD j 0=ms[j]:=by simp[List.getD,h]
theorem right_iff (ms:List Int):right ms=true↔0<ms.length∧ ∀ j,j<ms.length→memb (ms.getD j 0)=true∧(0<j→ms.getD (j-1) 0<ms.getD j 0):=by
 constructor
 ·intro h
  obtain⟨h0,h1,h2⟩:=right_up h
  refine⟨(right_len h).1,fun j hj=>⟨?_,fun h3=>up_lt h2 (by omega) hj⟩⟩
  rw[getD_at hj]
  simpa[memb] using h1 _ (List.getElem_mem hj)
 ·rintro⟨h0,h1⟩
  have key: ∀ j,j≤ms.length→(chk (ms.take j) (decide ((0:Int)<(ms.length:Int)),0)).1=true∧(chk (ms.take j) (decide ((0:Int)<(ms.length:Int)),0)).2=(if j=0 then 0 else ms.getD (j-1) 0):=by
   intro j
   induction j with
   |zero=>intro _;exact⟨by simp[chk];omega,by simp[chk]⟩
   |succ j ih=>
    intro hj
    obtain⟨i1,i2⟩:=ih (by omega)
    obtain⟨g1,g2⟩:=h1 j (by omega)
    rw[chk_next ms _ j (by omega),i1,i2,g1]
    refine⟨?_,by simp⟩
    simp only[Bool.true_and,decide_eq_true_eq]
    split
    ·rw[memb,decide_eq_true_eq] at g1;omega
    ·exact g2 (by omega)
  have:=(key ms.length (Nat.le_refl _)).1
  rwa [List.take_length] at this
theorem rright_any (w:World) (A:Option Addr) (n c:Nat) (ms:List Int) (h:Rd w All 1 A n (ms.map zv)) (hn:n≤100000):
  Gives Tryz.prog 65 [cfv A n c] [] w (X:=Unit) (fun _=> .bool (right ms)) (fun _=>True) (fun _=>[]):=by
 refine gives_S Tryz.func65 O Tryz.ntmps65 Tryz.results65 (by simp) (St.enter w) (fun B hB=>?_)
 have hl:ms.length=n:=by have:=h.1;simpa using this
 have hne:0<n→A≠none:=fun h0=>by obtain⟨ad,rfl,_⟩:=h.2 h0;simp
 subst hl
 have hld: ∀ j,j<ms.length→(ms.map zv)[j]? =some (zv (ms.getD j 0)):=fun j hj=>zv_at hj
 focus (refine qs ?_;(refine qe (E_boxa O) ?_;rintro _ _ ⟨b,rfl,rfl⟩);refine qp ?_;refine qz ?_;refine qq ?_;refine qs ?_;refine qp ?_;refine qt (T_load O O O (by first|rfl|assumption)) ?_;refine qp ?_;refine qp ?_;refine qz ?_;refine qb ?_)
 refine S_loop (X:=Nat) (fun j=>[(1,.pointer (some ⟨b,0,none⟩)),(6,.slice A ms.length c),(7,.int .i64 (ms.length:Int)),(8,.int .i64 (j:Int))]) (fun _=>[pt b 33 [.slice A ms.length c]]) (fun j=>j≤ms.length∧ ∀ i,i<j→memb (ms.getD i 0)=true∧(0<i→ms.getD (i-1) 0<ms.getD i 0)) (fun j=>ms.length-j) O 0 ⟨Nat.zero_le _,fun i hi=>absurd hi (by omega)⟩ (Sub.cons O (Sub.cons O (Sub.cons O (Sub.cons O Sub.nil)))) (fun _ h=>h) ?_
 rintro j ⟨hj,hok⟩ J hJ
 have hbad:j<ms.length→ ¬ (memb (ms.getD j 0)=true∧(0<j→ms.getD (j-1) 0<ms.getD j 0))→right ms=false:=fun h1 h2=>Bool.eq_false_iff.2 fun h3=>h2 (((right_iff ms).1 h3).2 j h1)
 have hend:j=ms.length→right ms=decide ((0:Int)<(ms.length:Int)):=fun h1=>by
  subst h1
  by_cases h0:0<ms.length
  ·rw[decide_eq_true (by omega),(right_iff ms).2 ⟨h0,hok⟩]
  ·rw[decide_eq_false (by omega),Bool.eq_false_iff]
   exact fun h3=>h0 ((right_iff ms).1 h3).1
 have hgo:j<ms.length→(memb (ms.getD j 0)=true∧(0<j→ms.getD (j-1) 0<ms.getD j 0))→ ∀ i,i<j+1→memb (ms.getD i 0)=true∧(0<i→ms.getD (i-1) 0<ms.getD i 0):=fun h1 h2 i hi=>by
  rcases Nat.lt_or_ge i j with h3|h3
  ·exact hok i h3
  ·obtain rfl:i=j:=by omega
   exact h2
 have hld1:=hld j
 have hld2:=hld (j-1)
 obtain⟨x,hx⟩: ∃ x,ms.getD j 0=x:=⟨_,O⟩
 obtain⟨y,hy⟩: ∃ y,ms.getD (j-1) 0=y:=⟨_,O⟩
 rw[hx] at hld1
 rw[hy] at hld2
 rw[hx,hy] at hbad hgo
 simp only[memb,decide_eq_true_eq] at hbad
 clear hok hld
 repeat' (first|refine R_p O ?_ O O|refine R_nil ?_|refine R_skip ?_ O O|refine R_take (T_ldr O O O (Srd.old h (fun k _=>noOwns k)) (by omega) (hld1 (by omega))) ?_ O O|refine R_take (T_ldr O O O (Srd.old h (fun k _=>noOwns k)) (by omega) (hld2 (by omega))) ?_ O O|refine R_take (T_addN O O (by unfold fits;omega)) ?_ O O|refine R_take (T_subN O O (by omega) (by unfold fits;omega)) ?_ O O|refine R_take (T_ixN O O O O O O (by first|assumption|exact hne (by omega)|exact hne2 (by omega)) (by omega)) ?_ O O|refine R_take (T_load O O O (by first|rfl|assumption)) ?_ O O|refine S_seq O ?_|refine S_region O O ?_|refine S_true O O ?_|refine S_false O O ?_|refine S_block O ?_|refine RS_blk ?_|refine S_exit O O ?_|refine S_skip O ?_|(refine R_splitd O O (fun hs=>?_) (fun hs=>?_))|(refine S_if O O (fun hs=>?_) (fun hs=>?_)))
 all_goals (try (exfalso;omega))
 all_goals first
 |(refine hJ (j+1) _ _ ⟨by omega,hgo (by omega) ⟨decide_eq_true (by omega),fun _=>by omega⟩⟩ (Sub.cons O (Sub.cons O (Sub.cons O (Sub.cons O Sub.nil)))) (fun _ h=>h) (by omega);done)
 |(refine hB _ _ _ _ _ O O fun w' hS=>⟨(),?_,trivial,hS.sublist (List.nil_sublist _)⟩;rw[hbad (by omega) (fun hbb=>by obtain⟨g1,g2⟩:=hbb;first|omega|(have g3:=g2 (by omega);omega))];rfl)
 |(refine hB _ _ _ _ _ O O fun w' hS=>⟨(),?_,trivial,hS.sublist (List.nil_sublist _)⟩;rw[hend (by omega)];rfl)
theorem rhas_any (w:World) (A:Option Addr) (n c:Nat) (ms:List Int) (m:Int) (h:Rd w All 1 A n (ms.map zv)) (hn:n≤1000):
  Gives Tryz.prog 151 [cfv A n c,zv m] [] w (X:=Unit) (fun _=> .bool (decide (m∈ms))) (fun _=>True) (fun _=>[]):=by
 refine gives_S Tryz.func151 O Tryz.ntmps151 Tryz.results151 (by simp) (St.enter w) (fun B hB=>?_)
 have hl:ms.length=n:=by have:=h.1;simpa using this
 have hne:0<n→A≠none:=fun h0=>by obtain⟨ad,rfl,_⟩:=h.2 h0;simp
 subst hl
 have hld: ∀ j,j<ms.length→(ms.map zv)[j]? =some (zv (ms.getD j 0)):=fun j hj=>zv_at hj
 focus (refine qs ?_;(refine qe (E_boxa O) ?_;rintro _ _ ⟨b,rfl,rfl⟩);refine qp ?_;refine qz ?_;refine qq ?_;refine qs ?_;refine qp ?_;refine qt (T_load O O O (by first|rfl|assumption)) ?_;refine qp ?_;refine qp ?_;refine qz ?_;refine qb ?_)
 refine S_loop (X:=Nat) (fun j=>[(1,zv m),(8,.slice A ms.length c),(9,.int .i64 (ms.length:Int)),(10,.int .i64 (j:Int))]) (fun _=>[]) (fun j=>j≤ms.length∧ ¬ m∈ms.take j) (fun j=>ms.length-j) O 0 ⟨Nat.zero_le _,by simp⟩ (Sub.cons O (Sub.cons O (Sub.cons O (Sub.cons O Sub.nil)))) (fun _ hS=>hS.sublist (List.nil_sublist _)) ?_
 rintro j ⟨hj,htk⟩ J hJ
 repeat' (first|refine R_p O ?_ O O|refine R_nil ?_|refine R_take (T_ldr O O O (Srd.old h (fun k _=>noOwns k)) (by omega) (hld j (by omega))) ?_ O O|refine R_take (T_addN O O (by unfold fits;omega)) ?_ O O|refine R_take (T_ixN O O O O O O (by first|assumption|exact hne (by omega)|exact hne2 (by omega)) (by omega)) ?_ O O|refine S_seq O ?_|refine S_region O O ?_|refine S_block O ?_|refine RS_blk ?_|refine S_exit O O ?_|refine S_skip O ?_|(refine S_if O O (fun hs=>?_) (fun hs=>?_)))
 all_goals (try (exfalso;omega))
 ·rename_i hlt
  have hlt':j<ms.length:=by omega
  refine hB _ _ _ _ _ O O fun w' hS=>⟨(),?_,trivial,hS.sublist (List.nil_sublist _)⟩
  have heq':ms.getD j 0=m:=hs
  rw[decide_eq_true]
  ·rfl
  ·rw[← heq',getD_at hlt']
   exact List.getElem_mem _
 ·rename_i hlt
  have hlt':j<ms.length:=by omega
  refine hJ (j+1) _ _ ⟨by omega,?_⟩ (Sub.cons O (Sub.cons O (Sub.cons O (Sub.cons O Sub.nil)))) (fun _ h=>h) (by omega)
  rw[List.take_succ_eq_append_getElem hlt',List.mem_append,not_or]
  refine⟨htk,?_⟩
  rw[← getD_at hlt']
  intro hmm
  exact hs (List.mem_singleton.1 hmm).symm
 ·have hjn:j=ms.length:=by omega
  subst hjn
  rw[List.take_length] at htk
  refine hB _ _ _ _ _ O O fun w' hS=>⟨(),?_,trivial,hS.sublist (List.nil_sublist _)⟩
  rw[decide_eq_false htk]
  rfl
theorem rsame_any (w:World) (A A2:Option Addr) (n c n2 c2:Nat) (ms ks:List Int) (h:Rd w All 1 A n (ms.map zv)) (h2:Rd w All 1 A2 n2 (ks.map zv)) (hn:n≤1000) (hn2:n2≤1000):
  Gives Tryz.prog 31 [cfv A n c,cfv A2 n2 c2] [] w (X:=Unit) (fun _=> .bool (decide (ms=ks))) (fun _=>True) (fun _=>[]):=by
 refine gives_S Tryz.func31 O Tryz.ntmps31 Tryz.results31 (by simp) (St.enter w) (fun B hB=>?_)
 have hl:ms.length=n:=by have:=h.1;simpa using this
 have hl2:ks.length=n2:=by have:=h2.1;simpa using this
 have hne:0<n→A≠none:=fun h0=>by obtain⟨ad,rfl,_⟩:=h.2 h0;simp
 have hne2:0<n2→A2≠none:=fun h0=>by obtain⟨ad,rfl,_⟩:=h2.2 h0;simp
 subst hl hl2
 have hld: ∀ j,j<ms.length→(ms.map zv)[j]? =some (zv (ms.getD j 0)):=fun j hj=>zv_at hj
 have hld2: ∀ j,j<ks.length→(ks.map zv)[j]? =some (zv (ks.getD j 0)):=fun j hj=>zv_at hj
 by_cases hlen:ms.length=ks.length
 ·skip
  repeat' (first|refine R_take (T_decF O (by omega)) ?_ O O|refine R_p O ?_ O O|refine R_nil ?_|refine R_take (T_load O O O (by first|rfl|assumption)) ?_ O O|refine S_seq O ?_|refine S_region O O ?_|refine S_false O O ?_|refine S_block O ?_|refine S_skip O ?_|(refine R_eff (E_boxa O) ?_ O O;rintro _ _ ⟨b,rfl,rfl⟩))
  rename_i b1
  refine S_loop (X:=Nat) (fun j=>[(2,.pointer (some ⟨b1,0,none⟩)),(3,.pointer (some ⟨b,0,none⟩)),(15,.int .i64 (ms.length:Int)),(16,.int .i64 (j:Int))]) (fun _=>[pt b 33 [.slice A2 ks.length c2],pt b1 33 [.slice A ms.length c]]) (fun j=>j≤ms.length∧ms.take j=ks.take j) (fun j=>ms.length-j) O 0 ⟨Nat.zero_le _,O⟩ (Sub.cons O (Sub.cons O (Sub.cons O (Sub.cons O Sub.nil)))) (fun _ h=>h) ?_
  rintro j ⟨hj,htk⟩ J hJ
  rcases Nat.lt_or_ge j ms.length with hjl|hjl
  ·focus (refine qs ?_;refine qp ?_;refine qz ?_;refine qq ?_;(refine S_if O O (fun hs=>?_) (fun hs=>?_));refine qx ?_;refine qq ?_;refine qb ?_;refine qs ?_;refine qp ?_;refine qp ?_;refine qz ?_;refine qq ?_;(refine S_draw _ (fun _ h=>h) (by kernel_rfl) O (by kernel_rfl) (rfl:_=11) ?_;(refine dp 0 ?_);(refine dt 1 O (T_load O O O (by first|rfl|assumption)) ?_);(refine dp 2 ?_);(refine dt 3 O (T_ixN O O O O O O (by first|assumption|exact hne (by omega)|exact hne2 (by omega)) (by omega)) ?_);(refine dt 4 O (T_ldr O O O (Srd.old h (fun k _=>noOwns k)) (by omega) (hld j (by omega))) ?_);(refine dp 5 ?_);(refine dt 6 O (T_load O O O (by first|rfl|assumption)) ?_);(refine dp 7 ?_);(refine dt 8 O (T_ixN O O O O O O (by first|assumption|exact hne (by omega)|exact hne2 (by omega)) (by omega)) ?_);(refine dt 9 O (T_ldr O O O (Srd.old h2 (fun k _=>noOwns k)) (by omega) (hld2 j (by omega))) ?_);(refine dp 10 ?_);refine dn ?_);(refine S_if O O (fun hs=>?_) (fun hs=>?_));refine qs ?_;refine qp ?_;refine qz ?_;rotate_left;refine qx ?_;refine RS_blk ?_;refine qr ?_;refine qt (T_addN O O (by unfold fits;omega)) ?_;refine qp ?_;refine qz ?_;rotate_left;refine S_exit O O ?_;refine qs ?_;refine qp ?_;refine qz ?_;rotate_left)
   all_goals (try (exfalso;omega))
   ·refine hB _ _ _ _ _ O O fun w' hS=>⟨(),?_,trivial,hS.sublist (List.nil_sublist _)⟩
    rw[decide_eq_false]
    ·rfl
    ·rintro rfl;simp_all
   ·refine hJ (j+1) _ _ ⟨by omega,(take2_succ hlen hjl).2 ⟨htk,by simp_all⟩⟩ (Sub.cons O (Sub.cons O (Sub.cons O (Sub.cons O Sub.nil)))) (fun _ h=>h) (by omega)
  ·skip
   focus (refine qs ?_;refine qf ?_;refine qz ?_;refine qq ?_;refine qF ?_;refine S_exit O O ?_;refine qs ?_;refine qp ?_;refine qz ?_)
   all_goals (try (exfalso;omega))
   have hjn:j=ms.length:=by omega
   subst hjn
   refine hB _ _ _ _ _ O O fun w' hS=>⟨(),?_,trivial,hS.sublist (List.nil_sublist _)⟩
   rw[decide_eq_true]
   ·rfl
   ·rw[List.take_length,hlen,List.take_length] at htk
    exact htk
 ·skip
  repeat' (first|refine R_take (T_decT O (by omega)) ?_ O O|refine R_p O ?_ O O|refine R_nil ?_|refine R_take (T_load O O O (by first|rfl|assumption)) ?_ O O|refine S_seq O ?_|refine S_region O O ?_|refine S_true O O ?_|(refine R_eff (E_boxa O) ?_ O O;rintro _ _ ⟨b,rfl,rfl⟩))
  all_goals (try (exfalso;omega))
  refine hB _ _ _ _ _ O O fun w' hS=>⟨(),?_,trivial,hS.sublist (List.nil_sublist _)⟩
  rw[decide_eq_false]
  ·rfl
  ·rintro rfl;exact hlen O
def farN (ms ks:List Int):Nat:=ms.countP (fun m=> !decide (m∈ks))+ks.countP (fun m=> !decide (m∈ms))
theorem rfar_any (w:World) (A A2:Option Addr) (n c n2 c2:Nat) (ms ks:List Int) (h:Rd w All 1 A n (ms.map zv)) (h2:Rd w All 1 A2 n2 (ks.map zv)) (hn:n≤1000) (hn2:n2≤1000):
  Gives Tryz.prog 104 [cfv A n c,cfv A2 n2 c2] [] w (X:=Unit) (fun _=> .int .i64 (farN ms ks:Nat)) (fun _=>True) (fun _=>[]):=by
 refine gives_S Tryz.func104 O Tryz.ntmps104 Tryz.results104 (by simp) (St.enter w) (fun B hB=>?_)
 have hl:ms.length=n:=by have:=h.1;simpa using this
 have hl2:ks.length=n2:=by have:=h2.1;simpa using this
 have hne:0<n→A≠none:=fun h0=>by obtain⟨ad,rfl,_⟩:=h.2 h0;simp
 have hne2:0<n2→A2≠none:=fun h0=>by obtain⟨ad,rfl,_⟩:=h2.2 h0;simp
 subst hl hl2
 have hld: ∀ j,j<ms.length→(ms.map zv)[j]? =some (zv (ms.getD j 0)):=fun j hj=>zv_at hj
 have hld2: ∀ j,j<ks.length→(ks.map zv)[j]? =some (zv (ks.getD j 0)):=fun j hj=>zv_at hj
 have hle: ∀ j,(ms.take j).countP (fun m=> !decide (m∈ks))≤j:=fun j=>Nat.le_trans List.countP_le_length (by simp;omega)
 have hle2: ∀ j,(ks.take j).countP (fun m=> !decide (m∈ms))≤j:=fun j=>Nat.le_trans List.countP_le_length (by simp;omega)
 repeat' (first|refine R_p O ?_ O O|refine R_nil ?_|refine R_take (T_load O O O (by first|rfl|assumption)) ?_ O O|refine S_seq O ?_|refine S_region O O ?_|refine S_block O ?_|(refine R_eff (E_boxa O) ?_ O O;rintro _ _ ⟨b,rfl,rfl⟩))
 rename_i b2
 refine S_loop (X:=Nat) (fun j=>[(2,.pointer (some ⟨b2,0,none⟩)),(3,.pointer (some ⟨b,0,none⟩)),(5,.int .i64 ((ms.take j).countP (fun m=> !decide (m∈ks)):Nat)),(11,.slice A ms.length c),(12,.int .i64 (ms.length:Int)),(13,.int .i64 (j:Int))]) (fun _=>[pt b 33 [.slice A2 ks.length c2],pt b2 33 [.slice A ms.length c]]) (fun j=>j≤ms.length) (fun j=>ms.length-j) O 0 (Nat.zero_le _) (Sub.cons O (Sub.cons O (Sub.cons O (Sub.cons O (Sub.cons O (Sub.cons O Sub.nil)))))) (fun _ h=>h) ?_
 rintro j hj J hJ
 have hnx:=cnt_next (fun m=> !decide (m∈ks)) ms j
 have hld':=hld j
 have hlj:=hle j
 obtain⟨x,hx⟩: ∃ x,ms.getD j 0=x:=⟨_,O⟩
 obtain⟨q,hq⟩: ∃ q,(ms.take j).countP (fun m=> !decide (m∈ks))=q:=⟨_,O⟩
 rw[hx] at hnx hld'
 rw[hq] at hnx hlj ⊢
 rcases Nat.lt_or_ge j ms.length with hjl|hjl
 ·by_cases hxm:x∈ks
  ·have e:(ms.take (j+1)).countP (fun m=> !decide (m∈ks))=q:=by rw[hnx hjl];simp[hxm]
   repeat' (first|refine R_p O ?_ O O|refine R_nil ?_|refine R_take (T_ldr O O O (Srd.old h (fun k _=>noOwns k)) (by omega) (hld' (by omega))) ?_ O O|refine R_take (T_loada (ds:=[.slice A2 ks.length c2]) O O O O (fun j v h=>by simpa using h)) ?_ O O|refine R_take (T_addN O O (by unfold fits;omega)) ?_ O O|refine R_take (T_ixN O O O O O O (by first|assumption|exact hne (by omega)|exact hne2 (by omega)) (by omega)) ?_ O O|refine R_take (T_load O O O (by first|rfl|assumption)) ?_ O O|refine R_take (T_notd O) ?_ O O|refine S_seq O ?_|refine S_region O O ?_|refine S_block O ?_|refine RS_blk ?_|refine S_exit O O ?_|refine S_skip O ?_|(refine R_eff (E_gv0 (f:=151) F151 O (fun w hS=>rhas_any w A2 _ c2 ks x ((Srd.old h2 (fun k _=>noOwns k)).rd w hS) hn2) (fun _=>O)) ?_ O O;rintro _ _ ⟨_,rfl,_,rfl⟩)|(refine S_if O O (fun hs=>?_) (fun hs=>?_)))
   all_goals (try (exfalso;first|contradiction|omega|(simp_all;done)))
   refine hJ (j+1) _ _ (by omega) ?_ (fun _ h=>h) (by omega)
   rw[e]
   exact(Sub.cons O (Sub.cons O (Sub.cons O (Sub.cons O (Sub.cons O (Sub.cons O Sub.nil))))))
  ·have e:(ms.take (j+1)).countP (fun m=> !decide (m∈ks))=q+1:=by rw[hnx hjl];simp[hxm]
   repeat' (first|refine R_p O ?_ O O|refine R_nil ?_|refine R_take (T_ldr O O O (Srd.old h (fun k _=>noOwns k)) (by omega) (hld' (by omega))) ?_ O O|refine R_take (T_loada (ds:=[.slice A2 ks.length c2]) O O O O (fun j v h=>by simpa using h)) ?_ O O|refine R_take (T_addN O O (by unfold fits;omega)) ?_ O O|refine R_take (T_ixN O O O O O O (by first|assumption|exact hne (by omega)|exact hne2 (by omega)) (by omega)) ?_ O O|refine R_take (T_load O O O (by first|rfl|assumption)) ?_ O O|refine R_take (T_notd O) ?_ O O|refine S_seq O ?_|refine S_region O O ?_|refine S_block O ?_|refine RS_blk ?_|refine S_exit O O ?_|refine S_skip O ?_|(refine R_eff (E_gv0 (f:=151) F151 O (fun w hS=>rhas_any w A2 _ c2 ks x ((Srd.old h2 (fun k _=>noOwns k)).rd w hS) hn2) (fun _=>O)) ?_ O O;rintro _ _ ⟨_,rfl,_,rfl⟩)|(refine S_if O O (fun hs=>?_) (fun hs=>?_)))
   all_goals (try (exfalso;first|contradiction|omega|(simp_all;done)))
   refine hJ (j+1) _ _ (by omega) ?_ (fun _ h=>h) (by omega)
   rw[e]
   exact(Sub.cons O (Sub.cons O (Sub.cons O (Sub.cons O (Sub.cons O (Sub.cons O Sub.nil))))))
 have hjn:j=ms.length:=by omega
 subst hjn
 rw[List.take_length] at hq
 clear hJ hnx hld' hx
 focus (refine qs ?_;refine qf ?_;refine qz ?_;refine qq ?_;refine qF ?_;refine S_exit O O ?_;refine qq ?_;refine qs ?_;refine qp ?_;refine qt (T_load O O O (by first|rfl|assumption)) ?_;refine qp ?_;refine qp ?_;refine qz ?_;refine qb ?_)
 refine S_loop (X:=Nat) (fun j=>[(2,.pointer (some ⟨b2,0,none⟩)),(5,.int .i64 ((q+(ks.take j).countP (fun m=> !decide (m∈ms)):Nat))),(25,.slice A2 ks.length c2),(26,.int .i64 (ks.length:Int)),(27,.int .i64 (j:Int))]) (fun _=>[pt b2 33 [.slice A ms.length c]]) (fun j=>j≤ks.length) (fun j=>ks.length-j) O 0 (Nat.zero_le _) (Sub.cons O (Sub.cons O (Sub.cons O (Sub.cons O (Sub.cons O Sub.nil))))) sub_st ?_
 rintro j hj2 J hJ
 have hnx:=cnt_next (fun m=> !decide (m∈ms)) ks j
 have hld':=hld2 j
 have hlj2:=hle2 j
 obtain⟨x,hx⟩: ∃ x,ks.getD j 0=x:=⟨_,O⟩
 obtain⟨r,hr⟩: ∃ r,(ks.take j).countP (fun m=> !decide (m∈ms))=r:=⟨_,O⟩
 rw[hx] at hnx hld'
 rw[hr] at hnx hlj2 ⊢
 rcases Nat.lt_or_ge j ks.length with hjl|hjl
 ·by_cases hxm:x∈ms
  ·have e:(ks.take (j+1)).countP (fun m=> !decide (m∈ms))=r:=by rw[hnx hjl];simp[hxm]
   repeat' (first|refine R_p O ?_ O O|refine R_nil ?_|refine R_take (T_ldr O O O (Srd.old h2 (fun k _=>noOwns k)) (by omega) (hld' (by omega))) ?_ O O|refine R_take (T_loada (ds:=[.slice A ms.length c]) O O O O (fun j v h=>by simpa using h)) ?_ O O|refine R_take (T_addN O O (by unfold fits;omega)) ?_ O O|refine R_take (T_ixN O O O O O O (by first|assumption|exact hne (by omega)|exact hne2 (by omega)) (by omega)) ?_ O O|refine R_take (T_notd O) ?_ O O|refine S_seq O ?_|refine S_region O O ?_|refine S_block O ?_|refine RS_blk ?_|refine S_exit O O ?_|refine S_skip O ?_|(refine R_eff (E_gv0 (f:=151) F151 O (fun w hS=>rhas_any w A _ c ms x ((Srd.old h (fun k _=>noOwns k)).rd w hS) hn) (fun _=>O)) ?_ O O;rintro _ _ ⟨_,rfl,_,rfl⟩)|(refine S_if O O (fun hs=>?_) (fun hs=>?_)))
   all_goals (try (exfalso;first|contradiction|omega|(simp_all;done)))
   refine hJ (j+1) _ _ (by omega) ?_ (fun _ h=>h) (by omega)
   rw[e]
   exact(Sub.cons O (Sub.cons O (Sub.cons O (Sub.cons O (Sub.cons O Sub.nil)))))
  ·have e:(ks.take (j+1)).countP (fun m=> !decide (m∈ms))=r+1:=by rw[hnx hjl];simp[hxm]
   repeat' (first|refine R_p O ?_ O O|refine R_nil ?_|refine R_take (T_ldr O O O (Srd.old h2 (fun k _=>noOwns k)) (by omega) (hld' (by omega))) ?_ O O|refine R_take (T_loada (ds:=[.slice A ms.length c]) O O O O (fun j v h=>by simpa using h)) ?_ O O|refine R_take (T_addN O O (by unfold fits;omega)) ?_ O O|refine R_take (T_ixN O O O O O O (by first|assumption|exact hne (by omega)|exact hne2 (by omega)) (by omega)) ?_ O O|refine R_take (T_notd O) ?_ O O|refine S_seq O ?_|refine S_region O O ?_|refine S_block O ?_|refine RS_blk ?_|refine S_exit O O ?_|refine S_skip O ?_|(refine R_eff (E_gv0 (f:=151) F151 O (fun w hS=>rhas_any w A _ c ms x ((Srd.old h (fun k _=>noOwns k)).rd w hS) hn) (fun _=>O)) ?_ O O;rintro _ _ ⟨_,rfl,_,rfl⟩)|(refine S_if O O (fun hs=>?_) (fun hs=>?_)))
   all_goals (try (exfalso;first|contradiction|omega|(simp_all;done)))
   refine hJ (j+1) _ _ (by omega) ?_ (fun _ h=>h) (by omega)
   rw[e]
   exact(Sub.cons O (Sub.cons O (Sub.cons O (Sub.cons O (Sub.cons O Sub.nil)))))
 have hjn:j=ks.length:=by omega
 subst hjn
 rw[List.take_length] at hr
 focus (refine qs ?_;refine qf ?_;refine qz ?_;refine qq ?_;refine qF ?_;refine S_exit O O ?_;refine qs ?_;refine qp ?_;refine qp ?_;refine qz ?_)
 refine hB _ _ _ _ _ O O fun w' hS=>⟨(),?_,trivial,hS.sublist (List.nil_sublist _)⟩
 rw[farN,hq,hr]
 rfl
def wide (ms:List Int):List Value:=ms.map zv++[zv 77,zv 0]
section
variable {n:Nat} {w0:World} {M:Nat→Prop} {T:Slots} {H Hr:List Asn} {dd:Option Tmp} {tt:TypeId} {pos:String} {af:Array Edge} {g:Option (Nat×Bool)} {x y z:Operand} {ts:Array TypeId} {A A2:Option Addr} {m c m2 c2:Nat} {ms ks:List Int} {a:Int} {bs:List UInt8}
theorem E_chkW {e:Int} (hx:oget T x=some (cfv A m c)) (hs:Srd w0 M H 1 A m (ms.map zv)) (hm:m≤100000) (hr:chkE ms=e):
  Ef Tryz.prog n w0 M T H ⟨dd,.call ⟨.value (.func 95),#[x],ts⟩,tt,pos,af,g⟩ (fun u H'=>u= .int .i64 e∧H'=H):=by
 refine(E_gv F95 (vs:=[cfv A m c]) (by simp[ogets,hx]) fun w hS=>check_any w A m c ms (hs.rd w hS) (by omega)).mono ?_
 rintro v H' ⟨_,rfl,_,rfl⟩ w hS
 exact⟨_,_,O,⟨by rw[hr],O⟩,hS⟩
theorem E_rrightW {r:Bool} (hx:oget T x=some (cfv A m c)) (hs:Srd w0 M H 1 A m (ms.map zv)) (hm:m≤100000) (hr:right ms=r):
  Ef Tryz.prog n w0 M T H ⟨dd,.call ⟨.value (.func 65),#[x],ts⟩,tt,pos,af,g⟩ (fun u H'=>u= .bool r∧H'=H):=by
 refine(E_gv F65 (vs:=[cfv A m c]) (by simp[ogets,hx]) fun w hS=>rright_any w A m c ms (hs.rd w hS) (by omega)).mono ?_
 rintro v H' ⟨_,rfl,_,rfl⟩ w hS
 exact⟨_,_,O,⟨by rw[hr],O⟩,hS⟩
theorem E_rhasW {r:Bool} (hx:oget T x=some (cfv A m c)) (hy:oget T y=some (zv a)) (hs:Srd w0 M H 1 A m (ms.map zv)) (hm:m≤900) (hr:decide (a∈ms)=r):
  Ef Tryz.prog n w0 M T H ⟨dd,.call ⟨.value (.func 151),#[x,y],ts⟩,tt,pos,af,g⟩ (fun u H'=>u= .bool r∧H'=H):=by
 refine(E_gv F151 (vs:=[cfv A m c,zv a]) (by simp[ogets,hx,hy]) fun w hS=>rhas_any w A m c ms a (hs.rd w hS) (by omega)).mono ?_
 rintro v H' ⟨_,rfl,_,rfl⟩ w hS
 exact⟨_,_,O,⟨by rw[hr],O⟩,hS⟩
end
end Go.Proofs.YtdeffdldifepkaaGreat.C
namespace Go.Proofs.YtdeffdldifepkaaGreat.C
open Go.RowKit Go.ChangeShapes Go.WideShapes Go.ChangeAt
open Asn (pt row rb)
set_option linter.unusedVariables false
set_option linter.unusedSimpArgs false
structure Cf where
 A:Option Addr
 n:Nat
 c:Nat
 ms:List Int
def Cf.v (k:Cf):Value:= .slice k.A k.n k.c
def Cf.ok (k:Cf) (W:World):Prop:=Rd W All 1 k.A k.n (k.ms.map zv)∧k.n≤k.c∧k.c≤maxLen
instance:Inhabited Cf:=⟨⟨none,0,0,[]⟩⟩
theorem Gives.pure {P:Program} {f:FuncId} {vs:List Value} {w:World} {v:Value} {I:Unit→Prop} {A:Unit→List Asn} (h:Gives P f vs [] w (fun _=>v) I A):Calls P f vs.toArray w fun e w'=>e= .returned v∧Kp All w w':=
 h.mono fun e w' ⟨_,he,_,hS⟩=>⟨he,hS.kpO⟩
end Go.Proofs.YtdeffdldifepkaaGreat.C
namespace Go.Proofs.YtdeffdldifepkaaGreat.C
open Go.RowKit
open Asn (pt row rb)
set_option linter.unusedVariables false
set_option linter.unusedSimpArgs false
theorem rdec_any (w:World) (A:Option Addr) (n c:Nat) (l:List UInt8) (h:Bs w All A n c l) (hn:n≤100000):
  Gives Tryz.prog 101 [.slice A n c] [] w (X:=Option Addr×Nat) (fun x=> .tuple #[cfv x.1 (decL l).length x.2,.int .i64 (decE l)]) (fun _=>True) (fun x=>[row 3 1 x.1 (decL l).length x.2 ((decL l).map zv)]):=by
 refine gives_C Tryz.func101 O Tryz.ntmps101 Tryz.results101 (by simp) (St.enter w) (fun B hB=>?_)
 have hl:n=l.length:=h.len
 have hcap:=h.cap
 have hne:0<n→A≠none:=fun h0=>by obtain⟨ad,rfl,_⟩:=h.rd.2 h0;simp
 obtain⟨q,hq⟩: ∃ q,b0 l=q:=⟨_,O⟩
 have hq':(l.getD 0 0).toNat=q:=hq
 have hq8:(l.getD 0 0).toNat<256:=UInt8.toNat_lt _
 have hdl:=decM_len l
 by_cases hsh:l.length≤b0 l
 ·have e1:decE l=7:=by rw[decE,if_pos hsh]
  have e2:decL l=[]:=by rw[decL,e1];rfl
  rw[e1,e2] at hB
  rw[hq] at hsh
  repeat' (first|refine R_take (T_decT O (by omega)) ?_ O O|refine R_p O ?_ O O|refine R_nil ?_|refine R_skip ?_ O O|refine R_take (T_build0 cf_built0) ?_ O O|refine R_take (T_ldb (j:=0) O O O (Src.old h (fun k _=>noOwns k)) (by omega)) ?_ O O|refine R_take (T_subN O O (by omega) (by unfold fits;omega)) ?_ O O|refine R_take (T_ixN O O O O O O (by first|assumption|exact hne (by omega)|exact hne2 (by omega)) (by omega)) ?_ O O|refine R_take (T_convf O O O O (by unfold fits;omega)) ?_ O O|refine S_seq O ?_|refine S_region O O ?_|refine S_true O O ?_|(refine R_eff (E_alloca O cf_alloc) ?_ O O;rintro _ _ ⟨bc,rfl,rfl⟩)|(refine R_eff0 (E_storew (ds:=[.slice none 0 0]) (cs:=[.slice none 0 0]) O O O O (sl_one _ _ _) O) ?_ O;rintro _ _ rfl)|(refine R_splitd O O (fun hs=>?_) (fun hs=>?_)))
  all_goals (try (exfalso;first|contradiction|omega))
  all_goals (refine hB _ _ _ _ _ O (.cell O O O inferInstance O (.tmp O .nil)) fun w' hS=>⟨(none,0),O,trivial,(hS.sublist (List.nil_sublist _)).nilrow _ _⟩)
 have hsh': ¬ l.length≤q:=by rw[hq] at hsh;exact hsh
 repeat' (first|refine R_take (T_decF O (by omega)) ?_ O O|refine R_p O ?_ O O|refine R_nil ?_|refine R_take (T_slN (sz:=1) O O O O O O (by omega) (by omega)) ?_ O O|refine R_take (T_ldb (j:=0) O O O (Src.old h (fun k _=>noOwns k)) (by omega)) ?_ O O|refine R_take (T_subN O O (by omega) (by unfold fits;omega)) ?_ O O|refine R_take (T_ixN O O O O O O (by first|assumption|exact hne (by omega)|exact hne2 (by omega)) (by omega)) ?_ O O|refine R_take (T_convf O O O O (by unfold fits;omega)) ?_ O O|refine S_seq O ?_|refine S_region O O ?_|refine S_false O O ?_|refine S_block O ?_|refine S_skip O ?_|(refine R_eff (E_alloca O cf_alloc) ?_ O O;rintro _ _ ⟨bc,rfl,rfl⟩))
 rename_i b2
 have h1:=h.cutP (k:=1) (by omega)
 obtain⟨A1,hA1⟩: ∃ A1,cutP A c 1 1=A1:=⟨_,O⟩
 rw[hA1] at h1 ⊢
 have hne1:0<n-1→A1≠none:=fun h0=>by obtain⟨ad,rfl,_⟩:=h1.rd.2 h0;simp
 refine S_loop (X:=Nat×Option Addr×Nat) (fun x=>[(0,.slice A n c),(2,.pointer (some ⟨b2,0,none⟩)),(4,.pointer (some ⟨bc,0,none⟩)),(22,.slice A1 (n-1) (c-1)),(23,.int .i64 ((n-1:Nat):Int)),(24,.int .i64 (x.1:Int))]) (fun x=>[row 3 1 x.2.1 x.1 x.2.2 (((decM l).take x.1).map zv),pt bc 33 [.slice x.2.1 x.1 x.2.2],pt b2 33 [.slice none 0 0]]) (fun x=>x.1≤n-1) (fun x=>n-1-x.1) O (0,none,0) (Nat.zero_le _) (Sub.cons O (Sub.cons O (Sub.cons O (Sub.cons O (Sub.cons O (Sub.cons O Sub.nil)))))) (fun w hS=>hS.nilrow _ _) ?_
 rintro⟨j,A3,c3⟩ hj J hJ
 simp only at hj ⊢
 have hnx:=decM_next l j
 obtain⟨x,hx⟩: ∃ x,(l.drop 1).getD j 0=x:=⟨_,O⟩
 have hx8:x.toNat<256:=UInt8.toNat_lt _
 rw[hx] at hnx
 rcases Nat.lt_or_ge j (n-1) with hjl|hjl
 ·have hv:((l.drop 1).map bv)[j]? =some (.int .u8 (x.toNat:Int)):=by
   rw[← hx]
   have:j<(l.drop 1).length:=by simp;omega
   simp[bv,List.getD,show j+1<l.length by omega]
  focus (refine qs ?_;refine qd ?_;refine qz ?_;refine qq ?_;refine qT ?_;refine qx ?_;refine qq ?_;refine qb ?_;refine qs ?_;refine qt (T_ixN O O O O O O (hne1 (by omega)) (by omega)) ?_;refine qt (T_ldr (v:= .int .u8 (x.toNat:Int)) O O O (Src.old h1 (fun k _=>noOwns k)).rd (by omega) hv) ?_;refine qp ?_;refine qz ?_;refine qr ?_;refine qp ?_;refine qt (T_load O O O (by first|rfl|assumption)) ?_;refine qp ?_;refine qt (T_convf O O O O (by unfold fits;omega)) ?_;(refine qe (E_lit1 (m:=1) (vs:=[zv x.toNat]) O O O O O O O (by simp[zv,Value.oneCell']) (by decide)) ?_;rintro _ _ ⟨bm,rfl,rfl⟩);(refine qe (E_app1 O O O O O O O (Srd.pt (ds:=[zv x.toNat]) O (fun j u hj=>by rw[Nat.zero_add];exact hj)) (by simp[zv,Value.oneCell']) (by show _*8≤_;omega) (by unfold maxLen;omega)) ?_;rintro _ _ ⟨A6,c6,rfl,rfl⟩);refine qp ?_;(refine qw (E_store1 O O O O O O (by first|decide|(simp;done)|(simp;omega)|assumption)) ?_;rintro _ _ rfl);refine qz ?_;refine RS_blk ?_;refine qr ?_;refine qt (T_addN O O (by unfold fits;omega)) ?_;refine qp ?_;refine qz ?_)
  all_goals (try (exfalso;omega))
  refine hJ (j+1,A6,c6) _ _ (by show j+1≤_;omega) (Sub.cons O (Sub.cons O (Sub.cons O (Sub.cons O (Sub.cons O (Sub.cons O Sub.nil)))))) (fun w' hS=>?_) (by show n-1-(j+1)<_;omega)
  show St _ _ [row _ 1 _ _ _ (((decM l).take (j+1)).map zv),_,_] w'
  rw[hnx (by omega),List.map_append]
  exact hS.sublist (.cons_cons _ (.cons _ (.refl _)))
 have hjn:j=n-1:=by omega
 subst hjn
 rw[List.take_of_length_le (by omega)]
 by_cases hq1:n-1=q
 ·cases hr:right (decM l)
  ·have e1:decE l=240:=by rw[decE,if_neg hsh,if_neg];simp[hr]
   have e2:decL l=[]:=by rw[decL,e1];rfl
   rw[e1,e2] at hB
   focus (refine qs ?_;refine qf ?_;refine qz ?_;refine qq ?_;refine qF ?_;refine S_exit O O ?_;refine qq ?_;refine qs ?_;refine qp ?_;refine qp ?_;refine qt (T_subN O O (by omega) (by unfold fits;omega)) ?_;refine qp ?_;refine qt (T_ixN O O O O O O (hne (by omega)) (by omega)) ?_;refine qt (T_ldb (j:=0) O O O (Src.old h (fun k _=>noOwns k)) (by omega)) ?_;refine qt (T_convf O O O O (by unfold fits;omega)) ?_;refine qf ?_;refine qp ?_;refine qt (T_loada (ds:=[.slice A3 (n-1) c3]) O O O O (fun j v h=>by simpa using h)) ?_;(refine qe (E_rrightW O (Srd.row (n:=n-1) (c:=c3)) (by omega) hr) ?_;rintro _ _ ⟨rfl,rfl⟩);refine qt (T_not O) ?_;refine qp ?_;refine qz ?_;refine qT ?_;refine qs ?_;refine qt (T_build0 cf_built0) ?_;(refine qw (E_storew (ds:=[.slice none 0 0]) (cs:=[.slice none 0 0]) O O O O (sl_one _ _ _) O) ?_;rintro _ _ rfl);refine qp ?_;refine qz ?_)
   all_goals (try (exfalso;first|contradiction|omega))
   refine hB _ _ _ _ _ O (.cell O O O inferInstance O (.tmp O .nil)) fun w' hS=>⟨(none,0),O,trivial,(hS.sublist (List.nil_sublist _)).nilrow _ _⟩
  ·have e1:decE l=0:=by rw[decE,if_neg hsh,if_pos ⟨by omega,hr⟩]
   have e2:decL l=decM l:=by rw[decL,e1];rfl
   rw[e1,e2,hdl, ← hl] at hB
   focus (refine qs ?_;refine qf ?_;refine qz ?_;refine qq ?_;refine qF ?_;refine S_exit O O ?_;refine qq ?_;refine qs ?_;refine qp ?_;refine qp ?_;refine qt (T_subN O O (by omega) (by unfold fits;omega)) ?_;refine qp ?_;refine qt (T_ixN O O O O O O (hne (by omega)) (by omega)) ?_;refine qt (T_ldb (j:=0) O O O (Src.old h (fun k _=>noOwns k)) (by omega)) ?_;refine qt (T_convf O O O O (by unfold fits;omega)) ?_;refine qf ?_;refine qp ?_;refine qt (T_loada (ds:=[.slice A3 (n-1) c3]) O O O O (fun j v h=>by simpa using h)) ?_;(refine qe (E_rrightW O (Srd.row (n:=n-1) (c:=c3)) (by omega) hr) ?_;rintro _ _ ⟨rfl,rfl⟩);refine qt (T_not O) ?_;refine qp ?_;refine qz ?_;refine qF ?_;refine qx ?_;refine qs ?_;refine qt (T_loada (ds:=[.slice A3 (n-1) c3]) O O O O (fun j v h=>by simpa using h)) ?_;(refine qw (E_storew (ds:=[.slice A3 (n-1) c3]) (cs:=[.slice none 0 0]) O O O O (sl_one _ _ _) O) ?_;rintro _ _ rfl);refine qp ?_;refine qz ?_)
   all_goals (try (exfalso;first|contradiction|omega))
   refine hB _ _ _ _ _ O (.cell O O O inferInstance O (.tmp O .nil)) fun w' hS=>⟨(A3,c3),O,trivial,sub_st _ hS⟩
 ·have e1:decE l=240:=by rw[decE,if_neg hsh,if_neg];rintro⟨h1,h2⟩;omega
  have e2:decL l=[]:=by rw[decL,e1];rfl
  rw[e1,e2] at hB
  focus (refine qs ?_;refine qf ?_;refine qz ?_;refine qq ?_;refine qF ?_;refine S_exit O O ?_;refine qq ?_;refine qs ?_;refine qp ?_;refine qp ?_;refine qt (T_subN O O (by omega) (by unfold fits;omega)) ?_;refine qp ?_;refine qt (T_ixN O O O O O O (hne (by omega)) (by omega)) ?_;refine qt (T_ldb (j:=0) O O O (Src.old h (fun k _=>noOwns k)) (by omega)) ?_;refine qt (T_convf O O O O (by unfold fits;omega)) ?_;refine qd ?_;refine qp ?_;(iterate 3 refine qk ?_);refine qp ?_;refine qz ?_;refine qT ?_;refine qs ?_;refine qt (T_build0 cf_built0) ?_;(refine qw (E_storew (ds:=[.slice none 0 0]) (cs:=[.slice none 0 0]) O O O O (sl_one _ _ _) O) ?_;rintro _ _ rfl);refine qp ?_;refine qz ?_)
  all_goals (try (exfalso;first|contradiction|omega))
  refine hB _ _ _ _ _ O (.cell O O O inferInstance O (.tmp O .nil)) fun w' hS=>⟨(none,0),O,trivial,(hS.sublist (List.nil_sublist _)).nilrow _ _⟩
end Go.Proofs.YtdeffdldifepkaaGreat.C
namespace Go.Proofs.YtdeffdldifepkaaGreat.C
open Go.RowKit Go.ChangeShapes Go.WideShapes Go.ChangeAt
open Asn (pt row rb)
set_option linter.unusedVariables false
set_option linter.unusedSimpArgs false
section
variable {n:Nat} {w0:World} {M:Nat→Prop} {T:Slots} {H Hr:List Asn} {dd:Option Tmp} {tt:TypeId} {pos:String} {af:Array Edge} {g:Option (Nat×Bool)} {x y z:Operand} {ts:Array TypeId} {A A2:Option Addr} {m c m2 c2:Nat} {ms ks:List Int} {a:Int} {bs:List UInt8}
theorem T_minN {P:Program} {s t:TypeId} {kk:IntKind} {i j:Int} {p q:Nat} (hx:oget T x=some (.int kk i)) (hy:oget T y=some (.int kk j)) [hi:NatOf i p] [hj:NatOf j q]:
  Tk P n w0 M T H ⟨dd,.call ⟨.builtin .min,#[x,y],#[s,t]⟩,tt,pos,af,g⟩ (.int kk ((min p q:Nat):Int)):=by
 have h:=T_min (P:=P) (n:=n) (w0:=w0) (M:=M) (H:=H) (dd:=dd) (tt:=tt) (pos:=pos) (af:=af) (g:=g) (s:=s) (t:=t) hx hy
 rw[hi.is,hj.is] at h
 rwa [show (if (q:Int)<(p:Int) then (q:Int) else (p:Int))=((min p q:Nat):Int) by rw[Nat.min_def];split<;>split<;>omega] at h
end
structure Rw where
 A:Option Addr
 n:Nat
 c:Nat
 l:List UInt8
def Rw.v (k:Rw):Value:= .slice k.A k.n k.c
def Rw.ok (k:Rw) (W:World):Prop:=Bs W All k.A k.n k.c k.l
instance:Inhabited Rw:=⟨⟨none,0,0,[]⟩⟩
end Go.Proofs.YtdeffdldifepkaaGreat.C
namespace Go.Proofs.YtdeffdldifepkaaGreat.C
open Go.RowKit
open Asn (pt row rb)
set_option linter.unusedVariables false
set_option linter.unusedSimpArgs false
def rmajB (ms set:List Int):Bool:=decide (ms.length<2*ms.countP (fun m=>decide (m∈set)))
theorem rmaj_any (w:World) (A A2:Option Addr) (n c n2 c2':Nat) (ms set:List Int) (h:Rd w All 1 A n (ms.map zv)) (h2:Rd w All 1 A2 n2 (set.map zv)) (hn:n≤900) (hn2:n2≤900):
  Gives Tryz.prog 79 [cfv A n c,.slice A2 n2 c2'] [] w (X:=Unit) (fun _=> .bool (rmajB ms set)) (fun _=>True) (fun _=>[]):=by
 refine gives_S Tryz.func79 O Tryz.ntmps79 Tryz.results79 (by simp) (St.enter w) (fun B hB=>?_)
 have hl:ms.length=n:=by have:=h.1;simpa using this
 have hne:0<n→A≠none:=fun h0=>by obtain⟨ad,rfl,_⟩:=h.2 h0;simp
 subst hl
 have hld: ∀ j,j<ms.length→(ms.map zv)[j]? =some (zv (ms.getD j 0)):=fun j hj=>zv_at hj
 have hle: ∀ j,(ms.take j).countP (fun m=>decide (m∈set))≤j:=fun j=>Nat.le_trans List.countP_le_length (by simp;omega)
 repeat' (first|refine R_p O ?_ O O|refine R_nil ?_|refine R_take (T_load O O O (by first|rfl|assumption)) ?_ O O|refine S_seq O ?_|refine S_region O O ?_|refine S_block O ?_|(refine R_eff (E_boxa O) ?_ O O;rintro _ _ ⟨b,rfl,rfl⟩))
 refine S_loop (X:=Nat) (fun j=>[(1,.slice A2 n2 c2'),(2,.pointer (some ⟨b,0,none⟩)),(5,.int .i64 ((ms.take j).countP (fun m=>decide (m∈set)):Nat)),(9,.slice A ms.length c),(10,.int .i64 (ms.length:Int)),(11,.int .i64 (j:Int))]) (fun _=>[pt b 33 [.slice A ms.length c]]) (fun j=>j≤ms.length) (fun j=>ms.length-j) O 0 (Nat.zero_le _) (Sub.cons O (Sub.cons O (Sub.cons O (Sub.cons O (Sub.cons O (Sub.cons O Sub.nil)))))) (fun _ h=>h) ?_
 rintro j hj J hJ
 have hnx:=cnt_next (fun m=>decide (m∈set)) ms j
 have hld':=hld j
 have hlj:=hle j
 obtain⟨x,hx⟩: ∃ x,ms.getD j 0=x:=⟨_,O⟩
 obtain⟨q,hq⟩: ∃ q,(ms.take j).countP (fun m=>decide (m∈set))=q:=⟨_,O⟩
 rw[hx] at hnx hld'
 rw[hq] at hnx hlj ⊢
 rcases Nat.lt_or_ge j ms.length with hjl|hjl
 rotate_left
 ·have hjn:j=ms.length:=by omega
  subst hjn
  rw[List.take_length] at hq
  focus (refine qs ?_;refine qf ?_;refine qz ?_;refine qq ?_;refine qF ?_;refine S_exit O O ?_;refine qs ?_;refine qp ?_;refine qt (T_mulN O O (by unfold fits;omega)) ?_;refine qp ?_;refine qt (T_load O O O (by first|rfl|assumption)) ?_;(iterate 3 refine qp ?_);refine qz ?_)
  refine hB _ _ _ _ _ O O fun w' hS=>⟨(),?_,trivial,hS.sublist (List.nil_sublist _)⟩
  rw[rmajB,hq]
  show Value.bool _=_
  congr 1
  exact decide_eq_decide.2 (by omega)
 obtain⟨r,hr⟩: ∃ r,decide (x∈set)=r:=⟨_,O⟩
 rw[hr] at hnx
 cases r
 ·have e:(ms.take (j+1)).countP (fun m=>decide (m∈set))=q:=by rw[hnx hjl];rfl
  focus (refine qs ?_;refine qd ?_;refine qz ?_;refine qq ?_;refine qT ?_;refine qx ?_;refine qq ?_;refine qb ?_;refine qs ?_;refine qt (T_ixN O O O O O O (by first|assumption|exact hne (by omega)|exact hne2 (by omega)) (by omega)) ?_;refine qt (T_ldr O O O (Srd.old h (fun k _=>noOwns k)) (by omega) (hld' (by omega))) ?_;refine qp ?_;refine qn ?_;refine qp ?_;refine qt (T_build1 O (cf_built1 _ _ _)) ?_;refine qp ?_;(refine qe (E_rhasW O O (Srd.old h2 (fun k _=>noOwns k)) hn2 hr) ?_;rintro _ _ ⟨rfl,rfl⟩);refine qz ?_;refine qF ?_;refine qx ?_;refine RS_blk ?_;refine qr ?_;refine qt (T_addN O O (by unfold fits;omega)) ?_;refine qp ?_;refine qz ?_)
  refine hJ (j+1) _ _ (by omega) ?_ (fun _ h=>h) (by omega)
  rw[e]
  exact(Sub.cons O (Sub.cons O (Sub.cons O (Sub.cons O (Sub.cons O (Sub.cons O Sub.nil))))))
 ·have e:(ms.take (j+1)).countP (fun m=>decide (m∈set))=q+1:=by rw[hnx hjl];rfl
  focus (refine qs ?_;refine qd ?_;refine qz ?_;refine qq ?_;refine qT ?_;refine qx ?_;refine qq ?_;refine qb ?_;refine qs ?_;refine qt (T_ixN O O O O O O (by first|assumption|exact hne (by omega)|exact hne2 (by omega)) (by omega)) ?_;refine qt (T_ldr O O O (Srd.old h (fun k _=>noOwns k)) (by omega) (hld' (by omega))) ?_;refine qp ?_;refine qn ?_;refine qp ?_;refine qt (T_build1 O (cf_built1 _ _ _)) ?_;refine qp ?_;(refine qe (E_rhasW O O (Srd.old h2 (fun k _=>noOwns k)) hn2 hr) ?_;rintro _ _ ⟨rfl,rfl⟩);refine qz ?_;refine qT ?_;refine qr ?_;refine qp ?_;refine qt (T_addN O O (by unfold fits;omega)) ?_;refine qp ?_;refine qz ?_;refine RS_blk ?_;refine qr ?_;refine qt (T_addN O O (by unfold fits;omega)) ?_;refine qp ?_;refine qz ?_)
  refine hJ (j+1) _ _ (by omega) ?_ (fun _ h=>h) (by omega)
  rw[e]
  exact(Sub.cons O (Sub.cons O (Sub.cons O (Sub.cons O (Sub.cons O (Sub.cons O Sub.nil))))))
def uv (n:Nat):Value:= .int .u64 (n:Int)
def mtc (L:List (Int×Nat)):List Value:=L.flatMap fun x=>[zv x.1,uv x.2]
theorem mtc_len: ∀ L:List (Int×Nat),(mtc L).length=L.length*2
 |[]=>rfl
 |x::L=>by
  have:=mtc_len L
  simp only[mtc,List.flatMap_cons,List.length_append,List.length_cons,List.length_nil] at this ⊢
  omega
theorem mtc_at: ∀ (L:List (Int×Nat)) (j:Nat),j<L.length→ ∀ e v,[zv (L.getD j (0,0)).1,uv (L.getD j (0,0)).2][e]? =some v→(mtc L)[j*2+e]? =some v
 |[],j,h=>by cases h
 |x::L,0,_=>fun e v he=>by
  simp only[List.getD_cons_zero] at he
  simp only[mtc,List.flatMap_cons,Nat.zero_mul,Nat.zero_add]
  rw[List.getElem?_append_left (List.getElem?_eq_some_iff.1 he).1]
  exact he
 |x::L,j+1,h=>fun e v he=>by
  have ih:=mtc_at L j (by simpa using h) e v (by simpa using he)
  simp only[mtc,List.flatMap_cons] at ih ⊢
  rw[List.getElem?_append_right (by simp;omega), ← ih]
  congr 1
  simp
  omega
def idxN (L:List (Int×Nat)) (m:Int):Nat:=L.foldl (fun n x=>if x.1=m then max n x.2 else n) 0
theorem idx_next (L:List (Int×Nat)) (m:Int) (j:Nat) (hj:j<L.length):idxN (L.take (j+1)) m=if (L.getD j (0,0)).1=m then max (idxN (L.take j) m) (L.getD j (0,0)).2 else idxN (L.take j) m:=by
 rw[List.take_succ_eq_append_getElem hj,idxN,List.foldl_append]
 simp[List.getD,hj,idxN]
theorem mt_alloc:ti168.zero= .agg [zv 0,uv 0].toArray:=by kernel_rfl
theorem mt_one (a:Int) (b:Nat): ∀ u∈[zv a,uv b],u.oneCell'=true:=by simp[zv,uv,Value.oneCell']
section
variable {n:Nat} {w0:World} {M:Nat→Prop} {T:Slots} {H Hr:List Asn} {dd:Option Tmp} {tt:TypeId} {pos:String} {af:Array Edge} {g:Option (Nat×Bool)} {x y z:Operand} {ts:Array TypeId} {A A1 A2:Option Addr}
theorem T_maxN {P:Program} {s t:TypeId} {kk:IntKind} {p q:Nat} (hx:oget T x=some (.int kk (p:Int))) (hy:oget T y=some (.int kk (q:Int))):
  Tk P n w0 M T H ⟨dd,.call ⟨.builtin .max,#[x,y],#[s,t]⟩,tt,pos,af,g⟩ (.int kk ((max p q:Nat):Int)):=by
 have h:=T_max (P:=P) (n:=n) (w0:=w0) (M:=M) (H:=H) (dd:=dd) (tt:=tt) (pos:=pos) (af:=af) (g:=g) (s:=s) (t:=t) hx hy
 first
 |rwa [show (if (p:Int)<(q:Int) then (q:Int) else (p:Int))=((max p q:Nat):Int) by rw[Nat.max_def];split<;>split<;>omega] at h
 |rwa [show (if (q:Int)<(p:Int) then (p:Int) else (q:Int))=((max p q:Nat):Int) by rw[Nat.max_def];split<;>split<;>omega] at h
end
theorem index14_any (w:World) (A:Option Addr) (n c:Nat) (L:List (Int×Nat)) (m:Int) (h:Rd w All 2 A n (mtc L)) (hn:n≤900):
  Gives Tryz.prog 178 [.slice A n c,zv m] [] w (X:=Unit) (fun _=>uv (idxN L m)) (fun _=>True) (fun _=>[]):=by
 refine gives_S Tryz.func178 O Tryz.ntmps178 Tryz.results178 (by simp) (St.enter w) (fun B hB=>?_)
 have hl:L.length=n:=by have:=h.1;rw[mtc_len] at this;omega
 have hne:0<n→A≠none:=fun h0=>by obtain⟨ad,rfl,_⟩:=h.2 h0;simp
 subst hl
 repeat' (first|refine R_p O ?_ O O|refine R_nil ?_|refine S_seq O ?_|refine S_region O O ?_|refine S_block O ?_)
 refine S_loop (X:=Nat) (fun j=>[(1,zv m),(5,uv (idxN (L.take j) m)),(8,.slice A L.length c),(9,.int .i64 (L.length:Int)),(10,.int .i64 (j:Int))]) (fun _=>[]) (fun j=>j≤L.length) (fun j=>L.length-j) O 0 (Nat.zero_le _) (Sub.cons O (Sub.cons O (Sub.cons O (Sub.cons O (Sub.cons O Sub.nil))))) (fun _ h=>h) ?_
 rintro j hj J hJ
 rcases Nat.lt_or_ge j L.length with hjl|hjl
 rotate_left
 ·have hjn:j=L.length:=by omega
  subst hjn
  focus (refine qs ?_;refine qf ?_;refine qz ?_;refine qq ?_;refine qF ?_;refine S_exit O O ?_;refine qs ?_;refine qp ?_;refine qp ?_;refine qz ?_)
  refine hB _ _ _ _ _ O O fun w' hS=>⟨(),?_,trivial,hS.sublist (List.nil_sublist _)⟩
  rw[List.take_length]
  rfl
 have hnx:=idx_next L m j hjl
 have hat:=mtc_at L j hjl
 obtain⟨⟨a,v⟩,hx⟩: ∃ x,L.getD j (0,0)=x:=⟨_,O⟩
 obtain⟨q,hq⟩: ∃ q,idxN (L.take j) m=q:=⟨_,O⟩
 rw[hx,hq] at hnx
 rw[hx] at hat
 rw[hq]
 dsimp only at hnx hat
 by_cases ham:a=m
 ·rw[if_pos ham] at hnx
  focus (refine qs ?_;refine qd ?_;refine qz ?_;refine qq ?_;refine qT ?_;refine qx ?_;refine qq ?_;refine qb ?_;refine qs ?_;refine qt (T_ix O O O O O (hne (by omega)) (by omega)) ?_;refine qt (T_loadoa (ds:=[zv a,uv v]) O O O h O (by omega) hat (fun k _=>noOwns k)) ?_;(refine qe (E_alloca O mt_alloc) ?_;rintro _ _ ⟨b7,rfl,rfl⟩);(refine qw (E_storew (cs:=[zv 0,uv 0]) O O O O (mt_one _ _) O) ?_;rintro _ _ rfl);refine qn ?_;refine qp ?_;refine qt (T_load O O O (by first|rfl|assumption)) ?_;refine qp ?_;refine qd ?_;refine qz ?_;refine qT ?_;refine qr ?_;refine qp ?_;refine qp ?_;refine qt (T_load O O O (by first|rfl|assumption)) ?_;refine qt (T_maxN O O) ?_;refine qp ?_;refine qz ?_;refine RS_blk ?_;refine qr ?_;refine qt (T_addN O O (by unfold fits;omega)) ?_;refine qp ?_;refine qz ?_)
  refine hJ (j+1) _ _ (by omega) ?_ (fun _ hS=>hS.sublist (List.nil_sublist _)) (by omega)
  rw[hnx]
  exact(Sub.cons O (Sub.cons O (Sub.cons O (Sub.cons O (Sub.cons O Sub.nil)))))
 ·rw[if_neg ham] at hnx
  focus (refine qs ?_;refine qd ?_;refine qz ?_;refine qq ?_;refine qT ?_;refine qx ?_;refine qq ?_;refine qb ?_;refine qs ?_;refine qt (T_ix O O O O O (hne (by omega)) (by omega)) ?_;refine qt (T_loadoa (ds:=[zv a,uv v]) O O O h O (by omega) hat (fun k _=>noOwns k)) ?_;(refine qe (E_alloca O mt_alloc) ?_;rintro _ _ ⟨b7,rfl,rfl⟩);(refine qw (E_storew (cs:=[zv 0,uv 0]) O O O O (mt_one _ _) O) ?_;rintro _ _ rfl);refine qn ?_;refine qp ?_;refine qt (T_load O O O (by first|rfl|assumption)) ?_;refine qp ?_;refine qt (T_decF O ham) ?_;refine qz ?_;refine qF ?_;refine qx ?_;refine RS_blk ?_;refine qr ?_;refine qt (T_addN O O (by unfold fits;omega)) ?_;refine qp ?_;refine qz ?_)
  refine hJ (j+1) _ _ (by omega) ?_ (fun _ hS=>hS.sublist (List.nil_sublist _)) (by omega)
  rw[hnx]
  exact(Sub.cons O (Sub.cons O (Sub.cons O (Sub.cons O (Sub.cons O Sub.nil)))))
end Go.Proofs.YtdeffdldifepkaaGreat.C
namespace Go.Proofs.YtdeffdldifepkaaGreat.C
open Go.RowKit
set_option linter.unusedVariables false
set_option linter.unusedSimpArgs false
def IsAg (vs:List Nat) (x:Nat):Prop:=x∈vs∧vs.length<2*vs.countP (fun v=>decide (x≤v))∧2*vs.countP (fun v=>decide (x<v))≤vs.length
theorem cnt_up (vs:List Nat) {p q:Nat→Bool} (h: ∀ v,p v=true→q v=true):vs.countP p≤vs.countP q:=List.countP_mono_left fun v _ hv=>h v hv
theorem ag_top {vs:List Nat} {x a:Nat} (h:IsAg vs x) (ha:vs.length<2*vs.countP (fun v=>decide (a≤v))):a≤x:=by
 rcases Nat.lt_or_ge x a with hc|hc
 ·have:=cnt_up vs (p:=fun v=>decide (a≤v)) (q:=fun v=>decide (x<v)) fun v hv=>by simp at hv ⊢;omega
  have:=h.2.2
  omega
 ·exact hc
theorem fold_base (p:Nat→Prop) [DecidablePred p]: ∀ (l:List Nat) (b:Nat),b≤l.foldl (fun b a=>if p a then max b a else b) b
 |[],b=>Nat.le_refl _
 |a::l,b=>by
  refine Nat.le_trans ?_ (fold_base p l _)
  show b≤if p a then max b a else b
  split<;>omega
theorem fold_ge (p:Nat→Prop) [DecidablePred p]: ∀ (l:List Nat) (b a:Nat),a∈l→p a→a≤l.foldl (fun b a=>if p a then max b a else b) b
 |c::l,b,a,h,hp=>by
  rcases List.mem_cons.1 h with rfl|h
  ·refine Nat.le_trans ?_ (fold_base p l _)
   show a≤if p a then max b a else b
   rw[if_pos hp]
   omega
  ·exact fold_ge p l _ a h hp
theorem fold_le (p:Nat→Prop) [DecidablePred p] (x:Nat): ∀ (l:List Nat) (b:Nat),b≤x→(∀ a∈l,p a→a≤x)→l.foldl (fun b a=>if p a then max b a else b) b≤x
 |[],b,h,_=>h
 |a::l,b,h,H=>by
  refine fold_le p x l _ ?_ fun c hc=>H c (List.mem_cons_of_mem _ hc)
  show (if p a then max b a else b)≤x
  split
  ·have:=H a (List.mem_cons_self ..) (by assumption)
   omega
  ·exact h
def ragN (L:List (Int×Nat)) (ms:List Int) (k:Nat):Nat:=(ms.take k).foldl (fun b m=>if ms.length<2*ms.countP (fun x=>decide (idxN L m≤idxN L x)) then max b (idxN L m) else b) 0
theorem rag_next (L:List (Int×Nat)) (ms:List Int) (j:Nat) (hj:j<ms.length):ragN L ms (j+1)=if ms.length<2*ms.countP (fun x=>decide (idxN L (ms.getD j 0)≤idxN L x)) then max (ragN L ms j) (idxN L (ms.getD j 0)) else ragN L ms j:=by
 rw[ragN,List.take_succ_eq_append_getElem hj,List.foldl_append]
 simp[List.getD,hj,ragN]
theorem rag_is {L:List (Int×Nat)} {ms:List Int} {x:Nat} (h:IsAg (ms.map (idxN L)) x):ragN L ms ms.length=x:=by
 have e:ragN L ms ms.length=(ms.map (idxN L)).foldl (fun b a=>if (ms.map (idxN L)).length<2*(ms.map (idxN L)).countP (fun v=>decide (a≤v)) then max b a else b) 0:=by
  rw[ragN,List.take_length,List.foldl_map]
  simp only[List.countP_map,List.length_map]
  rfl
 rw[e]
 refine Nat.le_antisymm (fold_le _ _ _ _ (Nat.zero_le _) fun a _ ha=>ag_top h ha) (fold_ge _ _ _ _ h.1 h.2.1)
theorem rmaj_filter (ms:List Int) (p:Int→Bool):rmajB ms (ms.filter p)=decide (ms.length<2*ms.countP p):=by
 rw[rmajB]
 congr 3
 refine List.countP_congr fun m hm=>?_
 simp[hm]
theorem idx_le (m:Int) (a:Nat): ∀ (L:List (Int×Nat)) (b:Nat),a≤L.foldl (fun n x=>if x.1=m then max n x.2 else n) b↔a≤b∨ ∃ x∈L,x.1=m∧a≤x.2
 |[],b=>by simp
 |y::L,b=>by
  rw[List.foldl_cons,idx_le m a L]
  simp only[List.mem_cons,exists_eq_or_imp]
  by_cases hy:y.1=m
  ·rw[if_pos hy]
   constructor
   ·rintro(h|h)
    ·rcases Nat.le_total b y.2 with h2|h2
     ·exact .inr (.inl ⟨hy,by omega⟩)
     ·exact .inl (by omega)
    ·exact .inr (.inr h)
   ·rintro(h|h|h)
    ·exact .inl (by omega)
    ·exact .inl (by omega)
    ·exact .inr h
  ·rw[if_neg hy]
   constructor
   ·rintro(h|h)
    ·exact .inl h
    ·exact .inr (.inr h)
   ·rintro(h|h|h)
    ·exact .inl h
    ·exact absurd h.1 hy
    ·exact .inr h
theorem sort_ag {s vs:List Nat} (hp:s.Perm vs) (hs:s.Pairwise (· ≤ ·)) (h0:0<s.length):IsAg vs (s.getD ((s.length-1)/2) 0):=by
 obtain⟨k,hk⟩: ∃ k,(s.length-1)/2=k:=⟨_,O⟩
 have hkl:k<s.length:=by omega
 rw[hk]
 have hd:s=s.take k++s[k]::s.drop (k+1):=by rw[← List.drop_eq_getElem_cons hkl,List.take_append_drop]
 have hx:s.getD k 0=s[k]:=by simp[List.getD,hkl]
 rw[hx]
 have hs':=hs
 rw[hd,List.pairwise_append] at hs'
 obtain⟨_,hs2,hs3⟩:=hs'
 rw[List.pairwise_cons] at hs2
 refine⟨hp.mem_iff.1 (List.getElem_mem _),?_,?_⟩
 ·rw[← hp.countP_eq, ← hp.length_eq]
  have e:(s.drop k).countP (fun v=>decide (s[k]≤v))=(s.drop k).length:=by
   rw[List.countP_eq_length]
   intro a ha
   rw[List.drop_eq_getElem_cons hkl] at ha
   rcases List.mem_cons.1 ha with rfl|ha
   ·simp
   ·simpa using hs2.1 a ha
  have:=List.Sublist.countP_le (p:=fun v=>decide (s[k]≤v)) (List.drop_sublist k s)
  rw[e,List.length_drop] at this
  omega
 ·rw[← hp.countP_eq, ← hp.length_eq]
  have e:(s.take (k+1)).countP (fun v=>decide (s[k]<v))=0:=by
   rw[List.countP_eq_zero]
   intro a ha
   rw[List.take_succ_eq_append_getElem hkl] at ha
   rcases List.mem_append.1 ha with ha|ha
   ·have:=hs3 a ha s[k] (List.mem_cons_self ..)
    simpa using this
   ·rw[List.mem_singleton] at ha
    subst ha
    simp
  have e2:s.countP (fun v=>decide (s[k]<v))=(s.take (k+1)).countP (fun v=>decide (s[k]<v))+(s.drop (k+1)).countP (fun v=>decide (s[k]<v)):=by
   rw[← List.countP_append,List.take_append_drop]
  have e3:(s.drop (k+1)).countP (fun v=>decide (s[k]<v))≤s.length-(k+1):=by
   refine Nat.le_trans List.countP_le_length ?_
   rw[List.length_drop]
   exact Nat.le_refl _
  omega
end Go.Proofs.YtdeffdldifepkaaGreat.C
namespace Go.Proofs.YtdeffdldifepkaaGreat.C
open Go.RowKit
open Asn (pt row rb)
set_option linter.unusedVariables false
set_option linter.unusedSimpArgs false
section
variable {n:Nat} {w0:World} {M:Nat→Prop} {T:Slots} {H Hr:List Asn} {dd:Option Tmp} {tt:TypeId} {pos:String} {af:Array Edge} {g:Option (Nat×Bool)} {x y z:Operand} {ts:Array TypeId} {A A1 A2:Option Addr} {m c m1 cc1 m2 cc2:Nat} {ms ks:List Int} {L:List (Int×Nat)} {a:Int}
theorem E_idxW {r:Nat} (hx:oget T x=some (.slice A m c)) (hy:oget T y=some (zv a)) (hs:Srd w0 M H 2 A m (mtc L)) (hm:m≤900) (hr:idxN L a=r):
  Ef Tryz.prog n w0 M T H ⟨dd,.call ⟨.value (.func 178),#[x,y],ts⟩,tt,pos,af,g⟩ (fun u H'=>u=uv r∧H'=H):=by
 refine(E_gv F178 (vs:=[.slice A m c,zv a]) (by simp[ogets,hx,hy]) fun w hS=>index14_any w A m c L a (hs.rd w hS) hm).mono ?_
 rintro v H' ⟨_,rfl,_,rfl⟩ w hS
 exact⟨_,_,O,⟨by rw[hr],O⟩,hS⟩
theorem E_rmajW {r:Bool} (hx:oget T x=some (cfv A m c)) (hy:oget T y=some (.slice A2 m2 cc2)) (hs:Srd w0 M H 1 A m (ms.map zv)) (hs2:Srd w0 M H 1 A2 m2 (ks.map zv)) (hm:m≤900) (hm2:m2≤900) (hr:rmajB ms ks=r):
  Ef Tryz.prog n w0 M T H ⟨dd,.call ⟨.value (.func 79),#[x,y],ts⟩,tt,pos,af,g⟩ (fun u H'=>u= .bool r∧H'=H):=by
 refine(E_gv F79 (vs:=[cfv A m c,.slice A2 m2 cc2]) (by simp[ogets,hx,hy]) fun w hS=>rmaj_any w A A2 m c m2 cc2 ms ks (hs.rd w hS) (hs2.rd w hS) hm hm2).mono ?_
 rintro v H' ⟨_,rfl,_,rfl⟩ w hS
 exact⟨_,_,O,⟨by rw[hr],O⟩,hS⟩
end
theorem filt_next (p:Int→Bool) (ms:List Int) (j:Nat) (hj:j<ms.length):(ms.take (j+1)).filter p=(ms.take j).filter p++if p (ms.getD j 0) then [ms.getD j 0] else []:=by
 rw[List.take_succ_eq_append_getElem hj,List.filter_append]
 simp[List.getD,hj,List.filter_cons]
theorem ragr_any (w:World) (A A2:Option Addr) (n c n2 c2':Nat) (ms:List Int) (L:List (Int×Nat)) (h:Rd w All 1 A n (ms.map zv)) (h2:Rd w All 2 A2 n2 (mtc L)) (hn:n≤900) (hn2:n2≤900):
  Gives Tryz.prog 160 [cfv A n c,.slice A2 n2 c2'] [] w (X:=Unit) (fun _=>uv (ragN L ms ms.length)) (fun _=>True) (fun _=>[]):=by
 refine gives_S Tryz.func160 O Tryz.ntmps160 Tryz.results160 (by simp) (St.enter w) (fun B hB=>?_)
 have hl:ms.length=n:=by have:=h.1;simpa using this
 have hne:0<n→A≠none:=fun h0=>by obtain⟨ad,rfl,_⟩:=h.2 h0;simp
 subst hl
 have hld: ∀ j,j<ms.length→(ms.map zv)[j]? =some (zv (ms.getD j 0)):=fun j hj=>zv_at hj
 repeat' (first|refine R_p O ?_ O O|refine R_nil ?_|refine R_take (T_load O O O (by first|rfl|assumption)) ?_ O O|refine S_seq O ?_|refine S_region O O ?_|refine S_block O ?_|(refine R_eff (E_boxa O) ?_ O O;rintro _ _ ⟨b,rfl,rfl⟩))
 refine S_loop (X:=Nat) (fun j=>[(1,.slice A2 n2 c2'),(2,.pointer (some ⟨b,0,none⟩)),(5,uv (ragN L ms j)),(13,.slice A ms.length c),(14,.int .i64 (ms.length:Int)),(15,.int .i64 (j:Int))]) (fun _=>[pt b 33 [.slice A ms.length c]]) (fun j=>j≤ms.length) (fun j=>ms.length-j) O 0 (Nat.zero_le _) (Sub.cons O (Sub.cons O (Sub.cons O (Sub.cons O (Sub.cons O (Sub.cons O Sub.nil)))))) (fun _ h=>h) ?_
 rintro j hj J hJ
 have hnx:=rag_next L ms j
 obtain⟨q,hq⟩: ∃ q,ragN L ms j=q:=⟨_,O⟩
 rw[hq] at hnx ⊢
 rcases Nat.lt_or_ge j ms.length with hjl|hjl
 rotate_left
 ·have hjn:j=ms.length:=by omega
  subst hjn
  focus (refine qs ?_;refine qf ?_;refine qz ?_;refine qq ?_;refine qF ?_;refine S_exit O O ?_;refine qs ?_;refine qp ?_;refine qp ?_;refine qz ?_)
  refine hB _ _ _ _ _ O O fun w' hS=>⟨(),?_,trivial,hS.sublist (List.nil_sublist _)⟩
  rw[hq]
  rfl
 have hnx:=hnx hjl
 have hld':=hld j hjl
 obtain⟨x,hx⟩: ∃ x,ms.getD j 0=x:=⟨_,O⟩
 rw[hx] at hnx hld'
 obtain⟨at_,hat⟩: ∃ k,idxN L x=k:=⟨_,O⟩
 rw[hat] at hnx
 repeat' (first|refine R_take (T_decT O (by omega)) ?_ O O|refine R_p O ?_ O O|refine R_nil ?_|refine R_take (T_ldr O O O (Srd.old h (fun k _=>noOwns k)) (by omega) hld') ?_ O O|refine R_take (T_ixN O O O O O O (by first|assumption|exact hne (by omega)|exact hne2 (by omega)) (by omega)) ?_ O O|refine R_take (T_load O O O (by first|rfl|assumption)) ?_ O O|refine S_seq O ?_|refine S_region O O ?_|refine S_true O O ?_|refine S_block O ?_|refine S_skip O ?_|(refine R_eff (E_idxW (L:=L) O O (Srd.old h2 (fun k _=>noOwns k)) hn2 hat) ?_ O O;rintro _ _ ⟨rfl,rfl⟩))
 refine S_loop (X:=Nat×Option Addr×Nat) (fun y=>[(1,.slice A2 n2 c2'),(2,.pointer (some ⟨b,0,none⟩)),(5,uv q),(8,uv at_),(9,.slice y.2.1 ((ms.take y.1).filter fun z=>decide (at_≤idxN L z)).length y.2.2),(13,.slice A ms.length c),(14,.int .i64 (ms.length:Int)),(15,.int .i64 (j:Int)),(23,.slice A ms.length c),(24,.int .i64 (ms.length:Int)),(25,.int .i64 (y.1:Int))]) (fun y=>[row 3 1 y.2.1 ((ms.take y.1).filter fun z=>decide (at_≤idxN L z)).length y.2.2 (((ms.take y.1).filter fun z=>decide (at_≤idxN L z)).map zv),pt b 33 [.slice A ms.length c]]) (fun y=>y.1≤ms.length) (fun y=>ms.length-y.1) O (0,none,0) (Nat.zero_le _) (Sub.cons O (Sub.cons O (Sub.cons O (Sub.cons O (Sub.cons O (Sub.cons O (Sub.cons O (Sub.cons O (Sub.cons O (Sub.cons O (Sub.cons O Sub.nil))))))))))) (fun w hS=>(hS.nilrow _ _).sublist (.cons_cons _ (.cons_cons _ (List.nil_sublist _)))) ?_
 rintro⟨i,A3,c3⟩ hi J2 hJ2
 simp only at hi ⊢
 have hnf:=filt_next (fun z=>decide (at_≤idxN L z)) ms i
 have hlen:((ms.take i).filter fun z=>decide (at_≤idxN L z)).length≤(ms.take i).length:=List.length_filter_le _ _
 have hmj:=rmaj_filter ms (fun z=>decide (at_≤idxN L z))
 obtain⟨R,hR⟩: ∃ R,((ms.take i).filter fun z=>decide (at_≤idxN L z))=R:=⟨_,O⟩
 rw[hR] at hnf hlen ⊢
 simp only[List.length_take] at hlen
 rcases Nat.lt_or_ge i ms.length with hil|hil
 rotate_left
 ·have hin:i=ms.length:=by omega
  subst hin
  rw[List.take_length] at hR
  rw[hR] at hmj
  have hR9:R.length≤900:=by omega
  obtain⟨r,hr⟩: ∃ r,decide (ms.length<2*ms.countP (fun z=>decide (at_≤idxN L z)))=r:=⟨_,O⟩
  rw[hr] at hmj
  cases r
  ·rw[if_neg (of_decide_eq_false hr)] at hnx
   focus (refine qs ?_;refine qf ?_;refine qz ?_;refine qq ?_;refine qF ?_;refine S_exit O O ?_;refine qs ?_;refine qt (T_loada (ds:=[.slice A ms.length c]) O O O O (fun j v h=>by simpa using h)) ?_;refine qp ?_;(refine qe (E_rmajW (ms:=ms) (ks:=R) O O (Srd.old h (fun k _=>noOwns k)) (Srd.row (n:=R.length) (c:=c3)) hn hR9 hmj) ?_;rintro _ _ ⟨rfl,rfl⟩);refine qz ?_;refine qF ?_;refine qx ?_;refine RS_blk ?_;refine qr ?_;refine qt (T_addN O O (by unfold fits;omega)) ?_;refine qp ?_;refine qz ?_)
   refine hJ (j+1) _ _ (by omega) ?_ (fun w' hS=>hS.sublist (.cons _ (.refl _))) (by omega)
   rw[hnx]
   exact(Sub.cons O (Sub.cons O (Sub.cons O (Sub.cons O (Sub.cons O (Sub.cons O Sub.nil))))))
  ·rw[if_pos (of_decide_eq_true hr)] at hnx
   focus (refine qs ?_;refine qf ?_;refine qz ?_;refine qq ?_;refine qF ?_;refine S_exit O O ?_;refine qs ?_;refine qt (T_loada (ds:=[.slice A ms.length c]) O O O O (fun j v h=>by simpa using h)) ?_;refine qp ?_;(refine qe (E_rmajW (ms:=ms) (ks:=R) O O (Srd.old h (fun k _=>noOwns k)) (Srd.row (n:=R.length) (c:=c3)) hn hR9 hmj) ?_;rintro _ _ ⟨rfl,rfl⟩);refine qz ?_;refine qT ?_;refine qr ?_;refine qp ?_;refine qp ?_;refine qt (T_maxN O O) ?_;refine qp ?_;refine qz ?_;refine RS_blk ?_;refine qr ?_;refine qt (T_addN O O (by unfold fits;omega)) ?_;refine qp ?_;refine qz ?_)
   refine hJ (j+1) _ _ (by omega) ?_ (fun w' hS=>hS.sublist (.cons _ (.refl _))) (by omega)
   rw[hnx]
   exact(Sub.cons O (Sub.cons O (Sub.cons O (Sub.cons O (Sub.cons O (Sub.cons O Sub.nil))))))
 have hnf:=hnf hil
 have hld2:=hld i hil
 obtain⟨y,hy⟩: ∃ y,ms.getD i 0=y:=⟨_,O⟩
 rw[hy] at hnf hld2
 obtain⟨v,hv⟩: ∃ k,idxN L y=k:=⟨_,O⟩
 rw[hv] at hnf
 have hR9:R.length≤1800:=by omega
 by_cases hav:at_≤v
 ·skip
  rw[show decide (at_≤v)=true from decide_eq_true hav,if_pos O] at hnf
  focus (refine qs ?_;refine qd ?_;refine qz ?_;refine qq ?_;refine qT ?_;refine qx ?_;refine qq ?_;refine qb ?_;refine qs ?_;refine qt (T_ixN O O O O O O (by first|assumption|exact hne (by omega)|exact hne2 (by omega)) (by omega)) ?_;refine qt (T_ldr O O O (Srd.old h (fun k _=>noOwns k)) (by omega) hld2) ?_;refine qp ?_;refine qn ?_;refine qp ?_;refine qp ?_;(refine qe (E_idxW (L:=L) O O (Srd.old h2 (fun k _=>noOwns k)) hn2 hv) ?_;rintro _ _ ⟨rfl,rfl⟩);refine qp ?_;refine qd ?_;refine qz ?_;refine qT ?_;refine qr ?_;refine qp ?_;refine qp ?_;(refine qe (E_lit1 (m:=1) (vs:=[zv y]) O O O O O O O (by simp[zv,Value.oneCell']) (by decide)) ?_;rintro _ _ ⟨bx,rfl,rfl⟩);(refine qe (E_app1 O O O O O O O (Srd.pt (ds:=[zv y]) O (fun j u hj=>by rw[Nat.zero_add];exact hj)) (by simp[zv,Value.oneCell']) (by show _*8≤_;omega) (by unfold maxLen;omega)) ?_;rintro _ _ ⟨A7,c7,rfl,rfl⟩);refine qp ?_;refine qz ?_;refine RS_blk ?_;refine qr ?_;refine qt (T_addN O O (by unfold fits;omega)) ?_;refine qp ?_;refine qz ?_)
  have e1:(R++[y]).length=R.length+1:=by simp
  refine hJ2 (i+1,A7,c7) _ _ (by show i+1≤_;omega) ?_ (fun w' hS=>?_) (by show ms.length-(i+1)<_;omega)
  ·dsimp only
   rw[hnf,e1]
   exact(Sub.cons O (Sub.cons O (Sub.cons O (Sub.cons O (Sub.cons O (Sub.cons O (Sub.cons O (Sub.cons O (Sub.cons O (Sub.cons O (Sub.cons O Sub.nil)))))))))))
  ·dsimp only
   rw[hnf,e1,List.map_append]
   exact hS.sublist (.cons_cons _ (.cons _ (.refl _)))
 ·skip
  rw[show decide (at_≤v)=false from decide_eq_false hav,if_neg (by decide),List.append_nil] at hnf
  focus (refine qs ?_;refine qd ?_;refine qz ?_;refine qq ?_;refine qT ?_;refine qx ?_;refine qq ?_;refine qb ?_;refine qs ?_;refine qt (T_ixN O O O O O O (by first|assumption|exact hne (by omega)|exact hne2 (by omega)) (by omega)) ?_;refine qt (T_ldr O O O (Srd.old h (fun k _=>noOwns k)) (by omega) hld2) ?_;refine qp ?_;refine qn ?_;refine qp ?_;refine qp ?_;(refine qe (E_idxW (L:=L) O O (Srd.old h2 (fun k _=>noOwns k)) hn2 hv) ?_;rintro _ _ ⟨rfl,rfl⟩);refine qp ?_;refine qt (T_decF O (by show ¬ (_:Int)≥_;omega)) ?_;refine qz ?_;refine qF ?_;refine qx ?_;refine RS_blk ?_;refine qr ?_;refine qt (T_addN O O (by unfold fits;omega)) ?_;refine qp ?_;refine qz ?_)
  refine hJ2 (i+1,A3,c3) _ _ (by show i+1≤_;omega) ?_ (fun w' hS=>?_) (by show ms.length-(i+1)<_;omega)
  ·dsimp only
   rw[hnf]
   exact(Sub.cons O (Sub.cons O (Sub.cons O (Sub.cons O (Sub.cons O (Sub.cons O (Sub.cons O (Sub.cons O (Sub.cons O (Sub.cons O (Sub.cons O Sub.nil)))))))))))
  ·dsimp only
   rw[hnf]
   exact hS
theorem nan64_any (w:World) (m:Nat):
  Gives Tryz.prog 205 [uv m] [] w (X:=Unit) (fun _=> .bool false) (fun _=>True) (fun _=>[]):=by
 refine gives_S Tryz.func205 O Tryz.ntmps205 Tryz.results205 (by simp) (St.enter w) (fun B hB=>?_)
 focus (refine qs ?_;refine qp ?_;refine qn ?_;refine qp ?_;refine qp ?_;refine qt (T_decF O (by simp)) ?_;refine qp ?_;refine qz ?_)
 all_goals (refine hB _ _ _ _ _ O O fun w' hS=>⟨(),?_,trivial,hS⟩)
 all_goals first|rfl|(simp;rfl)
section
variable {n:Nat} {w0:World} {M:Nat→Prop} {T:Slots} {H Hr:List Asn} {dd:Option Tmp} {tt:TypeId} {pos:String} {af:Array Edge} {g:Option (Nat×Bool)} {x y z:Operand} {ts:Array TypeId}
theorem E_nan64 {a:Nat} (hx:oget T x=some (uv a)):
  Ef Tryz.prog n w0 M T H ⟨dd,.call ⟨.value (.func 205),#[x],ts⟩,tt,pos,af,g⟩ (fun u H'=>u= .bool false∧H'=H):=by
 refine(E_gv F205 (vs:=[uv a]) (by simp[ogets,hx]) fun w hS=>nan64_any w a).mono ?_
 rintro v H' ⟨_,rfl,_,rfl⟩ w hS
 exact⟨_,_,O,⟨O,O⟩,hS⟩
end
theorem less64_any (w:World) (a b:Nat):
  Gives Tryz.prog 193 [uv a,uv b] [] w (X:=Unit) (fun _=> .bool (decide (a<b))) (fun _=>True) (fun _=>[]):=by
 refine gives_S Tryz.func193 O Tryz.ntmps193 Tryz.results193 (by simp) (St.enter w) (fun B hB=>?_)
 repeat' (first|refine R_p O ?_ O O|refine R_nil ?_|refine R_skip ?_ O O|refine S_seq O ?_|refine S_region O O ?_|(refine R_eff (E_nan64 O) ?_ O O;rintro _ _ ⟨rfl,rfl⟩))
 all_goals (refine hB _ _ _ _ _ O O fun w' hS=>⟨(),?_,trivial,hS⟩)
 all_goals first|rfl|(show Value.bool _=_;congr 1;exact decide_eq_decide.2 (by omega))|(simp[*];rfl)
section
variable {n:Nat} {w0:World} {M:Nat→Prop} {T:Slots} {H Hr:List Asn} {dd:Option Tmp} {tt:TypeId} {pos:String} {af:Array Edge} {g:Option (Nat×Bool)} {x y z:Operand} {ts:Array TypeId}
theorem E_less64 {a b:Nat} {r:Bool} (hx:oget T x=some (uv a)) (hy:oget T y=some (uv b)) (hr:decide (a<b)=r):
  Ef Tryz.prog n w0 M T H ⟨dd,.call ⟨.value (.func 193),#[x,y],ts⟩,tt,pos,af,g⟩ (fun u H'=>u= .bool r∧H'=H):=by
 refine(E_gv F193 (vs:=[uv a,uv b]) (by simp[ogets,hx,hy]) fun w hS=>less64_any w a b).mono ?_
 rintro v H' ⟨_,rfl,_,rfl⟩ w hS
 exact⟨_,_,O,⟨by rw[hr],O⟩,hS⟩
end
def swp (t:List Nat) (j:Nat):List Nat:=(t.set j (t.getD (j-1) 0)).set (j-1) (t.getD j 0)
theorem swp_at {t:List Nat} {j:Nat} (h0:0<j) (hj:j<t.length) (p:Nat):(swp t j).getD p 0=if p=j-1 then t.getD j 0 else if p=j then t.getD (j-1) 0 else t.getD p 0:=by
 simp only[swp,List.getD,List.getElem?_set,List.length_set]
 have hj1:j-1<t.length:=by omega
 by_cases h1:j-1=p
 ·subst h1
  simp[hj1]
 ·by_cases h2:j=p
  ·subst h2
   have h3: ¬ j=j-1:=by omega
   simp[h1,h3,hj]
  ·have h3: ¬ p=j-1:=by omega
   have h4: ¬ p=j:=by omega
   simp[h1,h2,h3,h4]
theorem swp_perm {t:List Nat} {j:Nat} (h0:0<j) (hj:j<t.length):(swp t j).Perm t:=by
 have h:=List.set_set_perm hj (show j-1<t.length by omega)
 simpa[swp,List.getD,hj,show j-1<t.length by omega] using h
theorem uv_at {s:List Nat} {j:Nat} (h:j<s.length):(s.map uv)[j]? =some (uv (s.getD j 0)):=by
 simp[List.getD,h]
theorem sorted_of {s:List Nat} (h: ∀ p q,p<q→q<s.length→s.getD p 0≤s.getD q 0):s.Pairwise (· ≤ ·):=by
 rw[List.pairwise_iff_getElem]
 intro p q hp hq hpq
 have:=h p q hpq hq
 simpa[List.getD,hp,hq] using this
theorem ins64_any (w:World) (A:Option Addr) (n c:Nat) (s:List Nat) (hl:s.length=n) (hn:n≤12) (hS0:St w (owns [row 34 1 A n c (s.map uv)]) [row 34 1 A n c (s.map uv)] w):
  Gives Tryz.prog 187 [.slice A n c,.int .i64 (0:Int),.int .i64 (n:Int)] [row 34 1 A n c (s.map uv)] w (X:=List Nat) (fun _=> .tuple #[]) (fun x=>x.Perm s∧x.Pairwise (· ≤ ·)) (fun x=>[row 34 1 A n c (x.map uv)]):=by
 refine gives_N Tryz.func187 O Tryz.ntmps187 Tryz.results187 (by simp) hS0 (fun B hB=>?_)
 refine RS_row A n c fun hmc hcm hne hxl=>?_
 focus (refine qs ?_;refine qp ?_;refine qt (T_sum O O O (by unfold fits;omega)) ?_;refine qp ?_;refine qz ?_;refine qb ?_)
 refine S_loop (X:=Nat×List Nat) (fun x=>[(0,.slice A n c),(1,.int .i64 (0:Int)),(2,.int .i64 (n:Int)),(6,.int .i64 (x.1:Int))]) (fun x=>[row 34 1 A n c (x.2.map uv)]) (fun x=>1≤x.1∧(x.1≤n∨x.1=1)∧x.2.Perm s∧ ∀ p q,p<q→q<x.1→q<n→x.2.getD p 0≤x.2.getD q 0) (fun x=>n-x.1) O (1,s) ⟨Nat.le_refl _,.inr O,.refl _,fun p q h1 h2 _=>by omega⟩ (Sub.cons O (Sub.cons O (Sub.cons O (Sub.cons O Sub.nil)))) (fun _ h=>h) ?_
 rintro⟨i,t⟩ ⟨hi0,hi,hp,hs⟩ J hJ
 simp only at hi0 hi hp hs ⊢
 have htl:t.length=n:=by rw[hp.length_eq,hl]
 rcases Nat.lt_or_ge i n with hil|hil
 rotate_left
 ·skip
  focus (refine qq ?_;refine qs ?_;refine qp ?_;refine qp ?_;refine qf ?_;refine qz ?_;refine qF ?_;refine S_exit O O ?_)
  refine hB _ _ fun w' hS=>⟨t,⟨hp,sorted_of fun p q h1 h2=>hs p q h1 (by omega) (by omega)⟩,hS⟩
 repeat' (first|refine R_take (T_decT O (by omega)) ?_ O O|refine R_p O ?_ O O|refine R_nil ?_|refine S_seq O ?_|refine S_region O O ?_|refine S_true O O ?_|refine S_block O ?_|refine S_skip O ?_)
 refine S_loop (X:=Nat×List Nat) (fun x=>[(0,.slice A n c),(1,.int .i64 (0:Int)),(2,.int .i64 (n:Int)),(6,.int .i64 (i:Int)),(7,.int .i64 (x.1:Int))]) (fun x=>[row 34 1 A n c (x.2.map uv)]) (fun x=>x.1≤i∧x.2.Perm s∧ ∀ p q,p<q→q≤i→q≠x.1→x.2.getD p 0≤x.2.getD q 0) (fun x=>x.1) O (i,t) ⟨Nat.le_refl _,hp,fun p q h1 h2 h3=>hs p q h1 (by omega) (by omega)⟩ (Sub.cons O (Sub.cons O (Sub.cons O (Sub.cons O (Sub.cons O Sub.nil))))) (fun _ h=>h) ?_
 clear hs hp htl
 rintro⟨j,t⟩ ⟨hj,hp,hs⟩ J2 hJ2
 simp only at hj hp hs ⊢
 have htl:t.length=n:=by rw[hp.length_eq,hl]
 rcases Nat.eq_zero_or_pos j with rfl|hj0
 ·skip
  focus (refine qq ?_;refine qq ?_)
  refine S_draw (_) (fun _ h=>h) (by kernel_rfl) O (by kernel_rfl) (by kernel_rfl:_=15) ?_
  refine dp 0 ?_
  refine dp 1 ?_
  refine dqF 2 ?_
  refine dp 3 ?_
  refine dk 4 ?_
  refine dk 5 ?_
  refine dk 6 ?_
  refine dk 7 ?_
  refine dk 8 ?_
  refine dk 9 ?_
  refine dk 10 ?_
  refine dk 11 ?_
  refine dk 12 ?_
  refine dk 13 ?_
  refine dp 14 ?_
  refine dn ?_
  skip
  focus (refine qF ?_;refine S_exit O O ?_;refine RS_blk ?_;refine qr ?_;refine qp ?_;refine qt (T_addN O O (by unfold fits;omega)) ?_;refine qp ?_;refine qz ?_)
  refine hJ (i+1,t) _ _ ⟨by show 1≤i+1;omega,.inl (by show i+1≤n;omega),hp,fun p q h1 h2 h3=>hs p q h1 (by show q≤i;omega) (by omega)⟩ (Sub.cons O (Sub.cons O (Sub.cons O (Sub.cons O Sub.nil)))) (fun _ h=>h) (by show n-(i+1)<_;omega)
 have hla:=uv_at (s:=t) (j:=j) (by omega)
 have hlb:=uv_at (s:=t) (j:=j-1) (by omega)
 have hsw:=swp_at (t:=t) hj0 (by omega)
 have hpw:=swp_perm (t:=t) hj0 (by omega)
 have hsu:(swp t j).map uv=((t.map uv).set j (uv (t.getD (j-1) 0))).set (j-1) (uv (t.getD j 0)):=by rw[swp,List.map_set,List.map_set]
 obtain⟨a,ha⟩: ∃ a,t.getD j 0=a:=⟨_,O⟩
 obtain⟨b,hb⟩: ∃ b,t.getD (j-1) 0=b:=⟨_,O⟩
 rw[ha] at hla hsw hsu
 rw[hb] at hlb hsw hsu
 obtain⟨r,hr⟩: ∃ r,decide (a<b)=r:=⟨_,O⟩
 focus (refine qq ?_;refine qq ?_)
 refine S_draw ([row 34 1 A n c (t.map uv)]) sub_st (by kernel_rfl) O (by kernel_rfl) (by kernel_rfl:_=15) ?_
 refine dp 0 ?_
 refine dp 1 ?_
 refine dqT 2 ?_
 refine dp 3 ?_
 refine dp 4 ?_
 refine dp 5 ?_
 refine dt 6 O (T_ixN O O O O O O (by first|assumption|exact hne (by omega)|exact hne2 (by omega)) (by omega)) ?_
 refine dt 7 O (T_ldr O O O (Srd.row (n:=n) (c:=c)) (by omega) hla) ?_
 refine dp 8 ?_
 refine dp 9 ?_
 (refine dt 10 O (T_subN O O (by omega) (by unfold fits;omega)) ?_)
 refine dt 11 O (T_ixN O O O O O O (by first|assumption|exact hne (by omega)|exact hne2 (by omega)) (by omega)) ?_
 refine dt 12 O (T_ldr O O O (Srd.row (n:=n) (c:=c)) (by omega) hlb) ?_
 refine D_one 13 O (E_less64 O O hr) ?_ O O (by kernel_rfl)
 rintro _ _ ⟨rfl,rfl⟩
 refine nx ?_
 refine dp 14 ?_
 refine dn ?_
 skip
 cases r
 ·focus (refine qF ?_;refine S_exit O O ?_;refine RS_blk ?_;refine qr ?_;refine qp ?_;refine qt (T_addN O O (by unfold fits;omega)) ?_;refine qp ?_;refine qz ?_)
  have hab:=of_decide_eq_false hr
  refine hJ (i+1,t) _ _ ⟨by show 1≤i+1;omega,.inl (by show i+1≤n;omega),hp,fun p q h1 h2 h3=>?_⟩ (Sub.cons O (Sub.cons O (Sub.cons O (Sub.cons O Sub.nil)))) (fun _ h=>h) (by show n-(i+1)<_;omega)
  have h2:q<i+1:=h2
  show t.getD p 0≤t.getD q 0
  rcases Nat.lt_or_ge q j with hq|hq
  ·exact hs p q h1 (by omega) (by omega)
  rcases Nat.lt_or_ge j q with hq2|hq2
  ·exact hs p q h1 (by omega) (by omega)
  ·have:q=j:=by omega
   subst this
   rcases Nat.lt_or_ge p (q-1) with hp1|hp1
   ·have:=hs p (q-1) hp1 (by omega) (by omega)
    omega
   ·have:p=q-1:=by omega
    subst this
    omega
 ·have hab:=of_decide_eq_true hr
  focus (refine qT ?_;refine qx ?_;refine qq ?_;refine qb ?_)
  refine S_cut (X:=Unit) (fun _=>[(0,.slice A n c),(1,.int .i64 (0:Int)),(2,.int .i64 (n:Int)),(6,.int .i64 (i:Int)),(7,.int .i64 (j:Int))]) (fun _=>[row 34 1 A n c ((swp t j).map uv)]) (fun _=>True) (fun K hK=>?_) (fun _ _=>?_)
  ·skip
   refine S_draw ([]) sub_st (by kernel_rfl) O (by kernel_rfl) (by kernel_rfl:_=18) ?_
   refine dp 0 ?_
   refine dp 1 ?_
   refine dp 2 ?_
   refine dp 3 ?_
   (refine dt 4 O (T_subN O O (by omega) (by unfold fits;omega)) ?_)
   refine dp 5 ?_
   refine dp 6 ?_
   (refine dt 7 O (T_subN O O (by omega) (by unfold fits;omega)) ?_)
   refine dt 8 O (T_ixN O O O O O O (by first|assumption|exact hne (by omega)|exact hne2 (by omega)) (by omega)) ?_
   refine dp 10 ?_
   refine dp 11 ?_
   refine dt 12 O (T_ixN O O O O O O (by first|assumption|exact hne (by omega)|exact hne2 (by omega)) (by omega)) ?_
   refine D_two 9 13 (by decide) O O (E_tk (T_ldr O O O (Srd.row (n:=n) (c:=c)) (by omega) hlb)) (E_tk (T_ldr O O O (Srd.row (n:=n) (c:=c)) (by omega) hla)) ?_ ?_ O O O O (by kernel_rfl)
   ·rintro _ _ ⟨rfl,rfl⟩
    refine nx ?_
    refine D_one 13 O (E_tk (T_ldr O O O (Srd.row (n:=n) (c:=c)) (by omega) hla)) ?_ O O (by kernel_rfl)
    rintro _ _ ⟨rfl,rfl⟩
    refine nx ?_
    refine dt 14 O (T_ixN O O O O O O (by first|assumption|exact hne (by omega)|exact hne2 (by omega)) (by omega)) ?_
    refine D_one 15 O (E_storeR1 (m:=n) (c:=c) (A:=A) (xs:=t.map uv) O O O O O (by rw[List.length_map];omega)) ?_ O O (by kernel_rfl)
    rintro _ _ rfl
    refine nx ?_
    refine dt 16 O (T_ixN O O O O O O (by first|assumption|exact hne (by omega)|exact hne2 (by omega)) (by omega)) ?_
    refine D_one 17 O (E_storeR1 (m:=n) (c:=c) (A:=A) (xs:=(t.map uv).set j (uv b)) O O O O O (by rw[List.length_set,List.length_map];omega)) ?_ O O (by kernel_rfl)
    rintro _ _ rfl
    refine nx ?_
    refine dn ?_
    (rw[← hsu];exact hK () _ _ trivial (Sub.cons O (Sub.cons O (Sub.cons O (Sub.cons O (Sub.cons O Sub.nil))))) sub_st)
   ·rintro _ _ ⟨rfl,rfl⟩
    refine nx ?_
    refine D_one 9 O (E_tk (T_ldr O O O (Srd.row (n:=n) (c:=c)) (by omega) hlb)) ?_ O O (by kernel_rfl)
    rintro _ _ ⟨rfl,rfl⟩
    refine nx ?_
    refine dt 14 O (T_ixN O O O O O O (by first|assumption|exact hne (by omega)|exact hne2 (by omega)) (by omega)) ?_
    refine D_one 15 O (E_storeR1 (m:=n) (c:=c) (A:=A) (xs:=t.map uv) O O O O O (by rw[List.length_map];omega)) ?_ O O (by kernel_rfl)
    rintro _ _ rfl
    refine nx ?_
    refine dt 16 O (T_ixN O O O O O O (by first|assumption|exact hne (by omega)|exact hne2 (by omega)) (by omega)) ?_
    refine D_one 17 O (E_storeR1 (m:=n) (c:=c) (A:=A) (xs:=(t.map uv).set j (uv b)) O O O O O (by rw[List.length_set,List.length_map];omega)) ?_ O O (by kernel_rfl)
    rintro _ _ rfl
    refine nx ?_
    refine dn ?_
    (rw[← hsu];exact hK () _ _ trivial (Sub.cons O (Sub.cons O (Sub.cons O (Sub.cons O (Sub.cons O Sub.nil))))) sub_st)
  focus (refine RS_blk ?_;refine qr ?_;refine qp ?_;refine qt (T_subN O O (by omega) (by unfold fits;omega)) ?_;refine qp ?_;refine qz ?_)
  refine hJ2 (j-1,swp t j) _ _ ⟨by show j-1≤i;omega,hpw.trans hp,fun p q h1 h2 h3=>?_⟩ (Sub.cons O (Sub.cons O (Sub.cons O (Sub.cons O (Sub.cons O Sub.nil))))) (fun _ h=>h) (by show j-1<j;omega)
  have h2:q≤i:=h2
  have h3:q≠j-1:=h3
  show (swp t j).getD p 0≤(swp t j).getD q 0
  rw[hsw p,hsw q,if_neg h3]
  by_cases hqj:q=j
  ·subst hqj
   rw[if_pos O]
   by_cases hp1:p=q-1
   ·rw[if_pos hp1]
    omega
   ·rw[if_neg hp1,if_neg (by omega)]
    have:=hs p (q-1) (by omega) (by omega) (by omega)
    omega
  ·rw[if_neg hqj]
   by_cases hp1:p=j-1
   ·rw[if_pos hp1]
    have:=hs j q (by omega) h2 hqj
    omega
   ·rw[if_neg hp1]
    by_cases hp2:p=j
    ·rw[if_pos hp2]
     have:=hs (j-1) q (by omega) h2 hqj
     omega
    ·rw[if_neg hp2]
     exact hs p q h1 h2 hqj
theorem fits_u8 (x:UInt8):fits .i64 (x.toNat:Int):=by
 have:=x.toNat_lt
 unfold fits
 omega
theorem fits_u8s (x:UInt8):fits .i64 (0+(x.toNat:Int)):=by
 have:=x.toNat_lt
 unfold fits
 omega
theorem len64_any (w:World) (q:Nat) (hq:q<256):
  Gives Tryz.prog 197 [uv q] [] w (X:=Nat) (fun x=> .int .i64 (x:Int)) (fun x=>x<256) (fun _=>[]):=by
 refine gives_S Tryz.func197 O Tryz.ntmps197 Tryz.results197 (by simp) (St.enter w) (fun B hB=>?_)
 repeat' (first|refine R_take (T_decF O (by omega)) ?_ O O|refine R_take (T_convf O O O O (fits_u8 _)) ?_ O O|refine R_take (T_sum O O O (fits_u8s _)) ?_ O O|refine R_p O ?_ O O|refine R_nil ?_|refine R_take (T_ixs O O O O (by first|assumption|omega)) ?_ O O|refine R_take (T_convf O O O O (by unfold fits;omega)) ?_ O O|refine S_seq O ?_|refine S_region O O ?_|refine S_false O O ?_|refine S_skip O ?_)
 refine hB _ _ _ _ _ O O fun w' hS=>⟨_,congrArg (Value.int .i64) (Int.zero_add _),UInt8.toNat_lt _,hS⟩
theorem len_any (w:World) (q:Nat) (hq:q<256):
  Gives Tryz.prog 182 [uv q] [] w (X:=Nat) (fun x=> .int .i64 (x:Int)) (fun x=>x<256) (fun _=>[]):=by
 refine gives_S Tryz.func182 O Tryz.ntmps182 Tryz.results182 (by simp) (St.enter w) (fun B hB=>?_)
 focus (refine qs ?_;refine qp ?_;refine qz ?_;refine qq ?_;refine qF ?_;refine qx ?_;refine qs ?_;refine qp ?_;(refine qe (E_gv0 (f:=197) F197 O (fun w hS=>len64_any w q hq) (fun _=>O)) ?_;rintro _ _ ⟨k,rfl,hk,rfl⟩);refine qp ?_;refine qz ?_)
 all_goals (refine hB _ _ _ _ _ O O fun w' hS=>⟨_,O,by assumption,hS⟩)
theorem pdq64_any (w:World) (A:Option Addr) (n c k:Nat) (s:List Nat) (hl:s.length=n) (hn:n≤12) (hS0:St w (owns [row 34 1 A n c (s.map uv)]) [row 34 1 A n c (s.map uv)] w):
  Gives Tryz.prog 181 [.slice A n c,.int .i64 (0:Int),.int .i64 (n:Int),.int .i64 (k:Int)] [row 34 1 A n c (s.map uv)] w (X:=List Nat) (fun _=> .tuple #[]) (fun x=>x.Perm s∧x.Pairwise (· ≤ ·)) (fun x=>[row 34 1 A n c (x.map uv)]):=by
 refine gives_S (rs:=[]) Tryz.func181 O Tryz.ntmps181 Tryz.results181 (by simp) hS0 (fun B hB=>?_)
 focus (refine qs ?_;refine qp ?_;refine qn ?_;refine qp ?_;refine qz ?_;refine qb ?_)
 refine S_loop (X:=Unit) (fun _=>[(0,.slice A n c),(1,.int .i64 (0:Int)),(2,.int .i64 (n:Int))]) (fun _=>[row 34 1 A n c (s.map uv)]) (fun _=>True) (fun _=>0) O () trivial (Sub.cons O (Sub.cons O (Sub.cons O Sub.nil))) (fun _ h=>h) ?_
 rintro _ _ J hJ
 focus (refine qb ?_;refine qs ?_;refine qp ?_;refine qp ?_;refine qt (T_sum O O O (by unfold fits;omega)) ?_;refine qp ?_;refine qz ?_;refine qq ?_;refine qs ?_;refine qp ?_;refine qd ?_;refine qz ?_;refine qT ?_;refine qs ?_;(iterate 3 refine qp ?_);(refine qe (E_gt1 (f:=187) F187 O (fun w hS hS2=>ins64_any w A n c s hl hn hS2) (fun _=>O)) ?_;rintro _ _ ⟨x,rfl,hx,rfl⟩);refine qz ?_)
 refine hB _ _ _ _ _ O O fun w' hS=>⟨x,O,hx,hS⟩
theorem sort64_any (w:World) (A:Option Addr) (n c:Nat) (s:List Nat) (hl:s.length=n) (hn:n≤12) (hS0:St w (owns [row 34 1 A n c (s.map uv)]) [row 34 1 A n c (s.map uv)] w):
  Gives Tryz.prog 170 [.slice A n c] [row 34 1 A n c (s.map uv)] w (X:=List Nat) (fun _=> .tuple #[]) (fun x=>x.Perm s∧x.Pairwise (· ≤ ·)) (fun x=>[row 34 1 A n c (x.map uv)]):=by
 refine gives_N Tryz.func170 O Tryz.ntmps170 Tryz.results170 (by simp) hS0 (fun B hB=>?_)
 focus (refine qs ?_;(iterate 3 refine qp ?_);refine qz ?_;refine qr ?_;(iterate 3 refine qp ?_);refine qt (T_convf O O O O (by unfold fits;omega)) ?_;(refine qe (E_gv0 (f:=182) F182 O (fun w hS=>len_any w n (by omega)) (fun _=>O)) ?_;rintro _ _ ⟨k,rfl,hk,rfl⟩);(refine qe (E_gt1 (f:=181) F181 O (fun w hS hS2=>pdq64_any w A n c k s hl hn hS2) (fun _=>O)) ?_;rintro _ _ ⟨x,rfl,hx,rfl⟩);refine qz ?_)
 refine hB _ _ fun w' hS=>⟨x,hx,hS⟩
theorem agr_any (w:World) (A A2:Option Addr) (n c n2 c2':Nat) (ms:List Int) (L:List (Int×Nat)) (h:Rd w All 1 A n (ms.map zv)) (h2:Rd w All 2 A2 n2 (mtc L)) (hn:n≤900) (hn2:n2≤900):
  Gives Tryz.prog 131 [cfv A n c,.slice A2 n2 c2'] [] w (X:=Nat) uv (fun x=>if right ms then IsAg (ms.map (idxN L)) x else x=0) (fun _=>[]):=by
 refine gives_S Tryz.func131 O Tryz.ntmps131 Tryz.results131 (by simp) (St.enter w) (fun B hB=>?_)
 have hl:ms.length=n:=by have:=h.1;simpa using this
 have hne:0<n→A≠none:=fun h0=>by obtain⟨ad,rfl,_⟩:=h.2 h0;simp
 have hl2:L.length=n2:=by have:=h2.1;rw[mtc_len] at this;omega
 have hne2:0<n2→A2≠none:=fun h0=>by obtain⟨ad,rfl,_⟩:=h2.2 h0;simp
 subst hl hl2
 have hld: ∀ j,j<ms.length→(ms.map zv)[j]? =some (zv (ms.getD j 0)):=fun j hj=>zv_at hj
 cases hrt:right ms
 ·obtain⟨e,he,he0⟩: ∃ e,chkE ms=e∧e≠0:=⟨_,O,by rw[chkE,hrt];decide⟩
  focus (refine qs ?_;(refine qe (E_boxa O) ?_;rintro _ _ ⟨b,rfl,rfl⟩);refine qp ?_;refine qz ?_;refine qq ?_;refine qs ?_;refine qt (T_loada (ds:=[.slice A ms.length c]) O O O O (fun j v h=>by simpa using h)) ?_;(refine qe (E_chkW O (Srd.old h (fun k _=>noOwns k)) (by omega) he) ?_;rintro _ _ ⟨rfl,rfl⟩);refine qt (T_decT O he0) ?_;refine qz ?_;refine qT ?_;refine qs ?_;refine qp ?_;refine qz ?_)
  refine hB _ _ _ _ _ O O fun w' hS=>⟨0,O,by simp[hrt],hS.sublist (List.nil_sublist _)⟩
 obtain⟨hm1,hm5⟩:=right_len hrt
 have he:chkE ms=0:=by rw[chkE,hrt];rfl
 focus (refine qs ?_;(refine qe (E_boxa O) ?_;rintro _ _ ⟨b,rfl,rfl⟩);refine qp ?_;refine qz ?_;refine qq ?_;refine qs ?_;refine qt (T_loada (ds:=[.slice A ms.length c]) O O O O (fun j v h=>by simpa using h)) ?_;(refine qe (E_chkW O (Srd.old h (fun k _=>noOwns k)) (by omega) he) ?_;rintro _ _ ⟨rfl,rfl⟩);refine qt (T_decF O (by simp)) ?_;refine qz ?_;refine qF ?_;refine qx ?_;refine qs ?_;refine qp ?_;refine qz ?_;refine qq ?_;refine qs ?_;refine qp ?_;refine qt (T_load O O O (by first|rfl|assumption)) ?_;refine qp ?_;refine qp ?_;refine qz ?_;refine qb ?_)
 refine S_loop (X:=Nat×Option Addr×Nat) (fun y=>[(1,.slice A2 L.length c2'),(5,.slice y.2.1 y.1 y.2.2),(15,.slice A ms.length c),(16,.int .i64 (ms.length:Int)),(17,.int .i64 (y.1:Int))]) (fun y=>[row 34 1 y.2.1 y.1 y.2.2 (((ms.take y.1).map (idxN L)).map uv)]) (fun y=>y.1≤ms.length) (fun y=>ms.length-y.1) O (0,none,0) (Nat.zero_le _) (Sub.cons O (Sub.cons O (Sub.cons O (Sub.cons O (Sub.cons O Sub.nil))))) (fun w hS=>(hS.nilrow _ _).sublist (.cons_cons _ (List.nil_sublist _))) ?_
 rintro⟨j,A3,c3⟩ hj J hJ
 simp only at hj ⊢
 rcases Nat.lt_or_ge j ms.length with hjl|hjl
 rotate_left
 ·have hjn:j=ms.length:=by omega
  subst hjn
  rw[List.take_length]
  obtain⟨vs,hvs⟩: ∃ vs,ms.map (idxN L)=vs:=⟨_,O⟩
  rw[hvs]
  have hvl:vs.length=ms.length:=by rw[← hvs];simp
  refine RS_row A3 ms.length c3 fun hmc hcm hne3 hxl=>?_
  have hne3:=hne3 (by omega)
  focus (refine qs ?_;refine qf ?_;refine qz ?_;refine qq ?_;refine qF ?_;refine S_exit O O ?_;refine qs ?_;refine qp ?_;(refine qe (E_gt1 (f:=170) F170 O (fun w hS hS2=>sort64_any w A3 ms.length c3 vs hvl (by omega) hS2) (fun _=>O)) ?_;rintro _ _ ⟨s,rfl,⟨hsp,hss⟩,rfl⟩);refine qn ?_;(iterate 3 refine qp ?_);refine qt (T_subN O O (by omega) (by unfold fits;omega)) ?_;refine qt (T_divN O O (by omega) (by unfold fits;omega)) ?_;refine qt (T_ixN O O O O O O (by first|assumption|exact hne (by omega)|exact hne2 (by omega)) (by omega)) ?_)
  have hsl:s.length=ms.length:=by rw[hsp.length_eq,hvl]
  have hat:=uv_at (s:=s) (j:=(ms.length-1)/2) (by omega)
  focus (refine qt (T_ldr O O O (Srd.row (n:=ms.length) (c:=c3)) (by omega) hat) ?_;refine qp ?_;refine qz ?_)
  refine hB _ _ _ _ _ O O fun w' hS=>⟨s.getD ((ms.length-1)/2) 0,O,?_,hS.sublist (List.nil_sublist _)⟩
  rw[hrt,if_pos O,hvs, ← hsl]
  exact sort_ag hsp hss (by omega)
 have hld':=hld j hjl
 have hnj:(ms.take (j+1)).map (idxN L)=(ms.take j).map (idxN L)++[idxN L (ms.getD j 0)]:=by
  rw[List.take_succ_eq_append_getElem hjl,List.map_append]
  simp[List.getD,hjl]
 obtain⟨x,hx⟩: ∃ x,ms.getD j 0=x:=⟨_,O⟩
 rw[hx] at hld' hnj
 obtain⟨R,hR⟩: ∃ R,(ms.take j).map (idxN L)=R:=⟨_,O⟩
 have hRl:R.length=j:=by rw[← hR,List.length_map,List.length_take];omega
 rw[hR] at hnj ⊢
 repeat' (first|refine R_take (T_decT O (by omega)) ?_ O O|refine R_p O ?_ O O|refine R_nil ?_|refine R_take (T_ldr O O O (Srd.old h (fun k _=>noOwns k)) (by omega) hld') ?_ O O|refine R_take (T_ixN O O O O O O (by first|assumption|exact hne (by omega)|exact hne2 (by omega)) (by omega)) ?_ O O|refine S_seq O ?_|refine S_region O O ?_|refine S_true O O ?_|refine S_block O ?_|refine S_skip O ?_)
 refine S_loop (X:=Nat) (fun k=>[(1,.slice A2 L.length c2'),(5,.slice A3 j c3),(7,zv x),(8,uv (idxN (L.take k) x)),(15,.slice A ms.length c),(16,.int .i64 (ms.length:Int)),(17,.int .i64 (j:Int)),(21,.slice A2 L.length c2'),(22,.int .i64 (L.length:Int)),(23,.int .i64 (k:Int))]) (fun _=>[row 34 1 A3 j c3 (R.map uv)]) (fun k=>k≤L.length) (fun k=>L.length-k) O 0 (Nat.zero_le _) (Sub.cons O (Sub.cons O (Sub.cons O (Sub.cons O (Sub.cons O (Sub.cons O (Sub.cons O (Sub.cons O (Sub.cons O (Sub.cons O Sub.nil)))))))))) (fun _ h=>h) ?_
 rintro k hk J2 hJ2
 rcases Nat.lt_or_ge k L.length with hkl|hkl
 rotate_left
 ·have hkn:k=L.length:=by omega
  subst hkn
  rw[List.take_length]
  obtain⟨v,hv⟩: ∃ v,idxN L x=v:=⟨_,O⟩
  rw[hv] at hnj ⊢
  focus (refine qs ?_;refine qf ?_;refine qz ?_;refine qq ?_;refine qF ?_;refine S_exit O O ?_;refine qr ?_;refine qp ?_;refine qp ?_;(refine qe (E_lit1 (m:=1) (vs:=[uv v]) O O O O O O O (by simp[uv,Value.oneCell']) (by decide)) ?_;rintro _ _ ⟨bx,rfl,rfl⟩);(refine qe (E_app1 O O O O O O O (Srd.pt (ds:=[uv v]) O (fun j u hj=>by rw[Nat.zero_add];exact hj)) (by simp[uv,Value.oneCell']) (by show _*8≤_;omega) (by unfold maxLen;omega)) ?_;rintro _ _ ⟨A7,c7,rfl,rfl⟩);refine qp ?_;refine qz ?_;refine RS_blk ?_;refine qr ?_;refine qt (T_addN O O (by unfold fits;omega)) ?_;refine qp ?_;refine qz ?_)
  refine hJ (j+1,A7,c7) _ _ (by show j+1≤_;omega) (Sub.cons O (Sub.cons O (Sub.cons O (Sub.cons O (Sub.cons O Sub.nil))))) (fun w' hS=>?_) (by show ms.length-(j+1)<_;omega)
  dsimp only
  rw[hnj,List.map_append]
  exact hS.sublist (.cons_cons _ (List.nil_sublist _))
 have hnx:=idx_next L x k hkl
 have hat:=mtc_at L k hkl
 obtain⟨⟨a,v⟩,hx2⟩: ∃ x,L.getD k (0,0)=x:=⟨_,O⟩
 obtain⟨q,hq⟩: ∃ q,idxN (L.take k) x=q:=⟨_,O⟩
 rw[hx2,hq] at hnx
 rw[hx2] at hat
 rw[hq]
 dsimp only at hnx hat
 by_cases ham:a=x
 ·rw[if_pos ham] at hnx
  focus (refine qs ?_;refine qd ?_;refine qz ?_;refine qq ?_;refine qT ?_;refine qx ?_;refine qq ?_;refine qb ?_;refine qs ?_;refine qt (T_ix O O O O O (hne2 (by omega)) (by omega)) ?_;refine qt (T_loadoa (ds:=[zv a,uv v]) O O O h2 O (by omega) hat (fun k _=>noOwns k)) ?_;(refine qe (E_alloca O mt_alloc) ?_;rintro _ _ ⟨b7,rfl,rfl⟩);(refine qw (E_storew (cs:=[zv 0,uv 0]) O O O O (mt_one _ _) O) ?_;rintro _ _ rfl);refine qn ?_;refine qp ?_;refine qt (T_load O O O (by first|rfl|assumption)) ?_;refine qp ?_;refine qd ?_;refine qz ?_;refine qT ?_;refine qr ?_;refine qp ?_;refine qp ?_;refine qt (T_load O O O (by first|rfl|assumption)) ?_;refine qt (T_maxN O O) ?_;refine qp ?_;refine qz ?_;refine RS_blk ?_;refine qr ?_;refine qt (T_addN O O (by unfold fits;omega)) ?_;refine qp ?_;refine qz ?_)
  refine hJ2 (k+1) _ _ (by omega) ?_ (fun _ hS=>hS.sublist (.cons _ (.refl _))) (by omega)
  rw[hnx]
  exact(Sub.cons O (Sub.cons O (Sub.cons O (Sub.cons O (Sub.cons O (Sub.cons O (Sub.cons O (Sub.cons O (Sub.cons O (Sub.cons O Sub.nil))))))))))
 ·rw[if_neg ham] at hnx
  focus (refine qs ?_;refine qd ?_;refine qz ?_;refine qq ?_;refine qT ?_;refine qx ?_;refine qq ?_;refine qb ?_;refine qs ?_;refine qt (T_ix O O O O O (hne2 (by omega)) (by omega)) ?_;refine qt (T_loadoa (ds:=[zv a,uv v]) O O O h2 O (by omega) hat (fun k _=>noOwns k)) ?_;(refine qe (E_alloca O mt_alloc) ?_;rintro _ _ ⟨b7,rfl,rfl⟩);(refine qw (E_storew (cs:=[zv 0,uv 0]) O O O O (mt_one _ _) O) ?_;rintro _ _ rfl);refine qn ?_;refine qp ?_;refine qt (T_load O O O (by first|rfl|assumption)) ?_;refine qp ?_;refine qt (T_decF O ham) ?_;refine qz ?_;refine qF ?_;refine qx ?_;refine RS_blk ?_;refine qr ?_;refine qt (T_addN O O (by unfold fits;omega)) ?_;refine qp ?_;refine qz ?_)
  refine hJ2 (k+1) _ _ (by omega) ?_ (fun _ hS=>hS.sublist (.cons _ (.refl _))) (by omega)
  rw[hnx]
  exact(Sub.cons O (Sub.cons O (Sub.cons O (Sub.cons O (Sub.cons O (Sub.cons O (Sub.cons O (Sub.cons O (Sub.cons O (Sub.cons O Sub.nil))))))))))
end Go.Proofs.YtdeffdldifepkaaGreat.C
namespace Go.Proofs.YtdeffdldifepkaaGreat
open Go.RowKit
open Asn (pt row rb)
set_option linter.unusedVariables false
set_option linter.unusedSimpArgs false
abbrev Em:=Nat×Int×Dt
abbrev En:=Nat×Int×List UInt8
abbrev At:=Nat×Nat
def emc (m:Em):List Value:=[.int .u64 (m.1:Int),.int .i64 m.2.1,.slice m.2.2.1 m.2.2.2.2.length m.2.2.2.1]
def emv (m:Em):En:=(m.1,m.2.1,m.2.2.2.2)
def atc (a:At):List Value:=[.int .u64 (a.1:Int),.int .u64 (a.2:Int)]
def lgc (a:At) (A:Option Addr) (n c:Nat):List Value:=[.int .u64 (a.1:Int),.int .u64 (a.2:Int),.slice A n c]
theorem emc_len (m:Em):(emc m).length=3:=rfl
theorem emc_one (m:Em): ∀ u∈emc m,u.oneCell'=true:=by simp[emc,Value.oneCell']
theorem atc_one (a:At): ∀ u∈atc a,u.oneCell'=true:=by simp[atc,Value.oneCell']
theorem lgc_one (a:At) (A:Option Addr) (n c:Nat): ∀ u∈lgc a A n c,u.oneCell'=true:=by simp[lgc,Value.oneCell']
theorem em_zero:ti59.zero= .agg (emc (0,0,none,0,[])).toArray:=by kernel_rfl
theorem at_zero:ti36.zero= .agg (atc (0,0)).toArray:=by kernel_rfl
theorem lg_zero:ti39.zero= .agg (lgc (0,0) none 0 0).toArray:=by kernel_rfl
theorem at_built0:Tryz.prog.built 36 []=some (atc (0,0)).toArray:=by kernel_rfl
theorem at_built2 (i t:Nat):Tryz.prog.built 36 [(0,.int .u64 (i:Int)),(1,.int .u64 (t:Int))]=some (atc (i,t)).toArray:=by kernel_rfl
theorem lg_built0:Tryz.prog.built 39 []=some (lgc (0,0) none 0 0).toArray:=by kernel_rfl
theorem lg_built2 (a:At) (A:Option Addr) (n c:Nat):Tryz.prog.built 39 [(0,.agg (atc a).toArray),(1,.slice A n c)]=some (lgc a A n c).toArray:=by kernel_rfl
section
variable {n:Nat} {w0:World} {M:Nat→Prop} {T:Slots} {H:List Asn} {dd:Option Tmp} {tt:TypeId} {pos:String} {af:Array Edge} {g:Option (Nat×Bool)} {x y:Operand}
theorem T_eqAt {u:TypeId} {a b:At} {r:Bool} (hx:oget T x=some (.agg (atc a).toArray)) (hy:oget T y=some (.agg (atc b).toArray)) (hr:decide (a=b)=r):
  Tk Tryz.prog n w0 M T H ⟨dd,.binOp .eql 36 x y u,tt,pos,af,g⟩ (.bool (r)):=by
 refine T_eqS (r:=r) hx hy (s:=36) (i:=ti36) O O (by kernel_rfl) (by kernel_rfl) O ?_
 subst hr
 obtain⟨a1,a2⟩:=a
 obtain⟨b1,b2⟩:=b
 show ((a1:Int)==(b1:Int)&&((a2:Int)==(b2:Int)&&true))=_
 rw[Bool.and_true,Bool.eq_iff_iff]
 simp
 omega
theorem T_neAt {u:TypeId} {a b:At} {r:Bool} (hx:oget T x=some (.agg (atc a).toArray)) (hy:oget T y=some (.agg (atc b).toArray)) (hr:decide (a=b)=r):
  Tk Tryz.prog n w0 M T H ⟨dd,.binOp .neq 36 x y u,tt,pos,af,g⟩ (.bool (!r)):=by
 refine T_neS (r:=r) hx hy (s:=36) (i:=ti36) O O (by kernel_rfl) (by kernel_rfl) O ?_
 subst hr
 obtain⟨a1,a2⟩:=a
 obtain⟨b1,b2⟩:=b
 show ((a1:Int)==(b1:Int)&&((a2:Int)==(b2:Int)&&true))=_
 rw[Bool.and_true,Bool.eq_iff_iff]
 simp
 omega
end
def placedB (e:En):Bool:=if e.2.1=1 then decide (0<e.1)&&decide (e.2.2.length=0) else if e.2.1=2∨e.2.1=3 then decide (0<e.1)&&decide (e.2.2.length≤1024) else false
def lastT (l:List En) (t:Nat):Nat:=match l.getLast? with|some e=>e.1|none=>t
def risingB:List En→Nat→Bool
 |[],_=>true
 |e::l,t=>placedB e&&decide (t≤e.1)&&risingB l e.1
def rightB (a:At) (l:List En):Bool:=(decide (a=(0,0))||(decide (0<a.1)&&decide (0<a.2)))&&decide (l.length≤16)&&decide (a.1≤18446744073709551614-l.length)&&risingB l a.2
def lastA (a:At) (l:List En):At:=(a.1+l.length,lastT l a.2)
theorem lastT_app (l1 l2:List En) (t:Nat):lastT (l1++l2) t=lastT l2 (lastT l1 t):=by
 unfold lastT
 rw[List.getLast?_append]
 cases l2.getLast?<;>rfl
theorem rising_app: ∀ (l1 l2:List En) (t:Nat),risingB (l1++l2) t=(risingB l1 t&&risingB l2 (lastT l1 t))
 |[],l2,t=>by simp[risingB,lastT]
 |e::l1,l2,t=>by
  have ih:=rising_app l1 l2 e.1
  have e2:lastT (e::l1) t=lastT l1 e.1:=by
   have:=lastT_app [e] l1 t
   exact this
  rw[List.cons_append,risingB,risingB,ih,e2,Bool.and_assoc,Bool.and_assoc,Bool.and_assoc]
theorem emv_take (Q:List Em) (j:Nat) (hj:j<Q.length) {m:Em} (hm:Q.getD j default=m):(Q.take (j+1)).map emv=(Q.take j).map emv++[emv m]:=by
 subst hm
 rw[List.take_succ_eq_append_getElem hj,List.map_append]
 simp[List.getD,hj]
theorem emv_drop (Q:List Em) (j:Nat) (hj:j<Q.length) {m:Em} (hm:Q.getD j default=m):Q.map emv=(Q.take j).map emv++emv m::(Q.drop (j+1)).map emv:=by
 subst hm
 conv=>lhs;rw[← List.take_append_drop j Q,List.drop_eq_getElem_cons hj]
 rw[List.map_append,List.map_cons]
 simp[List.getD,hj]
theorem placed_any (w:World) (m:Em):
  Gives Tryz.prog 129 [.agg (emc m).toArray] [] w (X:=Unit) (fun _=> .bool (placedB (emv m))) (fun _=>True) (fun _=>[]):=by
 refine gives_S Tryz.func129 O Tryz.ntmps129 Tryz.results129 (by simp) (St.enter w) (fun B hB=>?_)
 obtain⟨t,k,A,c,l⟩:=m
 obtain⟨n,hn⟩: ∃ n,l.length=n:=⟨_,O⟩
 have hp:placedB (emv (t,k,A,c,l))=if k=1 then decide (0<t)&&decide (n=0) else if k=2∨k=3 then decide (0<t)&&decide (n≤1024) else false:=by rw[← hn];rfl
 rw[hp]at hB
 rw[show (emc (t,k,A,c,l))=[.int .u64 (t:Int),.int .i64 k,.slice A n c] by rw[← hn];rfl]
 by_cases h1:k=1
 ·rw[if_pos h1] at hB
  by_cases h2:0<t
  ·by_cases h3:n=0
   ·rw[decide_eq_true h2,decide_eq_true h3] at hB
    repeat' (first|refine R_take (T_decT O (by omega)) ?_ O O|refine R_p O ?_ O O|refine R_nil ?_|refine R_take (T_load O O O O) ?_ O O|refine S_seq O ?_|refine S_region O O ?_|refine S_true O O ?_|refine S_block O ?_|(refine R_eff (E_boxa (cs:=[.int .u64 (t:Int),.int .i64 k,.slice A n c]) O) ?_ O O;rintro _ _ ⟨b1,rfl,rfl⟩))
    exact hB _ _ _ _ _ O O (qE O)
   ·rw[decide_eq_true h2,decide_eq_false h3] at hB
    repeat' (first|refine R_take (T_decT O (by omega)) ?_ O O|refine R_take (T_decF O (by omega)) ?_ O O|refine R_p O ?_ O O|refine R_nil ?_|refine R_take (T_load O O O O) ?_ O O|refine S_seq O ?_|refine S_region O O ?_|refine S_true O O ?_|refine S_block O ?_|(refine R_eff (E_boxa (cs:=[.int .u64 (t:Int),.int .i64 k,.slice A n c]) O) ?_ O O;rintro _ _ ⟨b1,rfl,rfl⟩))
    exact hB _ _ _ _ _ O O (qE O)
  ·rw[decide_eq_false h2,Bool.false_and] at hB
   repeat' (first|refine R_take (T_decT O (by omega)) ?_ O O|refine R_take (T_decF O (by omega)) ?_ O O|refine R_p O ?_ O O|refine R_nil ?_|refine R_skip ?_ O O|refine R_take (T_load O O O O) ?_ O O|refine S_seq O ?_|refine S_region O O ?_|refine S_true O O ?_|refine S_block O ?_|(refine R_eff (E_boxa (cs:=[.int .u64 (t:Int),.int .i64 k,.slice A n c]) O) ?_ O O;rintro _ _ ⟨b1,rfl,rfl⟩))
   exact hB _ _ _ _ _ O O (qE O)
 rw[if_neg h1] at hB
 by_cases h23:k=2∨k=3
 ·rw[if_pos h23] at hB
  by_cases h2:0<t
  ·by_cases h3:n≤1024
   ·rw[decide_eq_true h2,decide_eq_true h3] at hB
    by_cases h4:k=2
    ·repeat' (first|refine R_take (T_decT O (by omega)) ?_ O O|refine R_take (T_decF O (by omega)) ?_ O O|refine R_p O ?_ O O|refine R_nil ?_|refine R_take (T_load O O O O) ?_ O O|refine S_seq O ?_|refine S_region O O ?_|refine S_true O O ?_|refine S_false O O ?_|refine S_block O ?_|refine S_skip O ?_|(refine R_eff (E_boxa (cs:=[.int .u64 (t:Int),.int .i64 k,.slice A n c]) O) ?_ O O;rintro _ _ ⟨b1,rfl,rfl⟩))
     exact hB _ _ _ _ _ O O (qE O)
    ·repeat' (first|refine R_take (T_decT O (by omega)) ?_ O O|refine R_take (T_decF O (by omega)) ?_ O O|refine R_p O ?_ O O|refine R_nil ?_|refine R_take (T_load O O O O) ?_ O O|refine S_seq O ?_|refine S_region O O ?_|refine S_true O O ?_|refine S_false O O ?_|refine S_block O ?_|(refine R_eff (E_boxa (cs:=[.int .u64 (t:Int),.int .i64 k,.slice A n c]) O) ?_ O O;rintro _ _ ⟨b1,rfl,rfl⟩))
     exact hB _ _ _ _ _ O O (qE O)
   ·rw[decide_eq_true h2,decide_eq_false h3] at hB
    by_cases h4:k=2
    ·repeat' (first|refine R_take (T_decT O (by omega)) ?_ O O|refine R_take (T_decF O (by omega)) ?_ O O|refine R_p O ?_ O O|refine R_nil ?_|refine R_take (T_load O O O O) ?_ O O|refine S_seq O ?_|refine S_region O O ?_|refine S_true O O ?_|refine S_false O O ?_|refine S_block O ?_|refine S_skip O ?_|(refine R_eff (E_boxa (cs:=[.int .u64 (t:Int),.int .i64 k,.slice A n c]) O) ?_ O O;rintro _ _ ⟨b1,rfl,rfl⟩))
     exact hB _ _ _ _ _ O O (qE O)
    ·repeat' (first|refine R_take (T_decT O (by omega)) ?_ O O|refine R_take (T_decF O (by omega)) ?_ O O|refine R_p O ?_ O O|refine R_nil ?_|refine R_take (T_load O O O O) ?_ O O|refine S_seq O ?_|refine S_region O O ?_|refine S_true O O ?_|refine S_false O O ?_|refine S_block O ?_|(refine R_eff (E_boxa (cs:=[.int .u64 (t:Int),.int .i64 k,.slice A n c]) O) ?_ O O;rintro _ _ ⟨b1,rfl,rfl⟩))
     exact hB _ _ _ _ _ O O (qE O)
  ·rw[decide_eq_false h2,Bool.false_and] at hB
   by_cases h4:k=2
   ·repeat' (first|refine R_take (T_decT O (by omega)) ?_ O O|refine R_take (T_decF O (by omega)) ?_ O O|refine R_p O ?_ O O|refine R_nil ?_|refine R_skip ?_ O O|refine R_take (T_load O O O O) ?_ O O|refine S_seq O ?_|refine S_region O O ?_|refine S_true O O ?_|refine S_false O O ?_|refine S_block O ?_|refine S_skip O ?_|(refine R_eff (E_boxa (cs:=[.int .u64 (t:Int),.int .i64 k,.slice A n c]) O) ?_ O O;rintro _ _ ⟨b1,rfl,rfl⟩))
    exact hB _ _ _ _ _ O O (qE O)
   ·repeat' (first|refine R_take (T_decT O (by omega)) ?_ O O|refine R_take (T_decF O (by omega)) ?_ O O|refine R_p O ?_ O O|refine R_nil ?_|refine R_skip ?_ O O|refine R_take (T_load O O O O) ?_ O O|refine S_seq O ?_|refine S_region O O ?_|refine S_true O O ?_|refine S_false O O ?_|refine S_block O ?_|(refine R_eff (E_boxa (cs:=[.int .u64 (t:Int),.int .i64 k,.slice A n c]) O) ?_ O O;rintro _ _ ⟨b1,rfl,rfl⟩))
    exact hB _ _ _ _ _ O O (qE O)
 ·rw[if_neg h23] at hB
  repeat' (first|refine R_take (T_decF O (by omega)) ?_ O O|refine R_p O ?_ O O|refine R_nil ?_|refine R_take (T_load O O O O) ?_ O O|refine S_seq O ?_|refine S_region O O ?_|refine S_false O O ?_|refine S_block O ?_|refine RS_blk ?_|refine S_skip O ?_|(refine R_eff (E_boxa (cs:=[.int .u64 (t:Int),.int .i64 k,.slice A n c]) O) ?_ O O;rintro _ _ ⟨b1,rfl,rfl⟩))
  exact hB _ _ _ _ _ O O (qE O)
theorem rising_any (w:World) (A:Option Addr) (c:Nat) (Q:List Em) (t:Nat) (h:Rd w All 3 A Q.length (cellsL emc Q)) (hn:Q.length≤100000):
  Gives Tryz.prog 167 [.slice A Q.length c,.int .u64 (t:Int)] [] w (X:=Unit) (fun _=> .bool (risingB (Q.map emv) t)) (fun _=>True) (fun _=>[]):=by
 refine gives_S Tryz.func167 O Tryz.ntmps167 Tryz.results167 (by simp) (St.enter w) (fun B hB=>?_)
 have hne:0<Q.length→A≠none:=fun h0=>by obtain⟨ad,rfl,_⟩:=h.2 (by omega);simp
 focus (refine qs ?_;refine qp ?_;refine qz ?_;refine qq ?_;refine qs ?_;(iterate 3 refine qp ?_);refine qz ?_;refine qb ?_)
 refine S_loop (X:=Nat×Nat) (fun x=>[(1,.int .u64 (x.2:Int)),(7,.slice A Q.length c),(8,.int .i64 (Q.length:Int)),(9,.int .i64 (x.1:Int))]) (fun _=>[]) (fun x=>x.1≤Q.length∧risingB ((Q.take x.1).map emv) t=true∧lastT ((Q.take x.1).map emv) t=x.2) (fun x=>Q.length-x.1) O (0,t) ⟨Nat.zero_le _,O,O⟩ (Sub.cons O (Sub.cons O (Sub.cons O (Sub.cons O Sub.nil)))) sub_st ?_
 rintro⟨j,u⟩ ⟨hj,hok,hu⟩ J hJ
 dsimp only at hj hok hu ⊢
 rcases Nat.lt_or_ge j Q.length with hjl|hjl
 ·have hne:=hne (by omega)
  have hat:=cellsL_at (f:=emc) emc_len Q default j hjl
  obtain⟨m,hm⟩: ∃ m,Q.getD j default=m:=⟨_,O⟩
  rw[hm] at hat
  have htk:=emv_take Q j hjl hm
  have hdr:=emv_drop Q j hjl hm
  obtain⟨r,hr⟩: ∃ r,placedB (emv m)=r:=⟨_,O⟩
  have hfl:r=false∨m.1<u→risingB (Q.map emv) t=false:=fun h=>by
   rw[hdr,rising_app,hok,hu,risingB,hr]
   rcases h with h|h
   ·rw[h];rfl
   ·rw[decide_eq_false (by show ¬ u≤m.1;omega)];simp
  have hnx:r=true→u≤m.1→risingB ((Q.take (j+1)).map emv) t=true∧lastT ((Q.take (j+1)).map emv) t=m.1:=fun h1 h2=>by
   rw[htk,rising_app,lastT_app,hok,hu,risingB,risingB,hr,h1]
   exact⟨by simp;exact h2,O⟩
  cases r
  ·rw[hfl (.inl O)] at hB
   focus (refine qs ?_;refine qd ?_;refine qz ?_;refine qq ?_;refine qT ?_;refine qx ?_;refine qq ?_;refine qb ?_;refine qs ?_;refine qt (T_ixM (sz:=3) O O O O O O hne hjl) ?_;refine qt (T_lda (ds:=emc m) O O O (Srd.old h (fun k _=>noOwns k)) O (by omega) hat) ?_;(refine qe (E_alloca O em_zero) ?_;rintro _ _ ⟨b6,rfl,rfl⟩);(refine qw (E_storew (cs:=emc (0,0,none,0,[])) (ds:=emc m) O O O O (emc_one _) O) ?_;rintro _ _ rfl);refine qz ?_;refine qq ?_;refine qs ?_;refine qt (T_loads (ds:=emc m) O O O O O) ?_;(refine qh F129 (fun w hS=>placed_any w m) ?_;rw[hr]);refine qt (T_not O) ?_;refine qd ?_;(iterate 4 refine qk ?_);refine qd ?_;refine qz ?_;refine qT ?_;refine qs ?_;refine qp ?_;refine qz ?_)
   exact hB _ _ _ _ _ O O (qE O)
  by_cases hmu:m.1<u
  ·rw[hfl (.inr hmu)] at hB
   focus (refine qs ?_;refine qd ?_;refine qz ?_;refine qq ?_;refine qT ?_;refine qx ?_;refine qq ?_;refine qb ?_;refine qs ?_;refine qt (T_ixM (sz:=3) O O O O O O hne hjl) ?_;refine qt (T_lda (ds:=emc m) O O O (Srd.old h (fun k _=>noOwns k)) O (by omega) hat) ?_;(refine qe (E_alloca O em_zero) ?_;rintro _ _ ⟨b6,rfl,rfl⟩);(refine qw (E_storew (cs:=emc (0,0,none,0,[])) (ds:=emc m) O O O O (emc_one _) O) ?_;rintro _ _ rfl);refine qz ?_;refine qq ?_;refine qs ?_;refine qt (T_loads (ds:=emc m) O O O O O) ?_;(refine qh F129 (fun w hS=>placed_any w m) ?_;rw[hr]);refine qt (T_not O) ?_;refine qp ?_;refine qp ?_;refine qt (T_load O O O O) ?_;refine qp ?_;refine qd ?_;refine qd ?_;refine qz ?_;refine qT ?_;refine qs ?_;refine qp ?_;refine qz ?_)
   exact hB _ _ _ _ _ O O (qE O)
  ·focus (refine qs ?_;refine qd ?_;refine qz ?_;refine qq ?_;refine qT ?_;refine qx ?_;refine qq ?_;refine qb ?_;refine qs ?_;refine qt (T_ixM (sz:=3) O O O O O O hne hjl) ?_;refine qt (T_lda (ds:=emc m) O O O (Srd.old h (fun k _=>noOwns k)) O (by omega) hat) ?_;(refine qe (E_alloca O em_zero) ?_;rintro _ _ ⟨b6,rfl,rfl⟩);(refine qw (E_storew (cs:=emc (0,0,none,0,[])) (ds:=emc m) O O O O (emc_one _) O) ?_;rintro _ _ rfl);refine qz ?_;refine qq ?_;refine qs ?_;refine qt (T_loads (ds:=emc m) O O O O O) ?_;(refine qh F129 (fun w hS=>placed_any w m) ?_;rw[hr]);refine qt (T_not O) ?_;refine qp ?_;refine qp ?_;refine qt (T_load O O O O) ?_;refine qp ?_;refine qf ?_;refine qp ?_;refine qz ?_;refine qF ?_;refine qx ?_;refine qr ?_;refine qp ?_;refine qt (T_load O O O O) ?_;refine qp ?_;refine qz ?_;refine RS_blk ?_;refine qr ?_;refine qt (T_addN O O (by unfold fits;omega)) ?_;refine qp ?_;refine qz ?_)
   exact hJ (j+1,m.1) _ _ ⟨by show j+1≤_;omega,hnx O (by omega)⟩ (Sub.cons O (Sub.cons O (Sub.cons O (Sub.cons O Sub.nil)))) sub_st (by show Q.length-(j+1)<_;omega)
 have hjn:j=Q.length:=by omega
 subst hjn
 rw[List.take_length] at hok
 rw[hok] at hB
 focus (refine qs ?_;refine qf ?_;refine qz ?_;refine qq ?_;refine qF ?_;refine S_exit O O ?_;refine qs ?_;refine qp ?_;refine qz ?_)
 exact hB _ _ _ _ _ O O (qE O)
def baseB (a:At):Bool:=decide (a=(0,0))||(decide (0<a.1)&&decide (0<a.2))
theorem rightB_eq (a:At) (l:List En):rightB a l=(baseB a&&decide (l.length≤16)&&decide (a.1≤18446744073709551614-l.length)&&risingB l a.2):=rfl
theorem right_fits {a:At} {l:List En} (h:rightB a l=true):l.length≤16∧a.1+l.length≤18446744073709551614:=by
 rw[rightB_eq,Bool.and_eq_true,Bool.and_eq_true,Bool.and_eq_true,decide_eq_true_eq,decide_eq_true_eq] at h
 omega
theorem lastT_at (Q:List Em) (t:Nat) (h:0<Q.length):lastT (Q.map emv) t=(Q.getD (Q.length-1) default).1:=by
 have e:Q=Q.take (Q.length-1)++[Q.getD (Q.length-1) default]:=by
  have:=List.take_succ_eq_append_getElem (l:=Q) (i:=Q.length-1) (by omega)
  rw[show Q.length-1+1=Q.length by omega,List.take_length] at this
  simpa[List.getD,show Q.length-1<Q.length by omega] using this
 conv=>lhs;rw[e]
 rw[List.map_append,lastT_app]
 rfl
theorem right_any (w:World) (a:At) (A:Option Addr) (c:Nat) (Q:List Em) (h:Rd w All 3 A Q.length (cellsL emc Q)) (hn:Q.length≤100000):
  Gives Tryz.prog 121 [.agg (lgc a A Q.length c).toArray] [] w (X:=Unit) (fun _=> .bool (rightB a (Q.map emv))) (fun _=>True) (fun _=>[]):=by
 refine gives_S Tryz.func121 O Tryz.ntmps121 Tryz.results121 (by simp) (St.enter w) (fun B hB=>?_)
 obtain⟨i,t⟩:=a
 have hq:rightB (i,t) (Q.map emv)=(baseB (i,t)&&decide (Q.length≤16)&&decide (i≤18446744073709551614-Q.length)&&risingB (Q.map emv) t):=by rw[rightB_eq,List.length_map]
 rw[hq] at hB
 obtain⟨r,hr⟩: ∃ r,risingB (Q.map emv) t=r:=⟨_,O⟩
 rw[hr] at hB
 by_cases hz:(i,t)=((0,0):At)
 ·have hb:baseB (i,t)=true:=by rw[baseB,decide_eq_true hz];rfl
  have hz:=decide_eq_true hz
  by_cases h16:Q.length≤16
  ·by_cases hi:i≤18446744073709551614-Q.length
   ·rw[hb,decide_eq_true h16,decide_eq_true hi,Bool.and_self,Bool.and_self,Bool.true_and] at hB
    repeat' (first|refine R_take (T_eqAt (a:=(i,t)) (b:=(0,0)) O O hz) ?_ O O|refine R_take (T_decT O (by omega)) ?_ O O|refine R_p O ?_ O O|refine R_nil ?_|refine R_skip ?_ O O|refine R_take (T_loads (ds:=atc (i,t)) O O O O O) ?_ O O|refine R_take (T_load O O O O) ?_ O O|refine R_take (T_build0 at_built0) ?_ O O|refine R_take (T_subN O O (by omega) (by unfold fits;omega)) ?_ O O|refine R_take (T_convf O O O O (by unfold fits;omega)) ?_ O O|refine S_seq O ?_|refine S_region O O ?_|(refine R_eff (E_boxa (cs:=lgc (i,t) A Q.length c) O) ?_ O O;rintro _ _ ⟨b1,rfl,rfl⟩)|((refine R_eff (E_hv0 (f:=167) F167 (fun w hS=>rising_any w A c Q t ((Srd.old h (fun k _=>noOwns k)).rd w hS) hn) O O (fun _=>O)) ?_ O O;rintro _ _ ⟨_,rfl,_,rfl⟩);rw[hr]))
    exact hB _ _ _ _ _ O O (qE O)
   ·rw[hb,decide_eq_true h16,decide_eq_false hi,Bool.and_false,Bool.false_and] at hB
    repeat' (first|refine R_take (T_eqAt (a:=(i,t)) (b:=(0,0)) O O hz) ?_ O O|refine R_take (T_decT O (by omega)) ?_ O O|refine R_take (T_decF O (by omega)) ?_ O O|refine R_p O ?_ O O|refine R_nil ?_|refine R_skip ?_ O O|refine R_take (T_loads (ds:=atc (i,t)) O O O O O) ?_ O O|refine R_take (T_load O O O O) ?_ O O|refine R_take (T_build0 at_built0) ?_ O O|refine R_take (T_subN O O (by omega) (by unfold fits;omega)) ?_ O O|refine R_take (T_convf O O O O (by unfold fits;omega)) ?_ O O|refine S_seq O ?_|refine S_region O O ?_|(refine R_eff (E_boxa (cs:=lgc (i,t) A Q.length c) O) ?_ O O;rintro _ _ ⟨b1,rfl,rfl⟩))
    exact hB _ _ _ _ _ O O (qE O)
  ·rw[hb,decide_eq_false h16,Bool.and_false,Bool.false_and,Bool.false_and] at hB
   repeat' (first|refine R_take (T_eqAt (a:=(i,t)) (b:=(0,0)) O O hz) ?_ O O|refine R_take (T_decF O (by omega)) ?_ O O|refine R_p O ?_ O O|refine R_nil ?_|refine R_skip ?_ O O|refine R_take (T_loads (ds:=atc (i,t)) O O O O O) ?_ O O|refine R_take (T_load O O O O) ?_ O O|refine R_take (T_build0 at_built0) ?_ O O|refine S_seq O ?_|refine S_region O O ?_|(refine R_eff (E_boxa (cs:=lgc (i,t) A Q.length c) O) ?_ O O;rintro _ _ ⟨b1,rfl,rfl⟩))
   exact hB _ _ _ _ _ O O (qE O)
 have hz2:baseB (i,t)=(decide (0<i)&&decide (0<t)):=by rw[baseB,decide_eq_false hz];rfl
 have hz:=decide_eq_false hz
 by_cases hi0:0<i
 ·by_cases ht0:0<t
  ·have hb:baseB (i,t)=true:=by rw[hz2,decide_eq_true hi0,decide_eq_true ht0];rfl
   by_cases h16:Q.length≤16
   ·by_cases hi:i≤18446744073709551614-Q.length
    ·rw[hb,decide_eq_true h16,decide_eq_true hi,Bool.and_self,Bool.and_self,Bool.true_and] at hB
     repeat' (first|refine R_take (T_eqAt (a:=(i,t)) (b:=(0,0)) O O hz) ?_ O O|refine R_take (T_decT O (by omega)) ?_ O O|refine R_p O ?_ O O|refine R_nil ?_|refine R_take (T_loads (ds:=atc (i,t)) O O O O O) ?_ O O|refine R_take (T_load O O O O) ?_ O O|refine R_take (T_build0 at_built0) ?_ O O|refine R_take (T_subN O O (by omega) (by unfold fits;omega)) ?_ O O|refine R_take (T_convf O O O O (by unfold fits;omega)) ?_ O O|refine S_seq O ?_|refine S_region O O ?_|(refine R_eff (E_boxa (cs:=lgc (i,t) A Q.length c) O) ?_ O O;rintro _ _ ⟨b1,rfl,rfl⟩)|((refine R_eff (E_hv0 (f:=167) F167 (fun w hS=>rising_any w A c Q t ((Srd.old h (fun k _=>noOwns k)).rd w hS) hn) O O (fun _=>O)) ?_ O O;rintro _ _ ⟨_,rfl,_,rfl⟩);rw[hr]))
     exact hB _ _ _ _ _ O O (qE O)
    ·rw[hb,decide_eq_true h16,decide_eq_false hi,Bool.and_false,Bool.false_and] at hB
     repeat' (first|refine R_take (T_eqAt (a:=(i,t)) (b:=(0,0)) O O hz) ?_ O O|refine R_take (T_decT O (by omega)) ?_ O O|refine R_take (T_decF O (by omega)) ?_ O O|refine R_p O ?_ O O|refine R_nil ?_|refine R_skip ?_ O O|refine R_take (T_loads (ds:=atc (i,t)) O O O O O) ?_ O O|refine R_take (T_load O O O O) ?_ O O|refine R_take (T_build0 at_built0) ?_ O O|refine R_take (T_subN O O (by omega) (by unfold fits;omega)) ?_ O O|refine R_take (T_convf O O O O (by unfold fits;omega)) ?_ O O|refine S_seq O ?_|refine S_region O O ?_|(refine R_eff (E_boxa (cs:=lgc (i,t) A Q.length c) O) ?_ O O;rintro _ _ ⟨b1,rfl,rfl⟩))
     exact hB _ _ _ _ _ O O (qE O)
   ·rw[hb,decide_eq_false h16,Bool.and_false,Bool.false_and,Bool.false_and] at hB
    repeat' (first|refine R_take (T_eqAt (a:=(i,t)) (b:=(0,0)) O O hz) ?_ O O|refine R_take (T_decT O (by omega)) ?_ O O|refine R_take (T_decF O (by omega)) ?_ O O|refine R_p O ?_ O O|refine R_nil ?_|refine R_skip ?_ O O|refine R_take (T_loads (ds:=atc (i,t)) O O O O O) ?_ O O|refine R_take (T_load O O O O) ?_ O O|refine R_take (T_build0 at_built0) ?_ O O|refine S_seq O ?_|refine S_region O O ?_|(refine R_eff (E_boxa (cs:=lgc (i,t) A Q.length c) O) ?_ O O;rintro _ _ ⟨b1,rfl,rfl⟩))
    exact hB _ _ _ _ _ O O (qE O)
  ·rw[hz2,decide_eq_true hi0,decide_eq_false ht0,Bool.and_false,Bool.false_and,Bool.false_and,Bool.false_and] at hB
   repeat' (first|refine R_take (T_eqAt (a:=(i,t)) (b:=(0,0)) O O hz) ?_ O O|refine R_take (T_decT O (by omega)) ?_ O O|refine R_take (T_decF O (by omega)) ?_ O O|refine R_p O ?_ O O|refine R_nil ?_|refine R_skip ?_ O O|refine R_take (T_loads (ds:=atc (i,t)) O O O O O) ?_ O O|refine R_take (T_load O O O O) ?_ O O|refine R_take (T_build0 at_built0) ?_ O O|refine S_seq O ?_|refine S_region O O ?_|(refine R_eff (E_boxa (cs:=lgc (i,t) A Q.length c) O) ?_ O O;rintro _ _ ⟨b1,rfl,rfl⟩))
   exact hB _ _ _ _ _ O O (qE O)
 ·rw[hz2,decide_eq_false hi0,Bool.false_and,Bool.false_and,Bool.false_and,Bool.false_and] at hB
  repeat' (first|refine R_take (T_eqAt (a:=(i,t)) (b:=(0,0)) O O hz) ?_ O O|refine R_take (T_decF O (by omega)) ?_ O O|refine R_p O ?_ O O|refine R_nil ?_|refine R_skip ?_ O O|refine R_take (T_loads (ds:=atc (i,t)) O O O O O) ?_ O O|refine R_take (T_load O O O O) ?_ O O|refine R_take (T_build0 at_built0) ?_ O O|refine S_seq O ?_|refine S_region O O ?_|(refine R_eff (E_boxa (cs:=lgc (i,t) A Q.length c) O) ?_ O O;rintro _ _ ⟨b1,rfl,rfl⟩))
  exact hB _ _ _ _ _ O O (qE O)
theorem last_any (w:World) (a:At) (A:Option Addr) (c:Nat) (Q:List Em) (h:Rd w All 3 A Q.length (cellsL emc Q)) (hn:Q.length≤100000) (hf:a.1+Q.length≤18446744073709551615):
  Gives Tryz.prog 124 [.agg (lgc a A Q.length c).toArray] [] w (X:=Unit) (fun _=> .agg (atc (lastA a (Q.map emv))).toArray) (fun _=>True) (fun _=>[]):=by
 refine gives_C Tryz.func124 O Tryz.ntmps124 Tryz.results124 (by simp) (St.enter w) (fun B hB=>?_)
 obtain⟨i,t⟩:=a
 have hf:i+Q.length≤18446744073709551615:=hf
 have hl:lastA (i,t) (Q.map emv)=(i+Q.length,lastT (Q.map emv) t):=by rw[lastA,List.length_map]
 rw[hl] at hB
 have hne:0<Q.length→A≠none:=fun h0=>by obtain⟨ad,rfl,_⟩:=h.2 (by omega);simp
 by_cases h0:Q.length=0
 ·have e1:lastT (Q.map emv) t=t:=by rw[List.eq_nil_of_length_eq_zero h0];rfl
  rw[e1,h0,Nat.add_zero] at hB
  focus (refine qs ?_;(refine qe (E_boxa (cs:=lgc (i,t) A Q.length c) O) ?_;rintro _ _ ⟨b1,rfl,rfl⟩);(refine qe (E_alloca O at_zero) ?_;rintro _ _ ⟨b2,rfl,rfl⟩);refine qn ?_;refine qp ?_;refine qt (T_load O O O O) ?_;refine qp ?_;refine qp ?_;refine qz ?_;refine qq ?_;refine qs ?_;refine qp ?_;refine qd ?_;refine qz ?_;refine qT ?_;refine qs ?_;refine qp ?_;refine qt (T_loads (ds:=atc (i,t)) O O O O O) ?_;(refine qw (E_storew (cs:=atc (0,0)) (ds:=atc (i,t)) O O O O (atc_one _) O) ?_;rintro _ _ rfl);refine qz ?_)
  refine hB _ _ _ _ _ O (.cell O O O inferInstance O .nil) fun w' hS=>⟨(),O,trivial,hS.sublist (List.nil_sublist _)⟩
 ·have hne:=hne (by omega)
  have e1:=lastT_at Q t (by omega)
  have hat:=cellsL_at (f:=emc) emc_len Q default (Q.length-1) (by omega)
  have hlt:Q.length-1<Q.length:=by omega
  obtain⟨m,hm⟩: ∃ m,Q.getD (Q.length-1) default=m:=⟨_,O⟩
  rw[hm] at hat e1
  rw[e1] at hB
  have hat0:(cellsL emc Q)[(Q.length-1)*3+0]? =some (.int .u64 (m.1:Int)):=hat 0 _ O
  focus (refine qs ?_;(refine qe (E_boxa (cs:=lgc (i,t) A Q.length c) O) ?_;rintro _ _ ⟨b1,rfl,rfl⟩);(refine qe (E_alloca O at_zero) ?_;rintro _ _ ⟨b2,rfl,rfl⟩);refine qn ?_;refine qp ?_;refine qt (T_load O O O O) ?_;refine qp ?_;refine qp ?_;refine qz ?_;refine qq ?_;refine qs ?_;refine qp ?_;refine qf ?_;refine qz ?_;refine qF ?_;refine qx ?_;refine qq ?_)
  refine S_draw ([pt b1 39 (lgc (i,t) A Q.length c)]) sub_st (by kernel_rfl) O (by kernel_rfl) (by kernel_rfl:_=15) ?_
  refine dp 0 ?_
  refine dp 1 ?_
  refine dl 2 ?_
  refine dp 3 ?_
  (refine dt 4 O (T_convf O O O O (by unfold fits;omega)) ?_)
  (refine dt 5 O (T_addN O O (by unfold fits;omega)) ?_)
  refine dp 6 ?_
  refine dl 7 ?_
  refine dp 8 ?_
  (refine dt 9 O (T_subN O O (by omega) (by unfold fits;omega)) ?_)
  refine dt 10 O (T_ixM (sz:=3) (q:=Q.length-1) O O O O O O hne hlt) ?_
  refine dt 11 O (T_fap O O O O O hne) ?_
  refine dt 12 O (T_ldr O O O (Srd.old h (fun k _=>noOwns k)) (by omega) hat0) ?_
  refine dt 13 O (T_build2 O O (at_built2 (i+Q.length) m.1)) ?_
  refine D_one 14 O (E_storew (cs:=atc (0,0)) (ds:=atc (i+Q.length,m.1)) O O O O (atc_one _) O) ?_ O O (by kernel_rfl)
  rintro _ _ rfl
  refine nx ?_
  refine dn ?_
  skip
  skip
  refine hB _ _ _ _ _ O (.cell O O O inferInstance O .nil) fun w' hS=>⟨(),O,trivial,hS.sublist (List.nil_sublist _)⟩
theorem lastF_any (w:World) (a:At) (A:Option Addr) (c:Nat) (Q:List Em) (h:Rd w All 3 A Q.length (cellsL emc Q)) (hn:Q.length≤100000):
  Gives Tryz.prog 50 [.agg (lgc a A Q.length c).toArray] [] w (X:=Unit) (fun _=> .agg (atc (if rightB a (Q.map emv) then lastA a (Q.map emv) else (0,0))).toArray) (fun _=>True) (fun _=>[]):=by
 refine gives_C Tryz.func50 O Tryz.ntmps50 Tryz.results50 (by simp) (St.enter w) (fun B hB=>?_)
 obtain⟨i,t⟩:=a
 obtain⟨r,hr⟩: ∃ r,rightB (i,t) (Q.map emv)=r:=⟨_,O⟩
 rw[hr] at hB
 cases r
 ·focus (refine qs ?_;(refine qe (E_boxa (cs:=lgc (i,t) A Q.length c) O) ?_;rintro _ _ ⟨b1,rfl,rfl⟩);(refine qe (E_alloca O at_zero) ?_;rintro _ _ ⟨b2,rfl,rfl⟩);refine qz ?_;refine qq ?_;refine qs ?_;refine qt (T_loads (ds:=lgc (i,t) A Q.length c) O O O O O) ?_;(refine qh F121 (fun w hS=>right_any w (i,t) A c Q ((Srd.old h (fun k _=>noOwns k)).rd w hS) hn) ?_;rw[hr]);refine qt (T_not O) ?_;refine qz ?_;refine qT ?_;refine qs ?_;refine qt (T_build0 at_built0) ?_;(refine qw (E_storew (cs:=atc (0,0)) (ds:=atc (0,0)) O O O O (atc_one _) O) ?_;rintro _ _ rfl);refine qz ?_)
  refine hB _ _ _ _ _ O (.cell O O O inferInstance O .nil) fun w' hS=>⟨(),O,trivial,hS.sublist (List.nil_sublist _)⟩
 ·have hff:=right_fits hr
  rw[List.length_map] at hff
  focus (refine qs ?_;(refine qe (E_boxa (cs:=lgc (i,t) A Q.length c) O) ?_;rintro _ _ ⟨b1,rfl,rfl⟩);(refine qe (E_alloca O at_zero) ?_;rintro _ _ ⟨b2,rfl,rfl⟩);refine qz ?_;refine qq ?_;refine qs ?_;refine qt (T_loads (ds:=lgc (i,t) A Q.length c) O O O O O) ?_;(refine qh F121 (fun w hS=>right_any w (i,t) A c Q ((Srd.old h (fun k _=>noOwns k)).rd w hS) hn) ?_;rw[hr]);refine qt (T_not O) ?_;refine qz ?_;refine qF ?_;refine qx ?_;refine qs ?_;refine qt (T_loads (ds:=lgc (i,t) A Q.length c) O O O O O) ?_;refine qh F124 (fun w hS=>last_any w (i,t) A c Q ((Srd.old h (fun k _=>noOwns k)).rd w hS) hn (by show i+_≤_;omega)) ?_;(refine qw (E_storew (cs:=atc (0,0)) (ds:=atc (lastA (i,t) (Q.map emv))) O O O O (atc_one _) O) ?_;rintro _ _ rfl);refine qz ?_)
  refine hB _ _ _ _ _ O (.cell O O O inferInstance O .nil) fun w' hS=>⟨(),O,trivial,hS.sublist (List.nil_sublist _)⟩
def placeN (a:At) (l:List En) (j:Nat):At:=if j=0 then a else (a.1+j,(l.getD (j-1) default).1)
def plcs (a:At) (l:List En):List (List Value):=(List.range (l.length+1)).map fun(j:Nat)=>[.int .i64 (j:Int),.agg (atc (placeN a l j)).toArray]
theorem plcs_len (a:At) (l:List En):(plcs a l).length=l.length+1:=by simp[plcs]
theorem plcs_at (a:At) (l:List En) (j:Nat) (hj:j<l.length+1):(plcs a l).getD j []=[.int .i64 (j:Int),.agg (atc (placeN a l j)).toArray]:=by simp[plcs,List.getD,hj]
theorem placeN_at (a:At) (Q:List Em) (j:Nat) (hj:j<Q.length) {m:Em} (hm:Q.getD j default=m):placeN a (Q.map emv) (j+1)=(a.1+(j+1),m.1):=by
 subst hm
 unfold placeN
 rw[if_neg (by omega),Nat.add_sub_cancel]
 simp[List.getD,hj,emv]
theorem places_any (w:World) (a:At) (A:Option Addr) (n c:Nat):
  Gives Tryz.prog 122 [.agg (lgc a A n c).toArray] [] w (X:=Nat) (fun b=> .func (.func 168) #[] [Value.pointer (some ⟨b,0,none⟩)].toArray) (fun _=>True) (fun b=>[pt b 39 (lgc a A n c)]):=by
 refine gives_S Tryz.func122 O Tryz.ntmps122 Tryz.results122 (by simp) (St.enter w) (fun B hB=>?_)
 focus (refine qs ?_;(refine qe (E_boxa (cs:=lgc a A n c) O) ?_;rintro _ _ ⟨b,rfl,rfl⟩);refine qp ?_;refine qn ?_;refine qt (T_func O O) ?_;refine qp ?_;refine qz ?_)
 exact hB _ _ _ _ _ O O fun w' hS=>⟨b,O,trivial,hS⟩
theorem places_iter (w:World) (F:Nat→Prop) (b:Nat) (a:At) (A:Option Addr) (c:Nat) (Q:List Em) (hb:Rd w F 1 (some ⟨b,0,none⟩) 3 (lgc a A Q.length c)) (h:Rd w F 3 A Q.length (cellsL emc Q)) (hn:Q.length≤100000) (hf:a.1+Q.length≤18446744073709551615):
  Iter Tryz.prog 168 [.pointer (some ⟨b,0,none⟩)] F (plcs a (Q.map emv)) w:=by
 intro l X Z I S x0 h0 hS hFM hy
 refine gives_N2 Tryz.func168 O Tryz.ntmps168 Tryz.results168 (by simp) hS (fun B hE hB=>?_)
 have hlen:(plcs a (Q.map emv)).length=Q.length+1:=by rw[plcs_len,List.length_map]
 have hget:=fun j (hj:j<Q.length+1)=>plcs_at a (Q.map emv) j (by rw[List.length_map];exact hj)
 have hpl:=fun j hj m hm=>placeN_at a Q j hj (m:=m) hm
 rw[hlen] at hE hB hy
 have hp0:placeN a (Q.map emv) 0=a:=rfl
 have hne:0<Q.length→A≠none:=fun h0=>by obtain⟨ad,rfl,_⟩:=h.2 (by omega);simp
 have hy0:=hy 0 x0
 rw[hget 0 (by omega),hp0] at hy0
 obtain⟨i,t⟩:=a
 have hf:i+Q.length≤18446744073709551615:=hf
 focus (refine qq ?_;refine qs ?_;refine qp ?_;refine qp ?_;refine qt (T_loadgs (F:=F) (m:=3) (sz:=1) (xs:=lgc (i,t) A Q.length c) (ds:=atc (i,t)) O O O hb hFM O (by decide) O) ?_;(refine qe (E_yield (A:=Z x0) (Z:=Z) (I1:=I 1) (S1:=S 0) (fun w' hS=>hy0 w' h0 (by omega) (hS.sublist (by simp))) O O O) ?_;rintro _ _ ⟨y,bb,rfl,hy1,hy2,rfl⟩;cases bb);refine qt (T_not O) ?_;refine qz ?_;refine qT ?_;rotate_left;refine qt (T_not O) ?_;refine qz ?_;refine qF ?_;refine qx ?_;refine qs ?_;refine qp ?_;refine qt (T_loadg O O O hb hFM O) ?_;refine qp ?_;refine qp ?_;refine qz ?_;refine qb ?_;rotate_left)
 ·skip
  exact hB _ _ _ _ O fun w' hS=>⟨(y,some 0),⟨by omega,hy2 O⟩,sub_st _ hS⟩
 have hy1:=hy1 O
 skip
 refine S_loop (X:=Nat×X) (fun x=>[(0,.func (.yield l) #[] #[]),(1,.pointer (some ⟨b,0,none⟩)),(11,.slice A Q.length c),(12,.int .i64 (Q.length:Int)),(13,.int .i64 (x.1:Int))]) (fun x=>[Z x.2]) (fun x=>x.1≤Q.length∧I (x.1+1) x.2) (fun x=>Q.length-x.1) O (0,y) ⟨Nat.zero_le _,hy1⟩ (Sub.cons O (Sub.cons O (Sub.cons O (Sub.cons O (Sub.cons O Sub.nil))))) sub_st ?_
 rintro⟨j,x⟩ ⟨hj,hI⟩ J hJ
 dsimp only at hj hI ⊢
 rcases Nat.lt_or_ge j Q.length with hjl|hjl
 ·have hne:=hne (by omega)
  have hat:=cellsL_at (f:=emc) emc_len Q default j hjl
  obtain⟨m,hm⟩: ∃ m,Q.getD j default=m:=⟨_,O⟩
  rw[hm] at hat
  have hyj:=hy (j+1) x
  rw[hget (j+1) (by omega),hpl j hjl m hm] at hyj
  focus (refine qs ?_;refine qd ?_;refine qz ?_;refine qq ?_;refine qT ?_;refine qx ?_;refine qq ?_;refine qb ?_;refine qs ?_;refine qp ?_;refine qt (T_ixM (sz:=3) O O O O O O hne hjl) ?_;refine qt (T_lda (ds:=emc m) O O O (Srd.old h hFM) O (by omega) hat) ?_;(refine qe (E_alloca O em_zero) ?_;rintro _ _ ⟨b4,rfl,rfl⟩);refine qp ?_;(refine qw (E_storew (cs:=emc (0,0,none,0,[])) (ds:=emc m) O O O O (emc_one _) O) ?_;rintro _ _ rfl);refine qn ?_;refine qp ?_;refine qp ?_;refine qt (T_addN O O (by unfold fits;omega)) ?_;refine qp ?_;refine qp ?_;refine qt (T_loadg O O O hb hFM O) ?_;refine qp ?_;refine qt (T_convf O O O O (by unfold fits;omega)) ?_;(iterate 2 refine qt (T_addN O O (by unfold fits;omega)) ?_);refine qp ?_;refine qt (T_load O O O O) ?_;refine qt (T_build2 O O (at_built2 (i+j+1) m.1)) ?_;(refine qe (E_yield (A:=Z x) (Z:=Z) (I1:=I (j+1+1)) (S1:=S (j+1)) (fun w' hS=>hyj w' hI (by omega) (hS.sublist (by simp))) O O O) ?_;rintro _ _ ⟨y,bb,rfl,hy1,hy2,rfl⟩;cases bb);refine qt (T_not O) ?_;refine qz ?_;refine qT ?_;rotate_left;refine qt (T_not O) ?_;refine qz ?_;refine qF ?_;refine qx ?_;refine RS_blk ?_;refine qr ?_;refine qt (T_addN O O (by unfold fits;omega)) ?_;refine qp ?_;refine qz ?_;rotate_left)
  ·skip
   exact hB _ _ _ _ O fun w' hS=>⟨(y,some (j+1)),⟨by omega,hy2 O⟩,sub_st _ hS⟩
  ·skip
   exact hJ (j+1,y) _ _ ⟨by show j+1≤_;omega,hy1 O⟩ (Sub.cons O (Sub.cons O (Sub.cons O (Sub.cons O (Sub.cons O Sub.nil))))) sub_st (by dsimp only;omega)
 have hjn:j=Q.length:=by omega
 subst hjn
 focus (refine qs ?_;refine qf ?_;refine qz ?_;refine qq ?_;refine qF ?_;refine S_exit O O ?_)
 first
  |exact hE _ _ fun w' hS=>⟨(x,none),hI,sub_st _ hS⟩
  |exact hB _ _ _ _ O fun w' hS=>⟨(x,none),hI,sub_st _ hS⟩
def findR (a:At) (l:List En) (idx:Nat):Int×At:=if a.1≤idx∧idx≤a.1+l.length then ((idx-a.1:Nat),placeN a l (idx-a.1)) else (-1,(0,0))
theorem placeN_fst (a:At) (l:List En) (j:Nat):(placeN a l j).1=a.1+j:=by
 unfold placeN
 split
 ·rename_i h;rw[h];rfl
 ·rfl
theorem findR_hit {a:At} {l:List En} {idx j:Nat} (hj:j<l.length+1) (h:(placeN a l j).1=idx):findR a l idx=((j:Int),placeN a l j):=by
 rw[placeN_fst] at h
 unfold findR
 rw[if_pos ⟨by omega,by omega⟩,show idx-a.1=j by omega]
theorem findR_not {a:At} {l:List En} {idx:Nat} (h: ∀ j,j<l.length+1→(placeN a l j).1≠idx):findR a l idx=(-1,(0,0)):=by
 unfold findR
 refine if_neg fun⟨h1,h2⟩=>?_
 have:=h (idx-a.1) (by omega)
 rw[placeN_fst] at this
 omega
theorem find_any (w:World) (a:At) (A:Option Addr) (c:Nat) (Q:List Em) (h:Rd w All 3 A Q.length (cellsL emc Q)) (hn:Q.length≤100000) (hf:a.1+Q.length≤18446744073709551615) (idx:Nat):
  Gives Tryz.prog 125 [.agg (lgc a A Q.length c).toArray,.int .u64 (idx:Int)] [] w (X:=Unit) (fun _=> .tuple #[zi (findR a (Q.map emv) idx).1,.agg (atc (findR a (Q.map emv) idx).2).toArray]) (fun _=>True) (fun _=>[]):=by
 refine gives_M Tryz.func125 O Tryz.ntmps125 Tryz.results125 (by simp) (St.enter w) (fun B hB0 hB=>?_)
 obtain⟨i,t⟩:=a
 obtain⟨l,hl⟩: ∃ l,Q.map emv=l:=⟨_,O⟩
 have hll:l.length=Q.length:=by rw[← hl,List.length_map]
 focus (refine qs ?_;(refine qe (E_boxa (cs:=lgc (i,t) A Q.length c) O) ?_;rintro _ _ ⟨b2,rfl,rfl⟩);(refine qe (E_box1 (v:= .int .u64 (idx:Int)) O O) ?_;rintro _ _ ⟨b3,rfl,rfl⟩);(refine qe (E_alloc1 (v:= .int .i64 0) O O O) ?_;rintro _ _ ⟨b4,rfl,rfl⟩);(refine qe (E_alloca O at_zero) ?_;rintro _ _ ⟨b5,rfl,rfl⟩);refine qz ?_;refine qq ?_;refine qs ?_;refine qt (T_loads (ds:=lgc (i,t) A Q.length c) O O O O O) ?_;(refine qe (E_hv1 (f:=122) F122 (fun w hS=>places_any w (i,t) A Q.length c) O O (fun _=>O)) ?_;rintro _ _ ⟨bI,rfl,_,rfl⟩);refine qz ?_;refine qb ?_)
 refine S_range (F:=fun k=>k<w.heap.size∨k=bI) (es:=plcs (i,t) l) (ps:=[10,11]) (X:=Int×At) (fun x=>[pt b4 3 [.int .i64 x.1],pt b5 36 (atc x.2)]) (fun j x=>x=(0,(0,0))∧ ∀ q,q<j→(placeN (i,t) l q).1≠idx) (fun j x=>x=((j:Int),placeN (i,t) l j)∧(placeN (i,t) l j).1=idx) (0,(0,0)) [pt bI 39 (lgc (i,t) A Q.length c),pt b3 34 [.int .u64 (idx:Int)]] O O F168 (by kernel_rfl) (fun e he=>?_) ⟨O,fun q hq=>absurd hq (Nat.not_lt_zero _)⟩ (fun w' hS=>sub_st (H':=[pt b4 3 [.int .i64 0],pt b5 36 (atc (0,0)),pt bI 39 (lgc (i,t) A Q.length c),pt b3 34 [.int .u64 (idx:Int)]]) w' hS) (fun w' hS=>?_) (fun w' hS=>reads_ok (b:=bI) (Hk:=[pt bI 39 (lgc (i,t) A Q.length c),pt b3 34 [.int .u64 (idx:Int)]]) hS) (fun j x w' hx hj hS=>?_) (fun y D hy=>?_) (fun y D j hj hy=>?_)
 ·obtain⟨j,_,rfl⟩:=List.mem_map.1 he
  rfl
 ·rw[← hl]
  exact places_iter w' _ bI (i,t) A c Q (rd_blk (b:=bI) hS O (.inr O)) (rd_old h (by decide) (fun k=>noOwns k) hS (fun k hk=> .inl hk)) hn hf
 ·rw[plcs_len] at hj
  obtain⟨rfl,hno⟩:=hx
  rw[plcs_at _ _ _ hj]
  obtain⟨p,hp⟩: ∃ p,placeN (i,t) l j=p:=⟨_,O⟩
  rw[hp]
  intro l2 rA rB B0 B1 J hfull hbeg hend hret
  have hC3:=rd_kept (b:=b3) hfull O
  obtain⟨pi,pu⟩:=p
  focus (refine qs ?_;refine qp ?_;refine qz ?_;refine qr ?_;(refine qe (E_alloca O at_zero) ?_;rintro _ _ ⟨b7,rfl,rfl⟩);(refine qw (E_storew (cs:=atc (0,0)) (ds:=atc (pi,pu)) O O O O (atc_one _) O) ?_;rintro _ _ rfl);refine qz ?_)
  refine hbeg _ [pt b7 36 (atc (pi,pu)),pt b4 3 [.int .i64 0],pt b5 36 (atc (0,0))] _ ?_ sub_st
  by_cases hpi:pi=idx
  ·focus (refine qb ?_;refine qs ?_;refine qp ?_;refine qt (T_load O O O O) ?_;refine qt (T_loadg O O O hC3 (fun k hk=>hk) O) ?_;refine qd ?_;refine qz ?_;refine qT ?_;refine qq ?_)
   refine S_drawR ([pt b7 36 (atc (pi,pu))]) sub_st (by kernel_rfl) O (by kernel_rfl) (by kernel_rfl) (by kernel_rfl:_=4) ?_
   refine dp 0 ?_
   refine dt 1 O (T_loads (ds:=atc (pi,pu)) O O O O O) ?_
   refine D_one 2 O (E_store1 O O O O O O (by first|(simp;done)|(simp;omega)|decide)) ?_ O O (by kernel_rfl)
   rintro _ _ rfl
   refine nx ?_
   refine D_one 3 O (E_storew (cs:=atc (0,0)) (ds:=atc (pi,pu)) O O O O (atc_one _) O) ?_ O O (by kernel_rfl)
   rintro _ _ rfl
   refine nx ?_
   refine dn ?_
   skip
   skip
   refine hret ((j:Int),(pi,pu)) _ _ _ _ ⟨O,hpi⟩ O fun w' hS=>?_
   simp only[Nat.add_zero,List.set_cons_zero] at hS
   exact sub_st _ hS
  ·focus (refine qb ?_;refine qs ?_;refine qp ?_;refine qt (T_load O O O O) ?_;refine qt (T_loadg O O O hC3 (fun k hk=>hk) O) ?_;refine qf ?_;refine qz ?_;refine qF ?_;refine qx ?_;refine RS_blk ?_)
   refine hend (0,(0,0)) _ _ ⟨O,fun q hq=>?_⟩ sub_st
   rcases Nat.lt_or_ge q j with h3|h3
   ·exact hno q h3
   ·rw[show q=j by omega,hp];exact hpi
 ·obtain⟨rfl,hno⟩:=hy
  rw[plcs_len] at hno
  have hR:=findR_not hno
  rw[hl,hR] at hB
  simp only[List.cons_append,List.nil_append]
  focus (refine RS_blk ?_;refine qs ?_;refine qt (T_build0 at_built0) ?_;(refine qw (E_store1 O O O O O O (by first|(simp;done)|(simp;omega)|decide)) ?_;rintro _ _ rfl);(refine qw (E_storew (cs:=atc (0,0)) (ds:=atc (0,0)) O O O O (atc_one _) O) ?_;rintro _ _ rfl);refine qz ?_)
  simp only[Nat.add_zero,List.set_cons_zero]
  refine hB _ _ _ _ _ _ _ O inferInstance (.cell1 O O O inferInstance (.cell O O O inferInstance O .nil)) fun w' hS=>⟨(),O,trivial,hS.sublist (List.nil_sublist _)⟩
 ·obtain⟨rfl,hno⟩:=hy
  rw[plcs_len] at hj
  have hR:=findR_hit hj hno
  rw[hl,hR] at hB
  simp only[List.cons_append,List.nil_append]
  refine hB _ _ _ _ _ _ _ O inferInstance (.cell1 O O O inferInstance (.cell O O O inferInstance O .nil)) fun w' hS=>⟨(),O,trivial,hS.sublist (List.nil_sublist _)⟩
def hasB (a:At) (l:List En) (p:At):Bool:=decide (0≤(findR a l p.1).1)&&decide ((findR a l p.1).2=p)
theorem has_any (w:World) (a:At) (A:Option Addr) (c:Nat) (Q:List Em) (h:Rd w All 3 A Q.length (cellsL emc Q)) (hn:Q.length≤100000) (hf:a.1+Q.length≤18446744073709551615) (p:At):
  Gives Tryz.prog 162 [.agg (lgc a A Q.length c).toArray,.agg (atc p).toArray] [] w (X:=Unit) (fun _=> .bool (hasB a (Q.map emv) p)) (fun _=>True) (fun _=>[]):=by
 refine gives_S Tryz.func162 O Tryz.ntmps162 Tryz.results162 (by simp) (St.enter w) (fun B hB=>?_)
 obtain⟨⟨k,q⟩,hR⟩: ∃ x,findR a (Q.map emv) p.1=x:=⟨_,O⟩
 obtain⟨r,hr⟩: ∃ r,decide (q=p)=r:=⟨_,O⟩
 have hq:hasB a (Q.map emv) p=(decide (0≤k)&&r):=by rw[hasB,hR, ← hr]
 rw[hq] at hB
 obtain⟨pi,pu⟩:=p
 by_cases hk:0≤k
 ·rw[decide_eq_true hk,Bool.true_and] at hB
  focus (refine qs ?_;(refine qe (E_boxa (cs:=lgc a A Q.length c) O) ?_;rintro _ _ ⟨b2,rfl,rfl⟩);(refine qe (E_boxa (cs:=atc (pi,pu)) O) ?_;rintro _ _ ⟨b3,rfl,rfl⟩);refine qp ?_;refine qn ?_;refine qt (T_loads (ds:=lgc a A Q.length c) O O O O O) ?_;refine qp ?_;refine qt (T_load O O O O) ?_;(refine qh F125 (fun w hS=>find_any w a A c Q ((Srd.old h (fun k _=>noOwns k)).rd w hS) hn hf pi) ?_;rw[hR]);(iterate 3 refine qp ?_);(refine qe (E_alloca O at_zero) ?_;rintro _ _ ⟨b6,rfl,rfl⟩);refine qp ?_;(refine qw (E_storew (cs:=atc (0,0)) (ds:=atc q) O O O O (atc_one _) O) ?_;rintro _ _ rfl);refine qn ?_;refine qp ?_;refine qd ?_;refine qd ?_;refine qt (T_loads (ds:=atc q) O O O O O) ?_;refine qt (T_loads (ds:=atc (pi,pu)) O O O O O) ?_;refine qt (T_eqAt (a:=q) (b:=(pi,pu)) O O hr) ?_;refine qp ?_;refine qp ?_;refine qz ?_)
  exact hB _ _ _ _ _ O O (qE O)
 ·rw[decide_eq_false hk,Bool.false_and] at hB
  focus (refine qs ?_;(refine qe (E_boxa (cs:=lgc a A Q.length c) O) ?_;rintro _ _ ⟨b2,rfl,rfl⟩);(refine qe (E_boxa (cs:=atc (pi,pu)) O) ?_;rintro _ _ ⟨b3,rfl,rfl⟩);refine qp ?_;refine qn ?_;refine qt (T_loads (ds:=lgc a A Q.length c) O O O O O) ?_;refine qp ?_;refine qt (T_load O O O O) ?_;(refine qh F125 (fun w hS=>find_any w a A c Q ((Srd.old h (fun k _=>noOwns k)).rd w hS) hn hf pi) ?_;rw[hR]);(iterate 3 refine qp ?_);(refine qe (E_alloca O at_zero) ?_;rintro _ _ ⟨b6,rfl,rfl⟩);refine qp ?_;(refine qw (E_storew (cs:=atc (0,0)) (ds:=atc q) O O O O (atc_one _) O) ?_;rintro _ _ rfl);refine qn ?_;refine qp ?_;refine qf ?_;refine qp ?_;(iterate 3 refine qk ?_);refine qp ?_;refine qp ?_;refine qz ?_)
  exact hB _ _ _ _ _ O O (qE O)
theorem bclone_any (w:World) (A:Option Addr) (n c:Nat) (xs:List Value) (h:Rd w All 1 A n xs) (h1: ∀ v∈xs,v.oneCell'=true) (hn:n≤100000):
  Gives Tryz.prog 123 [.slice A n c] [] w (X:=Option Addr×Nat) (fun x=> .slice x.1 n x.2) (fun _=>True) (fun x=>[row 5 1 x.1 n x.2 xs]):=by
 refine gives_S Tryz.func123 O Tryz.ntmps123 Tryz.results123 (by simp) (St.enter w) (fun B hB=>?_)
 cases hA:A with
 |none=>
  subst hA
  have hn0:n=0:=by
   rcases Nat.eq_zero_or_pos n with h0|h0
   ·exact h0
   ·obtain⟨ad,e,_⟩:=h.2 h0
    cases e
  subst hn0
  obtain rfl:xs=[]:=List.eq_nil_of_length_eq_zero (by simpa using h.1)
  repeat' (first|refine R_p O ?_ O O|refine R_nil ?_|refine R_take (T_eqnil O O O O) ?_ O O|refine S_seq O ?_|refine S_region O O ?_|refine S_true O O ?_)
  all_goals (try (exfalso;simp_all;done))
  refine hB _ _ _ _ _ O O fun w' hS=>⟨(none,0),O,trivial,(hS.sublist (List.nil_sublist _)).nilrow _ _⟩
 |some ad=>
  subst hA
  focus (refine qs ?_;refine qp ?_;refine qz ?_;refine qq ?_;refine qs ?_;refine qp ?_;refine qt (T_eqnil O O O O) ?_;refine qz ?_;refine qF ?_;refine qx ?_;refine qs ?_;(refine qe (E_lit1 (m:=0) (vs:=[]) O O O O O O O (by simp) (by decide)) ?_;rintro _ _ ⟨bl,rfl,rfl⟩);refine qp ?_;(refine qe (E_apple O O O O O O O (by decide) .here (Srd.old h (fun k _=>noOwns k)) h1 (by show n*1≤_;omega) (by unfold maxLen;omega)) ?_;rintro _ _ ⟨A',c',rfl,rfl⟩);refine qp ?_;refine qz ?_)
  all_goals (try (exfalso;simp_all;done))
  refine hB _ _ _ _ _ O O fun w' hS=>⟨(A',c'),O,trivial,hS⟩
theorem eclone_any (w:World) (A:Option Addr) (n c:Nat) (xs:List Value) (h:Rd w All 3 A n xs) (h1: ∀ v∈xs,v.oneCell'=true) (hn:n≤1000):
  Gives Tryz.prog 169 [.slice A n c] [] w (X:=Option Addr×Nat) (fun x=> .slice x.1 n x.2) (fun _=>True) (fun x=>[row 59 3 x.1 n x.2 xs]):=by
 refine gives_S Tryz.func169 O Tryz.ntmps169 Tryz.results169 (by simp) (St.enter w) (fun B hB=>?_)
 cases hA:A with
 |none=>
  subst hA
  have hn0:n=0:=by
   rcases Nat.eq_zero_or_pos n with h0|h0
   ·exact h0
   ·obtain⟨ad,e,_⟩:=h.2 h0
    cases e
  subst hn0
  obtain rfl:xs=[]:=List.eq_nil_of_length_eq_zero (by simpa using h.1)
  repeat' (first|refine R_p O ?_ O O|refine R_nil ?_|refine R_take (T_eqnil O O O O) ?_ O O|refine S_seq O ?_|refine S_region O O ?_|refine S_true O O ?_)
  all_goals (try (exfalso;simp_all;done))
  refine hB _ _ _ _ _ O O fun w' hS=>⟨(none,0),O,trivial,(hS.sublist (List.nil_sublist _)).nilrow _ _⟩
 |some ad=>
  subst hA
  focus (refine qs ?_;refine qp ?_;refine qz ?_;refine qq ?_;refine qs ?_;refine qp ?_;refine qt (T_eqnil O O O O) ?_;refine qz ?_;refine qF ?_;refine qx ?_;refine qs ?_;(refine qe (E_litS (vs:=[]) (size:=3) (ds:=[]) O O O O O O (by simp) O (by omega)) ?_;rintro _ _ ⟨bl,rfl,rfl⟩);refine qp ?_;(refine qe (E_apple (sz:=3) O O O O O O O (by decide) .here (Srd.old h (fun k _=>noOwns k)) h1 (by show n*40≤_;omega) (by unfold maxLen;omega)) ?_;rintro _ _ ⟨A',c',rfl,rfl⟩);refine qp ?_;refine qz ?_)
  all_goals (try (exfalso;simp_all;done))
  refine hB _ _ _ _ _ O O fun w' hS=>⟨(A',c'),O,trivial,hS⟩
def emd (m:Em):Dt:=m.2.2
theorem cells_put (P R:List Em) (m:Em) (d:Dt):(cellsL emc (P++m::R)).set (P.length*3+2) (.slice d.1 d.2.2.length d.2.1)=cellsL emc (P++(m.1,m.2.1,d)::R):=by
 have hl:=cellsL_len (f:=emc) emc_len P
 have e: ∀ m:Em,cellsL emc (P++m::R)=cellsL emc P++(emc m++cellsL emc R):=fun m=>by
  unfold cellsL
  rw[List.flatMap_append,List.flatMap_cons]
 rw[e,e,List.set_append_right _ _ (by omega),hl,show P.length*3+2-P.length*3=2 by omega]
 rfl
theorem em_split (Q:List Em) (j:Nat) (hj:j<Q.length) {m:Em} (hm:Q.getD j default=m):Q.drop j=m::Q.drop (j+1):=by
 subst hm
 rw[List.drop_eq_getElem_cons hj]
 simp[List.getD,hj]
theorem em_ones (Q:List Em): ∀ v∈cellsL emc Q,v.oneCell'=true:=fun v hv=>by
 obtain⟨x,_,hx⟩:=List.mem_flatMap.1 hv
 exact emc_one x v hx
theorem bv_ones (l:List UInt8): ∀ v∈l.map bv,v.oneCell'=true:=fun v hv=>by
 obtain⟨x,_,rfl⟩:=List.mem_map.1 hv
 rfl
def Cp (Q:List Em):Type:={q:List Em//q.map emv=Q.map emv}
theorem Cp.len {Q:List Em} (q:Cp Q):q.1.length=Q.length:=by
 have:=congrArg List.length q.2
 simpa using this
theorem copied_any (w:World) (A:Option Addr) (c:Nat) (Q:List Em) (h:Rd w All 3 A Q.length (cellsL emc Q)) (hd:RDt w All (Q.map emd)) (hn:Q.length≤1000) (hk: ∀ m∈Q,m.2.2.2.2.length≤100000):
  Gives Tryz.prog 130 [.slice A Q.length c] [] w (X:=(Option Addr×Nat)×Cp Q) (fun x=> .slice x.1.1 Q.length x.1.2) (fun _=>True) (fun x=>[row 59 3 x.1.1 Q.length x.1.2 (cellsL emc x.2.1),dtB 5 (x.2.1.map emd)]):=by
 refine gives_S Tryz.func130 O Tryz.ntmps130 Tryz.results130 (by simp) (St.enter w) (fun B hB=>?_)
 focus (refine qs ?_;refine qp ?_;refine qn ?_;refine qp ?_;(refine qe (E_hv1 (f:=169) F169 (fun w hS=>eclone_any w A Q.length c (cellsL emc Q) ((Srd.old h (fun k _=>noOwns k)).rd w hS) (em_ones Q) (by omega)) O O (fun _=>O)) ?_;rintro _ _ ⟨⟨A5,c5⟩,rfl,_,rfl⟩);refine qp ?_;refine qz ?_;refine qq ?_;refine qs ?_;(iterate 3 refine qp ?_);refine qz ?_;refine qb ?_)
 refine RS_row A5 Q.length c5 fun _ _ hne5 _=>?_
 refine S_loop (X:=Nat×List Em) (fun x=>[(0,.slice A5 Q.length c5),(7,.int .i64 (Q.length:Int)),(8,.int .i64 (x.1:Int))]) (fun x=>[row 59 3 A5 Q.length c5 (cellsL emc (x.2++Q.drop x.1)),dtB 5 (x.2.map emd)]) (fun x=>x.1≤Q.length∧x.2.length=x.1∧x.2.map emv=(Q.take x.1).map emv) (fun x=>Q.length-x.1) O (0,[]) ⟨Nat.zero_le _,O,O⟩ (Sub.cons O (Sub.cons O (Sub.cons O Sub.nil))) (fun w hS=>sub_st (H':=[row 59 3 A5 Q.length c5 (cellsL emc Q),dtB 5 []]) w (dtB_nil (e:=5) hS)) ?_
 rintro⟨j,P⟩ ⟨hj,hPl,hP⟩ J hJ
 dsimp only at hj hPl hP ⊢
 rcases Nat.lt_or_ge j Q.length with hjl|hjl
 ·have hne5:=hne5 (by omega)
  obtain⟨m,hm⟩: ∃ m,Q.getD j default=m:=⟨_,O⟩
  have hmem:m∈Q:=by rw[← hm];simp[List.getD,hjl]
  have hsp:=em_split Q j hjl hm
  have htk:=emv_take Q j hjl hm
  obtain⟨R,hR⟩: ∃ R,Q.drop (j+1)=R:=⟨_,O⟩
  rw[hR] at hsp
  rw[hsp]
  have hRl:R.length=Q.length-(j+1):=by rw[← hR,List.length_drop]
  have hat:=cellsL_at (f:=emc) emc_len (P++m::R) default j (by simp;omega)
  rw[show (P++m::R).getD j default=m by simp[List.getD, ← hPl]] at hat
  have hat2:(cellsL emc (P++m::R))[j*3+2]? =some (.slice m.2.2.1 m.2.2.2.2.length m.2.2.2.1):=hat 2 _ O
  have hput:=fun d=>cells_put P R m d
  rw[hPl] at hput
  have hd1:=hd (emd m) (List.mem_map.2 ⟨m,hmem,O⟩)
  have hk1:=hk m hmem
  have hxl:j*3+2<(cellsL emc (P++m::R)).length:=(List.getElem?_eq_some_iff.1 hat2).1
  focus (refine qs ?_;refine qd ?_;refine qz ?_;refine qq ?_;refine qT ?_;refine qx ?_;refine qq ?_;refine qb ?_;refine qs ?_;refine qp ?_;refine qp ?_;refine qz ?_;refine qr ?_;(iterate 4 refine qp ?_);refine qt (T_ixM (sz:=3) O O O O O O hne5 hjl) ?_;refine qt (T_fap O O O O O hne5) ?_;refine qt (T_ldr O O O (Srd.row (n:=Q.length) (c:=c5)) (by omega) hat2) ?_;(refine qe (E_hv1 (f:=123) F123 (fun w hS=>bclone_any w m.2.2.1 m.2.2.2.2.length m.2.2.2.1 (m.2.2.2.2.map bv) ((Srd.old hd1 (fun k _=>noOwns k)).rd w hS) (bv_ones _) hk1) O O (fun _=>O)) ?_;rintro _ _ ⟨⟨A',c'⟩,rfl,_,rfl⟩);refine qt (T_ixM (sz:=3) O O O O O O hne5 hjl) ?_;refine qt (T_fap O O O O O hne5) ?_;(refine qw (E_storeRS (m:=Q.length) (c:=c5) O O O O O hxl) ?_;rintro _ _ rfl);refine qz ?_;refine RS_blk ?_;refine qr ?_;refine qt (T_addN O O (by unfold fits;omega)) ?_;refine qp ?_;refine qz ?_)
  refine hJ (j+1,P++[(m.1,m.2.1,A',c',m.2.2.2.2)]) _ _ ⟨by show j+1≤_;omega,by simp;omega,by dsimp only;rw[htk,List.map_append,hP];rfl⟩ (Sub.cons O (Sub.cons O (Sub.cons O Sub.nil))) (fun w' hS=>?_) (by show Q.length-(j+1)<_;omega)
  dsimp only
  have h1:=sub_st (H':=[row 5 1 A' m.2.2.2.2.length c' (m.2.2.2.2.map bv),dtB 5 (P.map emd),row 59 3 A5 Q.length c5 ((cellsL emc (P++m::R)).set (j*3+2) (.slice A' m.2.2.2.2.length c'))]) w' hS
  have h2:=dtB_put (d:=(A',c',m.2.2.2.2)) h1
  rw[hput (A',c',m.2.2.2.2)] at h2
  rw[hR,List.append_assoc,List.map_append]
  exact sub_st (H':=[row 59 3 A5 Q.length c5 (cellsL emc (P++(m.1,m.2.1,A',c',m.2.2.2.2)::R)),dtB 5 (P.map emd++[(A',c',m.2.2.2.2)])]) w' h2
 have hjn:j=Q.length:=by omega
 subst hjn
 rw[List.drop_length,List.append_nil]
 rw[List.take_length] at hP
 focus (refine qs ?_;refine qf ?_;refine qz ?_;refine qq ?_;refine qF ?_;refine S_exit O O ?_;refine qs ?_;refine qp ?_;refine qp ?_;refine qz ?_)
 exact hB _ _ _ _ _ O O fun w' hS=>⟨((A5,c5),⟨P,hP⟩),O,trivial,sub_st _ hS⟩
theorem E_cpW {n:Nat} {w0:World} {M:Nat→Prop} {T:Slots} {H:List Asn} {dd:Option Tmp} {tt:TypeId} {pos:String} {af:Array Edge} {g:Option (Nat×Bool)} {x:Operand} {ts:Array TypeId} {A:Option Addr} {k c:Nat} {Q:List Em} (hx:oget T x=some (.slice A k c)) (hk0:Q.length=k) (hs:Srd w0 M H 3 A k (cellsL emc Q)) (hd:SDt w0 M H (Q.map emd)) (hn:k≤1000) (hk: ∀ m∈Q,m.2.2.2.2.length≤100000):
  Ef Tryz.prog n w0 M T H ⟨dd,.call ⟨.value (.func 130),#[x],ts⟩,tt,pos,af,g⟩ (fun u H'=> ∃ A' c', ∃ Q':Cp Q,u= .slice A' k c'∧(0<k→A'≠none)∧k≤c'∧H'=row 59 3 A' k c' (cellsL emc Q'.1)::dtB 5 (Q'.1.map emd)::H):=by
 subst hk0
 refine(E_gv F130 (vs:=[.slice A Q.length c]) (by simp[ogets,hx]) fun w hS=>copied_any w A c Q (hs.rd w hS) (hd.rd w hS) hn hk).mono ?_
 rintro v H' ⟨⟨⟨A',c'⟩,Q'⟩,rfl,_,rfl⟩ w hS
 have hf:=row_facts (hS.at_ (A:=row 59 3 A' Q.length c' (cellsL emc Q'.1)) (by simp))
 exact⟨_,_,O,⟨A',c',Q',O,hf.2.2.1,hf.1,O⟩,hS⟩
theorem rd_cut {w:World} {F:Nat→Prop} {sz n c q:Nat} {A:Option Addr} {xs:List Value} (h:Rd w F sz A n xs) (hq:q≤n) (hc:n≤c):Rd w F sz (cutP A c q sz) (n-q) (xs.drop (q*sz)):=by
 refine⟨by rw[List.length_drop,h.1,Nat.sub_mul],fun h0=>?_⟩
 obtain⟨ad,rfl,hF,hcell⟩:=h.2 (by omega)
 refine⟨ad.add (q*sz),by unfold cutP;rw[if_neg (by omega)];rfl,by rw[block_of_add];exact hF,fun j u hj=>?_⟩
 rw[List.getElem?_drop] at hj
 rw[add_of_add]
 exact hcell _ u hj
theorem rd_cutE {w:World} {F:Nat→Prop} {c q:Nat} {A:Option Addr} {E:List Em} (h:Rd w F 3 A E.length (cellsL emc E)) (hq:q≤E.length) (hc:E.length≤c):Rd w F 3 (cutP A c q 3) (E.length-q) (cellsL emc (E.drop q)):=by
 rw[cellsL_drop emc_len]
 exact rd_cut h hq hc
theorem rdt_drop {w:World} {F:Nat→Prop} {E:List Em} (h:RDt w F (E.map emd)) (q:Nat):RDt w F ((E.drop q).map emd):=fun d hd=>h d (by
 obtain⟨m,hm,rfl⟩:=List.mem_map.1 hd
 exact List.mem_map.2 ⟨m,List.mem_of_mem_drop hm,O⟩)
theorem dtB_nil2 {w0 w:World} {M:Nat→Prop} (h:St w0 M [] w):St w0 M [row 59 3 none 0 0 (cellsL emc []),dtB 5 ([]:List Dt)] w:=(dtB_nil (e:=5) h).nilrow 59 3
def cmp (a:At) (l:List En) (idx:Nat):Int×At×List En:=
 if rightB a l=true then (if (findR a l idx).1<0 then (4,(0,0),[]) else (0,(findR a l idx).2,l.drop (findR a l idx).1.toNat)) else (220,(0,0),[])
theorem findR_cases (a:At) (l:List En) (idx:Nat):(∃ n:Nat,findR a l idx=((n:Int),placeN a l n)∧n≤l.length∧a.1+n=idx)∨(findR a l idx=(-1,(0,0))∧ ¬ (a.1≤idx∧idx≤a.1+l.length)):=by
 unfold findR
 by_cases hc:a.1≤idx∧idx≤a.1+l.length
 ·rw[if_pos hc]
  exact .inl ⟨idx-a.1,O,by omega,by omega⟩
 ·rw[if_neg hc]
  exact .inr ⟨O,hc⟩
theorem compact_any (w:World) (a:At) (A:Option Addr) (c:Nat) (Q:List Em) (h:Rd w All 3 A Q.length (cellsL emc Q)) (hd:RDt w All (Q.map emd)) (hc:Q.length≤c) (hn:Q.length≤1000) (hk: ∀ m∈Q,m.2.2.2.2.length≤100000) (idx:Nat):
  Gives Tryz.prog 100 [.agg (lgc a A Q.length c).toArray,.int .u64 (idx:Int)] [] w (X:=(Option Addr×Nat)×List Em) (fun x=> .tuple #[.agg (lgc (cmp a (Q.map emv) idx).2.1 x.1.1 (cmp a (Q.map emv) idx).2.2.length x.1.2).toArray,zi (cmp a (Q.map emv) idx).1]) (fun x=>x.2.map emv=(cmp a (Q.map emv) idx).2.2∧(cmp a (Q.map emv) idx).2.2.length≤x.1.2) (fun x=>[row 59 3 x.1.1 (cmp a (Q.map emv) idx).2.2.length x.1.2 (cellsL emc x.2),dtB 5 (x.2.map emd)]):=by
 refine gives_C Tryz.func100 O Tryz.ntmps100 Tryz.results100 (by simp) (St.enter w) (fun B hB=>?_)
 obtain⟨i,t⟩:=a
 obtain⟨l,hl⟩: ∃ l,Q.map emv=l:=⟨_,O⟩
 have hll:l.length=Q.length:=by rw[← hl,List.length_map]
 rw[hl] at hB
 obtain⟨r,hr0⟩: ∃ r,rightB (i,t) l=r:=⟨_,O⟩
 have hr:rightB (i,t) (Q.map emv)=r:=by rw[hl];exact hr0
 cases r
 ·have hs:cmp (i,t) l idx=(220,(0,0),[]):=by unfold cmp;rw[hr0];rfl
  rw[hs] at hB
  focus (refine qs ?_;(refine qe (E_boxa (cs:=lgc (i,t) A Q.length c) O) ?_;rintro _ _ ⟨b2,rfl,rfl⟩);(refine qe (E_alloca O lg_zero) ?_;rintro _ _ ⟨b4,rfl,rfl⟩);refine qp ?_;refine qz ?_;refine qq ?_;refine qs ?_;refine qt (T_loads (ds:=lgc (i,t) A Q.length c) O O O O O) ?_;(refine qh F121 (fun w hS=>right_any w (i,t) A c Q ((Srd.old h (fun k _=>noOwns k)).rd w hS) (by omega)) ?_;rw[hr]);refine qt (T_not O) ?_;refine qz ?_;refine qT ?_;refine qs ?_;refine qt (T_build0 lg_built0) ?_;(refine qw (E_storew (cs:=lgc (0,0) none 0 0) (ds:=lgc (0,0) none 0 0) O O O O (lgc_one _ _ _ _) O) ?_;rintro _ _ rfl);refine qp ?_;refine qz ?_)
  refine hB _ _ _ _ _ O (.cell O O O inferInstance O (.tmp O .nil)) fun w' hS=>⟨((none,0),[]),O,⟨O,Nat.le_refl _⟩,dtB_nil2 (hS.sublist (List.nil_sublist _))⟩
 have hff:=right_fits hr0
 have hfit:(i,t).1+Q.length≤18446744073709551615:=by rw[← hll];show i+_≤_;have:i+l.length≤_:=hff.2;omega
 obtain⟨⟨k,q⟩,hf0⟩: ∃ x,findR (i,t) l idx=x:=⟨_,O⟩
 have hfi:findR (i,t) (Q.map emv) idx=(k,q):=by rw[hl];exact hf0
 have hs:cmp (i,t) l idx=if k<0 then ((4,(0,0),[]):Int×At×List En) else (0,q,l.drop k.toNat):=by
  unfold cmp
  rw[if_pos hr0,hf0]
 rw[hs] at hB
 rcases findR_cases (i,t) l idx with⟨n,hfn,hnl,hni⟩|⟨hfn,_⟩
 ·rw[hf0] at hfn
  injection hfn with e1 e2
  subst e1
  rw[if_neg (by omega),Int.toNat_natCast] at hB
  have hcutr:=rd_cutE (q:=n) h (by omega) hc
  have hcutd:=rdt_drop hd n
  have hkd: ∀ m∈Q.drop n,m.2.2.2.2.length≤100000:=fun m hm=>hk m (List.mem_of_mem_drop hm)
  have hdl:(l.drop n).length=Q.length-n:=by rw[List.length_drop,hll]
  have hnl:n≤Q.length:=by omega
  focus (refine qs ?_;(refine qe (E_boxa (cs:=lgc (i,t) A Q.length c) O) ?_;rintro _ _ ⟨b2,rfl,rfl⟩);(refine qe (E_alloca O lg_zero) ?_;rintro _ _ ⟨b4,rfl,rfl⟩);refine qp ?_;refine qz ?_;refine qq ?_;refine qs ?_;refine qt (T_loads (ds:=lgc (i,t) A Q.length c) O O O O O) ?_;(refine qh F121 (fun w hS=>right_any w (i,t) A c Q ((Srd.old h (fun k _=>noOwns k)).rd w hS) (by omega)) ?_;rw[hr]);refine qt (T_not O) ?_;refine qz ?_;refine qF ?_;refine qx ?_;refine qs ?_;refine qt (T_loads (ds:=lgc (i,t) A Q.length c) O O O O O) ?_;refine qp ?_;(refine qh F125 (fun w hS=>find_any w (i,t) A c Q ((Srd.old h (fun k _=>noOwns k)).rd w hS) (by omega) hfit idx) ?_;rw[hfi]);(iterate 3 refine qp ?_);(refine qe (E_alloca O at_zero) ?_;rintro _ _ ⟨b7,rfl,rfl⟩);refine qp ?_;(refine qw (E_storew (cs:=atc (0,0)) (ds:=atc q) O O O O (atc_one _) O) ?_;rintro _ _ rfl);refine qz ?_;refine qq ?_;refine qs ?_;refine qp ?_;refine qf ?_;refine qz ?_;refine qF ?_;refine qx ?_;refine qq ?_)
  refine S_draw ([pt b7 36 (atc q),pt b2 39 (lgc (i,t) A Q.length c)]) sub_st (by kernel_rfl) O (by kernel_rfl) (by kernel_rfl:_=9) ?_
  refine dt 0 O (T_loads (ds:=atc q) O O O O O) ?_
  refine dp 1 ?_
  refine dl 2 ?_
  refine dp 3 ?_
  refine dt 4 O (T_slN (sz:=3) (q:=n) O O O O O O hnl hc) ?_
  refine D_one 5 O (E_cpW (Q:=Q.drop n) (k:=Q.length-n) O (by rw[List.length_drop]) (Srd.old hcutr (fun k _=>noOwns k)) (SDt.old hcutd (fun k _=>noOwns k)) (by omega) hkd) ?_ O O (by kernel_rfl)
  rintro _ _ ⟨A7,c7,E7,rfl,hne7,hc7,rfl⟩
  refine nx ?_
  refine dt 6 O (T_build2 O O (lg_built2 q _ _ _)) ?_
  refine D_one 7 O (E_storew (cs:=lgc (0,0) none 0 0) (ds:=lgc q A7 (Q.length-n) c7) O O O O (lgc_one _ _ _ _) O) ?_ O O (by kernel_rfl)
  rintro _ _ rfl
  refine nx ?_
  refine dp 8 ?_
  refine dn ?_
  skip
  skip
  dsimp only at hB
  rw[hdl] at hB
  refine hB _ _ _ _ _ O (.cell O O O inferInstance O (.tmp O .nil)) fun w' hS=>⟨((A7,c7),E7.1),O,⟨?_,hc7⟩,sub_st _ hS⟩
  show E7.1.map emv=_
  rw[E7.2,List.map_drop,hl]
 ·rw[hf0] at hfn
  injection hfn with e1 e2
  subst e1
  rw[if_pos (by omega)] at hB
  focus (refine qs ?_;(refine qe (E_boxa (cs:=lgc (i,t) A Q.length c) O) ?_;rintro _ _ ⟨b2,rfl,rfl⟩);(refine qe (E_alloca O lg_zero) ?_;rintro _ _ ⟨b4,rfl,rfl⟩);refine qp ?_;refine qz ?_;refine qq ?_;refine qs ?_;refine qt (T_loads (ds:=lgc (i,t) A Q.length c) O O O O O) ?_;(refine qh F121 (fun w hS=>right_any w (i,t) A c Q ((Srd.old h (fun k _=>noOwns k)).rd w hS) (by omega)) ?_;rw[hr]);refine qt (T_not O) ?_;refine qz ?_;refine qF ?_;refine qx ?_;refine qs ?_;refine qt (T_loads (ds:=lgc (i,t) A Q.length c) O O O O O) ?_;refine qp ?_;(refine qh F125 (fun w hS=>find_any w (i,t) A c Q ((Srd.old h (fun k _=>noOwns k)).rd w hS) (by omega) hfit idx) ?_;rw[hfi]);(iterate 3 refine qp ?_);(refine qe (E_alloca O at_zero) ?_;rintro _ _ ⟨b7,rfl,rfl⟩);refine qp ?_;(refine qw (E_storew (cs:=atc (0,0)) (ds:=atc q) O O O O (atc_one _) O) ?_;rintro _ _ rfl);refine qz ?_;refine qq ?_;refine qs ?_;refine qp ?_;refine qd ?_;refine qz ?_;refine qT ?_;refine qs ?_;refine qt (T_build0 lg_built0) ?_;(refine qw (E_storew (cs:=lgc (0,0) none 0 0) (ds:=lgc (0,0) none 0 0) O O O O (lgc_one _ _ _ _) O) ?_;rintro _ _ rfl);refine qp ?_;refine qz ?_)
  refine hB _ _ _ _ _ O (.cell O O O inferInstance O (.tmp O .nil)) fun w' hS=>⟨((none,0),[]),O,⟨O,Nat.le_refl _⟩,dtB_nil2 (hS.sublist (List.nil_sublist _))⟩
def termR (a:At) (l:List En) (idx:Nat):Nat×Bool:=if rightB a l=true then ((findR a l idx).2.2,decide (0≤(findR a l idx).1)) else (0,false)
theorem term_any (w:World) (a:At) (A:Option Addr) (c:Nat) (Q:List Em) (h:Rd w All 3 A Q.length (cellsL emc Q)) (hn:Q.length≤1000) (idx:Nat):
  Gives Tryz.prog 51 [.agg (lgc a A Q.length c).toArray,.int .u64 (idx:Int)] [] w (X:=Unit) (fun _=> .tuple #[.int .u64 ((termR a (Q.map emv) idx).1:Int),.bool (termR a (Q.map emv) idx).2]) (fun _=>True) (fun _=>[]):=by
 refine gives_S Tryz.func51 O Tryz.ntmps51 Tryz.results51 (by simp) (St.enter w) (fun B hB=>?_)
 obtain⟨i,t⟩:=a
 obtain⟨l,hl⟩: ∃ l,Q.map emv=l:=⟨_,O⟩
 have hll:l.length=Q.length:=by rw[← hl,List.length_map]
 rw[hl] at hB
 obtain⟨r,hr0⟩: ∃ r,rightB (i,t) l=r:=⟨_,O⟩
 have hr:rightB (i,t) (Q.map emv)=r:=by rw[hl];exact hr0
 cases r
 ·have hs:termR (i,t) l idx=(0,false):=by unfold termR;rw[hr0];rfl
  rw[hs] at hB
  focus (refine qs ?_;(refine qe (E_boxa (cs:=lgc (i,t) A Q.length c) O) ?_;rintro _ _ ⟨b2,rfl,rfl⟩);refine qp ?_;refine qp ?_;refine qz ?_;refine qq ?_;refine qs ?_;refine qt (T_loads (ds:=lgc (i,t) A Q.length c) O O O O O) ?_;(refine qh F121 (fun w hS=>right_any w (i,t) A c Q ((Srd.old h (fun k _=>noOwns k)).rd w hS) (by omega)) ?_;rw[hr]);refine qt (T_not O) ?_;refine qz ?_;refine qT ?_;refine qs ?_;refine qp ?_;refine qp ?_;refine qz ?_)
  exact hB _ _ _ _ _ O O (qE O)
 have hff:=right_fits hr0
 have hfit:(i,t).1+Q.length≤18446744073709551615:=by rw[← hll];show i+_≤_;have:i+l.length≤_:=hff.2;omega
 obtain⟨⟨k,q⟩,hf0⟩: ∃ x,findR (i,t) l idx=x:=⟨_,O⟩
 have hfi:findR (i,t) (Q.map emv) idx=(k,q):=by rw[hl];exact hf0
 have hs:termR (i,t) l idx=(q.2,decide (0≤k)):=by
  unfold termR
  rw[if_pos hr0,hf0]
 rw[hs] at hB
 obtain⟨qi,qu⟩:=q
 by_cases hk:0≤k
 ·rw[decide_eq_true hk] at hB
  focus (refine qs ?_;(refine qe (E_boxa (cs:=lgc (i,t) A Q.length c) O) ?_;rintro _ _ ⟨b2,rfl,rfl⟩);refine qp ?_;refine qp ?_;refine qz ?_;refine qq ?_;refine qs ?_;refine qt (T_loads (ds:=lgc (i,t) A Q.length c) O O O O O) ?_;(refine qh F121 (fun w hS=>right_any w (i,t) A c Q ((Srd.old h (fun k _=>noOwns k)).rd w hS) (by omega)) ?_;rw[hr]);refine qt (T_not O) ?_;refine qz ?_;refine qF ?_;refine qx ?_;refine qs ?_;refine qt (T_loads (ds:=lgc (i,t) A Q.length c) O O O O O) ?_;refine qp ?_;(refine qh F125 (fun w hS=>find_any w (i,t) A c Q ((Srd.old h (fun k _=>noOwns k)).rd w hS) (by omega) hfit idx) ?_;rw[hfi]);(iterate 3 refine qp ?_);(refine qe (E_alloca O at_zero) ?_;rintro _ _ ⟨b7,rfl,rfl⟩);refine qp ?_;(refine qw (E_storew (cs:=atc (0,0)) (ds:=atc (qi,qu)) O O O O (atc_one _) O) ?_;rintro _ _ rfl);refine qn ?_;refine qp ?_;refine qt (T_load O O O O) ?_;(iterate 2 refine qp ?_;refine qd ?_);refine qz ?_)
  exact hB _ _ _ _ _ O O (qE O)
 ·rw[decide_eq_false hk] at hB
  focus (refine qs ?_;(refine qe (E_boxa (cs:=lgc (i,t) A Q.length c) O) ?_;rintro _ _ ⟨b2,rfl,rfl⟩);refine qp ?_;refine qp ?_;refine qz ?_;refine qq ?_;refine qs ?_;refine qt (T_loads (ds:=lgc (i,t) A Q.length c) O O O O O) ?_;(refine qh F121 (fun w hS=>right_any w (i,t) A c Q ((Srd.old h (fun k _=>noOwns k)).rd w hS) (by omega)) ?_;rw[hr]);refine qt (T_not O) ?_;refine qz ?_;refine qF ?_;refine qx ?_;refine qs ?_;refine qt (T_loads (ds:=lgc (i,t) A Q.length c) O O O O O) ?_;refine qp ?_;(refine qh F125 (fun w hS=>find_any w (i,t) A c Q ((Srd.old h (fun k _=>noOwns k)).rd w hS) (by omega) hfit idx) ?_;rw[hfi]);(iterate 3 refine qp ?_);(refine qe (E_alloca O at_zero) ?_;rintro _ _ ⟨b7,rfl,rfl⟩);refine qp ?_;(refine qw (E_storew (cs:=atc (0,0)) (ds:=atc (qi,qu)) O O O O (atc_one _) O) ?_;rintro _ _ rfl);refine qn ?_;refine qp ?_;refine qt (T_load O O O O) ?_;refine qp ?_;refine qf ?_;refine qp ?_;refine qp ?_;refine qz ?_)
  exact hB _ _ _ _ _ O O (qE O)
def chkE (a:At) (l:List En) (top:Nat):Int:=if rightB a l=true then (if top<(lastA a l).2 then 2 else 0) else 220
theorem checkL_any (w:World) (a:At) (A:Option Addr) (c:Nat) (Q:List Em) (h:Rd w All 3 A Q.length (cellsL emc Q)) (hn:Q.length≤1000) (top:Nat):
  Gives Tryz.prog 94 [.agg (lgc a A Q.length c).toArray,.int .u64 (top:Int)] [] w (X:=Unit) (fun _=>zi (chkE a (Q.map emv) top)) (fun _=>True) (fun _=>[]):=by
 refine gives_S Tryz.func94 O Tryz.ntmps94 Tryz.results94 (by simp) (St.enter w) (fun B hB=>?_)
 obtain⟨i,t⟩:=a
 obtain⟨r,hr⟩: ∃ r,rightB (i,t) (Q.map emv)=r:=⟨_,O⟩
 obtain⟨⟨li,lu⟩,hla⟩: ∃ x,lastA (i,t) (Q.map emv)=x:=⟨_,O⟩
 have hs:chkE (i,t) (Q.map emv) top=if r=true then (if top<lu then 2 else 0) else 220:=by rw[chkE,hr,hla]
 rw[hs] at hB
 cases r
 ·focus (refine qs ?_;(refine qe (E_boxa (cs:=lgc (i,t) A Q.length c) O) ?_;rintro _ _ ⟨b2,rfl,rfl⟩);refine qp ?_;refine qz ?_;refine qq ?_;refine qb ?_;refine qs ?_;refine qt (T_loads (ds:=lgc (i,t) A Q.length c) O O O O O) ?_;(refine qh F121 (fun w hS=>right_any w (i,t) A c Q ((Srd.old h (fun k _=>noOwns k)).rd w hS) (by omega)) ?_;rw[hr]);refine qt (T_not O) ?_;refine qd ?_;refine qz ?_;refine qT ?_;refine qs ?_;refine qp ?_;refine qz ?_)
  exact hB _ _ _ _ _ O O (qE O)
 have hff:=right_fits hr
 rw[List.length_map] at hff
 have hfit:(i,t).1+Q.length≤18446744073709551615:=by show i+_≤_;have:i+Q.length≤_:=hff.2;omega
 rw[if_pos O] at hB
 by_cases ht:top<lu
 ·rw[if_pos ht] at hB
  focus (refine qs ?_;(refine qe (E_boxa (cs:=lgc (i,t) A Q.length c) O) ?_;rintro _ _ ⟨b2,rfl,rfl⟩);refine qp ?_;refine qz ?_;refine qq ?_;refine qb ?_;refine qs ?_;refine qt (T_loads (ds:=lgc (i,t) A Q.length c) O O O O O) ?_;(refine qh F121 (fun w hS=>right_any w (i,t) A c Q ((Srd.old h (fun k _=>noOwns k)).rd w hS) (by omega)) ?_;rw[hr]);refine qt (T_not O) ?_;refine qp ?_;refine qz ?_;refine qF ?_;refine qs ?_;refine qt (T_loads (ds:=lgc (i,t) A Q.length c) O O O O O) ?_;(refine qh F124 (fun w hS=>last_any w (i,t) A c Q ((Srd.old h (fun k _=>noOwns k)).rd w hS) (by omega) hfit) ?_;rw[hla]);refine qt (T_fldv (xs:=atc (li,lu)) O O O O O O) ?_;refine qp ?_;refine qd ?_;refine qd ?_;refine qz ?_;refine qT ?_;refine qs ?_;refine qp ?_;refine qz ?_)
  exact hB _ _ _ _ _ O O (qE O)
 ·rw[if_neg ht] at hB
  focus (refine qs ?_;(refine qe (E_boxa (cs:=lgc (i,t) A Q.length c) O) ?_;rintro _ _ ⟨b2,rfl,rfl⟩);refine qp ?_;refine qz ?_;refine qq ?_;refine qb ?_;refine qs ?_;refine qt (T_loads (ds:=lgc (i,t) A Q.length c) O O O O O) ?_;(refine qh F121 (fun w hS=>right_any w (i,t) A c Q ((Srd.old h (fun k _=>noOwns k)).rd w hS) (by omega)) ?_;rw[hr]);refine qt (T_not O) ?_;refine qp ?_;refine qz ?_;refine qF ?_;refine qs ?_;refine qt (T_loads (ds:=lgc (i,t) A Q.length c) O O O O O) ?_;(refine qh F124 (fun w hS=>last_any w (i,t) A c Q ((Srd.old h (fun k _=>noOwns k)).rd w hS) (by omega) hfit) ?_;rw[hla]);refine qt (T_fldv (xs:=atc (li,lu)) O O O O O O) ?_;refine qp ?_;refine qf ?_;refine qp ?_;refine qz ?_;refine qF ?_;refine qx ?_;refine RS_blk ?_;refine qs ?_;refine qp ?_;refine qz ?_)
  exact hB _ _ _ _ _ O O (qE O)
theorem T_minN {P:Program} {n:Nat} {w0:World} {M:Nat→Prop} {T:Slots} {H:List Asn} {dd:Option Tmp} {tt:TypeId} {pos:String} {af:Array Edge} {g:Option (Nat×Bool)} {x y:Operand} {s t:TypeId} {kk:IntKind} {i j:Int} {p q:Nat} (hx:oget T x=some (.int kk i)) (hy:oget T y=some (.int kk j)) [hi:NatOf i p] [hj:NatOf j q]:Tk P n w0 M T H ⟨dd,.call ⟨.builtin .min,#[x,y],#[s,t]⟩,tt,pos,af,g⟩ (.int kk ((min p q:Nat):Int)):=by
 have h:=T_min (P:=P) (n:=n) (w0:=w0) (M:=M) (H:=H) (dd:=dd) (tt:=tt) (pos:=pos) (af:=af) (g:=g) (s:=s) (t:=t) hx hy
 rw[hi.is,hj.is] at h
 rwa [show (if (q:Int)<(p:Int) then (q:Int) else (p:Int))=((min p q:Nat):Int) by rw[Nat.min_def];split<;>split<;>omega] at h
def frm (a:At) (l:List En) (idx:Nat) (n:Int):Int×At×List En:=
 if rightB a l=true then
  if idx≤a.1∨(lastA a l).1+1<idx then (4,(0,0),[]) else
   if n<0 then (2,(0,0),[]) else (0,placeN a l (idx-1-a.1),(l.drop (idx-1-a.1)).take (min n.toNat (l.length-(idx-1-a.1))))
 else (220,(0,0),[])
theorem rd_take {w:World} {F:Nat→Prop} {sz n q:Nat} {A:Option Addr} {xs:List Value} (h:Rd w F sz A n xs) (hq:q≤n):Rd w F sz A q (xs.take (q*sz)):=by
 have hle:q*sz≤n*sz:=Nat.mul_le_mul_right _ hq
 refine⟨by rw[List.length_take,h.1];omega,fun h0=>?_⟩
 obtain⟨ad,e,hF,hcell⟩:=h.2 (by omega)
 refine⟨ad,e,hF,fun j u hj=>hcell j u ?_⟩
 rw[List.getElem?_take] at hj
 split at hj
 ·exact hj
 ·cases hj
theorem rd_takeE {w:World} {F:Nat→Prop} {q n:Nat} {A:Option Addr} {E:List Em} (h:Rd w F 3 A n (cellsL emc E)) (hq:q≤n):Rd w F 3 A q (cellsL emc (E.take q)):=by
 rw[cellsL_take emc_len]
 exact rd_take h hq
theorem from_any (w:World) (a:At) (A:Option Addr) (c:Nat) (Q:List Em) (h:Rd w All 3 A Q.length (cellsL emc Q)) (hd:RDt w All (Q.map emd)) (hc:Q.length≤c) (hn:Q.length≤1000) (hk: ∀ m∈Q,m.2.2.2.2.length≤100000) (idx:Nat) (hidx:idx≤18446744073709551615) (n:Int):
  Gives Tryz.prog 135 [.agg (lgc a A Q.length c).toArray,.int .u64 (idx:Int),zi n] [] w (X:=(Option Addr×Nat)×List Em) (fun x=> .tuple #[.agg (atc (frm a (Q.map emv) idx n).2.1).toArray,.slice x.1.1 (frm a (Q.map emv) idx n).2.2.length x.1.2,zi (frm a (Q.map emv) idx n).1]) (fun x=>x.2.map emv=(frm a (Q.map emv) idx n).2.2) (fun x=>[row 59 3 x.1.1 (frm a (Q.map emv) idx n).2.2.length x.1.2 (cellsL emc x.2),dtB 5 (x.2.map emd)]):=by
 refine gives_C Tryz.func135 O Tryz.ntmps135 Tryz.results135 (by simp) (St.enter w) (fun B hB=>?_)
 obtain⟨i,t⟩:=a
 obtain⟨l,hl⟩: ∃ l,Q.map emv=l:=⟨_,O⟩
 have hll:l.length=Q.length:=by rw[← hl,List.length_map]
 rw[hl] at hB
 obtain⟨r,hr0⟩: ∃ r,rightB (i,t) l=r:=⟨_,O⟩
 have hr:rightB (i,t) (Q.map emv)=r:=by rw[hl];exact hr0
 cases r
 ·have hs:frm (i,t) l idx n=(220,(0,0),[]):=by unfold frm;rw[hr0];rfl
  rw[hs] at hB
  focus (refine qs ?_;(refine qe (E_boxa (cs:=lgc (i,t) A Q.length c) O) ?_;rintro _ _ ⟨b3,rfl,rfl⟩);(refine qe (E_alloca O at_zero) ?_;rintro _ _ ⟨b6,rfl,rfl⟩);refine qp ?_;refine qp ?_;refine qz ?_;refine qq ?_;refine qb ?_;refine qs ?_;refine qt (T_loads (ds:=lgc (i,t) A Q.length c) O O O O O) ?_;(refine qh F121 (fun w hS=>right_any w (i,t) A c Q ((Srd.old h (fun k _=>noOwns k)).rd w hS) (by omega)) ?_;rw[hr]);refine qt (T_not O) ?_;refine qd ?_;refine qz ?_;refine qT ?_;refine qs ?_;refine qt (T_build0 at_built0) ?_;(refine qw (E_storew (cs:=atc (0,0)) (ds:=atc (0,0)) O O O O (atc_one _) O) ?_;rintro _ _ rfl);refine qp ?_;refine qp ?_;refine qz ?_)
  refine hB _ _ _ _ _ O (.cell O O O inferInstance O (.tmp O (.tmp O .nil))) fun w' hS=>⟨((none,0),[]),O,O,dtB_nil2 (hS.sublist (List.nil_sublist _))⟩
 have hff:=right_fits hr0
 have hfit2:i+Q.length≤18446744073709551614:=by rw[← hll];exact hff.2
 have hfit:(i,t).1+Q.length≤18446744073709551615:=by show i+_≤_;omega
 have hla:lastA (i,t) (Q.map emv)=(i+Q.length,(lastA (i,t) l).2):=by rw[hl,lastA,hll]
 have hla2:(lastA (i,t) l).1=i+Q.length:=by rw[lastA,hll]
 obtain⟨lt,hlt⟩: ∃ x,(lastA (i,t) l).2=x:=⟨_,O⟩
 rw[hlt] at hla
 have hs:frm (i,t) l idx n=if idx≤i∨i+Q.length+1<idx then ((4,(0,0),[]):Int×At×List En) else if n<0 then (2,(0,0),[]) else (0,placeN (i,t) l (idx-1-i),(l.drop (idx-1-i)).take (min n.toNat (l.length-(idx-1-i)))):=by
  unfold frm
  rw[if_pos hr0,hla2]
 rw[hs] at hB
 by_cases h1:idx≤i
 ·rw[if_pos (.inl h1)] at hB
  focus (refine qs ?_;(refine qe (E_boxa (cs:=lgc (i,t) A Q.length c) O) ?_;rintro _ _ ⟨b3,rfl,rfl⟩);(refine qe (E_alloca O at_zero) ?_;rintro _ _ ⟨b6,rfl,rfl⟩);refine qp ?_;refine qp ?_;refine qz ?_;refine qq ?_;refine qb ?_;refine qs ?_;refine qt (T_loads (ds:=lgc (i,t) A Q.length c) O O O O O) ?_;(refine qh F121 (fun w hS=>right_any w (i,t) A c Q ((Srd.old h (fun k _=>noOwns k)).rd w hS) (by omega)) ?_;rw[hr]);refine qt (T_not O) ?_;refine qp ?_;refine qz ?_;refine qF ?_;refine qs ?_;(iterate 3 refine qp ?_);refine qt (T_load O O O O) ?_;refine qd ?_;refine qd ?_;(iterate 6 refine qk ?_);refine qd ?_;refine qd ?_;refine qz ?_;refine qT ?_;refine qs ?_;refine qt (T_build0 at_built0) ?_;(refine qw (E_storew (cs:=atc (0,0)) (ds:=atc (0,0)) O O O O (atc_one _) O) ?_;rintro _ _ rfl);refine qp ?_;refine qp ?_;refine qz ?_)
  refine hB _ _ _ _ _ O (.cell O O O inferInstance O (.tmp O (.tmp O .nil))) fun w' hS=>⟨((none,0),[]),O,O,dtB_nil2 (hS.sublist (List.nil_sublist _))⟩
 by_cases h2:i+Q.length+1<idx
 ·rw[if_pos (.inr h2)] at hB
  focus (refine qs ?_;(refine qe (E_boxa (cs:=lgc (i,t) A Q.length c) O) ?_;rintro _ _ ⟨b3,rfl,rfl⟩);(refine qe (E_alloca O at_zero) ?_;rintro _ _ ⟨b6,rfl,rfl⟩);refine qp ?_;refine qp ?_;refine qz ?_;refine qq ?_;refine qb ?_;refine qs ?_;refine qt (T_loads (ds:=lgc (i,t) A Q.length c) O O O O O) ?_;(refine qh F121 (fun w hS=>right_any w (i,t) A c Q ((Srd.old h (fun k _=>noOwns k)).rd w hS) (by omega)) ?_;rw[hr]);refine qt (T_not O) ?_;refine qp ?_;refine qz ?_;refine qF ?_;refine qs ?_;(iterate 3 refine qp ?_);refine qt (T_load O O O O) ?_;refine qf ?_;refine qp ?_;refine qp ?_;refine qt (T_loads (ds:=lgc (i,t) A Q.length c) O O O O O) ?_;(refine qh F124 (fun w hS=>last_any w (i,t) A c Q ((Srd.old h (fun k _=>noOwns k)).rd w hS) (by omega) hfit) ?_;rw[hla]);refine qt (T_fldv (xs:=atc (i+Q.length,lt)) O O O O O O) ?_;refine qt (T_addN O O (by unfold fits;omega)) ?_;(iterate 3 refine qd ?_);refine qz ?_;refine qT ?_;refine qs ?_;refine qt (T_build0 at_built0) ?_;(refine qw (E_storew (cs:=atc (0,0)) (ds:=atc (0,0)) O O O O (atc_one _) O) ?_;rintro _ _ rfl);refine qp ?_;refine qp ?_;refine qz ?_)
  refine hB _ _ _ _ _ O (.cell O O O inferInstance O (.tmp O (.tmp O .nil))) fun w' hS=>⟨((none,0),[]),O,O,dtB_nil2 (hS.sublist (List.nil_sublist _))⟩
 rw[if_neg (fun e=>Or.elim e h1 h2)] at hB
 by_cases h3:n<0
 ·rw[if_pos h3] at hB
  focus (refine qs ?_;(refine qe (E_boxa (cs:=lgc (i,t) A Q.length c) O) ?_;rintro _ _ ⟨b3,rfl,rfl⟩);(refine qe (E_alloca O at_zero) ?_;rintro _ _ ⟨b6,rfl,rfl⟩);refine qp ?_;refine qp ?_;refine qz ?_;refine qq ?_;refine qb ?_;refine qs ?_;refine qt (T_loads (ds:=lgc (i,t) A Q.length c) O O O O O) ?_;(refine qh F121 (fun w hS=>right_any w (i,t) A c Q ((Srd.old h (fun k _=>noOwns k)).rd w hS) (by omega)) ?_;rw[hr]);refine qt (T_not O) ?_;refine qp ?_;refine qz ?_;refine qF ?_;refine qs ?_;(iterate 3 refine qp ?_);refine qt (T_load O O O O) ?_;refine qf ?_;refine qp ?_;refine qp ?_;refine qt (T_loads (ds:=lgc (i,t) A Q.length c) O O O O O) ?_;(refine qh F124 (fun w hS=>last_any w (i,t) A c Q ((Srd.old h (fun k _=>noOwns k)).rd w hS) (by omega) hfit) ?_;rw[hla]);refine qt (T_fldv (xs:=atc (i+Q.length,lt)) O O O O O O) ?_;refine qt (T_addN O O (by unfold fits;omega)) ?_;refine qf ?_;refine qp ?_;refine qp ?_;refine qz ?_;refine qF ?_;refine qs ?_;refine qp ?_;refine qd ?_;refine qd ?_;refine qz ?_;refine qT ?_;refine qs ?_;refine qt (T_build0 at_built0) ?_;(refine qw (E_storew (cs:=atc (0,0)) (ds:=atc (0,0)) O O O O (atc_one _) O) ?_;rintro _ _ rfl);refine qp ?_;refine qp ?_;refine qz ?_)
  refine hB _ _ _ _ _ O (.cell O O O inferInstance O (.tmp O (.tmp O .nil))) fun w' hS=>⟨((none,0),[]),O,O,dtB_nil2 (hS.sublist (List.nil_sublist _))⟩
 rw[if_neg h3] at hB
 obtain⟨m,rfl⟩: ∃ m:Nat,n=(m:Int):=⟨n.toNat,by omega⟩
 rw[Int.toNat_natCast] at hB
 obtain⟨k,hk0⟩: ∃ k,idx-1-i=k:=⟨_,O⟩
 rw[hk0] at hB
 have hkl:k≤Q.length:=by omega
 have hfi:findR (i,t) (Q.map emv) (idx-1)=((k:Int),placeN (i,t) l k):=by
  rw[hl]
  refine findR_hit (by omega) ?_
  rw[placeN_fst]
  show i+k=idx-1
  omega
 obtain⟨q,hq⟩: ∃ q,placeN (i,t) l k=q:=⟨_,O⟩
 rw[hq] at hfi hB
 have hcutr:=rd_takeE (rd_cutE (q:=k) h hkl hc) (Nat.min_le_right m (Q.length-k))
 have hcutd:RDt w All (((Q.drop k).take (min m (Q.length-k))).map emd):=fun d hd'=>rdt_drop hd k d (by
  obtain⟨e,he,rfl⟩:=List.mem_map.1 hd'
  exact List.mem_map.2 ⟨e,List.mem_of_mem_take he,O⟩)
 have hkd: ∀ e∈(Q.drop k).take (min m (Q.length-k)),e.2.2.2.2.length≤100000:=fun e he=>hk e (List.mem_of_mem_drop (List.mem_of_mem_take he))
 have hml:((Q.drop k).take (min m (Q.length-k))).length=min m (Q.length-k):=by rw[List.length_take,List.length_drop];omega
 have hml2:((l.drop k).take (min m (l.length-k))).length=min m (Q.length-k):=by rw[List.length_take,List.length_drop,hll];omega
 repeat' (first|refine R_take (T_decF O (by omega)) ?_ O O|refine R_p O ?_ O O|refine R_nil ?_|refine R_take (T_loads (ds:=lgc (i,t) A Q.length c) O O O O O) ?_ O O|refine R_take (T_load O O O O) ?_ O O|refine R_take (T_slN (sz:=3) (q:=k) O O O O O O hkl hc) ?_ O O|refine R_take (T_fldv (xs:=atc (i+Q.length,lt)) O O O O O O) ?_ O O|refine R_take (T_addN O O (by unfold fits;omega)) ?_ O O|refine R_take (T_subN O O (by omega) (by unfold fits;omega)) ?_ O O|refine R_take (T_not O) ?_ O O|refine S_seq O ?_|refine S_region O O ?_|refine S_false O O ?_|refine S_block O ?_|refine RS_blk ?_|refine S_skip O ?_|(refine R_eff (E_boxa (cs:=lgc (i,t) A Q.length c) O) ?_ O O;rintro _ _ ⟨b3,rfl,rfl⟩)|(refine R_eff (E_alloca O at_zero) ?_ O O;rintro _ _ ⟨b6,rfl,rfl⟩)|((refine R_eff (E_hv0 (f:=121) F121 (fun w hS=>right_any w (i,t) A c Q ((Srd.old h (fun k _=>noOwns k)).rd w hS) (by omega)) O O (fun _=>O)) ?_ O O;rintro _ _ ⟨_,rfl,_,rfl⟩);rw[hr])|((refine R_eff (E_hv0 (f:=124) F124 (fun w hS=>last_any w (i,t) A c Q ((Srd.old h (fun k _=>noOwns k)).rd w hS) (by omega) hfit) O O (fun _=>O)) ?_ O O;rintro _ _ ⟨_,rfl,_,rfl⟩);rw[hla])|((refine R_eff (E_hv0 (f:=125) F125 (fun w hS=>find_any w (i,t) A c Q ((Srd.old h (fun k _=>noOwns k)).rd w hS) (by omega) hfit (idx-1)) O O (fun _=>O)) ?_ O O;rintro _ _ ⟨_,rfl,_,rfl⟩);rw[hfi])|(refine R_eff0 (E_storew (cs:=atc (0,0)) (ds:=atc q) O O O O (atc_one _) O) ?_ O;rintro _ _ rfl))
 refine S_draw ([pt b6 36 (atc q)]) sub_st (by kernel_rfl) O (by kernel_rfl) (by kernel_rfl:_=11) ?_
 refine dt 0 O (T_loads (ds:=atc q) O O O O O) ?_
 refine dp 1 ?_
 refine dp 2 ?_
 refine dp 3 ?_
 refine dp 4 ?_
 refine dt 5 O (T_minN O O) ?_
 refine dt 6 O (T_slhN (q:=min m (Q.length-k)) O O O O O (by omega)) ?_
 refine D_one 7 O (E_cpW (Q:=(Q.drop k).take (min m (Q.length-k))) (k:=min m (Q.length-k)) O hml (Srd.old hcutr (fun k _=>noOwns k)) (SDt.old hcutd (fun k _=>noOwns k)) (by omega) hkd) ?_ O O (by kernel_rfl)
 rintro _ _ ⟨A7,c7,E7,rfl,hne7,hc7,rfl⟩
 refine nx ?_
 refine D_one 8 O (E_storew (cs:=atc (0,0)) (ds:=atc q) O O O O (atc_one _) O) ?_ O O (by kernel_rfl)
 rintro _ _ rfl
 refine nx ?_
 refine dp 9 ?_
 refine dp 10 ?_
 refine dn ?_
 skip
 skip
 dsimp only at hB
 rw[hml2] at hB
 refine hB _ _ _ _ _ O (.cell O O O inferInstance O (.tmp O (.tmp O .nil))) fun w' hS=>⟨((A7,c7),E7.1),O,?_,sub_st _ hS⟩
 show E7.1.map emv=_
 rw[E7.2,List.map_take,List.map_drop,hl,hll]
theorem dtB_caps {w0 w:World} {M:Nat→Prop} {H:List Asn} {e:TypeId} {D:List Dt} (hS:St w0 M H w) (hm:dtB e D∈H): ∀ d∈D,d.2.2.length≤d.2.1:=fun d hd=>
 (row_facts ((hS.all _ hm).1.1 (dtA e d) (List.mem_map.2 ⟨d,hd,O⟩))).1
theorem T_minE {P:Program} {n:Nat} {w0:World} {M:Nat→Prop} {T:Slots} {H:List Asn} {dd:Option Tmp} {tt:TypeId} {pos:String} {af:Array Edge} {g:Option (Nat×Bool)} {x y:Operand} {s t:TypeId} {kk:IntKind} {i j:Int} {p q r:Nat} (h:min p q=r) (hx:oget T x=some (.int kk i)) (hy:oget T y=some (.int kk j)) [hi:NatOf i p] [hj:NatOf j q]:Tk P n w0 M T H ⟨dd,.call ⟨.builtin .min,#[x,y],#[s,t]⟩,tt,pos,af,g⟩ (.int kk (r:Int)):=by
 have:=T_minN (P:=P) (n:=n) (w0:=w0) (M:=M) (H:=H) (dd:=dd) (tt:=tt) (pos:=pos) (af:=af) (g:=g) (s:=s) (t:=t) hx hy
 rwa [h] at this
theorem em_built3 (t k:Int) (A:Option Addr) (n c:Nat):Tryz.prog.built 59 [(0,.int .u64 t),(1,.int .i64 k),(2,.slice A n c)]=some [Value.int .u64 t,.int .i64 k,.slice A n c].toArray:=by kernel_rfl
end Go.Proofs.YtdeffdldifepkaaGreat
namespace Go.Proofs.YtdeffdldifepkaaGreat
open Go.RowKit Go.ChangeShapes Go.WideShapes Go.ChangeAt
open Asn (pt row rb)
set_option linter.unusedVariables false
set_option linter.unusedSimpArgs false
theorem wf_u64 {n:Int} (h:(Lit.int .u64 n).wf=true): ∃ k:Nat,n=(k:Int)∧k<18446744073709551616:=by
 have:0≤n∧n<18446744073709551616:=by
  have:=bounds_u64 h
  omega
 exact⟨n.toNat,by omega,by omega⟩
section
variable {H:Type} {enc:TypeId×Value→H} {W:World}
theorem open_u64 {z:Int} {d:DataW H} {p:List MemPlace} (h:DataW.Trod enc Tryz.prog W 0 (fun _=>true) true 34 (.int .u64 z) d p): ∃ k:Nat,z=(k:Int)∧k<18446744073709551616:=by
 obtain⟨n,hn,hw⟩:=(Op_.of_trod h).int Tryz.underlying34
 have hn:[Value.int .u64 z]=[.int .u64 n]:=hn
 injection hn with hn
 injection hn with _ hn
 subst hn
 exact wf_u64 hw
end
theorem em_len {P:List Em} {l:List En} (h:P.map emv=l):P.length=l.length:=by rw[← h,List.length_map]
end Go.Proofs.YtdeffdldifepkaaGreat
namespace Go.Proofs.YtdeffdldifepkaaGreat
set_option linter.unusedVariables false
set_option linter.unusedSimpArgs false
end Go.Proofs.YtdeffdldifepkaaGreat
namespace Go.Proofs.YtdeffdldifepkaaGreat
open Go.RowKit Go.ChangeShapes Go.WideShapes Go.ChangeAt
open Asn (pt row rb)
set_option linter.unusedVariables false
set_option linter.unusedSimpArgs false
theorem Gives.pure12 {P:Program} {f:FuncId} {vs:List Value} {w:World} {v:Value} {I:Unit→Prop} {A:Unit→List Asn} (h:Gives P f vs [] w (fun _=>v) I A):Calls P f vs.toArray w fun e w'=>e= .returned v∧Kp All w w':=
 h.mono fun e w' ⟨_,he,_,hS⟩=>⟨he,hS.kpO⟩
theorem compact_k (w:World) (a:At) (A:Option Addr) (c k:Nat) (Q:List Em) (l:List En) (hk:Q.length=k) (hl:Q.map emv=l) (h:Rd w All 3 A k (cellsL emc Q)) (hd:RDt w All (Q.map emd)) (hc:k≤c) (hn:k≤1000) (hkk: ∀ m∈Q,m.2.2.2.2.length≤100000) (idx:Nat) (e:Int) (b:At) (r:List En) (hr:cmp a l idx=(e,b,r)):
  Gives Tryz.prog 100 [.agg (lgc a A k c).toArray,.int .u64 (idx:Int)] [] w (X:=(Option Addr×Nat)×List Em) (fun x=> .tuple #[.agg (lgc b x.1.1 r.length x.1.2).toArray,zi e]) (fun x=>x.2.map emv=r∧r.length≤x.1.2) (fun x=>[row 59 3 x.1.1 r.length x.1.2 (cellsL emc x.2),dtB 5 (x.2.map emd)]):=by
 subst hk
 subst hl
 have:=compact_any w a A c Q h hd hc hn hkk idx
 rw[hr] at this
 exact this
theorem term_k (w:World) (a:At) (A:Option Addr) (c k:Nat) (Q:List Em) (l:List En) (hk:Q.length=k) (hl:Q.map emv=l) (h:Rd w All 3 A k (cellsL emc Q)) (hn:k≤1000) (idx:Nat) (r:Nat×Bool) (hr:termR a l idx=r):
  Gives Tryz.prog 51 [.agg (lgc a A k c).toArray,.int .u64 (idx:Int)] [] w (X:=Unit) (fun _=> .tuple #[.int .u64 (r.1:Int),.bool r.2]) (fun _=>True) (fun _=>[]):=by
 subst hk
 subst hl
 subst hr
 exact term_any w a A c Q h hn idx
theorem check_k (w:World) (a:At) (A:Option Addr) (c k:Nat) (Q:List Em) (l:List En) (hk:Q.length=k) (hl:Q.map emv=l) (h:Rd w All 3 A k (cellsL emc Q)) (hn:k≤1000) (top:Nat) (r:Int) (hr:chkE a l top=r):
  Gives Tryz.prog 94 [.agg (lgc a A k c).toArray,.int .u64 (top:Int)] [] w (X:=Unit) (fun _=>zi r) (fun _=>True) (fun _=>[]):=by
 subst hk
 subst hl
 subst hr
 exact checkL_any w a A c Q h hn top
theorem E_hvG {P:Program} {n:Nat} {w0:World} {M:Nat→Prop} {T:Slots} {H:List Asn} {dd:Option Tmp} {tt:TypeId} {pos:String} {af:Array Edge} {g:Option (Nat×Bool)} {ts:Array TypeId} {f:FuncId} {xs:Array Operand} {vs vs':List Value} {X:Type} {V:X→Value} {I:X→Prop} {A:X→List Asn} (hf:Fn_ P f) (hc: ∀ w,St w0 M H w→Gives P f vs' [] w V I A) (hx:ogets T xs.toList=some vs) (hv:vs=vs'):
  Ef P n w0 M T H ⟨dd,.call ⟨.value (.func f),xs,ts⟩,tt,pos,af,g⟩ (fun u H'=> ∃ x,u=V x∧I x∧H'=A x++H):=by
 subst hv
 exact E_gv hf hx hc
end Go.Proofs.YtdeffdldifepkaaGreat
namespace Go.Proofs.YtdeffdldifepkaaGreat
open Go.RowKit
open Asn (pt row rb)
set_option linter.unusedVariables false
set_option linter.unusedSimpArgs false
def BsM (w:World) (m:Em):Prop:=Bs w All m.2.2.1 m.2.2.2.2.length m.2.2.2.1 m.2.2.2.2
theorem eq_uptoE {L M:List En} (hl:L.length=M.length) (h: ∀ i,i<L.length→L.getD i default=M.getD i default):L=M:=by
 refine List.ext_getElem hl fun i h1 h2=>?_
 have:=h i h1
 simpa[List.getD,h1,h2] using this
end Go.Proofs.YtdeffdldifepkaaGreat
namespace Go.Proofs.YtdeffdldifepkaaGreat
set_option linter.unusedVariables false
set_option linter.unusedSimpArgs false
end Go.Proofs.YtdeffdldifepkaaGreat
namespace Go.Proofs.YtdeffdldifepkaaGreat
open Go.RowKit Go.ChangeShapes Go.WideShapes Go.ChangeAt
open Asn (pt row rb)
set_option linter.unusedVariables false
set_option linter.unusedSimpArgs false
section
variable {H:Type} {enc:TypeId×Value→H} {W:World}
end
end Go.Proofs.YtdeffdldifepkaaGreat
namespace Go.Proofs.YtdeffdldifepkaaGreat
open Go.RowKit
open Asn (pt row rb)
set_option linter.unusedVariables false
set_option linter.unusedSimpArgs false
theorem rightEntry_any (w:World) (m:Em):
  Gives Tryz.prog 150 [.agg (emc m).toArray] [] w (X:=Unit) (fun _=> .bool (placedB (emv m))) (fun _=>True) (fun _=>[]):=by
 refine gives_S Tryz.func150 O Tryz.ntmps150 Tryz.results150 (by simp) (St.enter w) (fun B hB=>?_)
 obtain⟨t,k,A,c,l⟩:=m
 obtain⟨n,hn⟩: ∃ n,l.length=n:=⟨_,O⟩
 have hp:placedB (emv (t,k,A,c,l))=if k=1 then decide (0<t)&&decide (n=0) else if k=2∨k=3 then decide (0<t)&&decide (n≤1024) else false:=by rw[← hn];rfl
 rw[hp] at hB
 rw[show (emc (t,k,A,c,l))=[.int .u64 (t:Int),.int .i64 k,.slice A n c] by rw[← hn];rfl]
 by_cases h2:0<t
 ·rw[decide_eq_true h2,Bool.true_and,Bool.true_and] at hB
  by_cases h1:k=1
  ·rw[if_pos h1] at hB
   by_cases h3:n=0
   ·rw[decide_eq_true h3] at hB
    repeat' (first|refine R_take (T_decT O (by omega)) ?_ O O|refine R_p O ?_ O O|refine R_nil ?_|refine R_skip ?_ O O|refine R_take (T_load O O O O) ?_ O O|refine S_seq O ?_|refine S_region O O ?_|(refine R_eff (E_boxa (cs:=[.int .u64 (t:Int),.int .i64 k,.slice A n c]) O) ?_ O O;rintro _ _ ⟨b1,rfl,rfl⟩))
    exact hB _ _ _ _ _ O O (qE O)
   ·rw[decide_eq_false h3] at hB
    repeat' (first|refine R_take (T_decT O (by omega)) ?_ O O|refine R_take (T_decF O (by omega)) ?_ O O|refine R_p O ?_ O O|refine R_nil ?_|refine R_skip ?_ O O|refine R_take (T_load O O O O) ?_ O O|refine S_seq O ?_|refine S_region O O ?_|(refine R_eff (E_boxa (cs:=[.int .u64 (t:Int),.int .i64 k,.slice A n c]) O) ?_ O O;rintro _ _ ⟨b1,rfl,rfl⟩))
    exact hB _ _ _ _ _ O O (qE O)
  rw[if_neg h1] at hB
  by_cases h4:k=2
  ·rw[if_pos (.inl h4)] at hB
   by_cases h3:n≤1024
   ·rw[decide_eq_true h3] at hB
    repeat' (first|refine R_take (T_decT O (by omega)) ?_ O O|refine R_take (T_decF O (by omega)) ?_ O O|refine R_p O ?_ O O|refine R_nil ?_|refine R_skip ?_ O O|refine R_take (T_load O O O O) ?_ O O|refine S_seq O ?_|refine S_region O O ?_|(refine R_eff (E_boxa (cs:=[.int .u64 (t:Int),.int .i64 k,.slice A n c]) O) ?_ O O;rintro _ _ ⟨b1,rfl,rfl⟩))
    exact hB _ _ _ _ _ O O (qE O)
   ·rw[decide_eq_false h3] at hB
    repeat' (first|refine R_take (T_decT O (by omega)) ?_ O O|refine R_take (T_decF O (by omega)) ?_ O O|refine R_p O ?_ O O|refine R_nil ?_|refine R_skip ?_ O O|refine R_take (T_load O O O O) ?_ O O|refine S_seq O ?_|refine S_region O O ?_|(refine R_eff (E_boxa (cs:=[.int .u64 (t:Int),.int .i64 k,.slice A n c]) O) ?_ O O;rintro _ _ ⟨b1,rfl,rfl⟩))
    exact hB _ _ _ _ _ O O (qE O)
  by_cases h5:k=3
  ·rw[if_pos (.inr h5)] at hB
   by_cases h3:n≤1024
   ·rw[decide_eq_true h3] at hB
    repeat' (first|refine R_take (T_decT O (by omega)) ?_ O O|refine R_take (T_decF O (by omega)) ?_ O O|refine R_p O ?_ O O|refine R_nil ?_|refine R_skip ?_ O O|refine R_take (T_load O O O O) ?_ O O|refine S_seq O ?_|refine S_region O O ?_|(refine R_eff (E_boxa (cs:=[.int .u64 (t:Int),.int .i64 k,.slice A n c]) O) ?_ O O;rintro _ _ ⟨b1,rfl,rfl⟩))
    exact hB _ _ _ _ _ O O (qE O)
   ·rw[decide_eq_false h3] at hB
    repeat' (first|refine R_take (T_decT O (by omega)) ?_ O O|refine R_take (T_decF O (by omega)) ?_ O O|refine R_p O ?_ O O|refine R_nil ?_|refine R_skip ?_ O O|refine R_take (T_load O O O O) ?_ O O|refine S_seq O ?_|refine S_region O O ?_|(refine R_eff (E_boxa (cs:=[.int .u64 (t:Int),.int .i64 k,.slice A n c]) O) ?_ O O;rintro _ _ ⟨b1,rfl,rfl⟩))
    exact hB _ _ _ _ _ O O (qE O)
  ·rw[if_neg (by omega)] at hB
   repeat' (first|refine R_take (T_decT O (by omega)) ?_ O O|refine R_take (T_decF O (by omega)) ?_ O O|refine R_p O ?_ O O|refine R_nil ?_|refine R_skip ?_ O O|refine R_take (T_load O O O O) ?_ O O|refine S_seq O ?_|refine S_region O O ?_|(refine R_eff (E_boxa (cs:=[.int .u64 (t:Int),.int .i64 k,.slice A n c]) O) ?_ O O;rintro _ _ ⟨b1,rfl,rfl⟩))
   exact hB _ _ _ _ _ O O (qE O)
 ·have hf:(if k=1 then decide (0<t)&&decide (n=0) else if k=2∨k=3 then decide (0<t)&&decide (n≤1024) else false)=false:=by
   rw[decide_eq_false h2,Bool.false_and,Bool.false_and]
   split<;>simp
  rw[hf] at hB
  repeat' (first|refine R_take (T_decF O (by omega)) ?_ O O|refine R_p O ?_ O O|refine R_nil ?_|refine R_skip ?_ O O|refine R_take (T_load O O O O) ?_ O O|refine S_seq O ?_|refine S_region O O ?_|(refine R_eff (E_boxa (cs:=[.int .u64 (t:Int),.int .i64 k,.slice A n c]) O) ?_ O O;rintro _ _ ⟨b1,rfl,rfl⟩))
  exact hB _ _ _ _ _ O O (qE O)
theorem risingD_any (w:World) (A:Option Addr) (c:Nat) (Q:List Em) (t:Nat) (h:Rd w All 3 A Q.length (cellsL emc Q)) (hn:Q.length≤100000):
  Gives Tryz.prog 139 [.slice A Q.length c,.int .u64 (t:Int)] [] w (X:=Unit) (fun _=> .bool (risingB (Q.map emv) t)) (fun _=>True) (fun _=>[]):=by
 refine gives_S Tryz.func139 O Tryz.ntmps139 Tryz.results139 (by simp) (St.enter w) (fun B hB=>?_)
 have hne:0<Q.length→A≠none:=fun h0=>by obtain⟨ad,rfl,_⟩:=h.2 (by omega);simp
 focus (refine qs ?_;refine qp ?_;refine qz ?_;refine qq ?_;refine qs ?_;(iterate 3 refine qp ?_);refine qz ?_;refine qb ?_)
 refine S_loop (X:=Nat×Nat) (fun x=>[(1,.int .u64 (x.2:Int)),(7,.slice A Q.length c),(8,.int .i64 (Q.length:Int)),(9,.int .i64 (x.1:Int))]) (fun _=>[]) (fun x=>x.1≤Q.length∧risingB ((Q.take x.1).map emv) t=true∧lastT ((Q.take x.1).map emv) t=x.2) (fun x=>Q.length-x.1) O (0,t) ⟨Nat.zero_le _,O,O⟩ (Sub.cons O (Sub.cons O (Sub.cons O (Sub.cons O Sub.nil)))) sub_st ?_
 rintro⟨j,u⟩ ⟨hj,hok,hu⟩ J hJ
 dsimp only at hj hok hu ⊢
 rcases Nat.lt_or_ge j Q.length with hjl|hjl
 ·have hne:=hne (by omega)
  have hat:=cellsL_at (f:=emc) emc_len Q default j hjl
  obtain⟨m,hm⟩: ∃ m,Q.getD j default=m:=⟨_,O⟩
  rw[hm] at hat
  have htk:=emv_take Q j hjl hm
  have hdr:=emv_drop Q j hjl hm
  obtain⟨r,hr⟩: ∃ r,placedB (emv m)=r:=⟨_,O⟩
  have hfl:r=false∨m.1<u→risingB (Q.map emv) t=false:=fun h=>by
   rw[hdr,rising_app,hok,hu,risingB,hr]
   rcases h with h|h
   ·rw[h];rfl
   ·rw[decide_eq_false (by show ¬ u≤m.1;omega)];simp
  have hnx:r=true→u≤m.1→risingB ((Q.take (j+1)).map emv) t=true∧lastT ((Q.take (j+1)).map emv) t=m.1:=fun h1 h2=>by
   rw[htk,rising_app,lastT_app,hok,hu,risingB,risingB,hr,h1]
   exact⟨by simp;exact h2,O⟩
  cases r
  ·rw[hfl (.inl O)] at hB
   focus (refine qs ?_;refine qd ?_;refine qz ?_;refine qq ?_;refine qT ?_;refine qx ?_;refine qq ?_;refine qb ?_;refine qs ?_;refine qt (T_ixM (sz:=3) O O O O O O hne hjl) ?_;refine qt (T_lda (ds:=emc m) O O O (Srd.old h (fun k _=>noOwns k)) O (by omega) hat) ?_;(refine qe (E_alloca O em_zero) ?_;rintro _ _ ⟨b6,rfl,rfl⟩);(refine qw (E_storew (cs:=emc (0,0,none,0,[])) (ds:=emc m) O O O O (emc_one _) O) ?_;rintro _ _ rfl);refine qz ?_;refine qq ?_;refine qs ?_;refine qt (T_loads (ds:=emc m) O O O O O) ?_;(refine qh F150 (fun w hS=>rightEntry_any w m) ?_;rw[hr]);refine qt (T_not O) ?_;refine qd ?_;(iterate 4 refine qk ?_);refine qd ?_;refine qz ?_;refine qT ?_;refine qs ?_;refine qp ?_;refine qz ?_)
   exact hB _ _ _ _ _ O O (qE O)
  by_cases hmu:m.1<u
  ·rw[hfl (.inr hmu)] at hB
   focus (refine qs ?_;refine qd ?_;refine qz ?_;refine qq ?_;refine qT ?_;refine qx ?_;refine qq ?_;refine qb ?_;refine qs ?_;refine qt (T_ixM (sz:=3) O O O O O O hne hjl) ?_;refine qt (T_lda (ds:=emc m) O O O (Srd.old h (fun k _=>noOwns k)) O (by omega) hat) ?_;(refine qe (E_alloca O em_zero) ?_;rintro _ _ ⟨b6,rfl,rfl⟩);(refine qw (E_storew (cs:=emc (0,0,none,0,[])) (ds:=emc m) O O O O (emc_one _) O) ?_;rintro _ _ rfl);refine qz ?_;refine qq ?_;refine qs ?_;refine qt (T_loads (ds:=emc m) O O O O O) ?_;(refine qh F150 (fun w hS=>rightEntry_any w m) ?_;rw[hr]);refine qt (T_not O) ?_;refine qp ?_;refine qp ?_;refine qt (T_load O O O O) ?_;refine qp ?_;refine qd ?_;refine qd ?_;refine qz ?_;refine qT ?_;refine qs ?_;refine qp ?_;refine qz ?_)
   exact hB _ _ _ _ _ O O (qE O)
  ·focus (refine qs ?_;refine qd ?_;refine qz ?_;refine qq ?_;refine qT ?_;refine qx ?_;refine qq ?_;refine qb ?_;refine qs ?_;refine qt (T_ixM (sz:=3) O O O O O O hne hjl) ?_;refine qt (T_lda (ds:=emc m) O O O (Srd.old h (fun k _=>noOwns k)) O (by omega) hat) ?_;(refine qe (E_alloca O em_zero) ?_;rintro _ _ ⟨b6,rfl,rfl⟩);(refine qw (E_storew (cs:=emc (0,0,none,0,[])) (ds:=emc m) O O O O (emc_one _) O) ?_;rintro _ _ rfl);refine qz ?_;refine qq ?_;refine qs ?_;refine qt (T_loads (ds:=emc m) O O O O O) ?_;(refine qh F150 (fun w hS=>rightEntry_any w m) ?_;rw[hr]);refine qt (T_not O) ?_;refine qp ?_;refine qp ?_;refine qt (T_load O O O O) ?_;refine qp ?_;refine qf ?_;refine qp ?_;refine qz ?_;refine qF ?_;refine qx ?_;refine qr ?_;refine qp ?_;refine qt (T_load O O O O) ?_;refine qp ?_;refine qz ?_;refine RS_blk ?_;refine qr ?_;refine qt (T_addN O O (by unfold fits;omega)) ?_;refine qp ?_;refine qz ?_)
   exact hJ (j+1,m.1) _ _ ⟨by show j+1≤_;omega,hnx O (by omega)⟩ (Sub.cons O (Sub.cons O (Sub.cons O (Sub.cons O Sub.nil)))) sub_st (by show Q.length-(j+1)<_;omega)
 have hjn:j=Q.length:=by omega
 subst hjn
 rw[List.take_length] at hok
 rw[hok] at hB
 focus (refine qs ?_;refine qf ?_;refine qz ?_;refine qq ?_;refine qF ?_;refine S_exit O O ?_;refine qs ?_;refine qp ?_;refine qz ?_)
 exact hB _ _ _ _ _ O O (qE O)
theorem baseB_eq (i t:Nat):baseB (i,t)=(decide (i=0)==decide (t=0)):=by
 unfold baseB
 rw[Bool.eq_iff_iff]
 simp
 omega
theorem rightD_any (w:World) (a:At) (A:Option Addr) (c:Nat) (Q:List Em) (h:Rd w All 3 A Q.length (cellsL emc Q)) (hn:Q.length≤100000):
  Gives Tryz.prog 64 [.agg (lgc a A Q.length c).toArray] [] w (X:=Unit) (fun _=> .bool (rightB a (Q.map emv))) (fun _=>True) (fun _=>[]):=by
 refine gives_S Tryz.func64 O Tryz.ntmps64 Tryz.results64 (by simp) (St.enter w) (fun B hB=>?_)
 obtain⟨i,t⟩:=a
 have hq:rightB (i,t) (Q.map emv)=(baseB (i,t)&&decide (Q.length≤16)&&decide (i≤18446744073709551614-Q.length)&&risingB (Q.map emv) t):=by rw[rightB_eq,List.length_map]
 rw[hq] at hB
 obtain⟨r,hr⟩: ∃ r,risingB (Q.map emv) t=r:=⟨_,O⟩
 rw[hr] at hB
 by_cases h16:Q.length≤16
 ·by_cases hi0:i=0
  ·by_cases ht0:t=0
   ·have hb:baseB (i,t)=true:=by rw[baseB_eq,decide_eq_true hi0,decide_eq_true ht0];rfl
    by_cases hi:i≤18446744073709551614-Q.length
    ·rw[hb,decide_eq_true h16,decide_eq_true hi,Bool.and_self,Bool.and_self,Bool.true_and] at hB
     repeat' (first|refine R_take (T_decT O (by omega)) ?_ O O|refine R_p O ?_ O O|refine R_nil ?_|refine R_take (T_beq O O O O) ?_ O O|refine R_take (T_load O O O O) ?_ O O|refine R_take (T_subN O O (by omega) (by unfold fits;omega)) ?_ O O|refine R_take (T_convf O O O O (by unfold fits;omega)) ?_ O O|refine S_seq O ?_|refine S_region O O ?_|(refine R_eff (E_boxa (cs:=lgc (i,t) A Q.length c) O) ?_ O O;rintro _ _ ⟨b1,rfl,rfl⟩)|((refine R_eff (E_hv0 (f:=139) F139 (fun w hS=>risingD_any w A c Q t ((Srd.old h (fun k _=>noOwns k)).rd w hS) hn) O O (fun _=>O)) ?_ O O;rintro _ _ ⟨_,rfl,_,rfl⟩);rw[hr]))
     exact hB _ _ _ _ _ O O (qE O)
    ·exact absurd hi (by omega)
   ·have hb:baseB (i,t)=false:=by rw[baseB_eq,decide_eq_true hi0,decide_eq_false ht0];rfl
    rw[hb,Bool.false_and,Bool.false_and,Bool.false_and] at hB
    repeat' (first|refine R_take (T_decT O (by omega)) ?_ O O|refine R_take (T_decF O (by omega)) ?_ O O|refine R_p O ?_ O O|refine R_nil ?_|refine R_skip ?_ O O|refine R_take (T_beq O O O O) ?_ O O|refine R_take (T_load O O O O) ?_ O O|refine S_seq O ?_|refine S_region O O ?_|(refine R_eff (E_boxa (cs:=lgc (i,t) A Q.length c) O) ?_ O O;rintro _ _ ⟨b1,rfl,rfl⟩))
    exact hB _ _ _ _ _ O O (qE O)
  ·by_cases ht0:t=0
   ·have hb:baseB (i,t)=false:=by rw[baseB_eq,decide_eq_false hi0,decide_eq_true ht0];rfl
    rw[hb,Bool.false_and,Bool.false_and,Bool.false_and] at hB
    repeat' (first|refine R_take (T_decT O (by omega)) ?_ O O|refine R_take (T_decF O (by omega)) ?_ O O|refine R_p O ?_ O O|refine R_nil ?_|refine R_skip ?_ O O|refine R_take (T_beq O O O O) ?_ O O|refine R_take (T_load O O O O) ?_ O O|refine S_seq O ?_|refine S_region O O ?_|(refine R_eff (E_boxa (cs:=lgc (i,t) A Q.length c) O) ?_ O O;rintro _ _ ⟨b1,rfl,rfl⟩))
    exact hB _ _ _ _ _ O O (qE O)
   ·have hb:baseB (i,t)=true:=by rw[baseB_eq,decide_eq_false hi0,decide_eq_false ht0];rfl
    by_cases hi:i≤18446744073709551614-Q.length
    ·rw[hb,decide_eq_true h16,decide_eq_true hi,Bool.and_self,Bool.and_self,Bool.true_and] at hB
     repeat' (first|refine R_take (T_decT O (by omega)) ?_ O O|refine R_take (T_decF O (by omega)) ?_ O O|refine R_p O ?_ O O|refine R_nil ?_|refine R_take (T_beq O O O O) ?_ O O|refine R_take (T_load O O O O) ?_ O O|refine R_take (T_subN O O (by omega) (by unfold fits;omega)) ?_ O O|refine R_take (T_convf O O O O (by unfold fits;omega)) ?_ O O|refine S_seq O ?_|refine S_region O O ?_|(refine R_eff (E_boxa (cs:=lgc (i,t) A Q.length c) O) ?_ O O;rintro _ _ ⟨b1,rfl,rfl⟩)|((refine R_eff (E_hv0 (f:=139) F139 (fun w hS=>risingD_any w A c Q t ((Srd.old h (fun k _=>noOwns k)).rd w hS) hn) O O (fun _=>O)) ?_ O O;rintro _ _ ⟨_,rfl,_,rfl⟩);rw[hr]))
     exact hB _ _ _ _ _ O O (qE O)
    ·rw[hb,decide_eq_false hi,Bool.and_false,Bool.false_and] at hB
     repeat' (first|refine R_take (T_decT O (by omega)) ?_ O O|refine R_take (T_decF O (by omega)) ?_ O O|refine R_p O ?_ O O|refine R_nil ?_|refine R_skip ?_ O O|refine R_take (T_beq O O O O) ?_ O O|refine R_take (T_load O O O O) ?_ O O|refine R_take (T_subN O O (by omega) (by unfold fits;omega)) ?_ O O|refine R_take (T_convf O O O O (by unfold fits;omega)) ?_ O O|refine S_seq O ?_|refine S_region O O ?_|(refine R_eff (E_boxa (cs:=lgc (i,t) A Q.length c) O) ?_ O O;rintro _ _ ⟨b1,rfl,rfl⟩))
     exact hB _ _ _ _ _ O O (qE O)
 ·rw[decide_eq_false h16,Bool.and_false,Bool.false_and,Bool.false_and] at hB
  repeat' (first|refine R_take (T_decF O (by omega)) ?_ O O|refine R_p O ?_ O O|refine R_nil ?_|refine R_skip ?_ O O|refine R_take (T_load O O O O) ?_ O O|refine S_seq O ?_|refine S_region O O ?_|(refine R_eff (E_boxa (cs:=lgc (i,t) A Q.length c) O) ?_ O O;rintro _ _ ⟨b1,rfl,rfl⟩))
  exact hB _ _ _ _ _ O O (qE O)
theorem placeD_any (w:World) (a:At) (A:Option Addr) (c k:Nat) (Q:List Em) (l:List En) (hk:Q.length=k) (hl:Q.map emv=l) (h:Rd w All 3 A k (cellsL emc Q)) (hn:k≤100000) (hf:a.1+k≤18446744073709551615) (j:Nat) (hj:j≤k) (p:At) (hp:placeN a l j=p):
  Gives Tryz.prog 140 [.agg (lgc a A k c).toArray,.int .i64 (j:Int)] [] w (X:=Unit) (fun _=> .agg (atc p).toArray) (fun _=>True) (fun _=>[]):=by
 refine gives_C Tryz.func140 O Tryz.ntmps140 Tryz.results140 (by simp) (St.enter w) (fun B hB=>?_)
 obtain⟨i,t⟩:=a
 have hf:i+k≤18446744073709551615:=hf
 by_cases h0:j=0
 ·have e1:p=(i,t):=by rw[← hp,placeN,if_pos h0]
  rw[e1] at hB
  focus (refine qs ?_;(refine qe (E_boxa (cs:=lgc (i,t) A k c) O) ?_;rintro _ _ ⟨b1,rfl,rfl⟩);(refine qe (E_alloca O at_zero) ?_;rintro _ _ ⟨b2,rfl,rfl⟩);refine qz ?_;refine qq ?_;refine qs ?_;refine qp ?_;refine qd ?_;refine qz ?_;refine qT ?_;refine qs ?_;refine qp ?_;refine qt (T_loads (ds:=atc (i,t)) O O O O O) ?_;(refine qw (E_storew (cs:=atc (0,0)) (ds:=atc (i,t)) O O O O (atc_one _) O) ?_;rintro _ _ rfl);refine qz ?_)
  refine hB _ _ _ _ _ O (.cell O O O inferInstance O .nil) fun w' hS=>⟨(),O,trivial,hS.sublist (List.nil_sublist _)⟩
 ·have hne:A≠none:=by obtain⟨ad,rfl,_⟩:=h.2 (by omega);simp
  have hat:=cellsL_at (f:=emc) emc_len Q default (j-1) (by omega)
  have hlt:j-1<k:=by omega
  have e1:p=(i+j,(Q.getD (j-1) default).1):=by
   have:=placeN_at (i,t) Q (j-1) (by omega) O
   rw[show j-1+1=j by omega,hl,hp] at this
   exact this
  obtain⟨m,hm⟩: ∃ m,Q.getD (j-1) default=m:=⟨_,O⟩
  rw[hm] at hat e1
  rw[e1] at hB
  have hat0:(cellsL emc Q)[(j-1)*3+0]? =some (.int .u64 (m.1:Int)):=hat 0 _ O
  focus (refine qs ?_;(refine qe (E_boxa (cs:=lgc (i,t) A k c) O) ?_;rintro _ _ ⟨b1,rfl,rfl⟩);(refine qe (E_alloca O at_zero) ?_;rintro _ _ ⟨b2,rfl,rfl⟩);refine qz ?_;refine qq ?_;refine qs ?_;refine qp ?_;refine qf ?_;refine qz ?_;refine qF ?_;refine qx ?_;refine qq ?_)
  refine S_draw ([pt b1 39 (lgc (i,t) A k c)]) sub_st (by kernel_rfl) O (by kernel_rfl) (by kernel_rfl:_=15) ?_
  refine dp 0 ?_
  refine dp 1 ?_
  refine dl 2 ?_
  refine dp 3 ?_
  (refine dt 4 O (T_convf O O O O (by unfold fits;omega)) ?_)
  (refine dt 5 O (T_addN O O (by unfold fits;omega)) ?_)
  refine dp 6 ?_
  refine dl 7 ?_
  refine dp 8 ?_
  (refine dt 9 O (T_subN O O (by omega) (by unfold fits;omega)) ?_)
  refine dt 10 O (T_ixM (sz:=3) (q:=j-1) O O O O O O hne hlt) ?_
  refine dt 11 O (T_fap O O O O O hne) ?_
  refine dt 12 O (T_ldr O O O (Srd.old h (fun k _=>noOwns k)) (by omega) hat0) ?_
  refine dt 13 O (T_build2 O O (at_built2 (i+j) m.1)) ?_
  refine D_one 14 O (E_storew (cs:=atc (0,0)) (ds:=atc (i+j,m.1)) O O O O (atc_one _) O) ?_ O O (by kernel_rfl)
  rintro _ _ rfl
  refine nx ?_
  refine dn ?_
  skip
  skip
  refine hB _ _ _ _ _ O (.cell O O O inferInstance O .nil) fun w' hS=>⟨(),O,trivial,hS.sublist (List.nil_sublist _)⟩
theorem lastA_place (a:At) (Q:List Em):placeN a (Q.map emv) Q.length=lastA a (Q.map emv):=by
 rw[lastA,List.length_map]
 by_cases h0:Q.length=0
 ·rw[List.eq_nil_of_length_eq_zero h0]
  rfl
 ·rw[lastT_at Q _ (by omega)]
  have:=placeN_at a Q (Q.length-1) (by omega) O
  rw[show Q.length-1+1=Q.length by omega] at this
  exact this
theorem lastD_any (w:World) (a:At) (A:Option Addr) (c k:Nat) (Q:List Em) (l:List En) (hk:Q.length=k) (hl:Q.map emv=l) (h:Rd w All 3 A k (cellsL emc Q)) (hn:k≤100000) (hf:a.1+k≤18446744073709551615) (p:At) (hp:lastA a l=p):
  Gives Tryz.prog 67 [.agg (lgc a A k c).toArray] [] w (X:=Unit) (fun _=> .agg (atc p).toArray) (fun _=>True) (fun _=>[]):=by
 refine gives_C Tryz.func67 O Tryz.ntmps67 Tryz.results67 (by simp) (St.enter w) (fun B hB=>?_)
 have hp:placeN a l k=p:=by rw[← hp, ← hl, ← hk];exact lastA_place a Q
 focus (refine qs ?_;(refine qe (E_boxa (cs:=lgc a A k c) O) ?_;rintro _ _ ⟨b1,rfl,rfl⟩);(refine qe (E_alloca O at_zero) ?_;rintro _ _ ⟨b2,rfl,rfl⟩);refine qn ?_;refine qt (T_loads (ds:=lgc a A k c) O O O O O) ?_;refine qp ?_;refine qt (T_load O O O O) ?_;refine qp ?_;refine qh F140 (fun w hS=>placeD_any w a A c k Q l hk hl ((Srd.old h (fun k _=>noOwns k)).rd w hS) hn hf k (Nat.le_refl _) p hp) ?_;(refine qw (E_storew (cs:=atc (0,0)) (ds:=atc p) O O O O (atc_one _) O) ?_;rintro _ _ rfl);refine qz ?_)
 refine hB _ _ _ _ _ O (.cell O O O inferInstance O .nil) fun w' hS=>⟨(),O,trivial,hS.sublist (List.nil_sublist _)⟩
theorem sameE_any (w:World) (A A2:Option Addr) (c c2':Nat) (Q M:List Em) (h:Rd w All 3 A Q.length (cellsL emc Q)) (h2:Rd w All 3 A2 M.length (cellsL emc M)) (hq: ∀ m∈Q,BsM w m) (hm: ∀ m∈M,BsM w m) (hn:Q.length≤100000) (hn2:M.length≤100000):
  Gives Tryz.prog 141 [.slice A Q.length c,.slice A2 M.length c2'] [] w (X:=Unit) (fun _=> .bool (decide (Q.map emv=M.map emv))) (fun _=>True) (fun _=>[]):=by
 refine gives_S Tryz.func141 O Tryz.ntmps141 Tryz.results141 (by simp) (St.enter w) (fun B hB=>?_)
 have hne:0<Q.length→A≠none:=fun h0=>by obtain⟨ad,rfl,_⟩:=h.2 (by omega);simp
 have hne2:0<M.length→A2≠none:=fun h0=>by obtain⟨ad,rfl,_⟩:=h2.2 (by omega);simp
 by_cases hlm:Q.length=M.length
 ·skip
  repeat' (first|refine R_take (T_decF O (by omega)) ?_ O O|refine R_p O ?_ O O|refine R_nil ?_|refine S_seq O ?_|refine S_region O O ?_|refine S_false O O ?_|refine S_block O ?_|refine S_skip O ?_)
  refine S_loop (X:=Nat) (fun j=>[(0,.slice A Q.length c),(1,.slice A2 M.length c2'),(12,.int .i64 (Q.length:Int)),(13,.int .i64 (j:Int))]) (fun _=>[]) (fun j=>j≤Q.length∧ ∀ i,i<j→(Q.map emv).getD i default=(M.map emv).getD i default) (fun j=>Q.length-j) O 0 ⟨Nat.zero_le _,fun i hi=>by omega⟩ (Sub.cons O (Sub.cons O (Sub.cons O (Sub.cons O Sub.nil)))) (fun _ h=>h) ?_
  rintro j ⟨hj,hok⟩ J hJ
  rcases Nat.lt_or_ge j Q.length with hjl|hjl
  ·have hne:=hne (by omega)
   have hne2:=hne2 (by omega)
   have hjm:j<M.length:=by omega
   have hat:=cellsL_at (f:=emc) emc_len Q default j hjl
   have hat2:=cellsL_at (f:=emc) emc_len M default j hjm
   have eq1:(Q.map emv).getD j default=emv (Q.getD j default):=by simp[List.getD,hjl]
   have eq2:(M.map emv).getD j default=emv (M.getD j default):=by simp[List.getD,hjm]
   have hb1:=hq (Q.getD j default) (by simp[List.getD,hjl])
   have hb2:=hm (M.getD j default) (by simp[List.getD,hjm])
   have hnx:emv (Q.getD j default)=emv (M.getD j default)→ ∀ i,i<j+1→(Q.map emv).getD i default=(M.map emv).getD i default:=fun e i hi=>by
    rcases Nat.lt_or_ge i j with h3|h3
    ·exact hok i h3
    ·rw[show i=j by omega,eq1,eq2];exact e
   have hne3:emv (Q.getD j default)≠emv (M.getD j default)→ ¬ Q.map emv=M.map emv:=fun e e2=>e (by rw[← eq1, ← eq2,e2])
   obtain⟨⟨t,k,B1,c1,l⟩,hx⟩: ∃ x,Q.getD j default=x:=⟨_,O⟩
   obtain⟨⟨t2,k2,B2,c2,l2⟩,hy⟩: ∃ y,M.getD j default=y:=⟨_,O⟩
   rw[hx] at hat hnx hne3 hb1
   rw[hy] at hat2 hnx hne3 hb2
   have hb1:Bs w All B1 l.length c1 l:=hb1
   have hb2:Bs w All B2 l2.length c2 l2:=hb2
   have hat0:(cellsL emc Q)[j*3+0]? =some (.int .u64 (t:Int)):=hat 0 _ O
   have hat1:(cellsL emc Q)[j*3+1]? =some (.int .i64 k):=hat 1 _ O
   have hat2':(cellsL emc Q)[j*3+2]? =some (.slice B1 l.length c1):=hat 2 _ O
   have hau0:(cellsL emc M)[j*3+0]? =some (.int .u64 (t2:Int)):=hat2 0 _ O
   have hau1:(cellsL emc M)[j*3+1]? =some (.int .i64 k2):=hat2 1 _ O
   have hau2:(cellsL emc M)[j*3+2]? =some (.slice B2 l2.length c2):=hat2 2 _ O
   have hsc:scmp .neq (bl ⟨l.toArray⟩) (bl ⟨l2.toArray⟩)=some (!decide (l=l2)):=by simp[scmp,bl];first|done|exact decide_not|rfl|congr
   by_cases h3:t=t2
   ·by_cases h4:k=k2
    ·by_cases h5:l=l2
     ·rw[decide_eq_true h5] at hsc
      focus (refine qs ?_;refine qd ?_;refine qz ?_;refine qq ?_;refine qT ?_;refine qx ?_;refine qq ?_;refine qb ?_;refine qs ?_;refine qp ?_;refine qp ?_;refine qz ?_;refine qq ?_;(refine S_draw _ (fun _ h=>h) (by kernel_rfl) O (by kernel_rfl) (rfl:_=39) ?_;(refine dp 0 ?_);(refine dp 1 ?_);(refine dt 2 O (T_ixM (sz:=3) O O O O O O hne hjl) ?_);(refine dt 3 O (T_fap O O O O O hne) ?_);(refine dt 4 O (T_ldr O O O (Srd.old h (fun k _=>noOwns k)) (by omega) hat0) ?_);(refine dp 5 ?_);(refine dp 6 ?_);(refine dt 7 O (T_ixM (sz:=3) O O O O O O hne2 hjm) ?_);(refine dt 8 O (T_fap O O O O O hne2) ?_);(refine dt 9 O (T_ldr O O O (Srd.old h2 (fun k _=>noOwns k)) (by omega) hau0) ?_);(refine dqF 10 ?_);(refine dp 11 ?_);(refine dp 12 ?_);(refine dp 13 ?_);(refine dt 14 O (T_ixM (sz:=3) O O O O O O hne hjl) ?_);(refine dt 15 O (T_fap O O O O O hne) ?_);(refine dt 16 O (T_ldr O O O (Srd.old h (fun k _=>noOwns k)) (by omega) hat1) ?_);(refine dp 17 ?_);(refine dp 18 ?_);(refine dt 19 O (T_ixM (sz:=3) O O O O O O hne2 hjm) ?_);(refine dt 20 O (T_fap O O O O O hne2) ?_);(refine dt 21 O (T_ldr O O O (Srd.old h2 (fun k _=>noOwns k)) (by omega) hau1) ?_);(refine dqF 22 ?_);(refine dp 23 ?_);(refine dp 24 ?_);(refine dp 25 ?_);(refine dp 26 ?_);(refine dt 27 O (T_ixM (sz:=3) O O O O O O hne hjl) ?_);(refine dt 28 O (T_fap O O O O O hne) ?_);(refine dt 29 O (T_ldr O O O (Srd.old h (fun k _=>noOwns k)) (by omega) hat2') ?_);(refine dt 30 O (T_b2s O O O O O O O (Src.old hb1 (fun k _=>noOwns k))) ?_);(refine dp 31 ?_);(refine dp 32 ?_);(refine dt 33 O (T_ixM (sz:=3) O O O O O O hne2 hjm) ?_);(refine dt 34 O (T_fap O O O O O hne2) ?_);(refine dt 35 O (T_ldr O O O (Srd.old h2 (fun k _=>noOwns k)) (by omega) hau2) ?_);(refine dt 36 O (T_b2s O O O O O O O (Src.old hb2 (fun k _=>noOwns k))) ?_);(refine dt 37 O (T_scmp (r:=⟨l.toArray⟩) (s:=⟨l2.toArray⟩) O O hsc) ?_);(refine dp 38 ?_);refine dn ?_);refine qF ?_;refine qx ?_;refine RS_blk ?_;refine qr ?_;refine qt (T_addN O O (by unfold fits;omega)) ?_;refine qp ?_;refine qz ?_)
      exact hJ (j+1) _ _ ⟨by omega,hnx (by rw[h3,h4,h5];rfl)⟩ (Sub.cons O (Sub.cons O (Sub.cons O (Sub.cons O Sub.nil)))) (fun _ h=>h.sublist (List.nil_sublist _)) (by omega)
     ·rw[decide_eq_false h5] at hsc
      rw[decide_eq_false (hne3 (fun e=>h5 (congrArg (fun x:En=>x.2.2) e)))] at hB
      focus (refine qs ?_;refine qd ?_;refine qz ?_;refine qq ?_;refine qT ?_;refine qx ?_;refine qq ?_;refine qb ?_;refine qs ?_;refine qp ?_;refine qp ?_;refine qz ?_;refine qq ?_;(refine S_draw _ (fun _ h=>h) (by kernel_rfl) O (by kernel_rfl) (rfl:_=39) ?_;(refine dp 0 ?_);(refine dp 1 ?_);(refine dt 2 O (T_ixM (sz:=3) O O O O O O hne hjl) ?_);(refine dt 3 O (T_fap O O O O O hne) ?_);(refine dt 4 O (T_ldr O O O (Srd.old h (fun k _=>noOwns k)) (by omega) hat0) ?_);(refine dp 5 ?_);(refine dp 6 ?_);(refine dt 7 O (T_ixM (sz:=3) O O O O O O hne2 hjm) ?_);(refine dt 8 O (T_fap O O O O O hne2) ?_);(refine dt 9 O (T_ldr O O O (Srd.old h2 (fun k _=>noOwns k)) (by omega) hau0) ?_);(refine dqF 10 ?_);(refine dp 11 ?_);(refine dp 12 ?_);(refine dp 13 ?_);(refine dt 14 O (T_ixM (sz:=3) O O O O O O hne hjl) ?_);(refine dt 15 O (T_fap O O O O O hne) ?_);(refine dt 16 O (T_ldr O O O (Srd.old h (fun k _=>noOwns k)) (by omega) hat1) ?_);(refine dp 17 ?_);(refine dp 18 ?_);(refine dt 19 O (T_ixM (sz:=3) O O O O O O hne2 hjm) ?_);(refine dt 20 O (T_fap O O O O O hne2) ?_);(refine dt 21 O (T_ldr O O O (Srd.old h2 (fun k _=>noOwns k)) (by omega) hau1) ?_);(refine dqF 22 ?_);(refine dp 23 ?_);(refine dp 24 ?_);(refine dp 25 ?_);(refine dp 26 ?_);(refine dt 27 O (T_ixM (sz:=3) O O O O O O hne hjl) ?_);(refine dt 28 O (T_fap O O O O O hne) ?_);(refine dt 29 O (T_ldr O O O (Srd.old h (fun k _=>noOwns k)) (by omega) hat2') ?_);(refine dt 30 O (T_b2s O O O O O O O (Src.old hb1 (fun k _=>noOwns k))) ?_);(refine dp 31 ?_);(refine dp 32 ?_);(refine dt 33 O (T_ixM (sz:=3) O O O O O O hne2 hjm) ?_);(refine dt 34 O (T_fap O O O O O hne2) ?_);(refine dt 35 O (T_ldr O O O (Srd.old h2 (fun k _=>noOwns k)) (by omega) hau2) ?_);(refine dt 36 O (T_b2s O O O O O O O (Src.old hb2 (fun k _=>noOwns k))) ?_);(refine dt 37 O (T_scmp (r:=⟨l.toArray⟩) (s:=⟨l2.toArray⟩) O O hsc) ?_);(refine dp 38 ?_);refine dn ?_);refine qT ?_;refine qs ?_;refine qp ?_;refine qz ?_)
      exact hB _ _ _ _ _ O O (qE O)
    ·rw[decide_eq_false (hne3 (fun e=>h4 (congrArg (fun x:En=>x.2.1) e)))] at hB
     focus (refine qs ?_;refine qd ?_;refine qz ?_;refine qq ?_;refine qT ?_;refine qx ?_;refine qq ?_;refine qb ?_;refine qs ?_;refine qp ?_;refine qp ?_;refine qz ?_;refine qq ?_;(refine S_draw _ (fun _ h=>h) (by kernel_rfl) O (by kernel_rfl) (rfl:_=39) ?_;(refine dp 0 ?_);(refine dp 1 ?_);(refine dt 2 O (T_ixM (sz:=3) O O O O O O hne hjl) ?_);(refine dt 3 O (T_fap O O O O O hne) ?_);(refine dt 4 O (T_ldr O O O (Srd.old h (fun k _=>noOwns k)) (by omega) hat0) ?_);(refine dp 5 ?_);(refine dp 6 ?_);(refine dt 7 O (T_ixM (sz:=3) O O O O O O hne2 hjm) ?_);(refine dt 8 O (T_fap O O O O O hne2) ?_);(refine dt 9 O (T_ldr O O O (Srd.old h2 (fun k _=>noOwns k)) (by omega) hau0) ?_);(refine dqF 10 ?_);(refine dp 11 ?_);(refine dp 12 ?_);(refine dp 13 ?_);(refine dt 14 O (T_ixM (sz:=3) O O O O O O hne hjl) ?_);(refine dt 15 O (T_fap O O O O O hne) ?_);(refine dt 16 O (T_ldr O O O (Srd.old h (fun k _=>noOwns k)) (by omega) hat1) ?_);(refine dp 17 ?_);(refine dp 18 ?_);(refine dt 19 O (T_ixM (sz:=3) O O O O O O hne2 hjm) ?_);(refine dt 20 O (T_fap O O O O O hne2) ?_);(refine dt 21 O (T_ldr O O O (Srd.old h2 (fun k _=>noOwns k)) (by omega) hau1) ?_);(refine dqT 22 ?_);(refine dp 23 ?_);(refine dp 24 ?_);(refine dk 25 ?_);(refine dk 26 ?_);(refine dk 27 ?_);(refine dk 28 ?_);(refine dk 29 ?_);(refine dk 30 ?_);(refine dk 31 ?_);(refine dk 32 ?_);(refine dk 33 ?_);(refine dk 34 ?_);(refine dk 35 ?_);(refine dk 36 ?_);(refine dk 37 ?_);(refine dp 38 ?_);refine dn ?_);refine qT ?_;refine qs ?_;refine qp ?_;refine qz ?_)
     exact hB _ _ _ _ _ O O (qE O)
   ·rw[decide_eq_false (hne3 (fun e=>h3 (congrArg (fun x:En=>x.1) e)))] at hB
    focus (refine qs ?_;refine qd ?_;refine qz ?_;refine qq ?_;refine qT ?_;refine qx ?_;refine qq ?_;refine qb ?_;refine qs ?_;refine qp ?_;refine qp ?_;refine qz ?_;refine qq ?_;(refine S_draw _ (fun _ h=>h) (by kernel_rfl) O (by kernel_rfl) (rfl:_=39) ?_;(refine dp 0 ?_);(refine dp 1 ?_);(refine dt 2 O (T_ixM (sz:=3) O O O O O O hne hjl) ?_);(refine dt 3 O (T_fap O O O O O hne) ?_);(refine dt 4 O (T_ldr O O O (Srd.old h (fun k _=>noOwns k)) (by omega) hat0) ?_);(refine dp 5 ?_);(refine dp 6 ?_);(refine dt 7 O (T_ixM (sz:=3) O O O O O O hne2 hjm) ?_);(refine dt 8 O (T_fap O O O O O hne2) ?_);(refine dt 9 O (T_ldr O O O (Srd.old h2 (fun k _=>noOwns k)) (by omega) hau0) ?_);(refine dqT 10 ?_);(refine dp 11 ?_);(refine dk 12 ?_);(refine dk 13 ?_);(refine dk 14 ?_);(refine dk 15 ?_);(refine dk 16 ?_);(refine dk 17 ?_);(refine dk 18 ?_);(refine dk 19 ?_);(refine dk 20 ?_);(refine dk 21 ?_);(refine dk 22 ?_);(refine dp 23 ?_);(refine dp 24 ?_);(refine dk 25 ?_);(refine dk 26 ?_);(refine dk 27 ?_);(refine dk 28 ?_);(refine dk 29 ?_);(refine dk 30 ?_);(refine dk 31 ?_);(refine dk 32 ?_);(refine dk 33 ?_);(refine dk 34 ?_);(refine dk 35 ?_);(refine dk 36 ?_);(refine dk 37 ?_);(refine dp 38 ?_);refine dn ?_);refine qT ?_;refine qs ?_;refine qp ?_;refine qz ?_)
    exact hB _ _ _ _ _ O O (qE O)
  have hjn:j=Q.length:=by omega
  subst hjn
  rw[decide_eq_true (eq_uptoE (by simpa using hlm) (fun i hi=>hok i (by simpa using hi)))] at hB
  focus (refine qs ?_;refine qf ?_;refine qz ?_;refine qq ?_;refine qF ?_;refine S_exit O O ?_;refine qs ?_;refine qp ?_;refine qz ?_)
  exact hB _ _ _ _ _ O O (qE O)
 ·rw[decide_eq_false (fun e=>hlm (by simpa using congrArg List.length e))] at hB
  repeat' (first|refine R_take (T_decT O (by omega)) ?_ O O|refine R_p O ?_ O O|refine R_nil ?_|refine S_seq O ?_|refine S_region O O ?_|refine S_true O O ?_)
  exact hB _ _ _ _ _ O O (qE O)
theorem sameD_any (w:World) (a b:At) (A A2:Option Addr) (c c2':Nat) (Q M:List Em) (h:Rd w All 3 A Q.length (cellsL emc Q)) (h2:Rd w All 3 A2 M.length (cellsL emc M)) (hq: ∀ m∈Q,BsM w m) (hm: ∀ m∈M,BsM w m) (hn:Q.length≤100000) (hn2:M.length≤100000):
  Gives Tryz.prog 69 [.agg (lgc a A Q.length c).toArray,.agg (lgc b A2 M.length c2').toArray] [] w (X:=Unit) (fun _=> .bool (decide (a=b)&&decide (Q.map emv=M.map emv))) (fun _=>True) (fun _=>[]):=by
 refine gives_S Tryz.func69 O Tryz.ntmps69 Tryz.results69 (by simp) (St.enter w) (fun B hB=>?_)
 obtain⟨i,t⟩:=a
 obtain⟨i2,t2⟩:=b
 obtain⟨r,hr⟩: ∃ r,decide ((i,t)=(i2,t2))=r:=⟨_,O⟩
 obtain⟨q,hq2⟩: ∃ r,decide (Q.map emv=M.map emv)=r:=⟨_,O⟩
 rw[hr,hq2] at hB
 cases r
 ·rw[Bool.false_and] at hB
  focus (refine qs ?_;(refine qe (E_boxa (cs:=lgc (i,t) A Q.length c) O) ?_;rintro _ _ ⟨b2,rfl,rfl⟩);(refine qe (E_boxa (cs:=lgc (i2,t2) A2 M.length c2') O) ?_;rintro _ _ ⟨b3,rfl,rfl⟩);refine qp ?_;refine qn ?_;refine qp ?_;refine qt (T_loads (ds:=atc (i,t)) O O O O O) ?_;refine qp ?_;refine qt (T_loads (ds:=atc (i2,t2)) O O O O O) ?_;refine qt (T_eqAt (a:=(i,t)) (b:=(i2,t2)) O O hr) ?_;refine qp ?_;(iterate 5 refine qk ?_);refine qp ?_;refine qp ?_;refine qz ?_)
  exact hB _ _ _ _ _ O O (qE O)
 ·rw[Bool.true_and] at hB
  focus (refine qs ?_;(refine qe (E_boxa (cs:=lgc (i,t) A Q.length c) O) ?_;rintro _ _ ⟨b2,rfl,rfl⟩);(refine qe (E_boxa (cs:=lgc (i2,t2) A2 M.length c2') O) ?_;rintro _ _ ⟨b3,rfl,rfl⟩);refine qp ?_;refine qn ?_;refine qp ?_;refine qt (T_loads (ds:=atc (i,t)) O O O O O) ?_;refine qp ?_;refine qt (T_loads (ds:=atc (i2,t2)) O O O O O) ?_;refine qt (T_eqAt (a:=(i,t)) (b:=(i2,t2)) O O hr) ?_;refine qp ?_;(iterate 2 refine qp ?_;refine qt (T_load O O O O) ?_);(refine qh F141 (fun w hS=>sameE_any w A A2 c c2' Q M ((Srd.old h (fun k _=>noOwns k)).rd w hS) ((Srd.old h2 (fun k _=>noOwns k)).rd w hS) (fun m hm2=>(Src.old (hq m hm2) (fun k _=>noOwns k)).bs w hS) (fun m hm2=>(Src.old (hm m hm2) (fun k _=>noOwns k)).bs w hS) hn hn2) ?_;rw[hq2]);refine qp ?_;refine qp ?_;refine qz ?_)
  exact hB _ _ _ _ _ O O (qE O)
end Go.Proofs.YtdeffdldifepkaaGreat
namespace Go.Proofs.YtdeffdldifepkaaGreat
open Go.RowKit Go.ChangeShapes Go.WideShapes Go.ChangeAt
open Asn (pt row rb)
set_option linter.unusedVariables false
set_option linter.unusedSimpArgs false
theorem T_bnq {P:Program} [HasTab P] {n:Nat} {w0:World} {M:Nat→Prop} {T:Slots} {H:List Asn} {dd:Option Tmp} {tt:TypeId} {pos:String} {af:Array Edge} {g:Option (Nat×Bool)} {x y:Operand} {t u:TypeId} {b c r:Bool} {i:Ti} (hx:oget T x=some (.bool b)) (hy:oget T y=some (.bool c)) (ht:ty P t=some i) (hi:i.desc= .bool) (hr:(b !=c)=r):
  Tk P n w0 M T H ⟨dd,.binOp .neq t x y u,tt,pos,af,g⟩ (.bool r):=hr▸T_bne hx hy ht hi
def Sh (L:List En):Type:={P:List Em//P.map emv=L∧ ∀ m∈P,m.2.2.2.2.length≤m.2.2.2.1}
theorem rightD_k (w:World) (a:At) (A:Option Addr) (c k:Nat) (Q:List Em) (l:List En) (hk:Q.length=k) (hl:Q.map emv=l) (h:Rd w All 3 A k (cellsL emc Q)) (hn:k≤100000) (r:Bool) (hr:rightB a l=r):
  Gives Tryz.prog 64 [.agg (lgc a A k c).toArray] [] w (X:=Unit) (fun _=> .bool r) (fun _=>True) (fun _=>[]):=by
 subst hk
 subst hl
 subst hr
 exact rightD_any w a A c Q h hn
end Go.Proofs.YtdeffdldifepkaaGreat
