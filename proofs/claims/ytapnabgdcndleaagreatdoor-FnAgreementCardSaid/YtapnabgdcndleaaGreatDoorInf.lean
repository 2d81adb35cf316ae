/-
  Facts on the types of the program. No condition.
-/
import Derived.Test.YtapnabgdcndleaaGreatDoorProg
import Derived.Test.YtapnabgdcndleaaGreatDoorShelf
import Derived.Test.YtapnabgdcndleaaGreatDoorTy
import Derived.KernelRfl
namespace Go.Proofs.YtapnabgdcndleaaGreatDoor
open Go Go.Tc Go.Fn
theorem Lv:rk Tryz.prog 1=some 8:=by kernel_rfl
theorem wU:rk Tryz.prog 130=some 32:=by kernel_rfl
theorem tc:rk Tryz.prog 189=some 48:=by kernel_rfl
theorem gq:rk Tryz.prog 2=some 8:=by kernel_rfl
theorem wL:rk Tryz.prog 207=some 24:=by kernel_rfl
theorem LI:rk Tryz.prog 249=some 32:=by kernel_rfl
theorem LW:rk Tryz.prog 258=some 8:=by kernel_rfl
theorem vy:rk Tryz.prog 267=some 8:=by kernel_rfl
theorem On:rk Tryz.prog 27=some 24:=by kernel_rfl
theorem P7:rk Tryz.prog 5=some 1:=by kernel_rfl
theorem tN:rk Tryz.prog 62=some 24:=by kernel_rfl
theorem vh:rk Tryz.prog 9=some 16:=by kernel_rfl
theorem Oe (v:Value): ∀w,(callFunc 203 [v].toArray).run Tryz.prog w=.ok (.value v) w:=λw=>by kernel_rfl
theorem nw:eD Tryz.prog 120 0=some (0,3):=by kernel_rfl
theorem fR:eD Tryz.prog 120 1=some (3,1):=by kernel_rfl
theorem oj:eD Tryz.prog 120 2=some (4,1):=by kernel_rfl
theorem ns:eD Tryz.prog 128 0=some (0,3):=by kernel_rfl
theorem fF:eD Tryz.prog 128 1=some (3,1):=by kernel_rfl
theorem oc:eD Tryz.prog 128 2=some (4,1):=by kernel_rfl
theorem tM:eD Tryz.prog 130 0=some (0,1):=by kernel_rfl
theorem kV:eD Tryz.prog 130 1=some (1,1):=by kernel_rfl
theorem mn:eD Tryz.prog 130 2=some (2,1):=by kernel_rfl
theorem Hd:eD Tryz.prog 130 3=some (3,1):=by kernel_rfl
theorem Ao:eD Tryz.prog 138 0=some (0,1):=by kernel_rfl
theorem xF:eD Tryz.prog 138 1=some (1,1):=by kernel_rfl
theorem C4:eD Tryz.prog 138 2=some (2,1):=by kernel_rfl
theorem CH:eD Tryz.prog 154 0=some (0,1):=by kernel_rfl
theorem o9:eD Tryz.prog 154 1=some (1,1):=by kernel_rfl
theorem Ak:eD Tryz.prog 162 0=some (0,3):=by kernel_rfl
theorem Av:eD Tryz.prog 162 1=some (3,1):=by kernel_rfl
theorem po:eD Tryz.prog 162 2=some (4,1):=by kernel_rfl
theorem ej:eD Tryz.prog 162 3=some (5,1):=by kernel_rfl
theorem dZ:eD Tryz.prog 167 0=some (0,1):=by kernel_rfl
theorem ky:eD Tryz.prog 167 1=some (1,1):=by kernel_rfl
theorem gF:eD Tryz.prog 189 0=some (0,1):=by kernel_rfl
theorem la:eD Tryz.prog 189 1=some (1,1):=by kernel_rfl
theorem lL:eD Tryz.prog 207 0=some (0,1):=by kernel_rfl
theorem pg:eD Tryz.prog 207 1=some (1,1):=by kernel_rfl
theorem xu:eD Tryz.prog 207 2=some (2,1):=by kernel_rfl
theorem vI:eD Tryz.prog 210 0=some (0,1):=by kernel_rfl
theorem vK:eD Tryz.prog 210 1=some (1,1):=by kernel_rfl
theorem vH:eD Tryz.prog 210 2=some (2,3):=by kernel_rfl
theorem As:eD Tryz.prog 210 3=some (5,1):=by kernel_rfl
theorem qu:eD Tryz.prog 222 0=some (0,1):=by kernel_rfl
theorem qI:eD Tryz.prog 222 1=some (1,1):=by kernel_rfl
theorem qC:eD Tryz.prog 222 2=some (2,4):=by kernel_rfl
theorem AP:eD Tryz.prog 222 3=some (6,1):=by kernel_rfl
theorem xC:eD Tryz.prog 249 0=some (0,1):=by kernel_rfl
theorem xN:eD Tryz.prog 249 1=some (1,1):=by kernel_rfl
theorem pb:eD Tryz.prog 249 2=some (2,1):=by kernel_rfl
theorem xS:eD Tryz.prog 249 3=some (3,1):=by kernel_rfl
theorem pq:eD Tryz.prog 257 0=some (0,1):=by kernel_rfl
theorem AD:eD Tryz.prog 257 1=some (1,1):=by kernel_rfl
theorem cY:eD Tryz.prog 26 0=some (0,1):=by kernel_rfl
theorem lB:eD Tryz.prog 26 1=some (1,1):=by kernel_rfl
theorem ee:eD Tryz.prog 26 2=some (2,1):=by kernel_rfl
theorem An:eD Tryz.prog 260 0=some (0,1):=by kernel_rfl
theorem kt:eD Tryz.prog 29 0=some (0,1):=by kernel_rfl
theorem fq:eD Tryz.prog 29 1=some (1,1):=by kernel_rfl
theorem ft:eD Tryz.prog 29 2=some (2,1):=by kernel_rfl
theorem eo:eD Tryz.prog 62 0=some (0,1):=by kernel_rfl
theorem gm:eD Tryz.prog 62 1=some (1,1):=by kernel_rfl
theorem fH:eD Tryz.prog 62 2=some (2,1):=by kernel_rfl
theorem zZ:eD Tryz.prog 85 0=some (0,1):=by kernel_rfl
theorem xQ:eD Tryz.prog 85 1=some (1,1):=by kernel_rfl
theorem sL:eD Tryz.prog 93 0=some (0,1):=by kernel_rfl
theorem mQ:eD Tryz.prog 93 1=some (1,1):=by kernel_rfl
theorem xT:eD Tryz.prog 97 0=some (0,1):=by kernel_rfl
theorem xO:eD Tryz.prog 97 1=some (1,1):=by kernel_rfl
theorem sO:eD Tryz.prog 97 2=some (2,1):=by kernel_rfl
theorem tb:yc Tryz.prog 130 L.enc:=by
 refine⟨λw em x=>?_,⟨_,Tryz.underlying130,.inl λx y=>rfl⟩,λw x y=>?_,λx=>by simp[L.enc,Instr.sameBits]⟩
 ·show(Instr.checkKey em (9999+1) 130 (.agg _)).run Tryz.prog w=_
  rw[uI w em 9999 130 _ (by kernel_rfl)]
  simp[go_sem,Program.fieldsOf,ud,sF _ em 9998 2 .i64 _ Tryz.underlying2]
 ·obtain⟨a0,a,a2,a3⟩:=x
  obtain⟨b,b1,b2,b3⟩:=y
  refine⟨decide ((⟨a0,a,a2,a3⟩:L)=⟨b,b1,b2,b3⟩),?_,by simp⟩
  show(Op.equalIn 10000 130 (.agg _) (.agg _)).run Tryz.prog w=_
  simp[go_sem,Program.fieldsOf]
  all_goals (repeat (split<;>simp_all))
theorem sG:yc Tryz.prog 207 C.enc:=by
 refine⟨λw em x=>?_,⟨_,Tryz.underlying207,.inl λx y=>rfl⟩,λw x y=>?_,λx=>by simp[C.enc,Instr.sameBits]⟩
 ·show(Instr.checkKey em (9999+1) 207 (.agg _)).run Tryz.prog w=_
  rw[uI w em 9999 207 _ (by kernel_rfl)]
  simp[go_sem,Program.fieldsOf,ud,sF _ em 9998 2 .i64 _ Tryz.underlying2]
 ·obtain⟨a0,a,a2⟩:=x
  obtain⟨b,b1,b2⟩:=y
  refine⟨decide ((⟨a0,a,a2⟩:C)=⟨b,b1,b2⟩),?_,by simp⟩
  show(Op.equalIn 10000 207 (.agg _) (.agg _)).run Tryz.prog w=_
  simp[go_sem,Program.fieldsOf]
  all_goals (repeat (split<;>simp_all))
theorem KU:yc Tryz.prog 3 (Value.int .i64):=Kk Tryz.underlying3
theorem Lg (b:Nat)(a0:Value)(a:Value): ∀w,(callMethod (.iface 83 (.pointer (some ⟨b,0,none⟩))) "loop.example/g01079/impl.config" #[a0,a]).run Tryz.prog w=.ok (.enter 264 #[.pointer (some ⟨b,0,none⟩),a0,a]) w:=λw=>by kernel_rfl
theorem KZ (b:Nat)(a0:Value)(a:Value)(a2:Value): ∀w,(callMethod (.iface 83 (.pointer (some ⟨b,0,none⟩))) "loop.example/g01079/impl.step" #[a0,a,a2]).run Tryz.prog w=.ok (.enter 265 #[.pointer (some ⟨b,0,none⟩),a0,a,a2]) w:=λw=>by kernel_rfl
theorem Ef {n:Fr}{A:Nat->Prop}{w0:World}{ρ:Env}{Γ:Ctx}{d:Option Nat}{ty:TypeId}{pos:String}{after:Array Edge}{g:Option (Nat×Bool)}{x y:Operand}{u:TypeId}{a0 c a2 a3 b b1 b2 b3:Int}(e:ev ρ x=some (.agg #[.int .i64 a0,.int .i64 c,.int .i64 a2,.int .i64 a3]))(f:ev ρ y=some (.agg #[.int .i64 b,.int .i64 b1,.int .i64 b2,.int .i64 b3])):
  Ex Tryz.prog n A w0 ρ Γ ⟨d,.binOp .neq 130 x y u,ty,pos,after,g⟩ (.bool (!(decide ((⟨a0,c,a2,a3⟩:L)=⟨b,b1,b2,b3⟩)))):=by
 intro a w hs i
 simp only[execOp,hs.eval e,hs.eval f]
 simp[eqGuard,go_sem,Program.fieldsOf]
 by_cases h:a0=b<;>simp[h]
 all_goals (repeat (split<;>simp_all))
theorem zG {n:Fr}{A:Nat->Prop}{w0:World}{ρ:Env}{Γ:Ctx}{d:Option Nat}{ty:TypeId}{pos:String}{after:Array Edge}{g:Option (Nat×Bool)}{x y:Operand}{u:TypeId}{a0 c a2 b b1 b2:Int}(e:ev ρ x=some (.agg #[.int .i64 a0,.int .i64 c,.int .i64 a2]))(f:ev ρ y=some (.agg #[.int .i64 b,.int .i64 b1,.int .i64 b2])):
  Ex Tryz.prog n A w0 ρ Γ ⟨d,.binOp .neq 62 x y u,ty,pos,after,g⟩ (.bool (!(decide ((⟨a0,c,a2⟩:ai)=⟨b,b1,b2⟩)))):=by
 intro a w hs i
 simp only[execOp,hs.eval e,hs.eval f]
 simp[eqGuard,go_sem,Program.fieldsOf]
 by_cases h:a0=b<;>simp[h]
 all_goals (repeat (split<;>simp_all))
theorem LJ:qX Tryz.prog 120 [.int .i64 0,.int .i64 0,.slice none 0 0,.slice none 0 0,.map none]:=⟨⟨_,_,Tryz.underlying120,(show fu Tryz.prog 120=some (.agg #[.int .i64 0,.int .i64 0,.slice none 0 0,.slice none 0 0,.map none])by kernel_rfl),rfl,by kernel_rfl⟩⟩
theorem LG:qX Tryz.prog 128 [.int .i64 0,.int .i64 0,.slice none 0 0,.slice none 0 0,.map none]:=⟨⟨_,_,Tryz.underlying128,(show fu Tryz.prog 128=some (.agg #[.int .i64 0,.int .i64 0,.slice none 0 0,.slice none 0 0,.map none])by kernel_rfl),rfl,by kernel_rfl⟩⟩
theorem Ap:qX Tryz.prog 130 [.int .i64 0,.int .i64 0,.int .i64 0,.int .i64 0]:=⟨⟨_,_,Tryz.underlying130,(show fu Tryz.prog 130=some (.agg #[.int .i64 0,.int .i64 0,.int .i64 0,.int .i64 0])by kernel_rfl),rfl,by kernel_rfl⟩⟩
theorem Pq:qX Tryz.prog 138 [.slice none 0 0,.int .i64 0,.int .u64 0]:=⟨⟨_,_,Tryz.underlying138,(show fu Tryz.prog 138=some (.agg #[.slice none 0 0,.int .i64 0,.int .u64 0])by kernel_rfl),rfl,by kernel_rfl⟩⟩
theorem PN:qX Tryz.prog 162 [.int .i64 0,.int .i64 0,.slice none 0 0,.int .i64 0,.slice none 0 0,.slice none 0 0]:=⟨⟨_,_,Tryz.underlying162,(show fu Tryz.prog 162=some (.agg #[.int .i64 0,.int .i64 0,.slice none 0 0,.int .i64 0,.slice none 0 0,.slice none 0 0])by kernel_rfl),rfl,by kernel_rfl⟩⟩
theorem Cd:qX Tryz.prog 167 [.int .i64 0,.slice none 0 0]:=⟨⟨_,_,Tryz.underlying167,(show fu Tryz.prog 167=some (.agg #[.int .i64 0,.slice none 0 0])by kernel_rfl),rfl,by kernel_rfl⟩⟩
theorem ui:qX Tryz.prog 189 [.slice none 0 0,.slice none 0 0]:=⟨⟨_,_,Tryz.underlying189,(show fu Tryz.prog 189=some (.agg #[.slice none 0 0,.slice none 0 0])by kernel_rfl),rfl,by kernel_rfl⟩⟩
theorem yR:qX Tryz.prog 207 [.int .i64 0,.int .i64 0,.int .i64 0]:=⟨⟨_,_,Tryz.underlying207,(show fu Tryz.prog 207=some (.agg #[.int .i64 0,.int .i64 0,.int .i64 0])by kernel_rfl),rfl,by kernel_rfl⟩⟩
theorem AL:qX Tryz.prog 210 [.int .i64 0,.int .i64 0,.int .i64 0,.int .i64 0,.int .i64 0,.bool false]:=⟨⟨_,_,Tryz.underlying210,(show fu Tryz.prog 210=some (.agg #[.int .i64 0,.int .i64 0,.int .i64 0,.int .i64 0,.int .i64 0,.bool false])by kernel_rfl),rfl,by kernel_rfl⟩⟩
theorem vD:qX Tryz.prog 222 [.int .i64 0,.int .i64 0,.int .i64 0,.int .i64 0,.int .i64 0,.int .i64 0,.bool false]:=⟨⟨_,_,Tryz.underlying222,(show fu Tryz.prog 222=some (.agg #[.int .i64 0,.int .i64 0,.int .i64 0,.int .i64 0,.int .i64 0,.int .i64 0,.bool false])by kernel_rfl),rfl,by kernel_rfl⟩⟩
theorem Pw:qX Tryz.prog 249 [.int .i64 0,.int .i64 0,.int .i64 0,.int .i64 0]:=⟨⟨_,_,Tryz.underlying249,(show fu Tryz.prog 249=some (.agg #[.int .i64 0,.int .i64 0,.int .i64 0,.int .i64 0])by kernel_rfl),rfl,by kernel_rfl⟩⟩
theorem PJ:qX Tryz.prog 257 [.slice none 0 0,.slice none 0 0]:=⟨⟨_,_,Tryz.underlying257,(show fu Tryz.prog 257=some (.agg #[.slice none 0 0,.slice none 0 0])by kernel_rfl),rfl,by kernel_rfl⟩⟩
theorem Ac:qX Tryz.prog 26 [.int .i64 0,.int .i64 0,.slice none 0 0]:=⟨⟨_,_,Tryz.underlying26,(show fu Tryz.prog 26=some (.agg #[.int .i64 0,.int .i64 0,.slice none 0 0])by kernel_rfl),rfl,by kernel_rfl⟩⟩
theorem AA:qX Tryz.prog 260 [.int .i64 0]:=⟨⟨_,_,Tryz.underlying260,(show fu Tryz.prog 260=some (.agg #[.int .i64 0])by kernel_rfl),rfl,by kernel_rfl⟩⟩
theorem dB:qX Tryz.prog 29 [.int .i64 0,.slice none 0 0,.slice none 0 0]:=⟨⟨_,_,Tryz.underlying29,(show fu Tryz.prog 29=some (.agg #[.int .i64 0,.slice none 0 0,.slice none 0 0])by kernel_rfl),rfl,by kernel_rfl⟩⟩
theorem qT:qX Tryz.prog 62 [.int .i64 0,.int .i64 0,.int .i64 0]:=⟨⟨_,_,Tryz.underlying62,(show fu Tryz.prog 62=some (.agg #[.int .i64 0,.int .i64 0,.int .i64 0])by kernel_rfl),rfl,by kernel_rfl⟩⟩
theorem Qh:qX Tryz.prog 85 [.int .i64 0,.bool false]:=⟨⟨_,_,Tryz.underlying85,(show fu Tryz.prog 85=some (.agg #[.int .i64 0,.bool false])by kernel_rfl),rfl,by kernel_rfl⟩⟩
theorem C9:qX Tryz.prog 93 [.int .i64 0,.int .i64 0]:=⟨⟨_,_,Tryz.underlying93,(show fu Tryz.prog 93=some (.agg #[.int .i64 0,.int .i64 0])by kernel_rfl),rfl,by kernel_rfl⟩⟩
theorem CG:qX Tryz.prog 97 [.int .i64 0,.int .i64 0,.slice none 0 0]:=⟨⟨_,_,Tryz.underlying97,(show fu Tryz.prog 97=some (.agg #[.int .i64 0,.int .i64 0,.slice none 0 0])by kernel_rfl),rfl,by kernel_rfl⟩⟩
theorem wG:cg Tryz.prog 1=some (1,false):=by kernel_rfl
theorem Ip:cg Tryz.prog 113=some (1,false):=by kernel_rfl
theorem ya:cg Tryz.prog 114=some (1,false):=by kernel_rfl
theorem iC:cg Tryz.prog 117=some (1,false):=by kernel_rfl
theorem vA:cg Tryz.prog 118=some (1,false):=by kernel_rfl
theorem AO:cg Tryz.prog 122=some (1,false):=by kernel_rfl
theorem ib:cg Tryz.prog 125=some (1,false):=by kernel_rfl
theorem vw:cg Tryz.prog 126=some (1,false):=by kernel_rfl
theorem dC:cg Tryz.prog 130=some (4,true):=by kernel_rfl
theorem HA:cg Tryz.prog 136=some (1,false):=by kernel_rfl
theorem H7:cg Tryz.prog 152=some (1,false):=by kernel_rfl
theorem HU:cg Tryz.prog 154=some (2,true):=by kernel_rfl
theorem iy:cg Tryz.prog 167=some (2,true):=by kernel_rfl
theorem nM:cg Tryz.prog 179=some (1,false):=by kernel_rfl
theorem EE:cg Tryz.prog 180=some (1,false):=by kernel_rfl
theorem fI:cg Tryz.prog 189=some (2,true):=by kernel_rfl
theorem d:cg Tryz.prog 2=some (1,false):=by kernel_rfl
theorem eO:cg Tryz.prog 207=some (3,true):=by kernel_rfl
theorem gI:cg Tryz.prog 210=some (6,true):=by kernel_rfl
theorem tF:cg Tryz.prog 22=some (1,false):=by kernel_rfl
theorem kJ:cg Tryz.prog 222=some (7,true):=by kernel_rfl
theorem fC:cg Tryz.prog 24=some (1,false):=by kernel_rfl
theorem mZ:cg Tryz.prog 249=some (4,true):=by kernel_rfl
theorem BR:cg Tryz.prog 255=some (1,false):=by kernel_rfl
theorem iF:cg Tryz.prog 258=some (1,false):=by kernel_rfl
theorem bO:cg Tryz.prog 26=some (3,true):=by kernel_rfl
theorem jd:cg Tryz.prog 267=some (1,false):=by kernel_rfl
theorem aS:cg Tryz.prog 27=some (1,false):=by kernel_rfl
theorem g:cg Tryz.prog 29=some (3,true):=by kernel_rfl
theorem wS:cg Tryz.prog 3=some (1,false):=by kernel_rfl
theorem Kf:cg Tryz.prog 37=some (1,false):=by kernel_rfl
theorem wO:cg Tryz.prog 4=some (1,false):=by kernel_rfl
theorem CS:cg Tryz.prog 42=some (1,false):=by kernel_rfl
theorem da:cg Tryz.prog 49=some (1,false):=by kernel_rfl
theorem GW:cg Tryz.prog 5=some (1,false):=by kernel_rfl
theorem bJ:cg Tryz.prog 62=some (3,true):=by kernel_rfl
theorem iK:cg Tryz.prog 74=some (1,false):=by kernel_rfl
theorem vP:cg Tryz.prog 80=some (1,false):=by kernel_rfl
theorem kH:cg Tryz.prog 87=some (1,false):=by kernel_rfl
theorem gX:cg Tryz.prog 9=some (1,false):=by kernel_rfl
theorem gU:cg Tryz.prog 93=some (2,true):=by kernel_rfl
theorem pz:cg Tryz.prog 97=some (3,true):=by kernel_rfl
theorem Bc:fu Tryz.prog 1=some (.nilFunc):=by kernel_rfl
theorem Ih:fu Tryz.prog 114=some (.pointer none):=by kernel_rfl
theorem LY:fu Tryz.prog 122=some (.pointer none):=by kernel_rfl
theorem lk:fu Tryz.prog 130=some (.agg #[.int .i64 0,.int .i64 0,.int .i64 0,.int .i64 0]):=by kernel_rfl
theorem OZ:fu Tryz.prog 154=some (.agg #[.pointer none,.slice none 0 0]):=by kernel_rfl
theorem BX:fu Tryz.prog 167=some (.agg #[.int .i64 0,.slice none 0 0]):=by kernel_rfl
theorem iX:fu Tryz.prog 189=some (.agg #[.slice none 0 0,.slice none 0 0]):=by kernel_rfl
theorem bz:fu Tryz.prog 2=some (.int .i64 0):=by kernel_rfl
theorem nJ:fu Tryz.prog 207=some (.agg #[.int .i64 0,.int .i64 0,.int .i64 0]):=by kernel_rfl
theorem Au:fu Tryz.prog 210=some (.agg #[.int .i64 0,.int .i64 0,.int .i64 0,.int .i64 0,.int .i64 0,.bool false]):=by kernel_rfl
theorem ED:fu Tryz.prog 222=some (.agg #[.int .i64 0,.int .i64 0,.int .i64 0,.int .i64 0,.int .i64 0,.int .i64 0,.bool false]):=by kernel_rfl
theorem wV:fu Tryz.prog 249=some (.agg #[.int .i64 0,.int .i64 0,.int .i64 0,.int .i64 0]):=by kernel_rfl
theorem Ai:fu Tryz.prog 258=some (.pointer none):=by kernel_rfl
theorem Ad:fu Tryz.prog 26=some (.agg #[.int .i64 0,.int .i64 0,.slice none 0 0]):=by kernel_rfl
theorem nf:fu Tryz.prog 267=some (.nilFunc):=by kernel_rfl
theorem vW:fu Tryz.prog 27=some (.slice none 0 0):=by kernel_rfl
theorem hU:fu Tryz.prog 29=some (.agg #[.int .i64 0,.slice none 0 0,.slice none 0 0]):=by kernel_rfl
theorem Qx:fu Tryz.prog 3=some (.int .i64 0):=by kernel_rfl
theorem Qg:fu Tryz.prog 37=some (.nilFunc):=by kernel_rfl
theorem QA:fu Tryz.prog 4=some (.bool false):=by kernel_rfl
theorem Qt:fu Tryz.prog 42=some (.slice none 0 0):=by kernel_rfl
theorem BE:fu Tryz.prog 49=some (.slice none 0 0):=by kernel_rfl
theorem L7:fu Tryz.prog 5=some (.int .u8 0):=by kernel_rfl
theorem fx:fu Tryz.prog 62=some (.agg #[.int .i64 0,.int .i64 0,.int .i64 0]):=by kernel_rfl
theorem KO:fu Tryz.prog 74=some (.pointer none):=by kernel_rfl
theorem NU:fu Tryz.prog 87=some (.slice none 0 0):=by kernel_rfl
theorem kN:fu Tryz.prog 9=some (.string ⟨#[]⟩):=by kernel_rfl
theorem xa:fu Tryz.prog 93=some (.agg #[.int .i64 0,.int .i64 0]):=by kernel_rfl
theorem FY:fu Tryz.prog 97=some (.agg #[.int .i64 0,.int .i64 0,.slice none 0 0]):=by kernel_rfl
end Go.Proofs.YtapnabgdcndleaaGreatDoor
