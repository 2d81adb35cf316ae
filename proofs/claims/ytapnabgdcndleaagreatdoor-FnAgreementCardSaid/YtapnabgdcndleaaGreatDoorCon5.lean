/-
  Each function of the program computes what its plain function says: printed by program. No condition.
-/
import Derived.Test.YtapnabgdcndleaaGreatDoorFn
import Derived.Test.YtapnabgdcndleaaGreatDoorSh
import Derived.Test.YtapnabgdcndleaaGreatDoorInf
import Derived.Test.YtapnabgdcndleaaGreatDoorCon3
import Derived.Test.YtapnabgdcndleaaGreatDoorCon4
import Derived.Test.YtapnabgdcndleaaGreatDoorAsmC
namespace Go.Proofs.YtapnabgdcndleaaGreatDoor
open Go Go.Tc Go.Fn
set_option linter.unusedVariables false
set_option maxHeartbeats 40000000
set_option maxRecDepth 100000
variable {A:Nat->Prop}{w:World}[Old A w]
theorem zO {bu:Value}{J:O}(cr:Rd A w bu J){bv:Value}{p1:U}(cs:Rd A w bv p1){p2:Int}: ∀r:U×Int×Bool×Int,lC J p1 p2=some r->cy Tryz.prog 37 [bu,bv,Y p2] A w (λx_:Value×Value=>.tuple #[.agg #[Y r.1.State,x_.1,x_.2],Y r.2.1,.bool r.2.2.1,Y r.2.2.2]) (λx_=>[.ow 2 x_.1 r.1.Left,.ow 2 x_.2 r.1.ak]):=by
 obtain⟨a3,rfl,a4⟩:=O.open cr
 obtain⟨c1,c2,rfl,a5,a6⟩:=U.open cs
 refine dq Tryz.func37 Tryz.ntmps37 l (((S0.ao l a4).ao l a5).ao l a6)<|sr<|cu l (a8 cI cI (cR 2 l)) λb1=>cu l (a8 cI (cR 2 l) (cR 1 l)) λb2=>c6 hU l λb3=>aT l<|o l<|bB<|m 2 bO l<|m 1 g l<|dt l Tryz.call32 (λw a=>fb (O.aG Ri Ri (a.a7 5 l)) (U.aG Ri (a.a7 4 l) (a.a7 3 l))) λr4 _=>bG l<|jG l (λh6=>sr<|ql (aC dB l .nil (λw a=>trivial))<|aR 0 g l (a8 cI cS cS) l<|aT l<|o l<|bQ<|db<|db<|m4 l (aD 2 l l g l) (f l) (f l) (f l) (N0,N0) [1,0]) λh6=>vf<|u l<|dt l Tryz.call33 (λw a=>qB) λr7 _=>?_
 refine bG l<|jG l (λh9=>sr<|ql (aC dB l .nil (λw a=>trivial))<|aR 0 g l (a8 cI cS cS) l<|aT l<|o l<|bQ<|db<|db<|m4 l (aD 2 l l g l) (f l) (f l) (f l) (N0,N0) [1,0]) λh9=>dQ<|m 2 bO l<|gD l Tryz.call41 (λw a=>re _ w Kn _ _ (O.aG Ri Ri (a.a7 5 l))) λa9 ⟨D,au⟩=>u l<|cQ l<|cz l<|c6 vW l λbb=>o l<|aR 0 aS l (cO 2 l) l<|o l<|bB<|u l<|cW l<|jG l (λct=>sr<|ql (aC dB l .nil (λw a=>trivial))<|u l<|aR 3 g l (a8 cI cS cS) l<|aT l<|o l<|bQ<|db<|db<|m4 l (aD 5 l l g l) (f l) (f l) (f l) (N0,N0) [1,0]) λct=>aV ?_
 refine T<|sr<|m 5 bO l<|M 0 aS l<|m 4 g l<|gD l Tryz.call94 (λw a=>zb (O.aG Ri Ri (a.a7 8 l)) (a.bV 2 l) (U.aG Ri (a.a7 7 l) (a.a7 6 l))) λbw ar=>u l<|cQ l<|c6 BX l λbC=>aR 0 iy l (oB cI (cO 1 l)) l<|o l<|bB<|u l<|cW l<|jG l (λcv=>sr<|ql (aC dB l .nil (λw a=>trivial))<|u l<|aR 5 g l (a8 cI cS cS) l<|aT l<|o l<|bQ<|db<|db<|m4 l (aD 7 l l g l) (f l) (f l) (f l) (N0,N0) [1,0]) λcv=>dQ<|ql (aC dB l .nil (λw a=>trivial))<|c6 hU l λbc=>?_
 refine c6 bz l λbd=>aR 1 g l (a8 cI cS cS) l<|aR 0 d l cI l<|bA<|ba l<|ql (dF l)<|pC Tryz.call95 Tryz.func95 Tryz.ntmps95 l λK_ b=>sr<|aT l<|o l<|bA<|o l<|nt<|lE (λw a=>SH.iV (α:=Int) 2 a)<|lE (λw a=>SH.iV (α:=Int) 2 a)<|lp (eN J p2 a9) (bw.1.At,bw.1.pd,0,0,([]:(List Int)),([]:(List Int)),0) (N0,N0) (λP g24=>[(0,D),(1,Pt bC),(2,Y p2),(3,.func (.func 96) #[] #[Pt bb,Pt bd,Pt b1,Pt bc]),(11,Y P.2.2.2.2.2.2)]) (λP g24=>[.ow 249 D a9.1,.ow 2 ar P.2.1,.bx bC 167 [Y P.1,ar],.ow 2 au a9.2.1,.bx bb 27 [au],.bx bd 2 [Y P.2.2.1],.rd a3 J.aB,.bx b1 26 [Y J.I,Y J.N,a3],.ow 2 g24.1 P.2.2.2.2.1,.ow 2 g24.2 P.2.2.2.2.2.1,.bx bc 29 [Y P.2.2.2.1,g24.1,g24.2],.bx b3 29 [Y 0,N0,N0]]) [7,5,4,8,6,2,14,11,1,0,3,9] (λP g24=>?_) (λP g24=>?_)
 ·obtain⟨c,h⟩:=g24
  refine al<|aN<|sr<|ba l<|ay l<|m 2 iy l<|j4 (args:=[_]) (caps:=[Pt bb,Pt bd,Pt b1,Pt bc]) (X l) l Tryz.call96 l l Tryz.func96 l Tryz.ntmps96 l l λK_ ai=>sr<|cu l (oB cI (cO 1 l)) λdK=>bB<|M 5 aS l<|F dZ l<|M 0 d l<|dt l Tryz.call97 (λw a=>ml (a.bV 4 l)) λdL _=>u l<|cQ l<|aT l<|cA ?_
  refine W<|u l<|nt<|aH l (λcw=>?_) (λcw=>?_)
  ·refine W<|u l<|aR 6 d l cI l<|bA<|m 8 bO l<|M 5 aS l<|m 0 iy l<|gD l Tryz.call98 (λw a=>tD (O.aG Ri Ri (a.a7 7 l)) (a.bV 4 l) (eK.aG Ri (a.bV 2 l))) λdM ⟨E,G⟩=>u l<|cQ l<|c6 hU l λdN=>aR 0 g l (a8 cI (cO 1 l) (cO 2 l)) l<|o l<|bA<|u l<|nt<|aH l (λcx=>?_) (λcx=>?_)
   ·refine W<|m 0 g l<|aR 14 g l (a8 cI (cO 1 l) (cO 2 l)) l<|af<|l8 (.inr l) ai l<|cA<|al<|eH<|T0 0 l (H l)<|T0 1 l (q l)<|T0 2 l (e dZ l)<|T0 3 l (p 6 d l)<|T0 4 l (H l)<|nX l λdO cB K=>aF λdP bD=>D1 5<|gv l Tryz.call162 (aX λw a=>cM (a.bV 4 l) _ bD) λ_=>Dk 6 K l (fK l)<|Dk 7 K l (H l)<|mE (λQ=>?_) (λQ=>?_)
    ·refine Dp 8 l Q<|Dp 9 l Q<|Dp 10 l Q<|Dk 11 K l (bj Q l)<|De<|T<|aL l l<|al<|eH<|T0 0 l (H l)<|T0 1 l (H l)<|T0 2 l (q l)<|T0 3 l (e dZ l)<|T0 4 l (p 6 d l)<|T0 5 l (H l)<|nX l λdR cC aj=>aF λdS bE=>D1 6<|gv l Tryz.call162 (aX λw a=>cM (a.bV 4 l) _ bE) λ_=>Dk 7 aj l (fK l)<|Dk 8 aj l (aE l)<|Dk 9 aj l (aE l)<|Dk 10 aj l (aE l)<|De<|T<|e9<|CB<|bq ?_
     refine kr b l (f l) (f l) (f l)<|u l<|cQ l<|cz l<|aT l<|o l<|bB<|u l<|cW l<|nt<|aU l (by decide)<|vf<|u l<|nt<|aH l (λcD=>?_) (λcD=>dQ<|m 14 g l<|ba l<|aR 15 g l (a8 cI (cO 1 l) (cO 2 l)) l<|aT l<|o l<|aK<|m4 l (aD 15 l l g l) (f l) (f l) (f l) (E,G) [1,2])
     exact W<|m 11 bO l<|M 9 d l<|m 6 iy l<|gD l Tryz.call99 (λw a=>eM (O.aG Ri Ri (a.a7 10 l)) (eK.aG Ri (a.bV 5 l))) λdT ⟨be,bf⟩=>aR 16 g l (a8 cI (cO 0 l) (cO 1 l)) l<|bA<|m 16 g l<|ba l<|aR 17 g l (a8 cI (cO 0 l) (cO 1 l)) l<|aT l<|o l<|aK<|m4 l (aD 17 l l g l) (f l) (f l) (f l) (be,bf) [0,1]
    ·refine gb 8 K l (Gd l Q) (H l)<|gb 9 K l (Gd l Q) (H l)<|gb 10 K l (Gd l Q) (fK l)<|Dk 11 K l (bh Q l)<|De<|T<|aH l (λcE=>?_) (λcE=>?_)
     ·refine al<|eH<|T0 0 l (H l)<|T0 1 l (H l)<|T0 2 l (q l)<|T0 3 l (e dZ l)<|T0 4 l (p 6 d l)<|T0 5 l (H l)<|nX l λdU cF am=>aF λdV bF=>D1 6<|gv l Tryz.call162 (aX λw a=>cM (a.bV 4 l) _ bF) λ_=>Dk 7 am l (fK l)<|Dk 8 am l (aE l)<|Dk 9 am l (aE l)<|Dk 10 am l (aE l)<|De<|T<|e9<|CB<|bq<|kr b l (f l) (f l) (f l)<|u l<|cQ l<|cz l<|aT l ?_
      refine o l<|bB<|u l<|cW l<|nt<|aU l (by decide)<|vf<|u l<|nt<|aH l (λcG=>?_) (λcG=>dQ<|m 14 g l<|ba l<|aR 15 g l (a8 cI (cO 1 l) (cO 2 l)) l<|aT l<|o l<|aK<|m4 l (aD 15 l l g l) (f l) (f l) (f l) (E,G) [1,2])
      exact W<|m 11 bO l<|M 9 d l<|m 6 iy l<|gD l Tryz.call99 (λw a=>eM (O.aG Ri Ri (a.a7 10 l)) (eK.aG Ri (a.bV 5 l))) λdW ⟨bg,bi⟩=>aR 16 g l (a8 cI (cO 0 l) (cO 1 l)) l<|bA<|m 16 g l<|ba l<|aR 17 g l (a8 cI (cO 0 l) (cO 1 l)) l<|aT l<|o l<|aK<|m4 l (aD 17 l l g l) (f l) (f l) (f l) (bg,bi) [0,1]
     ·refine dQ<|ba l<|pC Tryz.call163 Tryz.func163 Tryz.ntmps163 l λK_ av=>sr<|o l<|bA<|ba l<|ay l<|F dZ l<|M 6 d l<|aq λdX ax=>j0 (v:=D) 4 l ax ?_
      rintro dY cJ rfl
      refine ql (dy 4 Tryz.underlying80 mZ l l l ax)<|st (eS 4 (bX.opens _) mZ l l ax) λ_=>c6 wV l λd0=>aR 0 mZ l (ym cI cI cI cI) l<|cA<|jk [6]<|aJ 0 (rs [0,5,7,16]) [6] l (H l)<|aJ 1 (rs [0,5,7,16]) [6] l (q l)<|aJ 2 (rs [0,5,7,16]) [6] l (e ky l)<|aJ 3 (rs [0,5,7,16]) [6] l (p 6 aS l)<|aJ 4 (rs [0,5,7,16]) [6] l (e xN l)<|aJ 5 (rs [0,5,7,16]) [6] l (p 0 d l)<|cK λd1 n=>uz (v:=ar) 6 l n ?_
      rintro d2 cL rfl
      refine aJ 6 (rs [0,5,7,16]) [6] l (cH Tryz.underlying27 d l l n (by first|rfl|simp))<|aJ 7 (rs [0,5,7,16]) [6] l (aE l)<|bP [] [6] l l l λ_ _ _=>De<|T<|al<|aN<|sr<|F xC l<|M 0 d l<|eE l<|o l<|nt<|aH l (λcN=>?_) (λcN=>?_)
      ·refine sr<|u l<|ay l<|ql (aP 6 d l l n)<|aM l<|ay l<|sk (fE 6 d l l l n (λw a=>Ri))<|nt<|W<|u l<|F pb l<|M 0 d l<|ay l<|F dZ l<|aR 7 d l cI l<|af<|aw<|T<|sr<|u l<|ay l<|ql (aP 6 d l l (uF n))<|oO l<|o l<|aK ?_
       refine i1 av l<|bG l<|nt<|aH l (λcP=>?_) (λcP=>aV<|aw<|T<|W<|u l<|aM l<|o l<|af<|nx (E,G) (rs [5,12,2,3,15,16]))
       refine sr<|aT l<|o l<|aK<|az<|s<|bq<|kr b l (f l) (f l) (f l)<|u l<|cQ l<|cz l<|aT l<|o l<|bB<|u l<|cW l<|nt<|aL l (by decide)<|al ?_
       exact W<|ql (aC dB l .nil (λw a=>trivial))<|u l<|aR 16 g l (a8 cI cS cS) l<|aT l<|o l<|bQ<|db<|db<|m4 l (aD 18 l l g l) (f l) (f l) (f l) (N0,N0) [1,0]
      ·refine sr<|u l<|ay l<|ql (aP 6 d l l n)<|ja l<|o l<|nt<|aH l (λcT=>?_) (λcT=>?_)
       ·refine sr<|u l<|ay l<|ql (aP 6 d l l n)<|ff l<|ay l<|sk (fE 6 d l l l n (λw a=>Ri))<|nt<|W<|u l<|F pb l<|M 0 d l<|ay l<|F dZ l<|aR 7 d l cI l<|af<|aw<|T<|sr<|u l<|ay l<|ql (aP 6 d l l (uF n))<|oO l<|o l<|aK ?_
        refine i1 av l<|bG l<|nt<|aH l (λcU=>?_) (λcU=>aV<|aw<|T<|W<|u l<|aM l<|o l<|af<|nx (E,G) (rs [5,12,2,3,15,16]))
        refine sr<|aT l<|o l<|aK<|az<|s<|bq<|kr b l (f l) (f l) (f l)<|u l<|cQ l<|cz l<|aT l<|o l<|bB<|u l<|cW l<|nt<|aL l (by decide)<|al ?_
        exact W<|ql (aC dB l .nil (λw a=>trivial))<|u l<|aR 16 g l (a8 cI cS cS) l<|aT l<|o l<|bQ<|db<|db<|m4 l (aD 18 l l g l) (f l) (f l) (f l) (N0,N0) [1,0]
       ·refine W<|u l<|F xS l<|M 0 d l<|ay l<|F dZ l<|aR 7 d l cI l<|af<|aw<|T<|sr<|u l<|ay l<|ql (aP 6 d l l n)<|oO l<|o l<|aK<|i1 av l<|bG l<|nt<|aH l (λcV=>?_) (λcV=>aV<|aw<|T<|W<|u l<|aM l<|o l<|af<|nx (E,G) (rs [5,12,2,3,15,16]))
        refine sr<|aT l<|o l<|aK<|az<|s<|bq<|kr b l (f l) (f l) (f l)<|u l<|cQ l<|cz l<|aT l<|o l<|bB<|u l<|cW l<|nt<|aL l (by decide)<|al ?_
        exact W<|ql (aC dB l .nil (λw a=>trivial))<|u l<|aR 16 g l (a8 cI cS cS) l<|aT l<|o l<|bQ<|db<|db<|m4 l (aD 18 l l g l) (f l) (f l) (f l) (N0,N0) [1,0]
   ·refine aV<|l8 (.inr l) ai l<|cA<|al<|eH<|T0 0 l (H l)<|T0 1 l (q l)<|T0 2 l (e dZ l)<|T0 3 l (p 6 d l)<|T0 4 l (H l)<|nX l λd3 cX L=>aF λd4 bH=>D1 5<|gv l Tryz.call162 (aX λw a=>cM (a.bV 4 l) _ bH) λ_=>Dk 6 L l (fK l)<|Dk 7 L l (H l)<|mE (λR=>?_) (λR=>?_)
    ·refine Dp 8 l R<|Dp 9 l R<|Dp 10 l R<|Dk 11 L l (bj R l)<|De<|T<|aL l l<|al<|eH<|T0 0 l (H l)<|T0 1 l (H l)<|T0 2 l (q l)<|T0 3 l (e dZ l)<|T0 4 l (p 6 d l)<|T0 5 l (H l)<|nX l λd5 cY an=>aF λd6 bI=>D1 6<|gv l Tryz.call162 (aX λw a=>cM (a.bV 4 l) _ bI) λ_=>Dk 7 an l (fK l)<|Dk 8 an l (aE l)<|Dk 9 an l (aE l)<|Dk 10 an l (aE l)<|De<|T<|e9<|CB<|bq ?_
     refine kr b l (f l) (f l) (f l)<|u l<|cQ l<|cz l<|aT l<|o l<|bB<|u l<|cW l<|nt<|aU l (by decide)<|vf<|u l<|nt<|aH l (λcZ=>?_) (λcZ=>dQ<|m 14 g l<|ba l<|aR 15 g l (a8 cI (cO 12 l) (cO 13 l)) l<|aT l<|o l<|aK<|m4 l (aD 15 l l g l) (f l) (f l) (f l) (c,h) [12,13])
     exact W<|m 11 bO l<|M 9 d l<|m 6 iy l<|gD l Tryz.call99 (λw a=>eM (O.aG Ri Ri (a.a7 10 l)) (eK.aG Ri (a.bV 5 l))) λd7 ⟨bk,bl⟩=>aR 16 g l (a8 cI (cO 0 l) (cO 1 l)) l<|bA<|m 16 g l<|ba l<|aR 17 g l (a8 cI (cO 0 l) (cO 1 l)) l<|aT l<|o l<|aK<|m4 l (aD 17 l l g l) (f l) (f l) (f l) (bk,bl) [0,1]
    ·refine gb 8 L l (Gd l R) (H l)<|gb 9 L l (Gd l R) (H l)<|gb 10 L l (Gd l R) (fK l)<|Dk 11 L l (bh R l)<|De<|T<|aH l (λc0=>?_) (λc0=>?_)
     ·refine al<|eH<|T0 0 l (H l)<|T0 1 l (H l)<|T0 2 l (q l)<|T0 3 l (e dZ l)<|T0 4 l (p 6 d l)<|T0 5 l (H l)<|nX l λd8 ce ap=>aF λc3 bm=>D1 6<|gv l Tryz.call162 (aX λw a=>cM (a.bV 4 l) _ bm) λ_=>Dk 7 ap l (fK l)<|Dk 8 ap l (aE l)<|Dk 9 ap l (aE l)<|Dk 10 ap l (aE l)<|De<|T<|e9<|CB<|bq<|kr b l (f l) (f l) (f l)<|u l<|cQ l<|cz l<|aT l ?_
      refine o l<|bB<|u l<|cW l<|nt<|aU l (by decide)<|vf<|u l<|nt<|aH l (λbJ=>?_) (λbJ=>dQ<|m 14 g l<|ba l<|aR 15 g l (a8 cI (cO 12 l) (cO 13 l)) l<|aT l<|o l<|aK<|m4 l (aD 15 l l g l) (f l) (f l) (f l) (c,h) [12,13])
      exact W<|m 11 bO l<|M 9 d l<|m 6 iy l<|gD l Tryz.call99 (λw a=>eM (O.aG Ri Ri (a.a7 10 l)) (eK.aG Ri (a.bV 5 l))) λc4 ⟨aA,aI⟩=>aR 16 g l (a8 cI (cO 0 l) (cO 1 l)) l<|bA<|m 16 g l<|ba l<|aR 17 g l (a8 cI (cO 0 l) (cO 1 l)) l<|aT l<|o l<|aK<|m4 l (aD 17 l l g l) (f l) (f l) (f l) (aA,aI) [0,1]
     ·refine dQ<|ba l<|pC Tryz.call163 Tryz.func163 Tryz.ntmps163 l λK_ ab=>sr<|o l<|bA<|ba l<|ay l<|F dZ l<|M 6 d l<|aq λc5 ac=>j0 (v:=D) 4 l ac ?_
      rintro c7 cf rfl
      refine ql (dy 4 Tryz.underlying80 mZ l l l ac)<|st (eS 4 (bX.opens _) mZ l l ac) λ_=>c6 wV l λc8=>aR 0 mZ l (ym cI cI cI cI) l<|cA<|jk [6]<|aJ 0 (rs [0,5,7,16]) [6] l (H l)<|aJ 1 (rs [0,5,7,16]) [6] l (q l)<|aJ 2 (rs [0,5,7,16]) [6] l (e ky l)<|aJ 3 (rs [0,5,7,16]) [6] l (p 6 aS l)<|aJ 4 (rs [0,5,7,16]) [6] l (e xN l)<|aJ 5 (rs [0,5,7,16]) [6] l (p 0 d l)<|cK λc9 i=>uz (v:=ar) 6 l i ?_
      rintro da cg rfl
      refine aJ 6 (rs [0,5,7,16]) [6] l (cH Tryz.underlying27 d l l i (by first|rfl|simp))<|aJ 7 (rs [0,5,7,16]) [6] l (aE l)<|bP [] [6] l l l λ_ _ _=>De<|T<|al<|aN<|sr<|F xC l<|M 0 d l<|eE l<|o l<|nt<|aH l (λbK=>?_) (λbK=>?_)
      ·refine sr<|u l<|ay l<|ql (aP 6 d l l i)<|aM l<|ay l<|sk (fE 6 d l l l i (λw a=>Ri))<|nt<|W<|u l<|F pb l<|M 0 d l<|ay l<|F dZ l<|aR 7 d l cI l<|af<|aw<|T<|sr<|u l<|ay l<|ql (aP 6 d l l (uF i))<|oO l<|o l<|aK ?_
       refine i1 ab l<|bG l<|nt<|aH l (λbL=>?_) (λbL=>aV<|aw<|T<|W<|u l<|aM l<|o l<|af<|nx (c,h) (rs [5,16]))
       refine sr<|aT l<|o l<|aK<|az<|s<|bq<|kr b l (f l) (f l) (f l)<|u l<|cQ l<|cz l<|aT l<|o l<|bB<|u l<|cW l<|nt<|aL l (by decide)<|al ?_
       exact W<|ql (aC dB l .nil (λw a=>trivial))<|u l<|aR 16 g l (a8 cI cS cS) l<|aT l<|o l<|bQ<|db<|db<|m4 l (aD 18 l l g l) (f l) (f l) (f l) (N0,N0) [1,0]
      ·refine sr<|u l<|ay l<|ql (aP 6 d l l i)<|ja l<|o l<|nt<|aH l (λbM=>?_) (λbM=>?_)
       ·refine sr<|u l<|ay l<|ql (aP 6 d l l i)<|ff l<|ay l<|sk (fE 6 d l l l i (λw a=>Ri))<|nt<|W<|u l<|F pb l<|M 0 d l<|ay l<|F dZ l<|aR 7 d l cI l<|af<|aw<|T<|sr<|u l<|ay l<|ql (aP 6 d l l (uF i))<|oO l<|o l<|aK ?_
        refine i1 ab l<|bG l<|nt<|aH l (λbN=>?_) (λbN=>aV<|aw<|T<|W<|u l<|aM l<|o l<|af<|nx (c,h) (rs [5,16]))
        refine sr<|aT l<|o l<|aK<|az<|s<|bq<|kr b l (f l) (f l) (f l)<|u l<|cQ l<|cz l<|aT l<|o l<|bB<|u l<|cW l<|nt<|aL l (by decide)<|al ?_
        exact W<|ql (aC dB l .nil (λw a=>trivial))<|u l<|aR 16 g l (a8 cI cS cS) l<|aT l<|o l<|bQ<|db<|db<|m4 l (aD 18 l l g l) (f l) (f l) (f l) (N0,N0) [1,0]
       ·refine W<|u l<|F xS l<|M 0 d l<|ay l<|F dZ l<|aR 7 d l cI l<|af<|aw<|T<|sr<|u l<|ay l<|ql (aP 6 d l l i)<|oO l<|o l<|aK<|i1 ab l<|bG l<|nt<|aH l (λbR=>?_) (λbR=>aV<|aw<|T<|W<|u l<|aM l<|o l<|af<|nx (c,h) (rs [5,16]))
        refine sr<|aT l<|o l<|aK<|az<|s<|bq<|kr b l (f l) (f l) (f l)<|u l<|cQ l<|cz l<|aT l<|o l<|bB<|u l<|cW l<|nt<|aL l (by decide)<|al ?_
        exact W<|ql (aC dB l .nil (λw a=>trivial))<|u l<|aR 16 g l (a8 cI cS cS) l<|aT l<|o l<|bQ<|db<|db<|m4 l (aD 18 l l g l) (f l) (f l) (f l) (N0,N0) [1,0]
  ·refine dQ<|m 8 bO l<|M 5 aS l<|m 0 iy l<|gD l Tryz.call98 (λw a=>tD (O.aG Ri Ri (a.a7 7 l)) (a.bV 4 l) (eK.aG Ri (a.bV 2 l))) λdc ⟨y,z⟩=>u l<|cQ l<|c6 hU l λdd=>aR 0 g l (a8 cI (cO 1 l) (cO 2 l)) l<|o l<|bA<|u l<|nt<|aH l (λbS=>?_) (λbS=>?_)
   ·refine W<|m 0 g l<|aR 14 g l (a8 cI (cO 1 l) (cO 2 l)) l<|af<|l8 (.inr l) ai l<|cA<|al<|eH<|T0 0 l (H l)<|T0 1 l (q l)<|T0 2 l (e dZ l)<|T0 3 l (p 6 d l)<|T0 4 l (H l)<|nX l λde ch t=>aF λdf bn=>D1 5<|gv l Tryz.call162 (aX λw a=>cM (a.bV 4 l) _ bn) λ_=>Dk 6 t l (fK l)<|Dk 7 t l (H l)<|mE (λB=>?_) (λB=>?_)
    ·refine Dp 8 l B<|Dp 9 l B<|Dp 10 l B<|Dk 11 t l (bj B l)<|De<|T<|aL l l<|al<|eH<|T0 0 l (H l)<|T0 1 l (H l)<|T0 2 l (q l)<|T0 3 l (e dZ l)<|T0 4 l (p 6 d l)<|T0 5 l (H l)<|nX l λdg ci S=>aF λdh bo=>D1 6<|gv l Tryz.call162 (aX λw a=>cM (a.bV 4 l) _ bo) λ_=>Dk 7 S l (fK l)<|Dk 8 S l (aE l)<|Dk 9 S l (aE l)<|Dk 10 S l (aE l)<|De<|T<|e9<|CB<|bq ?_
     refine kr b l (f l) (f l) (f l)<|u l<|cQ l<|cz l<|aT l<|o l<|bB<|u l<|cW l<|nt<|aU l (by decide)<|vf<|u l<|nt<|aH l (λbT=>?_) (λbT=>dQ<|m 14 g l<|ba l<|aR 15 g l (a8 cI (cO 1 l) (cO 2 l)) l<|aT l<|o l<|aK<|m4 l (aD 15 l l g l) (f l) (f l) (f l) (y,z) [1,2])
     exact W<|m 11 bO l<|M 9 d l<|m 6 iy l<|gD l Tryz.call99 (λw a=>eM (O.aG Ri Ri (a.a7 10 l)) (eK.aG Ri (a.bV 5 l))) λdi ⟨aO,aQ⟩=>aR 16 g l (a8 cI (cO 0 l) (cO 1 l)) l<|bA<|m 16 g l<|ba l<|aR 17 g l (a8 cI (cO 0 l) (cO 1 l)) l<|aT l<|o l<|aK<|m4 l (aD 17 l l g l) (f l) (f l) (f l) (aO,aQ) [0,1]
    ·refine gb 8 t l (Gd l B) (H l)<|gb 9 t l (Gd l B) (H l)<|gb 10 t l (Gd l B) (fK l)<|Dk 11 t l (bh B l)<|De<|T<|aH l (λbU=>?_) (λbU=>?_)
     ·refine al<|eH<|T0 0 l (H l)<|T0 1 l (H l)<|T0 2 l (q l)<|T0 3 l (e dZ l)<|T0 4 l (p 6 d l)<|T0 5 l (H l)<|nX l λdj cj V=>aF λdk bp=>D1 6<|gv l Tryz.call162 (aX λw a=>cM (a.bV 4 l) _ bp) λ_=>Dk 7 V l (fK l)<|Dk 8 V l (aE l)<|Dk 9 V l (aE l)<|Dk 10 V l (aE l)<|De<|T<|e9<|CB<|bq<|kr b l (f l) (f l) (f l)<|u l<|cQ l<|cz l<|aT l ?_
      refine o l<|bB<|u l<|cW l<|nt<|aU l (by decide)<|vf<|u l<|nt<|aH l (λbW=>?_) (λbW=>dQ<|m 14 g l<|ba l<|aR 15 g l (a8 cI (cO 1 l) (cO 2 l)) l<|aT l<|o l<|aK<|m4 l (aD 15 l l g l) (f l) (f l) (f l) (y,z) [1,2])
      exact W<|m 11 bO l<|M 9 d l<|m 6 iy l<|gD l Tryz.call99 (λw a=>eM (O.aG Ri Ri (a.a7 10 l)) (eK.aG Ri (a.bV 5 l))) λdl ⟨aW,aY⟩=>aR 16 g l (a8 cI (cO 0 l) (cO 1 l)) l<|bA<|m 16 g l<|ba l<|aR 17 g l (a8 cI (cO 0 l) (cO 1 l)) l<|aT l<|o l<|aK<|m4 l (aD 17 l l g l) (f l) (f l) (f l) (aW,aY) [0,1]
     ·refine dQ<|ba l<|pC Tryz.call163 Tryz.func163 Tryz.ntmps163 l λK_ ad=>sr<|o l<|bA<|ba l<|ay l<|F dZ l<|M 6 d l<|aq λdm ae=>j0 (v:=D) 4 l ae ?_
      rintro dn ck rfl
      refine ql (dy 4 Tryz.underlying80 mZ l l l ae)<|st (eS 4 (bX.opens _) mZ l l ae) λ_=>c6 wV l λdp=>aR 0 mZ l (ym cI cI cI cI) l<|cA<|jk [6]<|aJ 0 (rs [0,5,7,16]) [6] l (H l)<|aJ 1 (rs [0,5,7,16]) [6] l (q l)<|aJ 2 (rs [0,5,7,16]) [6] l (e ky l)<|aJ 3 (rs [0,5,7,16]) [6] l (p 6 aS l)<|aJ 4 (rs [0,5,7,16]) [6] l (e xN l)<|aJ 5 (rs [0,5,7,16]) [6] l (p 0 d l)<|cK λdr j=>uz (v:=ar) 6 l j ?_
      rintro ds cl rfl
      refine aJ 6 (rs [0,5,7,16]) [6] l (cH Tryz.underlying27 d l l j (by first|rfl|simp))<|aJ 7 (rs [0,5,7,16]) [6] l (aE l)<|bP [] [6] l l l λ_ _ _=>De<|T<|al<|aN<|sr<|F xC l<|M 0 d l<|eE l<|o l<|nt<|aH l (λbY=>?_) (λbY=>?_)
      ·refine sr<|u l<|ay l<|ql (aP 6 d l l j)<|aM l<|ay l<|sk (fE 6 d l l l j (λw a=>Ri))<|nt<|W<|u l<|F pb l<|M 0 d l<|ay l<|F dZ l<|aR 7 d l cI l<|af<|aw<|T<|sr<|u l<|ay l<|ql (aP 6 d l l (uF j))<|oO l<|o l<|aK ?_
       refine i1 ad l<|bG l<|nt<|aH l (λbZ=>?_) (λbZ=>aV<|aw<|T<|W<|u l<|aM l<|o l<|af<|nx (y,z) (rs [5,12,2,3,15,16]))
       refine sr<|aT l<|o l<|aK<|az<|s<|bq<|kr b l (f l) (f l) (f l)<|u l<|cQ l<|cz l<|aT l<|o l<|bB<|u l<|cW l<|nt<|aL l (by decide)<|al ?_
       exact W<|ql (aC dB l .nil (λw a=>trivial))<|u l<|aR 16 g l (a8 cI cS cS) l<|aT l<|o l<|bQ<|db<|db<|m4 l (aD 18 l l g l) (f l) (f l) (f l) (N0,N0) [1,0]
      ·refine sr<|u l<|ay l<|ql (aP 6 d l l j)<|ja l<|o l<|nt<|aH l (λb0=>?_) (λb0=>?_)
       ·refine sr<|u l<|ay l<|ql (aP 6 d l l j)<|ff l<|ay l<|sk (fE 6 d l l l j (λw a=>Ri))<|nt<|W<|u l<|F pb l<|M 0 d l<|ay l<|F dZ l<|aR 7 d l cI l<|af<|aw<|T<|sr<|u l<|ay l<|ql (aP 6 d l l (uF j))<|oO l<|o l<|aK ?_
        refine i1 ad l<|bG l<|nt<|aH l (λb4=>?_) (λb4=>aV<|aw<|T<|W<|u l<|aM l<|o l<|af<|nx (y,z) (rs [5,12,2,3,15,16]))
        refine sr<|aT l<|o l<|aK<|az<|s<|bq<|kr b l (f l) (f l) (f l)<|u l<|cQ l<|cz l<|aT l<|o l<|bB<|u l<|cW l<|nt<|aL l (by decide)<|al ?_
        exact W<|ql (aC dB l .nil (λw a=>trivial))<|u l<|aR 16 g l (a8 cI cS cS) l<|aT l<|o l<|bQ<|db<|db<|m4 l (aD 18 l l g l) (f l) (f l) (f l) (N0,N0) [1,0]
       ·refine W<|u l<|F xS l<|M 0 d l<|ay l<|F dZ l<|aR 7 d l cI l<|af<|aw<|T<|sr<|u l<|ay l<|ql (aP 6 d l l j)<|oO l<|o l<|aK<|i1 ad l<|bG l<|nt<|aH l (λb5=>?_) (λb5=>aV<|aw<|T<|W<|u l<|aM l<|o l<|af<|nx (y,z) (rs [5,12,2,3,15,16]))
        refine sr<|aT l<|o l<|aK<|az<|s<|bq<|kr b l (f l) (f l) (f l)<|u l<|cQ l<|cz l<|aT l<|o l<|bB<|u l<|cW l<|nt<|aL l (by decide)<|al ?_
        exact W<|ql (aC dB l .nil (λw a=>trivial))<|u l<|aR 16 g l (a8 cI cS cS) l<|aT l<|o l<|bQ<|db<|db<|m4 l (aD 18 l l g l) (f l) (f l) (f l) (N0,N0) [1,0]
   ·refine aV<|l8 (.inr l) ai l<|cA<|al<|eH<|T0 0 l (H l)<|T0 1 l (q l)<|T0 2 l (e dZ l)<|T0 3 l (p 6 d l)<|T0 4 l (H l)<|nX l λdu cm x=>aF λdv br=>D1 5<|gv l Tryz.call162 (aX λw a=>cM (a.bV 4 l) _ br) λ_=>Dk 6 x l (fK l)<|Dk 7 x l (H l)<|mE (λC=>?_) (λC=>?_)
    ·refine Dp 8 l C<|Dp 9 l C<|Dp 10 l C<|Dk 11 x l (bj C l)<|De<|T<|aL l l<|al<|eH<|T0 0 l (H l)<|T0 1 l (H l)<|T0 2 l (q l)<|T0 3 l (e dZ l)<|T0 4 l (p 6 d l)<|T0 5 l (H l)<|nX l λdw cn Z=>aF λdx bs=>D1 6<|gv l Tryz.call162 (aX λw a=>cM (a.bV 4 l) _ bs) λ_=>Dk 7 Z l (fK l)<|Dk 8 Z l (aE l)<|Dk 9 Z l (aE l)<|Dk 10 Z l (aE l)<|De<|T<|e9<|CB<|bq ?_
     refine kr b l (f l) (f l) (f l)<|u l<|cQ l<|cz l<|aT l<|o l<|bB<|u l<|cW l<|nt<|aU l (by decide)<|vf<|u l<|nt<|aH l (λb6=>?_) (λb6=>dQ<|m 14 g l<|ba l<|aR 15 g l (a8 cI (cO 12 l) (cO 13 l)) l<|aT l<|o l<|aK<|m4 l (aD 15 l l g l) (f l) (f l) (f l) (c,h) [12,13])
     exact W<|m 11 bO l<|M 9 d l<|m 6 iy l<|gD l Tryz.call99 (λw a=>eM (O.aG Ri Ri (a.a7 10 l)) (eK.aG Ri (a.bV 5 l))) λdz ⟨aZ,a0⟩=>aR 16 g l (a8 cI (cO 0 l) (cO 1 l)) l<|bA<|m 16 g l<|ba l<|aR 17 g l (a8 cI (cO 0 l) (cO 1 l)) l<|aT l<|o l<|aK<|m4 l (aD 17 l l g l) (f l) (f l) (f l) (aZ,a0) [0,1]
    ·refine gb 8 x l (Gd l C) (H l)<|gb 9 x l (Gd l C) (H l)<|gb 10 x l (Gd l C) (fK l)<|Dk 11 x l (bh C l)<|De<|T<|aH l (λb7=>?_) (λb7=>?_)
     ·refine al<|eH<|T0 0 l (H l)<|T0 1 l (H l)<|T0 2 l (q l)<|T0 3 l (e dZ l)<|T0 4 l (p 6 d l)<|T0 5 l (H l)<|nX l λdA co aa=>aF λdC bt=>D1 6<|gv l Tryz.call162 (aX λw a=>cM (a.bV 4 l) _ bt) λ_=>Dk 7 aa l (fK l)<|Dk 8 aa l (aE l)<|Dk 9 aa l (aE l)<|Dk 10 aa l (aE l)<|De<|T<|e9<|CB<|bq<|kr b l (f l) (f l) (f l)<|u l<|cQ l<|cz l<|aT l ?_
      refine o l<|bB<|u l<|cW l<|nt<|aU l (by decide)<|vf<|u l<|nt<|aH l (λb8=>?_) (λb8=>dQ<|m 14 g l<|ba l<|aR 15 g l (a8 cI (cO 12 l) (cO 13 l)) l<|aT l<|o l<|aK<|m4 l (aD 15 l l g l) (f l) (f l) (f l) (c,h) [12,13])
      exact W<|m 11 bO l<|M 9 d l<|m 6 iy l<|gD l Tryz.call99 (λw a=>eM (O.aG Ri Ri (a.a7 10 l)) (eK.aG Ri (a.bV 5 l))) λdD ⟨a1,a2⟩=>aR 16 g l (a8 cI (cO 0 l) (cO 1 l)) l<|bA<|m 16 g l<|ba l<|aR 17 g l (a8 cI (cO 0 l) (cO 1 l)) l<|aT l<|o l<|aK<|m4 l (aD 17 l l g l) (f l) (f l) (f l) (a1,a2) [0,1]
     ·refine dQ<|ba l<|pC Tryz.call163 Tryz.func163 Tryz.ntmps163 l λK_ ag=>sr<|o l<|bA<|ba l<|ay l<|F dZ l<|M 6 d l<|aq λdE ah=>j0 (v:=D) 4 l ah ?_
      rintro dG cp rfl
      refine ql (dy 4 Tryz.underlying80 mZ l l l ah)<|st (eS 4 (bX.opens _) mZ l l ah) λ_=>c6 wV l λdH=>aR 0 mZ l (ym cI cI cI cI) l<|cA<|jk [6]<|aJ 0 (rs [0,5,7,16]) [6] l (H l)<|aJ 1 (rs [0,5,7,16]) [6] l (q l)<|aJ 2 (rs [0,5,7,16]) [6] l (e ky l)<|aJ 3 (rs [0,5,7,16]) [6] l (p 6 aS l)<|aJ 4 (rs [0,5,7,16]) [6] l (e xN l)<|aJ 5 (rs [0,5,7,16]) [6] l (p 0 d l)<|cK λdI k=>uz (v:=ar) 6 l k ?_
      rintro dJ cq rfl
      refine aJ 6 (rs [0,5,7,16]) [6] l (cH Tryz.underlying27 d l l k (by first|rfl|simp))<|aJ 7 (rs [0,5,7,16]) [6] l (aE l)<|bP [] [6] l l l λ_ _ _=>De<|T<|al<|aN<|sr<|F xC l<|M 0 d l<|eE l<|o l<|nt<|aH l (λb9=>?_) (λb9=>?_)
      ·refine sr<|u l<|ay l<|ql (aP 6 d l l k)<|aM l<|ay l<|sk (fE 6 d l l l k (λw a=>Ri))<|nt<|W<|u l<|F pb l<|M 0 d l<|ay l<|F dZ l<|aR 7 d l cI l<|af<|aw<|T<|sr<|u l<|ay l<|ql (aP 6 d l l (uF k))<|oO l<|o l<|aK ?_
       refine i1 ag l<|bG l<|nt<|aH l (λca=>?_) (λca=>aV<|aw<|T<|W<|u l<|aM l<|o l<|af<|nx (c,h) (rs [5,16]))
       refine sr<|aT l<|o l<|aK<|az<|s<|bq<|kr b l (f l) (f l) (f l)<|u l<|cQ l<|cz l<|aT l<|o l<|bB<|u l<|cW l<|nt<|aL l (by decide)<|al ?_
       exact W<|ql (aC dB l .nil (λw a=>trivial))<|u l<|aR 16 g l (a8 cI cS cS) l<|aT l<|o l<|bQ<|db<|db<|m4 l (aD 18 l l g l) (f l) (f l) (f l) (N0,N0) [1,0]
      ·refine sr<|u l<|ay l<|ql (aP 6 d l l k)<|ja l<|o l<|nt<|aH l (λcb=>?_) (λcb=>?_)
       ·refine sr<|u l<|ay l<|ql (aP 6 d l l k)<|ff l<|ay l<|sk (fE 6 d l l l k (λw a=>Ri))<|nt<|W<|u l<|F pb l<|M 0 d l<|ay l<|F dZ l<|aR 7 d l cI l<|af<|aw<|T<|sr<|u l<|ay l<|ql (aP 6 d l l (uF k))<|oO l<|o l<|aK ?_
        refine i1 ag l<|bG l<|nt<|aH l (λcc=>?_) (λcc=>aV<|aw<|T<|W<|u l<|aM l<|o l<|af<|nx (c,h) (rs [5,16]))
        refine sr<|aT l<|o l<|aK<|az<|s<|bq<|kr b l (f l) (f l) (f l)<|u l<|cQ l<|cz l<|aT l<|o l<|bB<|u l<|cW l<|nt<|aL l (by decide)<|al ?_
        exact W<|ql (aC dB l .nil (λw a=>trivial))<|u l<|aR 16 g l (a8 cI cS cS) l<|aT l<|o l<|bQ<|db<|db<|m4 l (aD 18 l l g l) (f l) (f l) (f l) (N0,N0) [1,0]
       ·refine W<|u l<|F xS l<|M 0 d l<|ay l<|F dZ l<|aR 7 d l cI l<|af<|aw<|T<|sr<|u l<|ay l<|ql (aP 6 d l l k)<|oO l<|o l<|aK<|i1 ag l<|bG l<|nt<|aH l (λcd=>?_) (λcd=>aV<|aw<|T<|W<|u l<|aM l<|o l<|af<|nx (c,h) (rs [5,16]))
        refine sr<|aT l<|o l<|aK<|az<|s<|bq<|kr b l (f l) (f l) (f l)<|u l<|cQ l<|cz l<|aT l<|o l<|bB<|u l<|cW l<|nt<|aL l (by decide)<|al ?_
        exact W<|ql (aC dB l .nil (λw a=>trivial))<|u l<|aR 16 g l (a8 cI cS cS) l<|aT l<|o l<|bQ<|db<|db<|m4 l (aD 18 l l g l) (f l) (f l) (f l) (N0,N0) [1,0]
 ·obtain⟨c,h⟩:=g24
  exact oT
end Go.Proofs.YtapnabgdcndleaaGreatDoor
