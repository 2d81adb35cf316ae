/-
  Each function of the program computes what its plain function says: printed by program. No condition.
-/
import Derived.Test.YtapnabgdcndleaaGreatDoorFn
import Derived.Test.YtapnabgdcndleaaGreatDoorSh
import Derived.Test.YtapnabgdcndleaaGreatDoorInf
import Derived.Test.YtapnabgdcndleaaGreatDoorCon1
import Derived.Test.YtapnabgdcndleaaGreatDoorCon3
import Derived.Test.YtapnabgdcndleaaGreatDoorCon4
import Derived.Test.YtapnabgdcndleaaGreatDoorCon5
import Derived.Test.YtapnabgdcndleaaGreatDoorCon6
import Derived.Test.YtapnabgdcndleaaGreatDoorAsmC
namespace Go.Proofs.YtapnabgdcndleaaGreatDoor
open Go Go.Tc Go.Fn
set_option linter.unusedVariables false
set_option maxHeartbeats 40000000
set_option maxRecDepth 100000
variable {A:Nat->Prop}{w:World}[Old A w]
theorem tw {S:Value}{J:O}(ag:Rd A w S J){V:Value}{p1:U}(ah:Rd A w V p1){p2:Int}: ∀r:U×Int×Bool×Int,iv J p1 p2=some r->cy Tryz.prog 38 [S,V,Y p2] A w (λx:Value×List Nat×Value×List Nat=>.tuple #[.agg #[Y r.1.State,x.1,x.2.2.1],Y r.2.1,.bool r.2.2.1,Y r.2.2.2]) (λx=>[.fL x.1 r.1.Left x.2.1,.fL x.2.2.1 r.1.ak x.2.2.2]):=by
 obtain⟨aA,rfl,y⟩:=O.open ag
 obtain⟨aB,aE,rfl,z,B⟩:=U.open ah
 refine dq Tryz.func38 Tryz.ntmps38 l (((S0.ao l y).ao l z).ao l B)<|sr<|cu l (a8 cI cI (cR 2 l)) λb1=>cu l (a8 cI (cR 2 l) (cR 1 l)) λb2=>c6 hU l λb3=>aT l<|o l<|bB<|m 2 bO l<|m 1 g l<|dt l Tryz.call32 (λw a=>fb (O.aG Ri Ri (a.a7 5 l)) (U.aG Ri (a.a7 4 l) (a.a7 3 l))) λr4 _=>bG l<|jG l (λh6=>sr<|ql (aC dB l .nil (λw a=>trivial))<|aR 0 g l (a8 cI cS cS) l<|aT l<|o l<|bQ<|db<|ot 0 l<|db<|ot 0 l<|m4 l (aD 4 l l g l) (f l) (f l) (f l) (N0,[],N0,[]) [2,0]) λh6=>vf<|u l<|dt l Tryz.call33 (λw a=>qB) λr7 _=>?_
 refine bG l<|jG l (λh9=>sr<|ql (aC dB l .nil (λw a=>trivial))<|aR 0 g l (a8 cI cS cS) l<|aT l<|o l<|bQ<|db<|ot 0 l<|db<|ot 0 l<|m4 l (aD 4 l l g l) (f l) (f l) (f l) (N0,[],N0,[]) [2,0]) λh9=>dQ<|m 2 bO l<|m 1 g l<|u l<|pC Tryz.call100 Tryz.func100 Tryz.ntmps100 l λK_ b=>sr<|cu l (a8 cI cI (cR 5 l)) λaF=>cu l (a8 cI (cR 5 l) (cR 4 l)) λaJ=>c6 hU l λZ=>aT l<|o l<|bA<|m 2 bO l<|gD l Tryz.call167 (λw a=>wz (O.aG Ri Ri (a.a7 8 l))) λc ⟨d,n⟩=>u l<|cQ l ?_
 refine cz l<|c6 xa l λaa=>aR 0 gU l (oB cI cI) l<|aT l<|bB<|u l<|cW l<|nt<|aH l (λai=>?_) (λai=>?_)
 ·exact sr<|ql (aC dB l .nil (λw a=>trivial))<|u l<|aR 2 g l (a8 cI cS cS) l<|aT l<|o l<|bQ<|ry b l (aD 2 l l g l) (f l) (f l) (f l)<|cQ l<|cQ l<|aR 5 g l (a8 cI cS cS) l<|aT l<|o l<|aK<|db<|ot 0 l<|db<|ot 0 l<|m4 l (aD 9 l l g l) (f l) (f l) (f l) (N0,[],N0,[]) [2,0]
 ·refine dQ<|m 0 gU l<|m 3 g l<|gD l Tryz.call110 (λw a=>oC (bo.aG Ri Ri) (U.aG Ri (a.a7 9 l) (a.a7 8 l))) λaP aj=>gD l Tryz.call109 (λw a=>uU (a.bV 0 l)) λam an=>bH (λw a=>a.iA 1 l l)<|bH (λw a=>a.mS 2 l (a.pr 1 l))<|bH (λw a=>a.lF 1 l (a.pr 2 l))<|u l<|cQ l<|aT l<|bB<|u l<|cW l<|nt<|aH l (λap=>?_) (λap=>?_)
  ·exact sr<|ql (aC dB l .nil (λw a=>trivial))<|u l<|aR 6 g l (a8 cI cS cS) l<|aT l<|o l<|bQ<|ry b l (aD 6 l l g l) (f l) (f l) (f l)<|cQ l<|cQ l<|aR 9 g l (a8 cI cS cS) l<|aT l<|o l<|aK<|db<|ot 0 l<|db<|ot 0 l<|m4 l (aD 13 l l g l) (f l) (f l) (f l) (N0,[],N0,[]) [2,0]
  ·refine dQ<|m 4 gU l<|ba l<|ba l<|pC Tryz.call47 Tryz.func47 Tryz.ntmps47 l λK_ p=>sr<|cu l (oB cI cI) λq=>aT l<|aT l<|bA<|o l<|nt<|lp (ct p2 c) (am.1,0) (an,((aj:Value).ownBlock.toList++[])) (λk e=>[(1,d),(2,e.1),(3,Y p2),(4,.func (.func 101) #[] #[]),(5,Pt q),(14,Y k.2)]) (λk e=>[.od 189 d c.2.1 n,.rd e.1 k.1,.fL e.1 k.1 e.2,.bx q 93 [Y c.1.state,Y c.1.bE],.bx b3 29 [Y 0,N0,N0],.bx Z 29 [Y 0,N0,N0],.bx aa 93 [Y c.1.state,Y c.1.bE]]) [6,1,2,0,10,7,5] (λk e=>?_) (λk e=>?_)
   ·obtain⟨C,D⟩:=e
    refine al<|aN<|sr<|m 3 gU l<|ba l<|gD l Tryz.call112 (λw a=>qM (bo.aG Ri Ri) (a.M8 0 l) (a.a7 1 l)) λE v=>u l<|cQ l<|c6 FY l λab=>aR 0 pz l (a8 cI cI (cO 1 l)) l<|o l<|cA<|pO (λ_ _=>[(1,d),(3,Y p2),(4,.func (.func 101) #[] #[]),(5,Pt q),(14,Y k.2),(15,Pt ab)]) (λ_ _=>[.od 189 d c.2.1 n,.bx q 93 [Y c.1.state,Y c.1.bE],.ow 2 v E.1.word,.bx ab 97 [Y E.1.im,Y E.1.at_,v],.bx b3 29 [Y 0,N0,N0],.bx Z 29 [Y 0,N0,N0],.bx aa 93 [Y c.1.state,Y c.1.bE]]) ?_ (λaQ aZ=>?_)
    ·refine sr<|u l<|bG l<|u l<|aW (λh=>?_) (λh=>?_)
     ·refine aI l h<|aI l h<|aI l h<|t h l<|nt<|aL l l<|sr<|ba l<|u l<|bG l<|aT l<|aT l<|aK<|aY<|CB<|bq<|ry p l (f l) (f l) (f l) (f l)<|u l<|cQ l<|cz l ?_
      refine cz l<|aT l<|aT l<|bB<|u l<|cW l<|nt<|aU l (by decide)<|dQ<|m 8 gU l<|u l<|gD l Tryz.call48 (λw a=>l7 (bo.aG Ri Ri) (a.a7 3 l)) λa0 ⟨G,I,K,L⟩=>bH (λw a=>a.iD 0 l)<|bH (λw a=>a.iD 2 l)<|u l<|cQ l<|c6 hU l λa1=>aR 0 g l (a8 cI (cR 2 l) (cR 1 l)) l ?_
      refine o l<|bB<|u l<|bG l<|u l<|aW (λi=>?_) (λi=>?_)
      ·refine aI l i<|aI l i<|aI l i<|t i l<|nt<|aL l l<|sr<|ql (aC dB l .nil (λw a=>trivial))<|aR 12 g l (a8 cI cS cS) l<|aT l<|o l<|bQ<|ry b l (aD 12 l l g l) (f l) (f l) (f l)<|cQ l<|cQ l<|aR 11 g l (a8 cI cS cS) l<|aT l<|o l<|aK ?_
       exact db<|ot 0 l<|db<|ot 0 l<|m4 l (aD 15 l l g l) (f l) (f l) (f l) (N0,[],N0,[]) [2,0]
      ·refine qg l i (aO 0 g l)<|aq λa2 ac=>dx (Gd l i) l Tryz.call49 l (aX λw a=>uf (U.aG Ri (a.a7 2 l) (a.a7 1 l)) _ ac) λ_=>qg l i (gK l)<|au i l<|nt<|aH l (λar=>?_) (λar=>?_)
       ·exact sr<|ql (aC dB l .nil (λw a=>trivial))<|aR 12 g l (a8 cI cS cS) l<|aT l<|o l<|bQ<|ry b l (aD 12 l l g l) (f l) (f l) (f l)<|cQ l<|cQ l<|aR 11 g l (a8 cI cS cS) l<|aT l<|o l<|aK<|db<|ot 0 l<|db<|ot 0 l<|m4 l (aD 15 l l g l) (f l) (f l) (f l) (N0,[],N0,[]) [2,0]
       ·exact dQ<|m 0 g l<|ba l<|aR 12 g l (a8 cI (cR 2 l) (cR 1 l)) l<|aT l<|o l<|aK<|ry b l (aD 12 l l g l) (f l) (f l) (f l)<|cQ l<|cQ l<|aR 11 g l (a8 cI (cR 2 l) (cR 1 l)) l<|aT l<|o l<|aK<|m4 l (aD 11 l l g l) (f l) (f l) (f l) (G,I,K,L) [3,4]
     ·refine qg l h (H l)<|qg l h (H l)<|qg l h (fK l)<|au h l<|nt<|aH l (λav=>?_) (λav=>aV<|mt () [2,5,1,0,6,7,8])
      refine sr<|ba l<|u l<|bG l<|aT l<|aT l<|aK<|aY<|CB<|bq<|ry p l (f l) (f l) (f l) (f l)<|u l<|cQ l<|cQ l<|aT l<|aT l<|nt ?_
      refine al<|sr<|u l<|cW l<|nt<|aU l (by decide)<|dQ<|m 8 gU l<|u l<|gD l Tryz.call48 (λw a=>l7 (bo.aG Ri Ri) (a.a7 3 l)) λa3 ⟨N,P,Q,R⟩=>bH (λw a=>a.iD 0 l)<|bH (λw a=>a.iD 2 l)<|u l<|cQ l<|c6 hU l λa4=>aR 0 g l (a8 cI (cR 2 l) (cR 1 l)) l<|o l<|bB<|u l ?_
      refine bG l<|u l<|aW (λj=>?_) (λj=>?_)
      ·refine aI l j<|aI l j<|aI l j<|t j l<|nt<|aL l l<|sr<|ql (aC dB l .nil (λw a=>trivial))<|aR 12 g l (a8 cI cS cS) l<|aT l<|o l<|bQ<|ry b l (aD 12 l l g l) (f l) (f l) (f l)<|cQ l<|cQ l<|aR 11 g l (a8 cI cS cS) l<|aT l<|o l<|aK ?_
       exact db<|ot 0 l<|db<|ot 0 l<|m4 l (aD 15 l l g l) (f l) (f l) (f l) (N0,[],N0,[]) [2,0]
      ·refine qg l j (aO 0 g l)<|aq λa5 ad=>dx (Gd l j) l Tryz.call49 l (aX λw a=>uf (U.aG Ri (a.a7 2 l) (a.a7 1 l)) _ ad) λ_=>qg l j (gK l)<|au j l<|nt<|aH l (λax=>?_) (λax=>?_)
       ·exact sr<|ql (aC dB l .nil (λw a=>trivial))<|aR 12 g l (a8 cI cS cS) l<|aT l<|o l<|bQ<|ry b l (aD 12 l l g l) (f l) (f l) (f l)<|cQ l<|cQ l<|aR 11 g l (a8 cI cS cS) l<|aT l<|o l<|aK<|db<|ot 0 l<|db<|ot 0 l<|m4 l (aD 15 l l g l) (f l) (f l) (f l) (N0,[],N0,[]) [2,0]
       ·exact dQ<|m 0 g l<|ba l<|aR 12 g l (a8 cI (cR 2 l) (cR 1 l)) l<|aT l<|o l<|aK<|ry b l (aD 12 l l g l) (f l) (f l) (f l)<|cQ l<|cQ l<|aR 11 g l (a8 cI (cR 2 l) (cR 1 l)) l<|aT l<|o l<|aK<|m4 l (aD 11 l l g l) (f l) (f l) (f l) (N,P,Q,R) [3,4]
    ·refine T<|al<|sr<|F sO l<|M 3 aS l<|di 2 Tryz.underlying27 l<|ja l<|nt<|aH l (λay=>?_) (λay=>?_)
     ·refine sr<|aT l<|aT l<|bQ<|az<|s<|bq<|ry p l (f l) (f l) (f l) (f l)<|u l<|cQ l<|cQ l<|aT l<|aT l<|bB<|u l<|cW l ?_
      refine nt<|aL l (by decide)<|sr<|ql (aC dB l .nil (λw a=>trivial))<|u l<|aR 5 g l (a8 cI cS cS) l<|aT l<|o l<|bQ<|ry b l (aD 5 l l g l) (f l) (f l) (f l)<|cQ l<|cQ l<|aR 4 g l (a8 cI cS cS) l<|aT l<|o l<|aK<|db<|ot 0 l<|db ?_
      exact ot 0 l<|m4 l (aD 8 l l g l) (f l) (f l) (f l) (N0,[],N0,[]) [2,0]
     ·exact dQ<|u l<|m 3 pz l<|aq λa6 ae=>kC (args:=[_]) (caps:=[]) (X l) l Tryz.call101 l l (aX λw a=>xR (iN.aG Ri Ri (a.bV 2 l)) _ ae) λ_=>nt<|W<|F sO l<|M 3 aS l<|o l<|af<|aw<|T<|W<|u l<|aM l<|o l<|af<|ot 2 l<|nx (v,((v:Value).ownBlock.toList++[])) [1,3,0,2,5,6,7]
   ·obtain⟨C,D⟩:=e
    exact oT
theorem A5 {h:Value}{J:O}(q:Rd A w h J){i:Value}{p1:U}(s:Rd A w i p1){p2:Int}: ∀r:U×Int×Bool×Int,lZ J p1 p2=some r->cy Tryz.prog 39 [h,i,Y p2] A w (λa:Value×List Nat×Value×List Nat=>.tuple #[.agg #[Y r.1.State,a.1,a.2.2.1],Y r.2.1,.bool r.2.2.1,Y r.2.2.2]) (λa=>[.fL a.1 r.1.Left a.2.1,.fL a.2.2.1 r.1.ak a.2.2.2]):=by
 obtain⟨t,rfl,b⟩:=O.open q
 obtain⟨v,x,rfl,c,d⟩:=U.open s
 refine dq Tryz.func39 Tryz.ntmps39 l (((S0.ao l b).ao l c).ao l d)<|sr<|cu l (a8 cI cI (cR 2 l)) λb1=>cu l (a8 cI (cR 2 l) (cR 1 l)) λb2=>c6 hU l λb3=>aT l<|o l<|bA<|m 2 bO l<|m 1 g l<|u l<|gD l Tryz.call38 (λw e=>tw (O.aG Ri Ri (e.a7 5 l)) (U.aG Ri (e.a7 4 l) (e.a7 3 l))) λy ⟨j,k,n,p⟩=>bH (λw e=>e.iD 0 l)<|bH (λw e=>e.iD 2 l)<|cQ l<|cQ l<|aR 4 g l (a8 cI (cR 1 l) (cR 0 l)) l<|aT l<|o l<|nt ?_
 exact e9<|m4 l (aD 4 l l g l) (f l) (f l) (f l) (j,k,n,p) [2,3]
theorem BP {v:Value}{J:O}(ac:Rd A w v J){x:Value}{p1:U}(ad:Rd A w x p1){p2:Int}: ∀r:(List Int)×Int,pH J p1 p2=some r->cy Tryz.prog 10 [v,x,Y p2] A w (λx_:Value=>.tuple #[x_,Y r.2]) (λx_=>[.ow 2 x_ r.1]):=by
 obtain⟨f,rfl,n⟩:=O.open ac
 obtain⟨h,i,rfl,p,q⟩:=U.open ad
 refine dq Tryz.func10 Tryz.ntmps10 l (((S0.ao l n).ao l p).ao l q)<|sr<|cu l (a8 cI cI (cR 2 l)) λb1=>cu l (a8 cI (cR 2 l) (cR 1 l)) λb2=>aT l<|bA<|m 1 bO l<|m 0 g l<|u l<|gD l Tryz.call9 (λw a=>vQ (O.aG Ri Ri (a.a7 4 l)) (U.aG Ri (a.a7 3 l) (a.a7 2 l))) λr3 ⟨aU,aX⟩=>u l<|cQ l<|cQ l<|c6 hU l λb6=>aR 0 g l (a8 cI (cO 1 l) (cO 2 l)) l<|aT l<|o l<|cA<|al ?_
 refine W<|u l<|cW l<|jG l (λh7=>sr<|u l<|aT l<|bQ<|db<|n2 l N0 [0]) λh7=>sn<|al<|pO (λs _=>[(2,Y p2),(3,Pt b1),(4,Pt b2),(9,Y s)]) (λs _=>[.rd f J.aB,.bx b1 26 [Y J.I,Y J.N,f],.rd h p1.Left,.rd i p1.ak,.bx b2 29 [Y p1.State,h,i]]) (sr<|u l<|bG l<|nt<|aH l (λae=>W<|o l<|af<|mt () [7,4,6,5,3]) (λae=>aV<|mt () [7,4,6,5,3])) λs g9=>T<|sr<|u l<|st (cq (vs:=[Y s]) ([s]:List Int) Tryz.underlying27 d bz l (λw a=>⟨Ri,trivial⟩)) λag=>o l<|bB<|st (cq (vs:=[.func (.func 37) #[] #[],.func (.func 38) #[] #[],.func (.func 39) #[] #[]]) ([(rG.mk 37),(rG.mk 38),(rG.mk 39)]:List rG) Tryz.underlying78 Kf Qg l (λw a=>⟨(Rd.HO _ _ _),(Rd.HO _ _ _),(Rd.HO _ _ _),trivial⟩)) λy=>di 0 Tryz.underlying78 l<|u l<|nt<|lp (fY J p1 p2) (([s]:List Int),0) (Sl ag 1 1) (λj g14=>[(2,Y p2),(3,Pt b1),(4,Pt b2),(12,g14),(35,(Sl y 3 3)),(36,Y (([(rG.mk 37),(rG.mk 38),(rG.mk 39)]:List rG).length:Int)),(37,Y j.2)]) (λj g14=>[.rd f J.aB,.bx b1 26 [Y J.I,Y J.N,f],.rd h p1.Left,.rd i p1.ak,.bx b2 29 [Y p1.State,h,i],.ow 2 g14 j.1,.ow 37 (Sl y 3 3) ([(rG.mk 37),(rG.mk 38),(rG.mk 39)]:List rG)]) [2,3,4,5,6,1,0] (λj g14=>?_) (λj g14=>T<|sr<|u l<|aT l<|aK<|n2 l g14 [5])
 refine sr<|cG l<|cA<|aH l (λah=>?_) (λah=>bu<|aA<|bk g14 (rs [0,6]))
 refine sn<|al<|aN<|sr<|aq λaY k=>ql (dy 6 Tryz.underlying78 Kf l l l k)<|st (eS 6 (KJ _) Kf l l k) λ_=>o l<|bA<|u l<|m 1 bO l<|m 4 g l<|u l<|aW (λz=>?_) (λz=>?_)
 ·obtain rfl:=rG.of z
  refine aq λB C=>kC (caps:=[]) (X l) l Tryz.call37 l l (dL (λ_=>l) λw a=>zO (O.aG Ri Ri (a.a7 0 l)) (U.aG Ri (a.a7 2 l) (a.a7 3 l)) _ C) λ⟨ai,aj⟩=>u l<|cQ l<|cQ l<|c6 hU l λaZ=>aR 0 g l (a8 cI (cO 1 l) (cO 2 l)) l<|aT l<|o l<|bB<|u l<|cW l<|u l<|aW (λb=>?_) (λb=>?_)
  ·exact aI l b<|aI l b<|t b l<|nt<|aL l l<|W<|o l<|nt<|W<|ba l<|st (cq (vs:=[Y (-1)]) ([(-1)]:List Int) Tryz.underlying27 d bz l (λw a=>⟨Ri,trivial⟩)) λa0=>aq λa1 D=>st (ec 9 Tryz.underlying27 d bz gq l (λw a=>a.bg 0 l) D) λam=>o l<|af<|aw<|T<|W<|aM l<|u l<|af<|nx am (rs [4,10])
  ·refine qg l b (H l)<|qg l b (gK l)<|au b l<|nt<|aH l (λan=>?_) (λan=>?_)
   ·exact W<|o l<|nt<|W<|ba l<|st (cq (vs:=[Y (-1)]) ([(-1)]:List Int) Tryz.underlying27 d bz l (λw a=>⟨Ri,trivial⟩)) λa2=>aq λa3 E=>st (ec 9 Tryz.underlying27 d bz gq l (λw a=>a.bg 0 l) E) λap=>o l<|af<|aw<|T<|W<|aM l<|u l<|af<|nx ap (rs [4,10])
   ·exact sn<|W<|ba l<|st (cq (vs:=[Y B.2.1]) ([B.2.1]:List Int) Tryz.underlying27 d bz l (λw a=>⟨Ri,trivial⟩)) λa4=>aq λa5 F=>st (ec 9 Tryz.underlying27 d bz gq l (λw a=>a.bg 0 l) F) λar=>o l<|af<|aw<|T<|W<|aM l<|u l<|af<|nx ar (rs [4,10])
 ·refine aW (λG=>?_) (λG=>?_)
  ·obtain rfl:=rG.of G
   refine aq λK L=>kC (caps:=[]) (X l) l Tryz.call38 l l (dL (λ_=>l) λw a=>tw (O.aG Ri Ri (a.a7 0 l)) (U.aG Ri (a.a7 2 l) (a.a7 3 l)) _ L) λ⟨av,ax,ay,az⟩=>bH (λw a=>a.iD 0 l)<|bH (λw a=>a.iD 2 l)<|u l<|cQ l<|cQ l<|c6 hU l λa6=>aR 0 g l (a8 cI (cR 2 l) (cR 1 l)) l<|aT l<|o l<|bB<|u l<|cW l<|u l<|aW (λc=>?_) (λc=>?_)
   ·exact aI l c<|aI l c<|t c l<|nt<|aL l l<|W<|o l<|nt<|W<|ba l<|st (cq (vs:=[Y (-1)]) ([(-1)]:List Int) Tryz.underlying27 d bz l (λw a=>⟨Ri,trivial⟩)) λa9=>aq λbb M=>st (ec 11 Tryz.underlying27 d bz gq l (λw a=>a.bg 0 l) M) λv46=>o l<|af<|aw<|T<|W<|aM l<|u l<|af<|nx v46 (rs [6,12])
   ·refine qg l c (H l)<|qg l c (gK l)<|au c l<|nt<|aH l (λaC=>?_) (λaC=>?_)
    ·exact W<|o l<|nt<|W<|ba l<|st (cq (vs:=[Y (-1)]) ([(-1)]:List Int) Tryz.underlying27 d bz l (λw a=>⟨Ri,trivial⟩)) λbc=>aq λz49 P=>st (ec 11 Tryz.underlying27 d bz gq l (λw a=>a.bg 0 l) P) λv51=>o l<|af<|aw<|T<|W<|aM l<|u l<|af<|nx v51 (rs [6,12])
    ·exact sn<|W<|ba l<|st (cq (vs:=[Y K.2.1]) ([K.2.1]:List Int) Tryz.underlying27 d bz l (λw a=>⟨Ri,trivial⟩)) λbd=>aq λz53 Q=>st (ec 11 Tryz.underlying27 d bz gq l (λw a=>a.bg 0 l) Q) λaD=>o l<|af<|aw<|T<|W<|aM l<|u l<|af<|nx aD (rs [6,12])
  ·refine aW (λR=>?_) (λR=>sQ)
   obtain rfl:=rG.of R
   refine aq λS V=>kC (caps:=[]) (X l) l Tryz.call39 l l (dL (λ_=>l) λw a=>A5 (O.aG Ri Ri (a.a7 0 l)) (U.aG Ri (a.a7 2 l) (a.a7 3 l)) _ V) λ⟨aE,aF,aJ,aO⟩=>bH (λw a=>a.iD 0 l)<|bH (λw a=>a.iD 2 l)<|u l<|cQ l<|cQ l<|c6 hU l λbe=>aR 0 g l (a8 cI (cR 2 l) (cR 1 l)) l<|aT l<|o l<|bB<|u l<|cW l<|u l<|aW (λe=>?_) (λe=>?_)
   ·exact aI l e<|aI l e<|t e l<|nt<|aL l l<|W<|o l<|nt<|W<|ba l<|st (cq (vs:=[Y (-1)]) ([(-1)]:List Int) Tryz.underlying27 d bz l (λw a=>⟨Ri,trivial⟩)) λbf=>aq λbh Z=>st (ec 11 Tryz.underlying27 d bz gq l (λw a=>a.bg 0 l) Z) λaP=>o l<|af<|aw<|T<|W<|aM l<|u l<|af<|nx aP (rs [6,12])
   ·refine qg l e (H l)<|qg l e (gK l)<|au e l<|nt<|aH l (λaQ=>?_) (λaQ=>?_)
    ·exact W<|o l<|nt<|W<|ba l<|st (cq (vs:=[Y (-1)]) ([(-1)]:List Int) Tryz.underlying27 d bz l (λw a=>⟨Ri,trivial⟩)) λbi=>aq λbj aa=>st (ec 11 Tryz.underlying27 d bz gq l (λw a=>a.bg 0 l) aa) λv70=>o l<|af<|aw<|T<|W<|aM l<|u l<|af<|nx v70 (rs [6,12])
    ·exact sn<|W<|ba l<|st (cq (vs:=[Y S.2.1]) ([S.2.1]:List Int) Tryz.underlying27 d bz l (λw a=>⟨Ri,trivial⟩)) λbl=>aq λz72 ab=>st (ec 11 Tryz.underlying27 d bz gq l (λw a=>a.bg 0 l) ab) λaS=>o l<|af<|aw<|T<|W<|aM l<|u l<|af<|nx aS (rs [6,12])
theorem yW {d:Value}{J:O}(h:Rd A w d J){e:Value}{p1:U}(i:Rd A w e p1){p2:Int}: ∀r:Int,o0 J p1 p2=some r->cy Tryz.prog 40 [d,e,Y p2] A w (λp:Unit=>Y r) (λp=>[]):=by
 obtain⟨j,rfl,a⟩:=O.open h
 obtain⟨k,n,rfl,b,c⟩:=U.open i
 refine dq Tryz.func40 Tryz.ntmps40 l (((S0.ao l a).ao l b).ao l c)<|sr<|cu l (a8 cI cI (cR 2 l)) λb1=>cu l (a8 cI (cR 2 l) (cR 1 l)) λb2=>o l<|bB<|m 1 bO l<|m 0 g l<|dt l Tryz.call32 (λw f=>fb (O.aG Ri Ri (f.a7 4 l)) (U.aG Ri (f.a7 3 l) (f.a7 2 l))) λt _=>bG l<|jG l (λq=>sr<|o l<|bQ<|n1 l () []) λq=>vf<|u l<|dt l Tryz.call33 (λw f=>qB) λv _=>bG l<|nt ?_
 exact aH l (λs=>sr<|o l<|bQ<|n1 l () []) (λs=>dQ<|o l<|aK<|n1 l () [])
set_option maxRecDepth 100000 in
theorem Df {j:Value} {J:O} (B:Rd A w j J) {k:Value} {p1:U} (C:Rd A w k p1):∀r:Int×Int,ov J p1=some r->cy Tryz.prog 266 [j,k] A w (λK:Unit=>.tuple #[Y r.1,Y r.2]) (λK=>[]):=by
 obtain⟨a,rfl,f⟩:=O.open B
 obtain⟨b,c,rfl,g,h⟩:=U.open C
 refine dq Tryz.func266 Tryz.ntmps266 l (((S0.ao l f).ao l g).ao l h)<|sr<|cu l (a8 cI cI (cR 2 l)) λb1=>cu l (a8 cI (cR 2 l) (cR 1 l)) λb2=>aT l<|bA<|F fq l<|M 0 aS l<|F cY l<|M 1 d l<|dt l Tryz.call161 (λw z=>oF (z.a7 3 l)) λL _=>u l<|cQ l<|aT l<|bA<|F ft l<|M 0 aS l<|F cY l<|M 1 d l ?_
 refine dt l Tryz.call161 (λw z=>oF (z.a7 2 l)) λP _=>u l<|cQ l<|aT l<|cA<|pO (λ_ _=>[(2,Pt b1),(3,Pt b2),(6,Y L.1),(8,Y P.1)]) (λ_ _=>[.rd a J.aB,.bx b1 26 [Y J.I,Y J.N,a],.rd b p1.Left,.rd c p1.ak,.bx b2 29 [Y p1.State,b,c]]) ?_ (λs7 g8=>?_)
 ·exact sr<|u l<|cW l<|u l<|aW (λi=>aI l i<|aI l i<|t i l<|nt<|aL l l<|sr<|aT l<|aK<|aY<|s<|n2 l () []) λi=>qg l i (H l)<|qg l i (iU l)<|au i l<|nt<|aH l (λD=>sr<|aT l<|aK<|aY<|s<|n2 l () []) (λD=>aV<|mt () [4,1,3,2,0])
 ·refine T<|sr<|F cY l<|M 1 d l<|o l<|cA<|eH<|T0 0 l (H l)<|T0 1 l (H l)<|cK λQ n=>T0 2 l (wP l l (sM n))<|T0 3 l (H l)<|T0 4 l (H l)<|cK λR q=>T0 5 l (uk l l (sM q))<|T0 6 l (aE l)<|T0 7 l (aE l)<|bP [] [] l l l λ_ _ _=>De<|T<|sr<|F ee l<|M 1 fC l<|F kt l<|M 4 d l<|u l ?_
  refine nj l<|u l<|aM l<|aq λS v=>st (cU 0 Tryz.underlying24 bJ l l l v) λV=>st (bM 0 (ai.opens _) bJ l l) λ_=>u l<|aM l<|u l<|nj l<|u l<|aM l<|aM l<|c6 fx l λW=>aR 0 bJ l (a8 cI cI cI) l<|o l<|cA<|aN<|sr<|m 0 bJ l<|dt l Tryz.call86 (λw z=>ke (ai.aG Ri Ri Ri)) λX _=>bG l<|o l<|nt<|aH l (λE=>?_) (λE=>?_)
  ·exact sr<|ba l<|aM l<|u l<|nj l<|aM l<|aM l<|u l<|aM l<|aT l<|aK<|az<|s<|n2 l () []
  ·refine sr<|F gm l<|M 0 d l<|eE l<|o l<|nt<|aH l (λG=>?_) (λG=>?_)
   ·exact sr<|ba l<|nj l<|aM l<|aM l<|u l<|aM l<|u l<|nj l<|aM l<|aM l<|u l<|nj l<|u l<|nj l<|aM l<|aM l<|F eo l<|M 0 d l<|aM l<|aT l<|aK<|az<|s<|n2 l () []
   ·refine aV<|aw<|T<|al<|eH<|T0 0 l (H l)<|T0 1 l (H l)<|cK λZ x=>T0 2 l (wP l l (sM x))<|T0 3 l (H l)<|T0 4 l (H l)<|cK λaa y=>T0 5 l (uk l l (sM y))<|T0 6 l (H l)<|T0 7 l (H l)<|T0 8 l (H6 l)<|T0 9 l (e eo l)<|T0 10 l (p 0 d l)<|T0 11 l (rM l)<|T0 12 l (aE l)<|T0 13 l (aE l)<|T0 14 l (aE l)<|bP [] [] l l l λ_ _ _=>De<|T<|sr<|ba l<|aM l ?_
    refine u l<|nj l<|aM l<|aM l<|F eo l<|M 0 d l<|aM l<|u l<|aM l<|u l<|nj l<|aM l<|u l<|aM l<|aM l<|u l<|nj l<|aM l<|aM l<|u l<|aM l<|u l<|nj l<|aM l<|aM l<|u l<|nj l<|u l<|nj l<|aM l ?_
    exact aM l<|u l<|aM l<|aT l<|aK<|n2 l () []
theorem wq (w:World)(h:Nat)(J:qc)(i:Nat)(p1:aQ)(b:Value)(c:Value)(f:Value)(n:List Nat)(m:Ctx.ae [.bx h 85 [Y J.sum,.bool J.full],.bx i 162 [Y p1.cp,Y p1.cL,b,Y p1.state,c,f]]=n)(z:kb w [.bx h 85 [Y J.sum,.bool J.full],.bx i 162 [Y p1.cp,Y p1.cL,b,Y p1.state,c,f]])(o:Rd (λk=>k∈n) w b p1.gY)(s:Rd (λk=>k∈n) w c p1.left)(x:Rd (λk=>k∈n) w f p1.right)(r:(Unit)×(Int×Bool))(hr:kY J p1=some r): iY Tryz.prog 263 [Pt h,Pt i] w n (λB:Unit=>.tuple #[]) (λB=>[.bx h 85 [Y r.2.1,.bool r.2.2],.bx i 162 [Y p1.cp,Y p1.cL,b,Y p1.state,c,f]]):=by
 refine eV (v:=λ(r:(Unit)×(Int×Bool)) (B:Unit)=>.tuple #[]) (fs:=λr B=>[.bx h 85 [Y r.2.1,.bool r.2.2],.bx i 162 [Y p1.cp,Y p1.cL,b,Y p1.state,c,f]]) Tryz.func263 l Tryz.ntmps263 l (show SH cw (bare w) w [.rd f p1.right,.rd c p1.left,.rd b p1.gY,.bx h 85 [Y J.sum,.bool J.full],.bx i 162 [Y p1.cp,Y p1.cL,b,Y p1.state,c,f],.fL (Y 0) (0:Int) (oi w n),rest w n]from((((SH.begin m z).gn m o).gn m s).gn m x)) l ?_ hr
 unfold kY
 refine al<|eH<|T0 0 l (H l)<|T0 1 l (q l)<|T0 2 l (e Ak l)<|T0 3 l (aO 4 bO l)<|T0 4 l (H l)<|nX l λK E j=>aF λL C=>D1 5<|gv l Tryz.call36 (dL (λ_=>l) λw g=>fD (g.ea 4 l (aQ.aG Ri Ri (g.a7 2 l) Ri (g.a7 1 l) (g.a7 0 l)) l) _ C) λ⟨G,I⟩=>aF λN D=>D1 6<|gv l Tryz.call266 (aX λw g=>Df (O.aG Ri Ri (g.a7 4 l)) (U.aG Ri (g.bV 0 l) (g.bV 1 l)) _ D) λ_=>Dk 7 j l (H l)<|Dk 8 j l (bw l)<|Dk 9 j l (bw l)<|Dk 10 j l (aE l)<|Dk 11 j l (aE l)<|De<|T<|sr<|u l<|ay l<|F zZ l<|M 5 d l<|u l<|aM l<|ay l ?_
 exact F zZ l<|aR 5 d l cI l<|nt<|W<|ba l<|ay l<|F xQ l<|M 5 wO l<|u l<|aW (λy=>aI l y<|aI l y<|t y l<|u l<|aI l l<|aI l l<|aI l l<|aI l l<|aI l l<|t l l<|ay l<|F xQ l<|aR 5 wO l cB l<|af<|jc (.inr l) l  (λw g=>⟨(),l,g.cj [5,6,7,8] l⟩)) λy=>qg l y (H l)<|qg l y (iU l)<|au y l<|u l<|aW (λa=>aI l a<|aI l a<|aI l a<|aI l a<|aI l a<|t a l<|ay l<|F xQ l<|aR 5 wO l cB l<|af<|jc (.inr l) l  (λw g=>⟨(),l,g.cj [5,6,7,8] l⟩)) (λa=>qg l a (H l)<|qg l a (q l)<|qg l a (e zZ l)<|qg l a (p 5 d l)<|qg l a (yC l)<|au a l<|ay l<|F xQ l<|aR 5 wO l cB l<|af<|jc (.inr l) l  (λw g=>⟨(),l,g.cj [5,6,7,8] l⟩))
theorem yZ (w:World)(e:Nat)(J:qc)(f:Nat)(p1:aQ)(a:Value)(b:Value)(c:Value)(h:List Nat)(g:Ctx.ae [.bx e 85 [Y J.sum,.bool J.full],.bx f 162 [Y p1.cp,Y p1.cL,a,Y p1.state,b,c]]=h)(n:kb w [.bx e 85 [Y J.sum,.bool J.full],.bx f 162 [Y p1.cp,Y p1.cL,a,Y p1.state,b,c]])(i:Rd (λk=>k∈h) w a p1.gY)(j:Rd (λk=>k∈h) w b p1.left)(m:Rd (λk=>k∈h) w c p1.right)(p2:Int)(r:(Unit)×(Int×Bool))(hr:gu J p1 p2=some r): iY Tryz.prog 264 [Pt e,Pt f,Y p2] w h (λo:Unit=>.tuple #[]) (λo=>[.bx e 85 [Y r.2.1,.bool r.2.2],.bx f 162 [Y p1.cp,Y p1.cL,a,Y p1.state,b,c]]):=by
 refine eV (v:=λ(r:(Unit)×(Int×Bool)) (o:Unit)=>.tuple #[]) (fs:=λr o=>[.bx e 85 [Y r.2.1,.bool r.2.2],.bx f 162 [Y p1.cp,Y p1.cL,a,Y p1.state,b,c]]) Tryz.func264 l Tryz.ntmps264 l (show SH cw (bare w) w [.rd c p1.right,.rd b p1.left,.rd a p1.gY,.bx e 85 [Y J.sum,.bool J.full],.bx f 162 [Y p1.cp,Y p1.cL,a,Y p1.state,b,c],.fL (Y 0) (0:Int) (oi w h),rest w h]from((((SH.begin g n).gn g i).gn g j).gn g m)) l ?_ hr
 unfold gu
 exact sr<|u l<|dt l Tryz.call54 (λw d=>cl (d.ea 4 l (aQ.aG Ri Ri (d.a7 2 l) Ri (d.a7 1 l) (d.a7 0 l)) l)) λr1 _=>nt<|aH l (λq=>W<|ba l<|aq λs p=>cT l Tryz.call263 [3,4] [0,1,2,5,6] l (λw d=>wq w e J f p1 a b c _ l (d.handed [3,4] l l l l) (d.apart [3,4] l (d.rd 2 l)) (d.apart [3,4] l (d.rd 1 l)) (d.apart [3,4] l (d.rd 0 l)) _ p) λ_=>af<|jc (.inr l) l  (λw d=>⟨(),l,d.cj [0,1,5,6] l⟩)) (λq=>aV<|jc (.inr l) l  (λw d=>⟨(),l,d.cj [3,4,5,6] l⟩))
theorem AV (w:World)(d:Nat)(J:qc)(e:Nat)(p1:aQ)(a:Value)(b:Value)(c:Value)(h:List Nat)(f:Ctx.ae [.bx d 85 [Y J.sum,.bool J.full],.bx e 162 [Y p1.cp,Y p1.cL,a,Y p1.state,b,c]]=h)(o:kb w [.bx d 85 [Y J.sum,.bool J.full],.bx e 162 [Y p1.cp,Y p1.cL,a,Y p1.state,b,c]])(i:Rd (λk=>k∈h) w a p1.gY)(j:Rd (λk=>k∈h) w b p1.left)(m:Rd (λk=>k∈h) w c p1.right)(p2:Int)(n:Value)(t:ai)(p:Rd (λk=>k∈h) w n t)(r:(Unit)×(Int×Bool))(hr:lW J p1 p2 t=some r): iY Tryz.prog 265 [Pt d,Pt e,Y p2,n] w h (λq:Unit=>.tuple #[]) (λq=>[.bx d 85 [Y r.2.1,.bool r.2.2],.bx e 162 [Y p1.cp,Y p1.cL,a,Y p1.state,b,c]]):=by
 obtain rfl:=ai.open p
 refine eV (v:=λ(r:(Unit)×(Int×Bool)) (q:Unit)=>.tuple #[]) (fs:=λr q=>[.bx d 85 [Y r.2.1,.bool r.2.2],.bx e 162 [Y p1.cp,Y p1.cL,a,Y p1.state,b,c]]) Tryz.func265 l Tryz.ntmps265 l (show SH cw (bare w) w [.rd c p1.right,.rd b p1.left,.rd a p1.gY,.bx d 85 [Y J.sum,.bool J.full],.bx e 162 [Y p1.cp,Y p1.cL,a,Y p1.state,b,c],.fL (Y 0) (0:Int) (oi w h),rest w h]from((((SH.begin f o).gn f i).gn f j).gn f m)) l ?_ hr
 unfold lW
 exact sr<|cu l (a8 cI cI cI) λb1=>nt<|W<|ba l<|aq λu s=>cT l Tryz.call263 [4,5] [0,1,2,3,6,7] l (λw g=>wq w d J e p1 a b c _ l (g.handed [4,5] l l l l) (g.apart [4,5] l (g.rd 3 l)) (g.apart [4,5] l (g.rd 2 l)) (g.apart [4,5] l (g.rd 1 l)) _ s) λ_=>af<|jc (.inr l) l  (λw g=>⟨(),l,g.cj [0,1,6,7] l⟩)
theorem Ec {K:Value}{J:O}(V:Rd A w K J){L:Value}{p1:U}(Z:Rd A w L p1){p2:Int}: ∀r:Int×Bool×Int,rC J p1 p2=some r->cy Tryz.prog 11 [K,L,Y p2] A w (λx_:Unit=>.tuple #[Y r.1,.bool r.2.1,Y r.2.2]) (λx_=>[]):=by
 obtain⟨ae,rfl,z⟩:=O.open V
 obtain⟨ag,ah,rfl,B,C⟩:=U.open Z
 refine dq Tryz.func11 Tryz.ntmps11 l (((S0.ao l z).ao l B).ao l C)<|sr<|cu l (a8 cI cI (cR 2 l)) λb1=>cu l (a8 cI (cR 2 l) (cR 1 l)) λb2=>aT l<|o l<|bB<|m 1 bO l<|m 0 g l<|u l<|dt l Tryz.call40 (λw b=>yW (O.aG Ri Ri (b.a7 4 l)) (U.aG Ri (b.a7 3 l) (b.a7 2 l))) λr3 _=>o l<|bA<|u l<|cW l<|jG l (λh5=>sr<|u l<|aT l<|o l<|bQ<|m3 l (f l) (f l) (f l) () []) λh5=>sn ?_
 refine al<|sr<|m 1 bO l<|gD l Tryz.call41 (λw b=>re _ w Kn _ _ (O.aG Ri Ri (b.a7 4 l))) λr6 ⟨aj,ak⟩=>u l<|cQ l<|cz l<|aT l<|o l<|bA<|u l<|cW l<|jG l (λh9=>sr<|u l<|aT l<|o l<|bQ<|m3 l (f l) (f l) (f l) () []) λh9=>dQ<|ql (aC Qh l .nil (λw b=>trivial))<|cu l (oB cI cB) λv=>o l<|af ?_
 refine T<|sr<|m 4 bO l<|m 3 g l<|ba l<|ql (IC Tryz.underlying83 l)<|pC Tryz.call42 Tryz.func42 Tryz.ntmps42 l λK_ x=>sr<|cu l (a8 cI cI (cR 7 l)) λam=>cu l (a8 cI (cR 7 l) (cR 6 l)) λan=>aT l<|o l<|bA<|m 1 bO l<|m 0 g l<|aq λc N=>call l Tryz.call34 (KH λw b=>mu (O.aG Ri Ri (b.rd 9 l)) (U.aG Ri (b.rd 8 l) (b.rd 7 l)) _ N) λ⟨h,D,E,i⟩=>aT l<|bA ?_
 refine o l<|nt<|lp (jS p2 c) (0,false,c.2.2.2.1,c.2.2.2.2.1,c.2.2.2.2.2,0,0) (D,E) (λa g18=>[(2,Y p2),(3,.iface 83 (Pt v)),(11,Pt i),(12,Y a.2.2.2.2.2.1),(13,Y a.2.2.2.2.2.2)]) (λa g18=>[.bx v 85 [Y a.1,.bool a.2.1],.rd h c.2.2.1,.ow 2 g18.1 a.2.2.2.1,.ow 2 g18.2 a.2.2.2.2.1,.bx i 162 [Y c.1,Y c.2.1,h,Y a.2.2.1,g18.1,g18.2]]) [6,0,1,2,3] (λa g18=>?_) (λa g18=>?_)
 ·obtain⟨j,k⟩:=g18
  refine al<|aN<|sr<|ba l<|u l<|aq λy P=>Fv (X l) l l l (Lg _ _ _) (mW [0,4] [1,2,3] l l (λ_=>l) λw b=>yZ w v (⟨a.1,a.2.1⟩:qc) i (⟨c.1,c.2.1,c.2.2.1,a.2.2.1,a.2.2.2.1,a.2.2.2.2.1⟩:aQ) h j k _ l (b.handed [0,4] l l l l) (b.apart [0,4] l (b.rd 1 l)) ((b.freeze 2 l).apart [0,4] l ((b.freeze 2 l).rd 2 l)) ((b.freeze 3 l).apart [0,4] l ((b.freeze 3 l).rd 3 l)) _ _ P) λ_=>cA<|pO (λ_ _=>[(2,Y p2),(3,.iface 83 (Pt v)),(11,Pt i),(12,Y a.2.2.2.2.2.1),(13,Y a.2.2.2.2.2.2)]) (λ_ _=>[.bx v 85 [Y y.2.1,.bool y.2.2],.rd h c.2.2.1,.ow 2 j a.2.2.2.1,.ow 2 k a.2.2.2.2.1,.bx i 162 [Y c.1,Y c.2.1,h,Y a.2.2.1,j,k]]) ?_ (λap g22=>?_)
  ·refine sr<|ba l<|eE l<|u l<|aW (λn=>?_) (λn=>?_)
   ·refine aI l n<|aI l n<|t n l<|nt<|aL l l<|sr<|ba l<|dt l Tryz.call54 (λw b=>cl (b.ea 1 l (aQ.aG Ri Ri (b.a7 2 l) Ri (b.bV 3 l) (b.bV 4 l)) l)) λar _=>aT l<|o l<|aK<|aY<|CB<|bq<|kr x l (f l) (f l) (f l)<|u l<|cQ l<|cz l<|aT l ?_
    exact o l<|bB<|u l<|cW l<|u l<|qg l (by decide) (H l)<|qg l (by decide) (q l)<|qg l (by decide) (e xQ l)<|qg l (by decide) (p 0 wO l)<|au (by decide) l<|nt<|aH l (λaa=>sr<|aT l<|o l<|bQ<|m3 l (f l) (f l) (f l) () []) (λaa=>dQ<|u l<|ay l<|F zZ l<|M 0 d l<|u l<|aT l<|o l<|aK<|m3 l (f l) (f l) (f l) () [])
   ·refine qg l n (H l)<|aq λav Q=>dx (Gd l n) l Tryz.call54 l (aX λw b=>cl (b.ea 1 l (aQ.aG Ri Ri (b.a7 2 l) Ri (b.bV 3 l) (b.bV 4 l)) l) _ Q) λ_=>au n l<|nt<|aH l (λab=>?_) (λab=>aV<|mt () [0,2,3,4,1])
    refine sr<|ba l<|dt l Tryz.call54 (λw b=>cl (b.ea 1 l (aQ.aG Ri Ri (b.a7 2 l) Ri (b.bV 3 l) (b.bV 4 l)) l)) λax _=>aT l<|o l<|aK<|aY<|CB<|bq<|kr x l (f l) (f l) (f l)<|u l<|cQ l<|cz l<|aT l<|o l<|bB ?_
    exact u l<|cW l<|u l<|qg l (by decide) (H l)<|qg l (by decide) (q l)<|qg l (by decide) (e xQ l)<|qg l (by decide) (p 0 wO l)<|au (by decide) l<|nt<|aH l (λac=>sr<|aT l<|o l<|bQ<|m3 l (f l) (f l) (f l) () []) (λac=>dQ<|u l<|ay l<|F zZ l<|M 0 d l<|u l<|aT l<|o l<|aK<|m3 l (f l) (f l) (f l) () [])
  ·refine T<|sr<|u l<|dt l Tryz.call105 (λw b=>qU (b.ea 4 l (aQ.aG Ri Ri (b.a7 1 l) Ri (b.bV 2 l) (b.bV 3 l)) l)) λaA _=>c6 fx l λaB=>aR 0 bJ l (a8 cI cI cI) l<|bA<|ba l<|u l<|m 0 bJ l<|aq λaD R=>Fv (X l) l l l (KZ _ _ _ _) (mW [1,5] [0,2,3,4] l l (λ_=>l) λw b=>AV w v (⟨y.2.1,y.2.2⟩:qc) i (⟨c.1,c.2.1,c.2.2.1,a.2.2.1,a.2.2.2.1,a.2.2.2.2.1⟩:aQ) h j k _ l (b.handed [1,5] l l l l) (b.apart [1,5] l (b.rd 2 l)) ((b.freeze 3 l).apart [1,5] l ((b.freeze 3 l).rd 3 l)) ((b.freeze 4 l).apart [1,5] l ((b.freeze 4 l).rd 4 l)) _ _ _ (b.apart [1,5] l (ai.aG Ri Ri Ri)) _ R) λ_=>bB<|u l<|aq λaE S=>cT l Tryz.call55 [1,4,5] [0,2,3] l (λw b=>dp w i (⟨c.1,c.2.1,c.2.2.1,a.2.2.1,a.2.2.2.1,a.2.2.2.2.1⟩:aQ) h j k _ l (b.handed [1,4,5] l l l l) (b.apart [1,4,5] l (b.rd 3 l)) _ S) λ⟨G,I⟩=>bG l<|nt<|aH l (λad=>?_) (λad=>?_)
   ·refine sr<|aT l<|o l<|bQ<|az<|s<|bq<|kr x l (f l) (f l) (f l)<|u l<|cQ l<|cz l<|aT l<|o l<|bB<|u l<|cW l<|u l<|aI l (by decide)<|aI l (by decide) ?_
    exact aI l (by decide)<|aI l (by decide)<|t (by decide) l<|nt<|aL l l<|sr<|aT l<|o l<|bQ<|m3 l (f l) (f l) (f l) () []
   ·exact sn<|W<|u l<|F gm l<|M 4 d l<|aM l<|o l<|af<|aw<|T<|W<|u l<|aM l<|o l<|af<|nx (G,I) [3,5,1,2,0]
 ·obtain⟨j,k⟩:=g18
  exact oT
theorem tO {c:Value}{J:O}(h:Rd A w c J): ∀r:bo×Int×Int,mw J=some r->cy Tryz.prog 45 [c] A w (λn:Unit=>.tuple #[.agg #[Y r.1.state,Y r.1.bE],Y r.2.1,Y r.2.2]) (λn=>[]):=by
 obtain⟨k,rfl,b⟩:=O.open h
 refine dq Tryz.func45 Tryz.ntmps45 l (S0.ao l b)<|sr<|cu l (a8 cI cI (cR 0 l)) λb1=>c6 xa l λb2=>aT l<|bA<|m 1 bO l<|dt l Tryz.call111 (λw i=>vO (O.aG Ri Ri (i.a7 2 l))) λs _=>u l<|cQ l<|c6 xa l λb5=>aR 0 gU l (oB cI cI) l<|o l<|bB<|u l<|cW l<|u l<|aW (λa=>?_) (λa=>?_)
 ·exact aI l a<|aI l a<|aI l a<|aI l a<|t a l<|nt<|aL l l<|sr<|ql (aC C9 l .nil (λw i=>trivial))<|aR 1 gU l (oB cI cI) l<|aT l<|bQ<|m3 l (aD 1 l l gU l) (f l) (f l) () []
 ·exact qg l a (e mQ l)<|qg l a (p 0 d l)<|qg l a (rM l)<|qg l a (yC l)<|au a l<|jG l (λq=>sr<|ql (aC C9 l .nil (λw i=>trivial))<|aR 1 gU l (oB cI cI) l<|aT l<|bQ<|m3 l (aD 1 l l gU l) (f l) (f l) () []) λq=>sn<|al<|jk [1]<|aJ 0 [0,2,3] [1] l (aO 0 gU l)<|aJ 1 [0,2,3] [1] l (e mQ l)<|aJ 2 [0,2,3] [1] l (p 0 d l)<|aJ 3 [0,2,3] [1] l (rM l)<|bP [0,2,3] [1] l l l λv j g=>D1 4<|dD l (dW 1 gU l (oB cI cI) l) (bc 0 l)<|Dk 5 g l (aE l)<|Dk 6 g l (aE l)<|De<|T<|e9<|m3 l (aD 1 l l gU l) (f l) (f l) () []
end Go.Proofs.YtapnabgdcndleaaGreatDoor
