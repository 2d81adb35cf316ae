/-
  Each function of the program computes what its plain function says: printed by program. No condition.
-/
import Derived.Test.YtapnabgdcndleaaGreatDoorFn
import Derived.Test.YtapnabgdcndleaaGreatDoorSh
import Derived.Test.YtapnabgdcndleaaGreatDoorInf
import Derived.Test.YtapnabgdcndleaaGreatDoorCon1
import Derived.Test.YtapnabgdcndleaaGreatDoorCon2
import Derived.Test.YtapnabgdcndleaaGreatDoorCon3
import Derived.Test.YtapnabgdcndleaaGreatDoorCon4
import Derived.Test.YtapnabgdcndleaaGreatDoorCon7
import Derived.Test.YtapnabgdcndleaaGreatDoorCon8
import Derived.Test.YtapnabgdcndleaaGreatDoorCon9
import Derived.Test.YtapnabgdcndleaaGreatDoorCon11
import Derived.Test.YtapnabgdcndleaaGreatDoorCon13
import Derived.Test.YtapnabgdcndleaaGreatDoorAsmC
namespace Go.Proofs.YtapnabgdcndleaaGreatDoor
open Go Go.Tc Go.Fn
set_option linter.unusedVariables false
set_option maxHeartbeats 40000000
set_option maxRecDepth 100000
variable {A:Nat->Prop}{w:World}[Old A w]
theorem uM {b:Value}{J:(List ByteArray)}(v:Rd A w b J){c:Value}{p1:(List ByteArray)}(x:Rd A w c p1){e:Value}{p2:(List Int)}(y:Rd A w e p2): ∀r:Bool,fX J p1 p2=some r->cy Tryz.prog 19 [b,c,e] A w (λE:Unit=>.bool r) (λE=>[]):=by
 refine dq Tryz.func19 Tryz.ntmps19 l (((S0.ao l v).ao l x).ao l y)<|sr<|o l<|cA<|pO (λ_ _=>[(0,b),(1,c),(2,e)]) (λ_ _=>[.rd b J,.rd c p1,.rd e p2]) ?_ (λs1 g2=>?_)
 ·refine sr<|u l<|dt l Tryz.call69 (λw j=>wH (j.a7 2 l)) λP _=>bG l<|u l<|aW (λg=>?_) (λg=>?_)
  ·refine aI l g<|aI l g<|aI l g<|t g l<|u l<|aI l l<|aI l l<|aI l l<|aI l l<|aI l l<|t l l<|u l<|aI l l<|aI l l<|aI l l<|t l l<|u l<|aI l l<|aI l l<|aI l l<|aI l l<|aI l l<|aI l l<|t l l<|nt<|aL l l<|sr<|o l ?_
   exact aK<|aY<|s<|n1 l () []
  ·refine qg l g (H l)<|qg l g (jA 1 Tryz.underlying49 l)<|qg l g (yC l)<|au g l<|u l<|aW (λf=>?_) (λf=>?_)
   ·refine aI l f<|aI l f<|aI l f<|aI l f<|aI l f<|t f l<|u l<|aI l l<|aI l l<|aI l l<|t l l<|u l<|aI l l<|aI l l<|aI l l<|aI l l<|aI l l<|aI l l<|t l l<|nt<|aL l l<|sr<|o l<|aK<|aY<|s ?_
    exact n1 l () []
   ·refine qg l f (H l)<|qg l f (jA 0 Tryz.underlying27 l)<|qg l f (H l)<|qg l f (jA 2 Tryz.underlying49 l)<|qg l f (iU l)<|au f l<|u l<|aW (λh=>?_) (λh=>?_)
    ·exact aI l h<|aI l h<|aI l h<|t h l<|u l<|aI l l<|aI l l<|aI l l<|aI l l<|aI l l<|aI l l<|t l l<|nt<|aL l l<|sr<|o l<|aK<|aY<|s<|n1 l () []
    ·refine qg l h (H l)<|aq λQ z=>dx (Gd l h) l Tryz.call70 l (aX λw j=>Db (j.a7 0 l) _ z) λ_=>qg l h (gK l)<|au h l<|u l<|aW (λa=>?_) (λa=>?_)
     ·exact aI l a<|aI l a<|aI l a<|aI l a<|aI l a<|aI l a<|t a l<|nt<|aL l l<|sr<|o l<|aK<|aY<|s<|n1 l () []
     ·exact qg l a (H l)<|qg l a (H l)<|aq λF k=>dx (Gd l a) l Tryz.call25 l (aX λw j=>n8 (j.a7 1 l) _ k) λ_=>qg l a (tT l)<|aq λG m=>dx (Gd l a) l Tryz.call71 l (aX λw j=>pM (j.a7 0 l) _ m) λ_=>qg l a (gK l)<|au a l<|nt<|aH l (λB=>sr<|o l<|aK<|aY<|s<|n1 l () []) (λB=>aV<|mt () [2,1,0])
 ·refine T<|al<|sr<|u l<|bF 2 Tryz.underlying27 l<|u l<|nt<|lp (jY J p1 p2) 0 () (λi _=>[(0,b),(1,c),(37,e),(38,Y (p2.length:Int)),(39,Y i)]) (λi _=>[.rd b J,.rd c p1,.rd e p2]) [0,1,2] (λi g17=>?_) (λi g17=>T<|sr<|o l<|aK<|n1 l () [])
  refine sr<|cG l<|cA<|aH l (λC=>?_) (λC=>bu<|aA<|bk () [0,1,2])
  refine sn<|al<|aN<|sr<|u l<|aq λI n=>st (cU 2 Tryz.underlying27 d l l l n) λK=>st (bM 0 (bT _) d l l) λ_=>aT l<|cA<|eH<|T0 0 l (H l)<|T0 1 l (H l)<|cK λL p=>gH 2 [] l (eP 2 Tryz.underlying49 gX l l l p) λM=>gH 3 [] l (cr 0 (rP _) gX l l) λ_=>T0 4 l (H l)<|T0 5 l (H l)<|cK λN q=>gH 6 [] l (eP 2 Tryz.underlying49 gX l l l q) λO=>gH 7 [] l (cr 0 (rP _) gX l l) λ_=>T0 8 l (zQ l l)<|bP [] [] l l l λ_ _ _=>De<|T ?_
  exact aH l (λD=>sr<|o l<|aK<|az<|s<|eA<|s<|n1 l () []) (λD=>aV<|aw<|T<|W<|aM l<|u l<|af<|nx () [3,4,5])
theorem AY (am:kZ Tryz.prog w){a3:Value}{J:(List (Ik .u8))}(bo:Rd A w a3 J): ∀r:Bool,qO J=some r->cy Tryz.prog 3 [a3] A w (λx_:Unit=>.bool r) (λx_=>[]):=by
 refine dq Tryz.func3 Tryz.ntmps3 l (S0.ao l bo)<|sr<|o l<|bB<|u l<|dt l Tryz.call4 (λw b=>Ei (b.a7 0 l)) λr1 _=>jG l (λh3=>sr<|o l<|bQ<|n1 l () []) λh3=>dQ<|u l<|gD l Tryz.call5 (λw b=>C8 (b.a7 0 l)) λC ⟨y,z,B⟩=>u l<|cQ l<|c6 Ad l λb7=>c6 hU l λb8=>aR 1 bO l (a8 cI cI (cO 2 l)) l<|aR 0 g l (a8 cI (cO 3 l) (cO 4 l)) l<|af ?_
 refine T<|sr<|m 1 bO l<|dt l Tryz.call7 (λw b=>vm (kZ.of am b) (O.aG Ri Ri (b.bV 2 l))) λr9 _=>gD l Tryz.call6 (λw b=>AU (kZ.of am b)) λb5 b6=>u l<|cQ l<|c6 Ad l λb9=>aR 0 bO l (a8 cI cI (cO 1 l)) l<|o l<|cA<|pO (λ_ _=>[(3,Pt b7),(4,Pt b8)]) (λ_ _=>[.ow 62 y C.1.aB,.bx b7 26 [Y C.1.I,Y C.1.N,y],.ow 2 z C.2.Left,.ow 2 B C.2.ak,.bx b8 29 [Y C.2.State,z,B]]) ?_ (λca g16=>?_)
 ·refine sr<|u l<|bG l<|u l<|aW (λS=>?_) (λS=>?_)
  ·exact aI l S<|aI l S<|aI l S<|aI l S<|t S l<|nt<|aL l l<|sr<|o l<|aK<|aY<|s<|n1 l () []
  ·exact qg l S (aO 0 bO l)<|qg l S (aO 3 bO l)<|aq λcb a4=>dx (Gd l S) l Tryz.call8 l (aX λw b=>A3 (O.aG Ri Ri (b.bV 1 l)) (O.aG Ri Ri (b.bV 4 l)) _ a4) λ_=>qg l S (gK l)<|au S l<|nt<|aH l (λbp=>sr<|o l<|aK<|aY<|s<|n1 l () []) (λbp=>aV<|mt () [4,3,5,6,2])
 ·refine T<|sr<|m 1 bO l<|m 4 g l<|gD l Tryz.call9 (λw b=>vQ (O.aG Ri Ri (b.bV 0 l)) (U.aG Ri (b.bV 2 l) (b.bV 3 l))) λF ⟨G,K⟩=>u l<|cQ l<|cQ l<|c6 hU l λai=>aR 0 g l (a8 cI (cO 1 l) (cO 2 l)) l<|aT l<|o l<|bA<|m 4 bO l<|m 7 g l<|gD l Tryz.call10 (λw b=>BP (O.aG Ri Ri (b.bV 3 l)) (U.aG Ri (b.bV 5 l) (b.bV 6 l))) λa0 aj=>u l<|cQ l<|aT l ?_
  refine cA<|pO (λ_ _=>[(3,Pt b7),(4,Pt b8),(7,Pt ai),(8,Y F.2.1),(9,.bool F.2.2.1),(11,aj),(12,Y a0.2)]) (λ_ _=>[.ow 62 y C.1.aB,.bx b7 26 [Y C.1.I,Y C.1.N,y],.ow 2 z C.2.Left,.ow 2 B C.2.ak,.bx b8 29 [Y C.2.State,z,B],.ow 2 G F.1.Left,.ow 2 K F.1.ak,.bx ai 29 [Y F.1.State,G,K],.ow 2 aj a0.1]) ?_ (λcc cd=>?_)
  ·refine sr<|u l<|cW l<|u l<|aW (λL=>?_) (λL=>?_)
   ·exact aI l L<|aI l L<|aI l L<|iS l<|iS l<|aI l L<|t L l<|nt<|aL l l<|sr<|o l<|aK<|aY<|s<|n1 l () []
   ·refine qg l L (H l)<|qg l L (iU l)<|qg l L (H l)<|aW (λaa=>?_) (λaa=>aI l aa<|aI l aa<|qg l L (bh aa l)<|au L l<|nt<|aU l l<|aV<|mt () [4,5,6,7,8,2,3,1,0])
    exact qg l aa (H l)<|qg l aa (iU l)<|qg l L (bj aa l)<|au L l<|nt<|aH l (λbq=>sr<|o l<|aK<|aY<|s<|n1 l () []) (λbq=>aV<|mt () [4,5,6,7,8,2,3,1,0])
  ·refine T<|al<|pO (λ_ _=>[(3,Pt b7),(4,Pt b8)]) (λ_ _=>[.ow 62 y C.1.aB,.bx b7 26 [Y C.1.I,Y C.1.N,y],.ow 2 z C.2.Left,.ow 2 B C.2.ak,.bx b8 29 [Y C.2.State,z,B]]) ?_ (λce cf=>?_)
   ·refine sr<|u l<|nt<|aH l (λbr=>?_) (λbr=>aV<|mt () (rs [0,4]))
    refine al<|pO (λ_ _=>[(3,Pt b7),(4,Pt b8),(7,Pt ai),(8,Y F.2.1),(11,aj)]) (λ_ _=>[.ow 62 y C.1.aB,.bx b7 26 [Y C.1.I,Y C.1.N,y],.ow 2 z C.2.Left,.ow 2 B C.2.ak,.bx b8 29 [Y C.2.State,z,B],.ow 2 G F.1.Left,.ow 2 K F.1.ak,.bx ai 29 [Y F.1.State,G,K],.ow 2 aj a0.1]) ?_ (λcg ch=>?_)
    ·refine al<|jk [8]<|aJ 0 (rs [0,7]) [8] l (H l)<|aJ 1 (rs [0,7]) [8] l (iU l)<|aJ 2 (rs [0,7]) [8] l (H l)<|nR (λZ=>?_) (λZ=>?_)
     ·refine Tp 3 l Z<|Tp 4 l Z<|Tp 5 l Z<|aJ 6 (rs [0,7]) [8] l (bj Z l)<|aJ 7 (rs [0,7]) [8] l (H l)<|Tp 8 l l<|Tp 9 l l<|Tp 10 l l<|Tp 11 l l<|Tp 12 l l<|aJ 13 (rs [0,7]) [8] l (bj l l)<|aJ 14 (rs [0,7]) [8] l (H l)<|Tp 15 l l<|Tp 16 l l<|Tp 17 l l<|Tp 18 l l<|Tp 19 l l<|jD (i:=20) l (by kernel_rfl) (by kernel_rfl) (by kernel_rfl) l l l<|jD (i:=21) l (by kernel_rfl) (by kernel_rfl) (by kernel_rfl) l l l<|jD (i:=22) l (by kernel_rfl) (by kernel_rfl) (by kernel_rfl) l l l<|jD (i:=23) l (by kernel_rfl) (by kernel_rfl) (by kernel_rfl) l l l<|jD (i:=24) l (by kernel_rfl) (by kernel_rfl) (by kernel_rfl) l l l<|Tp 25 l l<|aJ 26 (rs [0,7]) [8] l (bj l l)<|aJ 27 (rs [0,7]) [8] l (H l)<|Tp 28 l l<|Tp 29 l l<|Tp 30 l l<|Tp 31 l l<|Tp 32 l l ?_
      refine jD (i:=33) l (by kernel_rfl) (by kernel_rfl) (by kernel_rfl) l l l<|jD (i:=34) l (by kernel_rfl) (by kernel_rfl) (by kernel_rfl) l l l<|jD (i:=35) l (by kernel_rfl) (by kernel_rfl) (by kernel_rfl) l l l<|jD (i:=36) l (by kernel_rfl) (by kernel_rfl) (by kernel_rfl) l l l<|jD (i:=37) l (by kernel_rfl) (by kernel_rfl) (by kernel_rfl) l l l<|Tp 38 l l<|aJ 39 (rs [0,7]) [8] l (bj l l)<|aJ 40 (rs [0,7]) [8] l (H l)<|Tp 41 l l<|Tp 42 l l<|Tp 43 l l<|Tp 44 l l<|Tp 45 l l<|Tp 46 l l<|Tp 47 l l<|aJ 48 (rs [0,7]) [8] l (bj l l)<|bP [] [8] l l l λ_ _ _=>De<|T<|aL l l<|sr<|o l<|aK<|aY<|s<|aY<|s ?_
      exact n1 l () []
     ·refine QH 3 (rs [0,7]) [8] l (Gd l Z) (H l)<|bP (rs [0,7]) [8] l l l λci bs a=>D1 4<|oY l (Gd l Z) l (gi 8 Tryz.underlying27 l)<|gb 5 a l (Gd l Z) (iU l)<|Dk 6 a l (bh Z l)<|Dk 7 a l (H l)<|mE (λM=>?_) (λM=>?_)
      ·refine Dp 8 l M<|Dp 9 l M<|Dp 10 l M<|Dp 11 l M<|Dp 12 l M<|Dk 13 a l (bj M l)<|Dk 14 a l (H l)<|Dp 15 l l<|Dp 16 l l<|Dp 17 l l<|Dp 18 l l<|Dp 19 l l<|cF (i:=20) l (by kernel_rfl) (by kernel_rfl) (by kernel_rfl) l l l<|cF (i:=21) l (by kernel_rfl) (by kernel_rfl) (by kernel_rfl) l l l<|cF (i:=22) l (by kernel_rfl) (by kernel_rfl) (by kernel_rfl) l l l<|cF (i:=23) l (by kernel_rfl) (by kernel_rfl) (by kernel_rfl) l l l<|cF (i:=24) l (by kernel_rfl) (by kernel_rfl) (by kernel_rfl) l l l<|Dp 25 l l<|Dk 26 a l (bj l l)<|Dk 27 a l (H l)<|Dp 28 l l<|Dp 29 l l<|Dp 30 l l<|Dp 31 l l<|Dp 32 l l<|cF (i:=33) l (by kernel_rfl) (by kernel_rfl) (by kernel_rfl) l l l<|cF (i:=34) l (by kernel_rfl) (by kernel_rfl) (by kernel_rfl) l l l<|cF (i:=35) l (by kernel_rfl) (by kernel_rfl) (by kernel_rfl) l l l<|cF (i:=36) l (by kernel_rfl) (by kernel_rfl) (by kernel_rfl) l l l<|cF (i:=37) l (by kernel_rfl) (by kernel_rfl) (by kernel_rfl) l l l ?_
       exact Dp 38 l l<|Dk 39 a l (bj l l)<|Dk 40 a l (H l)<|Dp 41 l l<|Dp 42 l l<|Dp 43 l l<|Dp 44 l l<|Dp 45 l l<|Dp 46 l l<|Dp 47 l l<|Dk 48 a l (bj l l)<|De<|T<|aL l l<|sr<|o l<|aK<|aY<|s<|aY<|s<|n1 l () []
      ·refine gb 8 a l (Gd l M) (H l)<|aF λcj an=>ID (v:=aj) 8 l an ?_
       rintro ck bt rfl
       refine gb 9 a l (Gd l M) (cH Tryz.underlying27 d l l an (by first|rfl|simp))<|gb 11 a l (Gd l M) (H l)<|D1 10<|oY l (Gd l M) l (aP 8 d l l an)<|gb 12 a l (Gd l M) (iU l)<|Dk 13 a l (bh M l)<|Dk 14 a l (H l)<|mE (λp=>?_) (λp=>?_)
       ·refine Dp 15 l p<|Dp 16 l p<|Dp 17 l p<|Dp 18 l p<|Dp 19 l p<|cF (i:=20) l (by kernel_rfl) (by kernel_rfl) (by kernel_rfl) l l l<|cF (i:=21) l (by kernel_rfl) (by kernel_rfl) (by kernel_rfl) l l l<|cF (i:=22) l (by kernel_rfl) (by kernel_rfl) (by kernel_rfl) l l l<|cF (i:=23) l (by kernel_rfl) (by kernel_rfl) (by kernel_rfl) l l l<|cF (i:=24) l (by kernel_rfl) (by kernel_rfl) (by kernel_rfl) l l l<|Dp 25 l p<|Dk 26 a l (bj p l)<|Dk 27 a l (H l)<|Dp 28 l l<|Dp 29 l l<|Dp 30 l l<|Dp 31 l l<|Dp 32 l l<|cF (i:=33) l (by kernel_rfl) (by kernel_rfl) (by kernel_rfl) l l l<|cF (i:=34) l (by kernel_rfl) (by kernel_rfl) (by kernel_rfl) l l l<|cF (i:=35) l (by kernel_rfl) (by kernel_rfl) (by kernel_rfl) l l l<|cF (i:=36) l (by kernel_rfl) (by kernel_rfl) (by kernel_rfl) l l l<|cF (i:=37) l (by kernel_rfl) (by kernel_rfl) (by kernel_rfl) l l l<|Dp 38 l l<|Dk 39 a l (bj l l)<|Dk 40 a l (H l)<|Dp 41 l l<|Dp 42 l l<|Dp 43 l l<|Dp 44 l l ?_
        exact Dp 45 l l<|Dp 46 l l<|Dp 47 l l<|Dk 48 a l (bj l l)<|De<|T<|aL l l<|sr<|o l<|aK<|aY<|s<|aY<|s<|n1 l () []
       ·refine gb 15 a l (Gd l p) (H l)<|aF λcl aA=>gb 16 a l (Gd l p) (cH Tryz.underlying27 d l l aA (by first|rfl|simp))<|D1 17<|oY l (Gd l p) l (aP 8 d l l aA)<|gb 18 a l (Gd l p) (xb l)<|gb 19 a l (Gd l p) (H l)<|mE (λP=>?_) (λP=>?_)
        ·refine gb 20 a l (Gd l P) (H l)<|aF λcm aC=>gb 21 a l (Gd l P) (cH Tryz.underlying27 d l l aC (by first|rfl|simp))<|gb 23 a l (Gd l P) (H l)<|D1 22<|oY l (Gd l P) l (aP 8 d l l aC)<|gb 24 a l (Gd l P) (mb l)<|gb 25 a l (Gd l p) (bj P l)<|Dk 26 a l (bh p l)<|Dk 27 a l (H l)<|mE (λq=>?_) (λq=>?_)
         ·refine Dp 28 l q<|Dp 29 l q<|Dp 30 l q<|Dp 31 l q<|Dp 32 l q<|cF (i:=33) l (by kernel_rfl) (by kernel_rfl) (by kernel_rfl) l l l<|cF (i:=34) l (by kernel_rfl) (by kernel_rfl) (by kernel_rfl) l l l<|cF (i:=35) l (by kernel_rfl) (by kernel_rfl) (by kernel_rfl) l l l<|cF (i:=36) l (by kernel_rfl) (by kernel_rfl) (by kernel_rfl) l l l<|cF (i:=37) l (by kernel_rfl) (by kernel_rfl) (by kernel_rfl) l l l<|Dp 38 l q<|Dk 39 a l (bj q l)<|Dk 40 a l (H l)<|Dp 41 l l<|Dp 42 l l<|Dp 43 l l<|Dp 44 l l<|Dp 45 l l<|Dp 46 l l<|Dp 47 l l<|Dk 48 a l (bj l l)<|De<|T<|aL l l<|sr<|o l<|aK ?_
          exact aY<|s<|aY<|s<|n1 l () []
         ·refine gb 28 a l (Gd l q) (H l)<|aF λcn aD=>gb 29 a l (Gd l q) (cH Tryz.underlying27 d l l aD (by first|rfl|simp))<|D1 30<|oY l (Gd l q) l (aP 8 d l l aD)<|gb 31 a l (Gd l q) (xb l)<|gb 32 a l (Gd l q) (H l)<|mE (λQ=>?_) (λQ=>?_)
          ·refine gb 33 a l (Gd l Q) (H l)<|aF λco aE=>gb 34 a l (Gd l Q) (cH Tryz.underlying27 d l l aE (by first|rfl|simp))<|gb 36 a l (Gd l Q) (H l)<|D1 35<|oY l (Gd l Q) l (aP 8 d l l aE)<|gb 37 a l (Gd l Q) (iU l)<|gb 38 a l (Gd l q) (bj Q l)<|Dk 39 a l (bh q l)<|Dk 40 a l (H l)<|mE (λf=>?_) (λf=>?_)
           ·exact Dp 41 l f<|Dp 42 l f<|Dp 43 l f<|Dp 44 l f<|Dp 45 l f<|Dp 46 l f<|Dp 47 l f<|Dk 48 a l (bj f l)<|De<|T<|aL l l<|sr<|o l<|aK<|aY<|s<|aY<|s<|n1 l () []
           ·refine gb 41 a l (Gd l f) (H l)<|aF λcp ap=>gb 42 a l (Gd l f) (cH Tryz.underlying27 d l l ap (by first|rfl|simp))<|gb 44 a l (Gd l f) (H l)<|aF λcq ar=>gb 45 a l (Gd l f) (cH Tryz.underlying27 d l l ar (by first|rfl|simp))<|dP (i:=43) (j:=46) (by kernel_rfl) ?_ ?_
            ·exact oY l (Gd l f) l (aP 8 d l l ap)<|D1 46<|oY l (Gd l f) l (aP 8 d l l ar)<|gb 47 a l (Gd l f) (iU l)<|Dk 48 a l (bh f l)<|De<|T<|aH l (λbu=>sr<|o l<|aK<|aY<|s<|aY<|s<|n1 l () []) (λbu=>aV<|mt () (rs [0,8]))
            ·exact oY l (Gd l f) l (aP 8 d l l ar)<|D1 43<|oY l (Gd l f) l (aP 8 d l l ap)<|gb 47 a l (Gd l f) (iU l)<|Dk 48 a l (bh f l)<|De<|T<|aH l (λbv=>sr<|o l<|aK<|aY<|s<|aY<|s<|n1 l () []) (λbv=>aV<|mt () (rs [0,8]))
          ·refine Dp 33 l Q<|Dp 34 l Q<|Dp 35 l Q<|Dp 36 l Q<|Dp 37 l Q<|gb 38 a l (Gd l q) (bh Q l)<|Dk 39 a l (bh q l)<|Dk 40 a l (H l)<|gb 41 a l (Gd l l) (H l)<|aF λcr av=>gb 42 a l (Gd l l) (cH Tryz.underlying27 d l l av (by first|rfl|simp))<|gb 44 a l (Gd l l) (H l)<|aF λcs aw=>gb 45 a l (Gd l l) (cH Tryz.underlying27 d l l aw (by first|rfl|simp))<|dP (i:=43) (j:=46) (by kernel_rfl) ?_ ?_
           ·exact oY l (Gd l l) l (aP 8 d l l av)<|D1 46<|oY l (Gd l l) l (aP 8 d l l aw)<|gb 47 a l (Gd l l) (iU l)<|Dk 48 a l (bh l l)<|De<|T<|aH l (λbw=>sr<|o l<|aK<|aY<|s<|aY<|s<|n1 l () []) (λbw=>aV<|mt () (rs [0,8]))
           ·exact oY l (Gd l l) l (aP 8 d l l aw)<|D1 43<|oY l (Gd l l) l (aP 8 d l l av)<|gb 47 a l (Gd l l) (iU l)<|Dk 48 a l (bh l l)<|De<|T<|aH l (λbz=>sr<|o l<|aK<|aY<|s<|aY<|s<|n1 l () []) (λbz=>aV<|mt () (rs [0,8]))
        ·refine Dp 20 l P<|Dp 21 l P<|Dp 22 l P<|Dp 23 l P<|Dp 24 l P<|gb 25 a l (Gd l p) (bh P l)<|Dk 26 a l (bh p l)<|Dk 27 a l (H l)<|gb 28 a l (Gd l l) (H l)<|aF λct aM=>gb 29 a l (Gd l l) (cH Tryz.underlying27 d l l aM (by first|rfl|simp))<|D1 30<|oY l (Gd l l) l (aP 8 d l l aM)<|gb 31 a l (Gd l l) (xb l)<|gb 32 a l (Gd l l) (H l)<|mE (λR=>?_) (λR=>?_)
         ·refine gb 33 a l (Gd l R) (H l)<|aF λcu aN=>gb 34 a l (Gd l R) (cH Tryz.underlying27 d l l aN (by first|rfl|simp))<|gb 36 a l (Gd l R) (H l)<|D1 35<|oY l (Gd l R) l (aP 8 d l l aN)<|gb 37 a l (Gd l R) (iU l)<|gb 38 a l (Gd l l) (bj R l)<|Dk 39 a l (bh l l)<|Dk 40 a l (H l)<|mE (λh=>?_) (λh=>?_)
          ·exact Dp 41 l h<|Dp 42 l h<|Dp 43 l h<|Dp 44 l h<|Dp 45 l h<|Dp 46 l h<|Dp 47 l h<|Dk 48 a l (bj h l)<|De<|T<|aL l l<|sr<|o l<|aK<|aY<|s<|aY<|s<|n1 l () []
          ·refine gb 41 a l (Gd l h) (H l)<|aF λcv ax=>gb 42 a l (Gd l h) (cH Tryz.underlying27 d l l ax (by first|rfl|simp))<|gb 44 a l (Gd l h) (H l)<|aF λcw ay=>gb 45 a l (Gd l h) (cH Tryz.underlying27 d l l ay (by first|rfl|simp))<|dP (i:=43) (j:=46) (by kernel_rfl) ?_ ?_
           ·exact oY l (Gd l h) l (aP 8 d l l ax)<|D1 46<|oY l (Gd l h) l (aP 8 d l l ay)<|gb 47 a l (Gd l h) (iU l)<|Dk 48 a l (bh h l)<|De<|T<|aH l (λbC=>sr<|o l<|aK<|aY<|s<|aY<|s<|n1 l () []) (λbC=>aV<|mt () (rs [0,8]))
           ·exact oY l (Gd l h) l (aP 8 d l l ay)<|D1 43<|oY l (Gd l h) l (aP 8 d l l ax)<|gb 47 a l (Gd l h) (iU l)<|Dk 48 a l (bh h l)<|De<|T<|aH l (λa5=>sr<|o l<|aK<|aY<|s<|aY<|s<|n1 l () []) (λa5=>aV<|mt () (rs [0,8]))
         ·refine Dp 33 l R<|Dp 34 l R<|Dp 35 l R<|Dp 36 l R<|Dp 37 l R<|gb 38 a l (Gd l l) (bh R l)<|Dk 39 a l (bh l l)<|Dk 40 a l (H l)<|gb 41 a l (Gd l l) (H l)<|aF λbD ab=>gb 42 a l (Gd l l) (cH Tryz.underlying27 d l l ab (by first|rfl|simp))<|gb 44 a l (Gd l l) (H l)<|aF λbE ac=>gb 45 a l (Gd l l) (cH Tryz.underlying27 d l l ac (by first|rfl|simp))<|dP (i:=43) (j:=46) (by kernel_rfl) ?_ ?_
          ·exact oY l (Gd l l) l (aP 8 d l l ab)<|D1 46<|oY l (Gd l l) l (aP 8 d l l ac)<|gb 47 a l (Gd l l) (iU l)<|Dk 48 a l (bh l l)<|De<|T<|aH l (λa6=>sr<|o l<|aK<|aY<|s<|aY<|s<|n1 l () []) (λa6=>aV<|mt () (rs [0,8]))
          ·exact oY l (Gd l l) l (aP 8 d l l ac)<|D1 43<|oY l (Gd l l) l (aP 8 d l l ab)<|gb 47 a l (Gd l l) (iU l)<|Dk 48 a l (bh l l)<|De<|T<|aH l (λa9=>sr<|o l<|aK<|aY<|s<|aY<|s<|n1 l () []) (λa9=>aV<|mt () (rs [0,8]))
    ·refine T<|sr<|m 1 bO l<|m 4 g l<|dt l Tryz.call11 (λw b=>Ec (O.aG Ri Ri (b.bV 0 l)) (U.aG Ri (b.bV 2 l) (b.bV 3 l))) λbF _=>u l<|cQ l<|cz l<|aT l<|o l<|cA<|pO (λ_ _=>[(3,Pt b7),(4,Pt b8),(7,Pt ai),(8,Y F.2.1)]) (λ_ _=>[.ow 62 y C.1.aB,.bx b7 26 [Y C.1.I,Y C.1.N,y],.ow 2 z C.2.Left,.ow 2 B C.2.ak,.bx b8 29 [Y C.2.State,z,B],.ow 2 G F.1.Left,.ow 2 K F.1.ak,.bx ai 29 [Y F.1.State,G,K]]) ?_ (λbI bJ=>?_)
     ·refine sr<|u l<|eE l<|u l<|aW (λe=>?_) (λe=>?_)
      ·refine qg l e (H l)<|qg l e (gK l)<|qg l e (H l)<|aW (λc=>?_) (λc=>?_)
       ·exact aI l c<|aI l c<|aI l c<|aI l c<|aI l c<|iS l<|iS l<|iS l<|iS l<|iS l<|aI l c<|qg l e (bj c l)<|t e l<|nt<|aL l l<|sr<|o l<|aK<|aY<|s<|aY<|s<|n1 l () []
       ·refine qg l c (H l)<|aq λbK ad=>j0 (v:=aj) 8 l ad ?_
        rintro bL bi rfl
        refine qg l c (dy 8 Tryz.underlying27 d l l l ad)<|qg l c (aP 8 d l l ad)<|qg l c (xb l)<|qg l c (H l)<|aW (λk=>?_) (λk=>aI l k<|aI l k<|aI l k<|aI l k<|aI l k<|qg l c (bh k l)<|qg l e (bh c l)<|t e l<|nt<|aU l l<|aV<|mt () (rs [0,7]))
        exact qg l k (H l)<|aq λbM az=>qg l k (dy 8 Tryz.underlying27 d l l l az)<|qg l k (aP 8 d l l az)<|qg l k (H l)<|qg l k (iU l)<|qg l c (bj k l)<|qg l e (bh c l)<|t e l<|nt<|aH l (λbb=>sr<|o l<|aK<|aY<|s<|aY<|s<|n1 l () []) (λbb=>aV<|mt () (rs [0,7]))
      ·exact aI l e<|aI l e<|aI l e<|iS l<|iS l<|iS l<|iS l<|iS l<|iS l<|iS l<|iS l<|iS l<|iS l<|iS l<|aI l e<|au e l<|nt<|aU l l<|aV<|mt () (rs [0,7])
     ·refine T<|sr<|m 1 bO l<|m 4 g l<|gD l Tryz.call12 (λw b=>yh (O.aG Ri Ri (b.bV 0 l)) (U.aG Ri (b.bV 2 l) (b.bV 3 l))) λbN ⟨bk,bl⟩=>bH (λw b=>b.iD 0 l)<|u l<|cQ l<|aT l<|bA<|m 3 bO l<|m 6 g l<|u l<|dt l Tryz.call13 (λw b=>wy (O.aG Ri Ri (b.bV 2 l)) (U.aG Ri (b.bV 4 l) (b.bV 5 l)) (b.a7 0 l)) λbR _=>u l<|cQ l<|aT l<|cA ?_
      refine W<|m 3 bO l<|m 9 g l<|gD l Tryz.call14 (λw b=>A7 (O.aG Ri Ri (b.bV 2 l)) (U.aG Ri (b.bV 7 l) (b.bV 8 l))) λbS ⟨bm,bn⟩=>u l<|cQ l<|c6 hU l λbT=>aR 0 g l (a8 cI (cO 1 l) (cO 2 l)) l<|o l<|bA<|u l<|cW l<|u l<|aW (λV=>?_) (λV=>?_)
      ·exact aI l V<|aI l V<|t V l<|u l<|aI l l<|aI l l<|t l l<|u l<|aI l l<|aI l l<|aI l l<|t l l<|nt<|aL l l<|sr<|o l<|aK<|aY<|s<|n1 l () []
      ·refine qg l V (H l)<|qg l V (iU l)<|au V l<|u l<|aW (λX=>?_) (λX=>?_)
       ·exact aI l X<|aI l X<|t X l<|u l<|aI l l<|aI l l<|aI l l<|t l l<|nt<|aL l l<|sr<|o l<|aK<|aY<|s<|n1 l () []
       ·exact qg l X (H l)<|qg l X (iU l)<|au X l<|u l<|aW (λD=>aI l D<|aI l D<|aI l D<|t D l<|nt<|aL l l<|sr<|o l<|aK<|aY<|s<|n1 l () []) λD=>qg l D (H l)<|qg l D (H l)<|qg l D (iU l)<|au D l<|nt<|aH l (λbc=>sr<|o l<|aK<|aY<|s<|n1 l () []) (λbc=>aV<|mt () (rs [5,9]))
   ·refine T<|sr<|m 1 bO l<|m 4 g l<|gD l Tryz.call15 (λw b=>Ab (kZ.of am b) (O.aG Ri Ri (b.bV 0 l)) (U.aG Ri (b.bV 2 l) (b.bV 3 l))) λaQ ae=>u l<|cQ l<|aT l<|bA<|m 2 bO l<|m 5 g l<|gD l Tryz.call16 (λw b=>Cp (kZ.of am b) (O.aG Ri Ri (b.bV 1 l)) (U.aG Ri (b.bV 3 l) (b.bV 4 l))) λaS aZ=>u l<|cQ l<|aT l<|bA<|m 3 bO l ?_
    refine m 6 g l<|gD l Tryz.call17 (λw b=>A2 (kZ.of am b) (O.aG Ri Ri (b.bV 2 l)) (U.aG Ri (b.bV 4 l) (b.bV 5 l))) λag ah=>u l<|cQ l<|aT l<|cA<|pO (λ_ _=>[(22,ae),(24,aZ),(25,Y aS.2),(26,ah),(27,Y ag.2)]) (λ_ _=>[.ow 9 ae aQ.1,.ow 9 aZ aS.1,.ow 9 ah ag.1]) ?_ (λbU bW=>?_)
    ·exact sr<|u l<|cW l<|u l<|aW (λE=>aI l E<|aI l E<|aI l E<|t E l<|nt<|aL l l<|sr<|o l<|aK<|aY<|s<|n1 l () []) λE=>qg l E (H l)<|qg l E (gi 2 Tryz.underlying49 l)<|qg l E (fK l)<|au E l<|nt<|aH l (λbd=>sr<|o l<|aK<|aY<|s<|n1 l () []) (λbd=>aV<|mt () [2,1,0])
    ·refine T<|al<|pO (λ_ _=>[(22,ae),(26,ah),(27,Y ag.2)]) (λ_ _=>[.ow 9 ae aQ.1,.ow 9 ah ag.1]) ?_ (λbX bY=>?_)
     ·refine sr<|u l<|eE l<|nt<|aH l (λbe=>?_) (λbe=>aV<|mt () [0,2])
      refine sr<|ba l<|gD l Tryz.call18 (λw b=>sY (b.bV 0 l) (b.bV 1 l)) λbZ b0=>u l<|cQ l<|aT l<|bA<|u l<|cW l<|u l<|aW (λn=>?_) (λn=>?_)
      ·exact aI l n<|aI l n<|aI l n<|aI l n<|aI l n<|t n l<|nt<|aL l l<|sr<|o l<|aK<|aY<|s<|n1 l () []
      ·exact qg l n (H l)<|qg l n (H l)<|qg l n (H l)<|aq λb1 a1=>dx (Gd l n) l Tryz.call19 l (aX λw b=>uM (b.bV 1 l) (b.bV 2 l) (b.bV 0 l) _ a1) λ_=>qg l n (gK l)<|au n l<|nt<|aH l (λbf=>sr<|o l<|aK<|aY<|s<|n1 l () []) (λbf=>aV<|mt () [1,3])
     ·exact T<|al<|sr<|u l<|cW l<|jG l (λbg=>sr<|o l<|bQ<|n1 l () []) λbg=>dQ<|ba l<|gD l Tryz.call18 (λw b=>sY (b.bV 0 l) (b.bV 1 l)) λb2 b3=>u l<|cQ l<|aT l<|bA<|u l<|eE l<|u l<|aW (λx=>qg l x (H l)<|qg l x (H l)<|qg l x (H l)<|aq λb4 a2=>dx (Gd l x) l Tryz.call19 l (aX λw b=>uM (b.bV 1 l) (b.bV 2 l) (b.bV 0 l) _ a2) λ_=>t x l<|o l<|aK<|n1 l () []) (λx=>aI l x<|aI l x<|aI l x<|aI l x<|au x l<|o l<|aK<|n1 l () [])
end Go.Proofs.YtapnabgdcndleaaGreatDoor
