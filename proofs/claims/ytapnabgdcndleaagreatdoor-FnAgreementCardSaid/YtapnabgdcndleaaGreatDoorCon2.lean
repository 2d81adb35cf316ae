/-
  Each function of the program computes what its plain function says: printed by program. No condition.
-/
import Derived.Test.YtapnabgdcndleaaGreatDoorFn
import Derived.Test.YtapnabgdcndleaaGreatDoorSh
import Derived.Test.YtapnabgdcndleaaGreatDoorInf
import Derived.Test.YtapnabgdcndleaaGreatDoorCon1
namespace Go.Proofs.YtapnabgdcndleaaGreatDoor
open Go Go.Tc Go.Fn
set_option linter.unusedVariables false
set_option maxHeartbeats 40000000
set_option maxRecDepth 100000
variable {A:Nat->Prop}{w:World}[Old A w]
theorem zi (a:kZ Tryz.prog w){J p1:Int}(r:ByteArray)(hr:fmtG J p1=some r): cy Tryz.prog 155 [Y J,Y p1] A w (λ_:Unit=>.string r) (λ_=>[]):=NL (λn b c w d=>Go.Proofs.Tryz.strconv_FormatInt_10 n b c w d) A w Old.h a.1.2 J p1 r hr
theorem nu (a:kZ Tryz.prog w){J:Int}: ∀r:ByteArray,iP J=some r->cy Tryz.prog 87 [Y J] A w (λb:Unit=>.string r) (λb=>[]):=by
 exact dq Tryz.func87 Tryz.ntmps87 l S0<|sr<|o l<|bA<|u l<|dt l Tryz.call155 (λw c=>zi (kZ.of a c)) λr1 _=>o l<|aK<|n1 l () []
theorem CK (b:kZ Tryz.prog w){g:Value}{J:ai}(u:Rd A w g J): ∀r:ByteArray,qH J=some r->cy Tryz.prog 29 [g] A w (λy:Unit=>.string r) (λy=>[]):=by
 obtain rfl:=ai.open u
 refine dq Tryz.func29 Tryz.ntmps29 l S0<|sr<|cu l (a8 cI cI cI) λb1=>o l<|bB<|m 0 bJ l<|dt l Tryz.call86 (λw c=>ke (ai.aG Ri Ri Ri)) λO _=>bG l<|jG l (λz=>sr<|o l<|bQ<|n1 l () []) λz=>dQ<|o l<|bB<|F gm l<|M 0 d l<|cG l ?_
 refine nt<|aH l (λB=>?_) (λB=>?_)
 ·exact W<|o l<|cA<|eH<|T0 0 l (e eo l)<|T0 1 l (p 0 d l)<|T0 3 l (H l)<|T0 5 l (e fH l)<|T0 6 l (p 0 d l)<|nX l λP x f=>aF λQ h=>D1 2<|gv l Tryz.call87 (aX λw c=>nu (kZ.of b c) _ h) λ_=>aF λC i=>Dk 4 f l (oD l l i)<|aF λD j=>D1 7<|gv l Tryz.call87 (aX λw c=>nu (kZ.of b c) _ j) λ_=>aF λE k=>Dk 8 f l (oD l l k)<|Dk 9 f l (aE l)<|De<|T<|e9<|n1 l () []
 ·exact sn<|al<|eH<|T0 0 l (e eo l)<|T0 1 l (p 0 d l)<|T0 3 l (H l)<|T0 5 l (e fH l)<|T0 6 l (p 0 d l)<|nX l λG v a=>aF λI n=>D1 2<|gv l Tryz.call87 (aX λw c=>nu (kZ.of b c) _ n) λ_=>aF λK q=>Dk 4 a l (oD l l q)<|aF λL s=>D1 7<|gv l Tryz.call87 (aX λw c=>nu (kZ.of b c) _ s) λ_=>aF λN t=>Dk 8 a l (oD l l t)<|Dk 9 a l (aE l)<|De<|T<|e9<|n1 l () []
theorem vc {a:Value}{J:List ByteArray}(b:Rd A w a J){p1:ByteArray}(r:ByteArray)(hr:x7 J p1=some r): cy Tryz.prog 30 [a,.string p1] A w (λ_:Unit=>.string r) (λ_=>[]):=Mn ⟨Go.Proofs.Tryz.strings_Join_none,Go.Proofs.Tryz.strings_Join⟩ A w Old.h a J b p1 r hr
theorem vm (S:kZ Tryz.prog w){x:Value}{J:O}(U:Rd A w x J): ∀r:ByteArray,il J=some r->cy Tryz.prog 7 [x] A w (λx_:Unit=>.string r) (λx_=>[]):=by
 obtain⟨c,rfl,t⟩:=O.open U
 refine dq Tryz.func7 Tryz.ntmps7 l (S0.ao l t)<|sr<|cu l (a8 cI cI (cR 0 l)) λb1=>o l<|bB<|m 0 bO l<|dt l Tryz.call27 (λw a=>pQ (O.aG Ri Ri (a.a7 1 l))) λr2 _=>bG l<|jG l (λh4=>sr<|o l<|bQ<|n1 l () []) λh4=>dQ<|st (cq (vs:=[]) ([]:List ByteArray) Tryz.underlying49 gX kN l (λw a=>trivial)) λb5=>c6 BE l λV=>aR 0 da l (cO 1 l) l<|bB<|F ee l ?_
 refine M 2 fC l<|F cY l<|M 2 d l<|pC Tryz.call28 Tryz.func28 Tryz.ntmps28 l λK_ Z=>sr<|cu l (cR 3 l) λQ=>cu l cI λR=>o l<|bB<|M 0 wS l<|cG l<|jG l (λaa=>W<|sQ) λaa=>dQ<|ql (dF l)<|o l<|aK<|i1 Z l<|af ?_
 refine T<|aN<|xn (lb:=[Pt Q,Pt R]) [] l Tryz.call85 Tryz.func85 l Tryz.ntmps85 l l λh n q ap y z=>sr<|o l<|nt<|lp (dE J) (0,([]:List ByteArray)) (Sl b5 0 0) (λe g18=>[(0,.func (.yield h) #[] #[]),(1,Pt Q),(2,Pt R),(4,Y e.1)]) (λe g18=>[Eu h q [] 0,Gl n,.rd c J.aB,.bx Q 24 [c],.bx R 3 [Y J.I],.ow 9 g18 e.2,.bx V 49 [g18]]) [0,1,7,3,2,5,4] (λe g18=>?_) (λe g18=>mT 0 .normal (.inr l) z l l 0 l<|aw<|T<|sr<|M 6 da l<|dt l Tryz.call30 (λw a=>vc (a.bV 5 l)) λau _=>o l<|aK<|mX 1 (.inl l) l<|n1 l () [])
 refine al<|sr<|u l<|M 3 fC l<|bF 2 Tryz.underlying24 l<|cG l<|nt<|aH l (λab=>?_) (λab=>bu<|aA<|bk g18 (rs [0,6]))
 refine sn<|al<|aN<|al<|eH<|T0 0 l (p 4 wS l)<|T0 1 l (p 3 fC l)<|T0 2 l (H l)<|cK λz20 B=>gH 3 [] l (np 2 Tryz.underlying24 bJ l l l l B) λav=>T0 4 l (jA 0 Tryz.underlying24 l)<|nX l λax ac C=>D1 5<|Oq l (PT l l)<|Dk 6 C l (aE l)<|De<|T<|al<|ir 10<|u l<|M 4 fC l<|ba l<|u l<|aM l<|ba l<|aM l<|aq λv D=>?_
 refine st (KP 3 Tryz.underlying24 bJ l l l l l D) λv28=>af<|kO l (X l) l l l 2 l y l l l λad b=>bL l<|o l<|af<|kL 2 l l<|aN<|al<|bL l<|st (cq (vs:=[]) ([]:List ByteArray) Tryz.underlying49 gX kN l (λw a=>trivial)) λae=>o l<|cA<|al<|bL l<|u l<|bF 1 Tryz.underlying24 l<|u l<|nt<|lp (gT v) (([]:List ByteArray),0) (Sl ae 0 0) (λk f=>[(3,Pt V),(5,f),(19,v28),(20,Y (v.length:Int)),(21,Y k.2)]) (λk f=>[Qd h q,Gl n,.ow 9 g18 e.2,.bx V 49 [g18],.ow 9 f k.1,.rd v28 v,.rd c J.aB,.bx Q 24 [c],.bx R 3 [Y J.I]]) [3,4,8,9,0,1,5,6,7] (λk f=>?_) (λk f=>?_)
 ·refine al<|bL l<|cG l<|cA<|aH l (λag=>?_) (λag=>bu<|aA<|bk f (rs [0,8]))
  exact sn<|al<|aN<|al<|bL l<|aq λay E=>st (cU 5 Tryz.underlying24 bJ l l l E) λaz=>st (bM 0 (ai.opens _) bJ l l) λ_=>c6 fx l λaC=>aR 0 bJ l (a8 cI cI cI) l<|nt<|bL l<|u l<|m 0 bJ l<|dt l Tryz.call29 (λw a=>CK (kZ.of S a) (ai.aG Ri Ri Ri)) λG _=>st (cq (vs:=[.string G]) ([G]:List ByteArray) Tryz.underlying49 gX kN l (λw a=>⟨(Rd.nZ _ _ _),trivial⟩)) λaD=>aq λaI K=>st (ec 7 Tryz.underlying49 gX kN vh l (λw a=>a.bg 0 l) K) λah=>o l<|af<|aw<|T<|bL l<|aM l<|u l<|af<|nx ah (rs [3,11])
 ·refine T<|B9 [2,3] (by kernel_rfl) (by kernel_rfl)<|aJ 1 (rs [0,1,4,8]) [2,3] l (H l)<|bP (rs [0,1,4,8]) [2,3] l l l λaL aj ar=>aF λg s=>dP (i:=0) (j:=2) (by kernel_rfl) ?_ ?_
  ·exact Oq l (p 3 da l)<|D1 2<|gv l Tryz.call30 (aX λw a=>vc (a.bV 4 l) _ s) λ_=>D1 3<|df l (cq (vs:=[.string g]) ([g]:List ByteArray) Tryz.underlying49 gX kN l (λw a=>⟨(Rd.nZ _ _ _),trivial⟩)) nh λaO=>aF λaP L=>D1 4<|df l (ec 3 Tryz.underlying49 gX kN vh l (λw a=>a.bg 0 l) L) (dN 0 l) λak=>D1 5<|dD l (dW 4 da l (cO 3 l) l) (bc 1 l)<|De<|aw<|dA (js:=[]) 0 true l l 1 l b<|bG l<|nt<|aU l l<|aV<|aw<|T<|W<|u l<|M 9 wS l<|aM l<|o l<|af<|nx ak [1,2,7,8,9,3,4]
  ·refine gv l Tryz.call30 (aX λw a=>vc (a.bV 4 l) _ s) λ_=>dP (i:=0) (j:=3) (by kernel_rfl) ?_ ?_
   ·exact Oq l (p 3 da l)<|D1 3<|df l (cq (vs:=[.string g]) ([g]:List ByteArray) Tryz.underlying49 gX kN l (λw a=>⟨(Rd.nZ _ _ _),trivial⟩)) nh λaQ=>aF λaS N=>D1 4<|df l (ec 3 Tryz.underlying49 gX kN vh l (λw a=>a.bg 0 l) N) (dN 0 l) λam=>D1 5<|dD l (dW 4 da l (cO 3 l) l) (bc 1 l)<|De<|aw<|dA (js:=[]) 0 true l l 1 l b<|bG l<|nt<|aU l l<|aV<|aw<|T<|W<|u l<|M 9 wS l<|aM l<|o l<|af<|nx am [1,2,7,8,9,3,4]
   ·exact df l (cq (vs:=[.string g]) ([g]:List ByteArray) Tryz.underlying49 gX kN l (λw a=>⟨(Rd.nZ _ _ _),trivial⟩)) nh λaT=>D1 0<|Oq l (p 4 da l)<|aF λaW P=>D1 4<|df l (ec 3 Tryz.underlying49 gX kN vh l (λw a=>a.bg 0 l) P) (dN 0 l) λan=>D1 5<|dD l (dW 4 da l (cO 3 l) l) (bc 1 l)<|De<|aw<|dA (js:=[]) 0 true l l 1 l b<|bG l<|nt<|aU l l<|aV<|aw<|T<|W<|u l<|M 9 wS l<|aM l<|o l<|af<|nx an [1,2,7,8,9,3,4]
theorem xr (a:kZ Tryz.prog w){J p1:ByteArray}(r:List ByteArray)(hr:uq J p1=some r): cy Tryz.prog 24 [.string J,.string p1] A w (λx:Value=>x) (λx=>[.ow 9 x r]):=Kz (g:=0) (by kernel_rfl) (λs sep m w b c d=>Go.Proofs.Tryz.strings_Split s sep m w b c d) A w Old.h a.1.1 J p1 r hr
theorem n8 {a:Value}{J:(List ByteArray)}(b:Rd A w a J): ∀r:Int,jn J=some r->cy Tryz.prog 25 [a] A w (λc:Unit=>Y r) (λc=>[]):=by
 exact dq Tryz.func25 Tryz.ntmps25 l (S0.ao l b)<|sr<|o l<|bA<|u l<|bF 0 Tryz.underlying49 l<|o l<|aK<|n1 l () []
theorem A0 {J p1:ByteArray}(r:Int)(hr:LV J p1=some r): cy Tryz.prog 77 [.string J,.string p1] A w (λ_:Unit=>Y r) (λ_=>[]):=NR (λs c w a b d=>Go.Proofs.Tryz.strings_IndexAny_short s c w a b d) A w Old.h J p1 r hr
theorem A8 (c:kZ Tryz.prog w){J:ByteArray}{p1 p2:Int}(r:Int×Bool)(hr:EG J p1 p2=some r): cy Tryz.prog 152 [.string J,Y p1,Y p2] A w (λx:Nat=>.tuple #[Y r.1,JA 303 r.2 x]) (λ_=>[]):=K4 (gs:=3) (gr:=4) (by kernel_rfl) (by kernel_rfl) 5 (λs a v b w=>Go.Proofs.Tryz.strconv_ParseInt_10_at64_ok s a v b w) (λs a b ev w d f=>(Go.Proofs.Tryz.strconv_ParseInt_10_at64_syntax s a b ev w d f).mono λe j hq=>by obtain⟨N,g,_,_,i⟩:=hq;exact⟨N,g,i⟩) (λs a b ev w d f=>(Go.Proofs.Tryz.strconv_ParseInt_10_at64_range s a b ev w d f).mono λe j hq=>by obtain⟨N,g,_,_,i⟩:=hq;exact⟨N,g,i⟩) A w Old.h c.2 J p1 p2 r hr
theorem si {J:ByteArray}{p1:ByteArray}: ∀r:Bool,ng J p1=some r->cy Tryz.prog 223 [.string J,.string p1] A w (λc:Unit=>.bool r) (λc=>[]):=by
 exact dq Tryz.func223 Tryz.ntmps223 l S0<|sr<|o l<|bA<|u l<|ql (uA Tryz.underlying9 l)<|u l<|ql (uA Tryz.underlying9 l)<|we l<|u l<|aW (λa=>qg l a (H l)<|qg l a (H l)<|qg l a (uA Tryz.underlying9 l)<|aq λz2 b=>qg l a (ur Tryz.underlying9 l l l b)<|qg l a (H l)<|qg l a (zl l l)<|t a l<|o l<|aK<|n1 l () []) (λa=>aI l a<|aI l a<|aI l a<|aI l a<|aI l a<|aI l a<|au a l<|o l<|aK<|n1 l () [])
theorem rE {J:ByteArray}{p1:ByteArray}: ∀r:ByteArray,mP J p1=some r->cy Tryz.prog 201 [.string J,.string p1] A w (λb:Unit=>.string r) (λb=>[]):=by
 exact dq Tryz.func201 Tryz.ntmps201 l S0<|sr<|o l<|bB<|ba l<|dt l Tryz.call223 (λw d=>si) λr1 _=>nt<|aH l (λc=>sr<|ba l<|ql (uA Tryz.underlying9 l)<|aq λz4 a=>ql (ur Tryz.underlying9 l l l a)<|o l<|bQ<|n1 l () []) (λc=>dQ<|u l<|o l<|aK<|n1 l () [])
theorem yX {J:ByteArray}{p1:ByteArray}: ∀r:ByteArray,tz J p1=some r->cy Tryz.prog 153 [.string J,.string p1] A w (λa:Unit=>.string r) (λa=>[]):=by
 exact dq Tryz.func153 Tryz.ntmps153 l S0<|sr<|o l<|bA<|ba l<|dt l Tryz.call201 (λw b=>rE) λr1 _=>o l<|aK<|n1 l () []
theorem vn (c:kZ Tryz.prog w){J:ByteArray}: ∀r:Int×Bool,qR J=some r->cy Tryz.prog 79 [.string J] A w (λi:Unit=>.tuple #[Y r.1,.bool r.2]) (λi=>[]):=by
 refine dq Tryz.func79 Tryz.ntmps79 l S0<|sr<|aT l<|bA<|u l<|aq λr1 e=>call l Tryz.call152 (KH λw d=>A8 (kZ.of c d) _ e) λj=>u l<|cQ l<|aT l<|bB<|u l<|ql (Lc (by kernel_rfl) l l)<|u l<|aW (λa=>?_) (λa=>?_)
 ·exact aI l a<|aI l a<|aI l a<|aI l a<|t a l<|u l<|aI l l<|aI l l<|aI l l<|aI l l<|t l l<|nt<|aL l l<|sr<|aT l<|bQ<|n2 l () []
 ·refine qg l a (H l)<|aq λk f=>dx (Gd l a) l Tryz.call87 l (aX λw d=>nu (kZ.of c d) _ f) λ_=>qg l a (H l)<|qg l a (zQ l l)<|au a l<|u l<|aW (λb=>?_) (λb=>?_)
  ·exact aI l b<|aI l b<|aI l b<|aI l b<|t b l<|nt<|aL l l<|sr<|aT l<|bQ<|n2 l () []
  ·exact qg l b (H l)<|aq λm g=>dx (Gd l b) l Tryz.call153 l (aX λw d=>yX _ g) λ_=>qg l b (uA Tryz.underlying9 l)<|qg l b (yC l)<|au b l<|nt<|aH l (λh=>sr<|aT l<|bQ<|n2 l () []) (λh=>dQ<|u l<|aT l<|aK<|n2 l () [])
theorem xB (b:kZ Tryz.prog w){J:ByteArray}: ∀r:ai,qG J=some r->cy Tryz.prog 26 [.string J] A w (λj:Unit=>.agg #[Y r.Write,Y r.Move,Y r.Next]) (λj=>[]):=by
 refine dq Tryz.func26 Tryz.ntmps26 l S0<|sr<|c6 fx l λb1=>bA<|u l<|dt l Tryz.call77 (λw a=>A0) λk _=>o l<|bB<|u l<|cG l<|jG l (λn=>sr<|dt l Tryz.call78 (λw a=>oe) λx _=>aR 0 bJ l (a8 cI cI cI) l<|bQ<|m1 l (aD 0 l l bJ l) () []) λn=>dQ<|ql (aC qT l (.cons gm l l .nil) (λw a=>⟨aa,trivial⟩))<|c6 fx l λi=>aR 0 bJ l (a8 cI cI cI) l<|af ?_
 refine T<|al<|pO (λg _=>[(0,.string J),(2,Pt b1),(3,Y k),(4,Pt i)]) (λg _=>[.bx b1 62 [Y 0,Y 0,Y 0],.bx i 62 [Y 0,Y g,Y 0]]) ?_ (λg g9=>?_)
 ·exact sr<|ba l<|aq λp c=>ql (Gt Tryz.underlying9 l l c)<|eE l<|nt<|aH l (λh=>W<|F gm l<|aR 0 d l cI l<|af<|mt () [1,0]) (λh=>aV<|mt () [1,0])
 ·refine T<|sr<|ba l<|aq λq e=>ql (ur Tryz.underlying9 l l l e)<|dt l Tryz.call79 (λw a=>vn (kZ.of b a)) λs _=>u l<|cQ l<|F eo l<|aR 1 d l cI l<|bA<|ba l<|aM l<|aq λt f=>ql (ur Tryz.underlying9 l l l f)<|dt l Tryz.call79 (λw a=>vn (kZ.of b a)) λv _=>u l<|cQ l<|F fH l<|aR 1 d l cI l ?_
  exact bA<|m 1 bJ l<|aR 0 bJ l (a8 cI cI cI) l<|aK<|m1 l (aD 0 l l bJ l) () []
theorem AU (g:kZ Tryz.prog w){J:ByteArray}: ∀r:O×Bool,jg J=some r->cy Tryz.prog 6 [.string J] A w (λP:Value=>.tuple #[.agg #[Y r.1.I,Y r.1.N,P],.bool r.2]) (λP=>[.ow 62 P r.1.aB]):=by
 refine dq Tryz.func6 Tryz.ntmps6 l S0<|sr<|c6 Ad l λb1=>o l<|bA<|u l<|gD l Tryz.call24 (λw a=>xr (kZ.of g a)) λz Q=>o l<|bA<|u l<|dt l Tryz.call25 (λw a=>n8 (a.bV 0 l)) λr5 _=>ql (aC Ac l (.cons lB l l .nil) (λw a=>⟨aa,trivial⟩))<|c6 Ad l λM=>aR 0 bO l (a8 cI cI cS) l<|bB<|u l<|di 1 Tryz.underlying49 l ?_
 refine u l<|nt<|lE (λw a=>SH.iV (α:=ai) 62 a)<|lp (ga z) (0,([]:(List ai)),0) N0 (λx g9=>[(0,.string J),(2,Pt b1),(5,Pt M),(16,Q),(17,Y (z.length:Int)),(18,Y x.2.2)]) (λx g9=>[.bx b1 26 [Y 0,Y 0,N0],.ow 62 g9 x.2.1,.bx M 26 [Y x.1,Y r5,g9],.ow 9 Q z]) [3,0,1,2] (λx g9=>?_) (λx g9=>?_)
 ·refine sr<|cG l<|cA<|aH l (λR=>?_) (λR=>bu<|aA<|bk g9 [0,1,2,3])
  refine sn<|al<|aN<|sr<|aq λad h=>j0 (v:=Q) 3 l h ?_
  rintro D k rfl
  refine ql (dy 3 Tryz.underlying49 gX l l l h)<|st (eS 3 (rP _) gX l l h) λ_=>o l<|bA<|u l<|gD l Tryz.call24 (λw a=>xr (kZ.of g a)) λB C=>o l<|bA<|u l<|dt l Tryz.call25 (λw a=>n8 (a.bV 0 l)) λS _=>F cY l<|aR 3 d l cI l<|bA<|u l<|di 0 Tryz.underlying49 l<|u l<|nt<|lp (gS B) (x.2.1,0) g9 (λn g22=>[(0,.string J),(2,Pt b1),(5,Pt M),(16,(Sl D z.length k)),(17,Y (z.length:Int)),(18,Y x.2.2),(27,C),(28,Y (B.length:Int)),(29,Y n.2)]) (λn g22=>[.bx b1 26 [Y 0,Y 0,N0],.ow 62 g22 n.1,.bx M 26 [Y S,Y r5,g22],.ow 9 (Sl D z.length k) z,.ow 9 C B]) [1,2,3,4,0] (λn g22=>?_) (λn g22=>aw<|T<|W<|aM l<|u l<|af<|nx g22 [0,1,2,3])
  refine sr<|cG l<|cA<|aH l (λU=>?_) (λU=>bu<|aA<|bk g22 (rs [0,4]))
  refine sn<|al<|aN<|sr<|aq λae q=>j0 (v:=C) 4 l q ?_
  rintro ag V rfl
  refine ql (dy 4 Tryz.underlying49 gX l l l q)<|st (eS 4 (rP _) gX l l q) λ_=>o l<|nt<|jk [1,2]<|aJ 0 [0,3,4] [1,2] l (e ee l)<|aJ 2 [0,3,4] [1,2] l (H l)<|bP [0,3,4] [1,2] l l l λah X s=>aF λb y=>dP (i:=1) (j:=3) (by kernel_rfl) ?_ ?_
  ·exact Oq l (p 2 fC l)<|D1 3<|gv l Tryz.call26 (aX λw a=>xB (kZ.of g a) _ y) λ_=>D1 4<|df l (cq (vs:=[.agg #[Y b.Write,Y b.Move,Y b.Next]]) ([b]:List ai) Tryz.underlying24 bJ fx l (λw a=>⟨(ai.aG Ri Ri Ri),trivial⟩)) nh λaj=>aF λak E=>D1 5<|df l (ec 2 Tryz.underlying24 bJ fx tN l (λw a=>a.bg 0 l) E) (dN 0 l) λv37=>Dk 6 s l (e ee l)<|D1 7<|dD l (dW 3 fC l (cO 2 l) l) (bc 1 l)<|De<|aw<|T<|W<|aM l<|u l<|af<|nx v37 (rs [1,5])
  ·refine gv l Tryz.call26 (aX λw a=>xB (kZ.of g a) _ y) λ_=>dP (i:=1) (j:=4) (by kernel_rfl) ?_ ?_
   ·exact Oq l (p 2 fC l)<|D1 4<|df l (cq (vs:=[.agg #[Y b.Write,Y b.Move,Y b.Next]]) ([b]:List ai) Tryz.underlying24 bJ fx l (λw a=>⟨(ai.aG Ri Ri Ri),trivial⟩)) nh λam=>aF λan G=>D1 5<|df l (ec 2 Tryz.underlying24 bJ fx tN l (λw a=>a.bg 0 l) G) (dN 0 l) λZ=>Dk 6 s l (e ee l)<|D1 7<|dD l (dW 3 fC l (cO 2 l) l) (bc 1 l)<|De<|aw<|T<|W<|aM l<|u l<|af<|nx Z (rs [1,5])
   ·exact df l (cq (vs:=[.agg #[Y b.Write,Y b.Move,Y b.Next]]) ([b]:List ai) Tryz.underlying24 bJ fx l (λw a=>⟨(ai.aG Ri Ri Ri),trivial⟩)) nh λao=>D1 1<|Oq l (p 3 fC l)<|aF λap K=>D1 5<|df l (ec 2 Tryz.underlying24 bJ fx tN l (λw a=>a.bg 0 l) K) (dN 0 l) λab=>Dk 6 s l (e ee l)<|D1 7<|dD l (dW 3 fC l (cO 2 l) l) (bc 1 l)<|De<|aw<|T<|W<|aM l<|u l<|af<|nx ab (rs [1,5])
 ·refine T<|al<|sr<|m 2 bO l<|dt l Tryz.call27 (λw a=>pQ (O.aG Ri Ri (a.bV 1 l))) λar _=>bG l<|u l<|aW (λc=>?_) (λc=>?_)
  ·exact aI l c<|aI l c<|aI l c<|aI l c<|t c l<|nt<|aL l l<|sr<|ql (aC Ac l .nil (λw a=>trivial))<|aR 0 bO l (a8 cI cI cS) l<|o l<|bQ<|on (α:=ai) 62<|m2 l (aD 1 l l bO l) (f l) N0 [0]
  ·exact qg l c (aO 2 bO l)<|aq λav L=>dx (Gd l c) l Tryz.call7 l (aX λw a=>vm (kZ.of g a) (O.aG Ri Ri (a.bV 1 l)) _ L) λ_=>qg l c (H l)<|qg l c (zQ l l)<|au c l<|nt<|aH l (λac=>sr<|ql (aC Ac l .nil (λw a=>trivial))<|aR 0 bO l (a8 cI cI cS) l<|o l<|bQ<|on (α:=ai) 62<|m2 l (aD 1 l l bO l) (f l) N0 [0]) (λac=>dQ<|m 2 bO l<|aR 0 bO l (a8 cI cI (cO 1 l)) l<|o l<|aK<|m2 l (aD 0 l l bO l) (f l) g9 [1])
theorem Em {c:Value}{J:O}(i:pF A w.heap.size w c J){e:Value}{p1:O}(j:pF A w.heap.size w e p1): ∀r:Bool,uZ J p1=some r->cy Tryz.prog 31 [c,e] A w (λp:Unit=>.bool r) (λp=>[]):=by
 refine dq Tryz.func31 Tryz.ntmps31 l ((S0.fo l i).fo l j)<|sr<|o l<|cA<|pO (λ_ _=>[(0,c),(1,e)]) (λ_ _=>[.pa c J,.pa e p1]) ?_ (λs1 g2=>?_)
 ·refine al<|eH<|T0 0 l (H l)<|T0 1 l (dG 1 l l)<|gH 2 [] l (fh 1 (O.ze _) cY l l l) λI=>gH 3 [] l (eT 0 (bT _) d l l) λ_=>T0 4 l (H l)<|T0 5 l (dG 1 l l)<|gH 6 [] l (fh 1 (O.ze _) cY l l l) λK=>gH 7 [] l (eT 0 (bT _) d l l) λ_=>T0 8 l (iU l)<|T0 9 l (H l)<|nR (λb=>?_) (λb=>?_)
  ·refine Tp 10 l b<|Tp 11 l b<|Tp 12 l b<|Tp 13 l b<|Tp 14 l b<|Tp 15 l b<|Tp 16 l b<|Tp 17 l b<|Tp 18 l b<|T0 19 l (bj b l)<|T0 20 l (H l)<|Tp 21 l l<|Tp 22 l l<|Tp 23 l l<|Tp 24 l l<|Tp 25 l l<|Tp 26 l l<|Tp 27 l l<|Tp 28 l l<|Tp 29 l l<|Tp 30 l l<|Tp 31 l l<|T0 32 l (bj l l)<|bP [] [] l l l λ_ _ _=>De<|T<|aL l l<|sr<|o l ?_
   exact aK<|aY<|s<|n1 l () []
  ·refine kp 10 l (Gd l b) (H l)<|kp 11 l (Gd l b) (dG 3 l l)<|wu 12 [] l (Gd l b) (fh 3 (O.Fc _) lB l l l) λL=>wu 13 [] l (Gd l b) (eT 0 (bT _) d l l) λ_=>kp 14 l (Gd l b) (H l)<|kp 15 l (Gd l b) (dG 3 l l)<|wu 16 [] l (Gd l b) (fh 3 (O.Fc _) lB l l l) λq=>wu 17 [] l (Gd l b) (eT 0 (bT _) d l l) λ_=>kp 18 l (Gd l b) (iU l)<|T0 19 l (bh b l)<|T0 20 l (H l)<|nR (λa=>?_) (λa=>?_)
   ·exact Tp 21 l a<|Tp 22 l a<|Tp 23 l a<|Tp 24 l a<|Tp 25 l a<|Tp 26 l a<|Tp 27 l a<|Tp 28 l a<|Tp 29 l a<|Tp 30 l a<|Tp 31 l a<|T0 32 l (bj a l)<|bP [] [] l l l λ_ _ _=>De<|T<|aL l l<|sr<|o l<|aK<|aY<|s<|n1 l () []
   ·exact kp 21 l (Gd l a) (H l)<|kp 22 l (Gd l a) (dG 5 l l)<|wu 23 [] l (Gd l a) (fh 5 (O.sa _) ee l l l) λt=>wu 24 [] l (Gd l a) (eT 0 (iT _) fC l l) λv=>kp 25 l (Gd l a) (jA 0 Tryz.underlying24 l)<|kp 26 l (Gd l a) (H l)<|kp 27 l (Gd l a) (dG 6 l l)<|wu 28 [] l (Gd l a) (fh 6 (O.sa _) ee l l l) λx=>wu 29 [] l (Gd l a) (eT 0 (iT _) fC l l) λy=>kp 30 l (Gd l a) (jA 0 Tryz.underlying24 l)<|kp 31 l (Gd l a) (iU l)<|T0 32 l (bh a l)<|bP [] [] l l l λ_ _ _=>De<|T<|aH l (λk=>sr<|o l<|aK<|aY<|s<|n1 l () []) (λk=>aV<|mt () [9,8])
 ·refine T<|al<|sr<|o l<|nt<|lp (mA J p1) 0 () (λf _=>[(0,c),(1,e),(5,Y f)]) (λf _=>[.pa c J,.pa e p1]) [0,1] (λf g19=>?_) (λf g19=>T<|sr<|o l<|aK<|n1 l () [])
  refine al<|sr<|ba l<|ql (dG 0 l l)<|st (mh 0 (O.sa _) ee l l l) λz=>st (eC 0 (iT _) fC l l) λv21=>bF 0 Tryz.underlying24 l<|cG l<|nt<|aH l (λm=>?_) (λm=>bu<|aA<|bk () [2,3])
  exact sn<|al<|aN<|al<|eH<|T0 0 l (H l)<|T0 1 l (dG 2 l l)<|gH 2 [] l (fh 2 (O.sa _) ee l l l) λB=>gH 3 [] l (eT 0 (iT _) fC l l) λv24=>T0 4 l (H l)<|cK λC g=>gH 5 [] l (eP 0 Tryz.underlying24 bJ l l l g) λD=>gH 6 [] l (cr 0 (ai.opens _) bJ l l) λ_=>T0 7 l (H l)<|T0 8 l (dG 6 l l)<|gH 9 [] l (fh 6 (O.sa _) ee l l l) λE=>gH 10 [] l (eT 0 (iT _) fC l l) λv30=>T0 11 l (H l)<|cK λF h=>gH 12 [] l (eP 0 Tryz.underlying24 bJ l l l h) λG=>gH 13 [] l (cr 0 (ai.opens _) bJ l l) λ_=>T0 14 l (zG l l)<|bP [] [] l l l λ_ _ _=>De<|T<|aH l (λn=>sr<|o l<|aK<|az<|s<|eA<|s<|n1 l () []) (λn=>aV<|aw<|T<|W<|u l<|aM l<|o l<|af<|nx () [8,9])
theorem A3 {c:Value}{J:O}(f:Rd A w c J){d:Value}{p1:O}(g:Rd A w d p1): ∀r:Bool,nY J p1=some r->cy Tryz.prog 8 [c,d] A w (λj:Unit=>.bool r) (λj=>[]):=by
 obtain⟨h,rfl,a⟩:=O.open f
 obtain⟨i,rfl,b⟩:=O.open g
 exact dq Tryz.func8 Tryz.ntmps8 l ((S0.ao l a).ao l b)<|sr<|cu l (a8 cI cI (cR 1 l)) λb1=>cu l (a8 cI cI (cR 1 l)) λb2=>o l<|bA<|dt l Tryz.call31 (λw e=>Em (e.ea 1 l (O.aG Ri Ri (e.a7 3 l)) l) (e.ea 0 l (O.aG Ri Ri (e.a7 2 l)) l)) λk _=>o l<|aK<|n1 l () []
end Go.Proofs.YtapnabgdcndleaaGreatDoor
