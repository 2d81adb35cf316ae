/-
  The assembler computes what its plain function says. No condition.
-/
import Derived.Test.YtapnabgdcndleaaGreatDoorAsmP
import Derived.Test.YtapnabgdcndleaaGreatDoorFn
import Derived.Test.YtapnabgdcndleaaGreatDoorSh
import Derived.Test.YtapnabgdcndleaaGreatDoorInf
import Derived.Test.YtapnabgdcndleaaGreatDoorCon1
import Derived.Test.YtapnabgdcndleaaGreatDoorCon4
namespace Go.Proofs.YtapnabgdcndleaaGreatDoor
open Go Go.Tc Go.Fn
set_option linter.unusedVariables false
set_option maxHeartbeats 40000000
set_option maxRecDepth 100000
variable {A:Nat->Prop}{w:World}[Old A w]
abbrev yF (a:Nat)(sl sp:Value)(B C:List Nat)(vs:List Raw)(L:List bX)(ps:List (Nat×Option Nat×Option Nat))(S:List Int): Ctx:=
  [.bx a 257 [sl,sp],.ow 249 sl L,.ow 1 sp vs,jE 228 a 258 179 3 B C vs ps,eX 260 B S]
theorem PO (w:World)(a:Nat)(sl sp:Value)(B C:List Nat)(vs:List Raw)(L:List bX)(ps:List (Nat×Option Nat×Option Nat))(S:List Int)(h:List Nat)(c:Ctx.ae (yF a sl sp B C vs L ps S)=h)(e:kb w (yF a sl sp B C vs L ps S))(k b:Nat)(i:B[k]?=some b): iY Tryz.prog 168 [Pt a,Pt b] w h (λf:Unit=>.tuple #[]) (λf=>yF a sl sp B C vs L ps (S.set k (L.length:Int))):=by
 refine eV (R:=Unit) (r:=()) (E:=some ()) (v:=λ_ (f:Unit)=>.tuple #[]) (fs:=λr f=>yF a sl sp B C vs L ps (S.set k (L.length:Int))) Tryz.func168 l Tryz.ntmps168 l (SH.begin c e) l ?_ l
 exact W<|ba l<|ay l<|F pq l<|M 0 vP l<|KQ l Tryz.call162 (λw g=>cM (g.bV 1 l) (L.length:Int) l) λ_=>ay l<|F An l<|sk (EI 4 d l l l i)<|af<|jc (.inr l) l (λw g=>⟨(),l,g.cj (rs [0,6]) l⟩)
theorem na {n:Int}(a:0<=n)(b:n<=4611686018427387904): ah n=n:=by
 unfold ah IntKind.wrap
 simp[IntKind.bits,IntKind.signed]
 omega
theorem LM {B:List Nat}{o:Option Nat}: CV (tt B o) [tt B o]:=by
 cases o<;>exact LZ
theorem Pj (w:World)(a:Nat)(sl sp:Value)(B C:List Nat)(vs:List Raw)(L:List bX)(ps:List (Nat×Option Nat×Option Nat))(S:List Int)(u:List Nat)(x:Ctx.ae (yF a sl sp B C vs L ps S)=u)(y:kb w (yF a sl sp B C vs L ps S))(kind c:Int)(th el:Option Nat)(G:L.length<=1000)(I:vs.length<=1000): iY Tryz.prog 207 [Pt a,Y kind,Y c,tt B th,tt B el] w u (λh:Value×Value×List Nat×List Raw=>.tuple #[]) (λh=>yF a h.1 h.2.1 B h.2.2.1 h.2.2.2 (L++[⟨kind,c,(L.length:Int)+1,0⟩]) (ps++[(L.length,th,el)]) S):=by
 refine eV (vs:=[Pt a,Y kind,Y c,tt B th,tt B el]) (R:=Unit) (r:=()) (E:=some ()) (v:=λ_ (h:Value×Value×List Nat×List Raw)=>.tuple #[]) (fs:=λr h=>yF a h.1 h.2.1 B h.2.2.1 h.2.2.2 (L++[⟨kind,c,(L.length:Int)+1,0⟩]) (ps++[(L.length,th,el)]) S) Tryz.func207 l Tryz.ntmps207 l (SH.begin x y) l ?_ l
 refine sr<|cu l cP λb5=>cu l (λw d=>LM) λn=>cu l (λw d=>LM) λo=>bA<|M 2 nM l<|ay l<|F pq l<|M 3 vP l<|di 4 Tryz.underlying80 l<|c6 Qx l λf=>aR 0 wS l cI l<|cA ?_
 have hw:ah ((L.length:Int)+1)=(L.length:Int)+1:=by
   exact na (by omega) (by omega)
 have t:app L [(⟨kind,c,ah ((L.length:Int)+1),0⟩:bX)]=some (L++[⟨kind,c,(L.length:Int)+1,0⟩]):=by
   rw[hw]
   exact de (by simp;omega)
 show J _ _ _ _ _ _ _ _ (Z (some (.bf ()):Option (Out Unit Unit)) (Out.elim (λ(_:Unit)=>some ()) (λ(r:Unit)=>some r)))
 refine oL (G':=Value) (λ_ _=>[(5,Pt b5),(8,Pt n),(9,Pt o),(10,Pt f)]) (λ_ v=>[.bx f 3 [Y (L.length:Int)],.bx o 258 [tt B el],.bx n 258 [tt B th],.bx b5 179 [Pt a],.bx a 257 [v,sp],.ow 249 v (L++[⟨kind,c,(L.length:Int)+1,0⟩]),.ow 1 sp vs,jE 228 a 258 179 3 B C vs ps,eX 260 B S,outs w u,rest w u]) ?_ (λs g=>?_)
 ·exact jk [4,5]<|aJ 0 (rs [0,3,6,10]) [4,5] l (p 3 nM l)<|aJ 1 (rs [0,3,6,10]) [4,5] l (p 3 nM l)<|aJ 2 (rs [0,3,6,10]) [4,5] l (q l)<|aJ 3 (rs [0,3,6,10]) [4,5] l (e pq l)<|aJ 5 (rs [0,3,6,10]) [4,5] l (H l)<|aJ 6 (rs [0,3,6,10]) [4,5] l (H l)<|aJ 7 (rs [0,3,6,10]) [4,5] l (p 0 wS l)<|aJ 8 (rs [0,3,6,10]) [4,5] l (rM l)<|aJ 9 (rs [0,3,6,10]) [4,5] l (aC Pw l (.cons xC l l (.cons xN l l (.cons pb l l .nil))) (λw d=>⟨aa,aa,aa,trivial⟩))<|bP (rs [0,3,6,10]) [4,5] l l l λz D m=>dP (i:=4) (j:=10) (by kernel_rfl) (Oq l (p 4 vP l)<|D1 10<|df l (cq (vs:=[.agg #[Y kind,Y c,Y (ah ((L.length:Int)+1)),Y 0]]) ([(⟨kind,c,ah ((L.length:Int)+1),0⟩:bX)]:List bX) Tryz.underlying80 mZ wV l (λw d=>⟨(bX.aG Ri Ri Ri Ri),trivial⟩)) nh λb=>D1 11<|df l (ec 6 Tryz.underlying80 mZ wV LI l (λw d=>d.bg 0 l) t) (dN 1 l) λv=>Dk 12 m l (q l)<|Dk 13 m l (e pq l)<|D1 14<|dD l (dW 5 vP l (cO 6 l) l) (bc 0 l)<|De<|mt v (rs [1,11])) (df l (cq (vs:=[.agg #[Y kind,Y c,Y (ah ((L.length:Int)+1)),Y 0]]) ([(⟨kind,c,ah ((L.length:Int)+1),0⟩:bX)]:List bX) Tryz.underlying80 mZ wV l (λw d=>⟨(bX.aG Ri Ri Ri Ri),trivial⟩)) nh λb=>D1 4<|Oq l (p 5 vP l)<|D1 11<|df l (ec 6 Tryz.underlying80 mZ wV LI l (λw d=>d.bg 0 l) t) (dN 1 l) λv=>Dk 12 m l (q l)<|Dk 13 m l (e pq l)<|D1 14<|dD l (dW 5 vP l (cO 6 l) l) (bc 0 l)<|De<|mt v (rs [1,11]))
 ·refine T ?_
  have k:app vs [(⟨.func (.func 228) #[] #[Pt n,Pt b5,Pt f,Pt o]⟩:Raw)]=some (vs++[⟨.func (.func 228) #[] #[Pt n,Pt b5,Pt f,Pt o]⟩]):=de (by simp;omega)
  exact jk [4,6]<|aJ 0 (rs [0,3,5,5,7,10]) [4,6] l (p 3 nM l)<|aJ 1 (rs [0,3,5,5,7,10]) [4,6] l (p 3 nM l)<|aJ 2 (rs [0,3,5,5,7,10]) [4,6] l (q l)<|aJ 3 (rs [0,3,5,5,7,10]) [4,6] l (e AD l)<|aJ 5 (rs [0,3,5,5,7,10]) [4,6] l (dF l)<|bP (rs [0,3,5,5,7,10]) [4,6] l l l λz D m=>dP (i:=4) (j:=6) (by kernel_rfl) (Oq l (p 4 BR l)<|D1 6<|df l (cq (vs:=[.func (.func 228) #[] #[Pt n,Pt b5,Pt f,Pt o]]) ([(⟨.func (.func 228) #[] #[Pt n,Pt b5,Pt f,Pt o]⟩:Raw)]:List Raw) Tryz.underlying255 wG Bc l (λw d=>⟨Raw.rd l,trivial⟩)) nh λb=>D1 7<|df l (ec 7 Tryz.underlying255 wG Bc Lv l (λw d=>d.bg 0 l) k) (dN 1 l) λv=>Dk 8 m l (q l)<|Dk 9 m l (e AD l)<|D1 10<|dD l (dW 5 BR l (cO 7 l) l) (bc 0 l)<|De<|jc (.inr l) l (λw d=>⟨(g,v,_,_),l,(SH.FW (d.cj [3,4,1,2,8,5,6,7,9,10,11] l)).cj [1,2,3,0,4,5,6] l⟩)) (df l (cq (vs:=[.func (.func 228) #[] #[Pt n,Pt b5,Pt f,Pt o]]) ([(⟨.func (.func 228) #[] #[Pt n,Pt b5,Pt f,Pt o]⟩:Raw)]:List Raw) Tryz.underlying255 wG Bc l (λw d=>⟨Raw.rd l,trivial⟩)) nh λb=>D1 4<|Oq l (p 5 BR l)<|D1 7<|df l (ec 7 Tryz.underlying255 wG Bc Lv l (λw d=>d.bg 0 l) k) (dN 1 l) λv=>Dk 8 m l (q l)<|Dk 9 m l (e AD l)<|D1 10<|dD l (dW 5 BR l (cO 7 l) l) (bc 0 l)<|De<|jc (.inr l) l (λw d=>⟨(g,v,_,_),l,(SH.FW (d.cj [3,4,1,2,8,5,6,7,9,10,11] l)).cj [1,2,3,0,4,5,6] l⟩))
structure AG where
  sl:Value
  sp:Value
  B:List Nat
  C:List Nat
  vs:List Raw
abbrev AΓ (a:Nat)(g:AG)(s:ab): Ctx:=yF a g.sl g.sp g.B g.C g.vs s.L s.Ps s.S
structure AW (g:AG)(s:ab): Prop where
  b:g.B.length=s.S.length
  v:g.vs.length=s.Ps.length
  ok:s.ok
structure AX (g:AG)(s':ab) where
  g':AG
  pre:g.B <+: g'.B
  w:AW g' s'
theorem iz {B a:List Nat}(h:B <+: a){k b:Nat}(c:B[k]?=some b): a[k]?=some b:=by
 obtain⟨l,rfl⟩:=h
 rw[List.getElem?_append_left (List.getElem?_eq_some_iff.1 c).1]
 exact c
theorem Am {B:List Nat}{k b:Nat}(h:B[k]?=some b): (Pt b:Value)=tt B (some k):=by simp[tt,List.getD_eq_getElem?_getD,h]
def sN (f:FuncId)(vs:List Value)(a:Nat)(g:AG)(s s':ab)(Δ b:Ctx): Prop:=
  ∀(w:World) (c:List Nat),Ctx.ae (AΓ a g s++Δ)=c->kb w (AΓ a g s++Δ)->iY Tryz.prog f vs w c (λ_:AX g s'=>.tuple #[]) (λx=>AΓ a x.g' s'++b)
def AG.add (g:AG)(b:Nat): AG:={ g with B:=g.B++[b] }
theorem AG.qo (g:AG)(b:Nat): g.B <+: (g.add b).B:=⟨[b],rfl⟩
theorem AG.add_get {g:AG}{s:ab}(hw:AW g s)(b:Nat): (g.add b).B[s.S.length]?=some b:=by simp[AG.add,<- hw.b]
theorem AW.add {g:AG}{s:ab}(hw:AW g s)(b:Nat): AW (g.add b) s.new:=⟨by simp[AG.add,ab.new,hw.b],hw.v,hw.ok.new⟩
theorem AW.here {g:AG}{s:ab}(hw:AW g s)(k:Nat): AW g (s.here k):=⟨by simp[ab.here,hw.b],hw.v,hw.ok.here k⟩
theorem AW.lt {g:AG}{s:ab}(hw:AW g s){k b:Nat}(a:g.B[k]?=some b): k<s.S.length:=by
 rw[<- hw.b]
 exact(List.getElem?_eq_some_iff.1 a).1
theorem SH.xK {A:Nat->Prop}{w0 w:World}{a b:Nat}{g:AG}{s:ab}{Γ:Ctx}(hw:AW g s)(h:SH A w0 w (.bx b 260 [Y 0]::(AΓ a g s++Γ))): SH A w0 w (AΓ a (g.add b) s.new++Γ):=by
 have c:=h.perm (List.perm_middle (l₁:=[Fact.bx b 260 [Y 0],.bx a 257 [g.sl,g.sp],.ow 249 g.sl s.L,.ow 1 g.sp g.vs,jE 228 a 258 179 3 g.B g.C g.vs s.Ps]) (a:=eX 260 g.B s.S) (l₂:=Γ))
 have d:=c.perm (List.perm_middle (l₁:=[eX 260 g.B s.S]) (a:=Fact.bx b 260 [Y 0]))
 have e:=d.Hj
 have f:=e.perm (List.perm_middle (l₁:=[eX 260 (g.B++[b]) (s.S++[0]),.bx a 257 [g.sl,g.sp],.ow 249 g.sl s.L,.ow 1 g.sp g.vs]) (a:=jE 228 a 258 179 3 g.B g.C g.vs s.Ps) (l₂:=Γ))
 have i:=SH.K6 [b] (λp j=>by rw[hw.b];exact hw.ok.sp p j) f
 have k:=i.perm (List.perm_middle (l₁:=[jE 228 a 258 179 3 (g.B++[b]) g.C g.vs s.Ps,eX 260 (g.B++[b]) (s.S++[0]),.bx a 257 [g.sl,g.sp],.ow 249 g.sl s.L]) (a:=.ow 1 g.sp g.vs) (l₂:=Γ))
 have l:=k.perm (List.perm_middle (l₁:=[.ow 1 g.sp g.vs,jE 228 a 258 179 3 (g.B++[b]) g.C g.vs s.Ps,eX 260 (g.B++[b]) (s.S++[0]),.bx a 257 [g.sl,g.sp]]) (a:=.ow 249 g.sl s.L) (l₂:=Γ))
 exact l.perm (List.perm_middle (l₁:=[.ow 249 g.sl s.L,.ow 1 g.sp g.vs,jE 228 a 258 179 3 (g.B++[b]) g.C g.vs s.Ps,eX 260 (g.B++[b]) (s.S++[0])]) (a:=.bx a 257 [g.sl,g.sp]) (l₂:=Γ))
theorem uw {a:Nat}{g:AG}{s:ab}(hw:AW g s){k b:Nat}(c:g.B[k]?=some b): sN 168 [Pt a,Pt b] a g s (s.here k) [] []:=
  λw d e f=>(PO w a g.sl g.sp g.B g.C g.vs s.L s.Ps s.S d e f k b c).imp λ_ i h=>⟨⟨g,List.prefix_rfl,hw.here k⟩,rfl,h⟩
theorem xH {a:Nat}{g:AG}{s:ab}(hw:AW g s)(kind c:Int)(th el:Option Nat){i ev:Value}(d:i=tt g.B th)(e:ev=tt g.B el)(f:∀k,th=some k->k<s.S.length)(h:∀k,el=some k->k<s.S.length)(j:s.L.length<=1000): sN 207 [Pt a,Y kind,Y c,i,ev] a g s (s.emit kind c th el) [] []:=by
 subst d e
 intro w o p q
 refine(Pj w a g.sl g.sp g.B g.C g.vs s.L s.Ps s.S o p q kind c th el j (by rw[hw.v,hw.ok.len];exact j)).imp λx m n=>?_
 have r:sh 228 a 258 179 3 g.B x.2.2.1 x.2.2.2 (s.Ps++[(s.L.length,th,el)]) m:=n.get 3 rfl m (λ_ _=>rfl)
 exact⟨⟨⟨x.1,x.2.1,g.B,x.2.2.1,x.2.2.2⟩,List.prefix_rfl,⟨hw.b,r.1,hw.ok.emit f h⟩⟩,l,n⟩
theorem Gw {R:Type}{P:Program}{n:Fr}{A:Nat->Prop}{w0:World}{Q:R->Exit->Act->World->Prop}{c:Code}{ρ:Env}{Γ:Ctx}{E E':Option R}(he:E'=E)(h:J P n A w0 c Q ρ Γ E'): J P n A w0 c Q ρ Γ E:=he▸h
theorem DI (r:Int): ∀(n:Nat) (s:ab),(s.j7 r n).emit 0 r none none=s.j7 r (n+1)
  |0,_=>rfl
  |n+1,s=>DI r n (s.emit 0 r none none)
theorem z6 {R:Type}{n:Fr}{A:Nat->Prop}{w0:World}{Q:R->Exit->Act->World->Prop}{ρ:Env}{Γ:Ctx}{E:Option R}{e:Exit}{p:Prop}(a:p)(h:N n A w0 Q e ρ (.pr p::Γ) E): N n A w0 Q e ρ Γ E:=
  eI (λ_ b=>b.o7 a) h
theorem Bg {R:Type}{P:Program}{n:Fr}{A:Nat->Prop}{w0:World}{Q:R->Exit->Act->World->Prop}{c:Code}{ρ:Env}{Γ:Ctx}{E:Option R}{p:Prop}(a:p)(h:J P n A w0 c Q ρ (.pr p::Γ) E): J P n A w0 c Q ρ Γ E:=
  lE (λ_ b=>b.o7 a) h
theorem ux {R:Type}{n:Fr}{A:Nat->Prop}{w0:World}{Q:R->Exit->Act->World->Prop}{ρ:Env}{Γ:Ctx}{E:Option R}{e:Exit}{p:Prop}(c:∀w,SH A w0 w Γ->p)(h:p->N n A w0 Q e ρ Γ E): N n A w0 Q e ρ Γ E:=
  λr hr a w hs b=>h (c w b) r hr a w hs b
def qW (k i:Int): Option (Int ⊕ Out Int Unit):=cond (decide (i<k)) (some (.inl (ah (i+1)))) (some (.inr (.bf i)))
theorem vu {k:Int}(a:k<=4611686018427387904): ∀(n:Nat) (i:Int),0<=i->i+n=k->run (qW k) i=some (.bf k)
  |0,i,_,h=>by
    rw[nD]
    have:i=k:=by omega
    subst this
    simp[qW]
  |n+1,i,b,h=>by
    rw[nD]
    have:i<k:=by omega
    simp only[qW,this,decide_true,cond_true]
    rw[na (by omega) (by omega)]
    exact vu a n (i+1) (by omega) (by omega)
theorem NH {a:Nat}{g:AG}{s:ab}(hw:AW g s){f t k:Int}{e be:Nat}(he:g.B[e]?=some be)(V:1<=k)(hL:(s.L.length:Int)+k+2<=1000){E:List Nat}{I:World->Prop}{b1 b2 b3:Nat}(h1:∀w,I w->w.heap[b1]?=some (Obj.cells #[Y f] 2 (0,0)))(h2:∀w,I w->w.heap[b2]?=some (Obj.cells #[Y k] 2 (0,0)))(Q:∀w,I w->w.heap[b3]?=some (Obj.cells #[Y t] 2 (0,0))): sN 206 [Pt a,Pt be,Pt b1,Pt b2,Pt b3] a g s (s.loop f t k.toNat e) [.inv E I] [.inv E I]:=by
 intro w J hB hn
 refine eV (vs:=[Pt a,Pt be,Pt b1,Pt b2,Pt b3]) (R:=Unit) (r:=()) (E:=some ()) (v:=λ_ (_:AX g (s.loop f t k.toNat e))=>.tuple #[]) (fs:=λ_ x=>AΓ a x.g' (s.loop f t k.toNat e)++[.inv E I]) Tryz.func206 l Tryz.ntmps206 l (SH.begin hB hn) l ?_ l
 refine sr<|ql (aC AA l .nil (λw c=>trivial))<|cu l (λw c=>(ck ⟨aa,trivial⟩)) λb=>bH (λw c=>SH.xK hw c) ?_
 have K:=hw.add b
 have U:=AG.add_get hw b
 have ac:=hw.lt he
 have C:(g.add b).B[e]?=some be:=iz (g.qo b) he
 refine o l<|bA<|ba l<|cT l Tryz.call168 (rs [0,4]) [5,6,7] l (λw c=>uw K U w _ l (c.handed (rs [0,4]) l l l l)) λ⟨g1,j,D⟩=>bA<|u l<|ql (cm (i:=5) d l l h1)<|u l ?_
 have ad:(s.new.here s.S.length).L.length=s.L.length:=rfl
 refine cT l Tryz.call207 (rs [0,4]) [5,6,7] l (λw c=>xH D 1 f none (some e) l (Am (iz j C)) nK (pf (D.lt (iz j C))) (by omega) w _ l (c.handed (rs [0,4]) l l l l)) λ⟨g2,F,M⟩=>bB<|o l<|nt ?_
 have G:=vu (k:=k) (by omega) (k-1).toNat 1 (by omega) (by omega)
 refine Gw (E':=Z (run (qW k) 1) (Out.elim (λi=>if i=k then some ()else none) (λr=>some r))) (by rw[G];simp[Z,Out.elim])<|Bg (p:=g2.B <+: g2.B/\AW g2 (((s.new.here s.S.length).emit 1 f none (some e)).j7 t ((1:Int).toNat-1))/\(1:Int)<=1/\1<=k) ⟨List.prefix_rfl,M,by omega,V⟩<|lp (qW k) 1 g2 (λi _=>[(0,Pt a),(3,Pt b2),(4,Pt b3),(7,Pt b),(8,Y i)]) (λi x=>AΓ a x (((s.new.here s.S.length).emit 1 f none (some e)).j7 t (i.toNat-1))++[.inv E I,outs w J,rest w J,.pr (g2.B <+: x.B/\AW x (((s.new.here s.S.length).emit 1 f none (some e)).j7 t (i.toNat-1))/\1<=i/\i<=k)]) (rs [1,8,0,0]) (λi x=>?_) (λi x=>?_)
 ·refine pW (p:=g2.B <+: x.B/\AW x (((s.new.here s.S.length).emit 1 f none (some e)).j7 t (i.toNat-1))/\1<=i/\i<=k) (λw c=>c.get 8 l) λN=>?_
  obtain⟨m,n,O,P⟩:=N
  unfold qW
  refine al<|sr<|u l<|ql (cm (i:=5) d l l h2)<|cG l<|nt<|aH l (λh=>?_) (λh=>bu<|aA<|bk x (rs [0,8]))
  simp only[decide_eq_true_eq]at h
  refine sn<|al<|aN<|W<|u l<|ql (cm (i:=5) d l l Q) ?_
  refine CO (X rfl) rfl Tryz.call207 rfl (mW (rs [0,4]) [5,6,7] rfl rfl (λ_=>rfl) λw c=>xH n 0 t none none rfl rfl nK nK (by
    rw[ab.Cz]
    simp[ab.emit,ab.here,ab.new]
    omega) w _ rfl (c.handed (rs [0,4]) rfl rfl rfl rfl)) (λy=>?_)
  obtain⟨g3,q,z⟩:=y
  refine af<|aw<|T<|W<|u l<|aM l<|o l<|af ?_
  have hi:ah (i+1)=i+1:=na (by omega) (by omega)
  have e1:(((s.new.here s.S.length).emit 1 f none (some e)).j7 t (i.toNat-1)).emit 0 t none none=((s.new.here s.S.length).emit 1 f none (some e)).j7 t ((ah (i+1)).toNat-1):=by
    rw[DI,hi]
    congr 1
    omega
  exact z6 (p:=g2.B <+: g3.B/\AW g3 (((s.new.here s.S.length).emit 1 f none (some e)).j7 t ((ah (i+1)).toNat-1))/\1<=ah (i+1)/\ah (i+1)<=k) ⟨m.trans q,e1▸z,by omega,by omega⟩<|eI (Γ':=.pr _::(AΓ a g3 (((s.new.here s.S.length).emit 1 f none (some e)).j7 t ((ah (i+1)).toNat-1))++[.inv E I,outs w J,rest w J])) (λw c=>by rw[<- e1];exact c)<|nx g3 (rs [1,8,0,0])
 ·refine ux (p:=g2.B <+: x.B/\AW x (((s.new.here s.S.length).emit 1 f none (some e)).j7 t (i.toNat-1))/\1<=i/\i<=k) (λw c=>c.get 8 l) λN=>?_
  by_cases H:i=k
  ·obtain⟨m,n,O,P⟩:=N
   subst H
   rw[if_pos rfl]
   refine T<|W<|u l<|ql (cm (i:=5) d l l Q)<|u l ?_
   refine CO (X rfl) rfl Tryz.call207 rfl (mW (rs [0,4]) [5,6,7] rfl rfl (λ_=>rfl) λw c=>xH n 0 t (some s.S.length) none (Am (iz m (iz F (iz j U)))) rfl (pf (by
     rw[ab.F1]
     simp[ab.emit,ab.here,ab.new])) nK (by
     rw[ab.Cz]
     simp[ab.emit,ab.here,ab.new]
     omega) w _ rfl (c.handed (rs [0,4]) rfl rfl rfl rfl)) (λy=>?_)
   obtain⟨g3,q,z⟩:=y
   refine af ?_
   have e1:(((s.new.here s.S.length).emit 1 f none (some e)).j7 t (i.toNat-1)).emit 0 t (some s.S.length) none=s.loop f t i.toNat e:=rfl
   exact jc (.inr l) l (λw c=>⟨⟨g3,(((g.qo b).trans j).trans F).trans (m.trans q),e1▸z⟩,l,c⟩)
  ·rw[if_neg H]
   exact oT
theorem Nr {a:Nat}{g:AG}{s:ab}(hw:AW g s){r:Int}{e be:Nat}(he:g.B[e]?=some be)(h:s.L.length<=1000){E:List Nat}{I:World->Prop}{b1:Nat}(j:∀w,I w->w.heap[b1]?=some (Obj.cells #[Y r] 2 (0,0))): sN 209 [Pt a,Pt be,Pt b1] a g s (s.emit 0 r (some e) none) [.inv E I] [.inv E I]:=by
 intro w n k m
 refine eV (vs:=[Pt a,Pt be,Pt b1]) (R:=Unit) (r:=()) (E:=some ()) (v:=λ_ (_:AX g (s.emit 0 r (some e) none))=>.tuple #[]) (fs:=λ_ x=>AΓ a x.g' (s.emit 0 r (some e) none)++[.inv E I]) Tryz.func209 l Tryz.ntmps209 l (SH.begin k m) l ?_ l
 exact W<|u l<|ql (cm (i:=5) d l l j)<|u l<|cT l Tryz.call207 (rs [0,4]) [5,6,7] l (λw b=>xH hw 0 r (some e) none (Am he) l (pf (hw.lt he)) nK h w _ l (b.handed (rs [0,4]) l l l l)) λ⟨g1,c,f⟩=>af<|jc (.inr l) l (λw b=>⟨⟨g1,c,f⟩,l,b⟩)
abbrev sE (b1 b2 b3:Nat): Value:=.func (.func 206) #[] #[Pt b1,Pt b2,Pt b3]
abbrev wC (b:Nat): Value:=.func (.func 209) #[] #[Pt b]
theorem rS (w:World)(f t k:Int): iY Tryz.prog 172 [Y f,Y t,Y k] w [] (λx:Nat×Nat×Nat=>sE x.1 x.2.1 x.2.2) (λx=>[.bx x.1 2 [Y f],.bx x.2.1 2 [Y k],.bx x.2.2 2 [Y t]]):=by
 refine eV (vs:=[Y f,Y t,Y k]) (R:=Unit) (r:=()) (E:=some ()) (v:=λ_ (x:Nat×Nat×Nat)=>sE x.1 x.2.1 x.2.2) (fs:=λ_ x=>[.bx x.1 2 [Y f],.bx x.2.1 2 [Y k],.bx x.2.2 2 [Y t]]) Tryz.func172 l Tryz.ntmps172 l (SH.begin (Γin:=[]) l ⟨List.nodup_nil,by simp[Ctx.ae],rfl,rfl,by simp⟩) l ?_ l
 exact sr<|cu l cI λb3=>cu l cI λb4=>cu l cI λb5=>o l<|bA<|ql (dF l)<|o l<|aK<|n1 l (b3,b5,b4) [2,0,1,3,4]
theorem Nz (x:Raw){k:Int}(a:k=0\/k=1): fJ [x] k=some (List.replicate k.toNat x):=by
 have b:qx ⟨wk .u64 1⟩ ⟨wk .u64 0⟩=some (⟨0⟩,⟨0⟩):=by kernel_rfl
 have c:qx ⟨wk .u64 1⟩ ⟨wk .u64 1⟩=some (⟨0⟩,⟨1⟩):=by kernel_rfl
 rcases a with rfl|rfl
 ·unfold fJ
  simp[Z,Out.elim,b,Fg,yK,na,nD,fc]
 ·unfold fJ
  simp[Z,Out.elim,c,Fg,yK,na,nD,fc]
theorem wM (w:World)(r k:Int)(c:k=0\/k=1): iY Tryz.prog 173 [Y r,Y k] w [] (λx:Nat×Value=>x.2) (λx=>[.bx x.1 2 [Y r],.ow 267 x.2 (List.replicate k.toNat (Raw.mk (wC x.1)))]):=by
 refine eV (vs:=[Y r,Y k]) (R:=Unit) (r:=()) (E:=some ()) (v:=λ_ (x:Nat×Value)=>x.2) (fs:=λ_ x=>[.bx x.1 2 [Y r],.ow 267 x.2 (List.replicate k.toNat (Raw.mk (wC x.1)))]) Tryz.func173 l Tryz.ntmps173 l (SH.begin (Γin:=[]) l ⟨List.nodup_nil,by simp[Ctx.ae],rfl,rfl,by simp⟩) l ?_ l
 exact sr<|cu l cI λb2=>o l<|bA<|ql (dF l)<|st (cq (vs:=[wC b2]) ([Raw.mk (wC b2)]:List Raw) Tryz.underlying265 jd nf l (λw a=>⟨Raw.rd l,trivial⟩)) λb=>u l<|calls l Tryz.call208 (λw a=>pP (a.bV 0 l) _ (Nz _ c)) λv=>o l<|aK<|n1 l (b2,v) [2,0,3,4]
inductive PV where
  |loop (f t k:Int) (b1 b2 b3:Nat)
  |inc (r:Int) (b:Nat)
def PV.pc:PV->Pc
  |.loop f t k _ _ _=>.loop f t k
  |.inc r _=>.inc r
def PV.val:PV->Value
  |.loop _ _ _ b1 b2 b3=>sE b1 b2 b3
  |.inc _ b=>wC b
def PV.raw (q:PV): Raw:=⟨q.val⟩
def PV.holds (w:World): PV->Prop
  |.loop f t k b1 b2 b3=>w.heap[b1]?=some (Obj.cells #[Y f] 2 (0,0))/\w.heap[b2]?=some (Obj.cells #[Y k] 2 (0,0))/\w.heap[b3]?=some (Obj.cells #[Y t] 2 (0,0))
  |.inc r b=>w.heap[b]?=some (Obj.cells #[Y r] 2 (0,0))
def PV.fit:PV->Prop
  |.loop _ _ k _ _ _=>1<=k/\k<=2
  |.inc _ _=>True
theorem PV.QD {q:PV}(h:q.fit): q.pc.n<=4:=by
 cases q with
 |loop f t k b1 b2 b3=>
   have:=h.1;have:=h.2
   show k.toNat+2<=4
   omega
 |inc r b=>exact(by decide:1<=4)
theorem Jj {a:Nat}{g:AG}{s:ab}(hw:AW g s){e be:Nat}(he:g.B[e]?=some be)(q:PV)(hq:q.fit)(d:s.L.length<=990){E:List Nat}{I:World->Prop}(c:∀w,I w->q.holds w): ∃f caps,q.val=.func (.func f) #[] (List.toArray caps)/\(∀args w,(callFunc f args).run Tryz.prog w=.ok (.enter f args) w)/\sN f ([Pt a,Pt be]++caps) a g s (s.piece e q.pc) [.inv E I] [.inv E I]:=by
 cases q with
 |loop f t k b1 b2 b3=>
   have:=hq.1;have:=hq.2
   exact⟨206,[Pt b1,Pt b2,Pt b3],rfl,Tryz.call206,NH hw he hq.1 (by omega) (λw h=>(c w h).1) (λw h=>(c w h).2.1) (λw h=>(c w h).2.2)⟩
 |inc r b=>exact⟨209,[Pt b],rfl,Tryz.call209,Nr hw he (by omega) c⟩
def nW (t:Nat)(ps:List Pc)(s:ab): Nat->ab
  |0=>s
  |i+1=>match ps[i]? with
    |none=>nW t ps s i
    |some p=>if i+1<ps.length then ((nW t ps s i).new.piece (nW t ps s i).S.length p).here (nW t ps s i).S.length else (nW t ps s i).piece t p
theorem G9 {t:Nat}{ps:List Pc}{s:ab}{i:Nat}{p:Pc}(a:ps[i]?=some p)(hi:i+1=ps.length): nW t ps s (i+1)=(nW t ps s i).piece t p:=by
 simp only[nW,a]
 rw[if_neg (by omega)]
theorem FH {t:Nat}{ps:List Pc}{s:ab}{i:Nat}{p:Pc}(a:ps[i]?=some p)(hi:i+1<ps.length): nW t ps s (i+1)=((nW t ps s i).new.piece (nW t ps s i).S.length p).here (nW t ps s i).S.length:=by
 simp only[nW,a]
 rw[if_pos hi]
theorem GP (t:Nat)(ps:List Pc)(s:ab): ∀i,i<ps.length->(nW t ps s i).chain t (ps.drop i)=s.chain t ps
  |0,_=>rfl
  |i+1,h=>by
    rw[<- GP t ps s i (by omega)]
    have a:ps[i]?=some ps[i]:=List.getElem?_eq_getElem (by omega)
    rw[FH a h,List.drop_eq_getElem_cons (l:=ps) (i:=i) (by omega),List.drop_eq_getElem_cons (l:=ps) (i:=i+1) h]
    rfl
theorem KV {t:Nat}{ps:List Pc}{s:ab}(h:ps≠[]): nW t ps s ps.length=s.chain t ps:=by
 have d:0<ps.length:=List.length_pos_iff.2 h
 have b:ps[ps.length-1]?=some ps[ps.length-1]:=List.getElem?_eq_getElem (by omega)
 have c:=GP t ps s (ps.length-1) (by omega)
 have a:=G9 (t:=t) (s:=s) b (by omega)
 rw[show ps.length-1+1=ps.length by omega]at a
 rw[a,<- c,List.drop_eq_getElem_cons (by omega),show ps.length-1+1=ps.length by omega,List.drop_length]
 rfl
theorem LK {t:Nat}{ps:List Pc}{s:ab}(c:t<s.S.length)(d:∀p∈ps,p.n<=4): ∀i,s.gr (nW t ps s i) (4*i)
  |0=>⟨λh=>h,Nat.le_refl _,Nat.le_refl _⟩
  |i+1=>by
    have b:=LK c d i
    cases a:ps[i]? with
    |none=>
      have e:nW t ps s (i+1)=nW t ps s i:=by simp only[nW,a]
      rw[e]
      exact b.trans ⟨λh=>h,Nat.le_refl _,Nat.le_refl _⟩ (m:=0) (by omega)
    |some p=>
      have f:=d p (List.mem_of_getElem? a)
      by_cases h:i+1<ps.length
      · rw[FH a h]
        exact b.trans (((ab.AF _).trans (ab.AJ (nW t ps s i).new (nW t ps s i).S.length (by simp[ab.new]) p) (Nat.le_refl _)).trans (ab.uG _ (nW t ps s i).S.length) (Nat.le_refl _)) (by omega)
      · have e:nW t ps s (i+1)=(nW t ps s i).piece t p:=by
          simp only[nW,a]
          rw[if_neg h]
        rw[e]
        exact b.trans (ab.AJ _ t (Nat.lt_of_lt_of_le c b.S) p) (by omega)
theorem uN {a:Nat}{g:AG}{s:ab}(hw:AW g s){t bt:Nat}(ht:g.B[t]?=some bt)(c:List PV)(M:c≠[])(D:∀q∈c,q.fit)(ap:c.length<=5)(hL:s.L.length<=900){N:Value}{E:List Nat}{I:World->Prop}(hI:∀w,I w->∀q∈c,q.holds w): sN 171 [Pt a,Pt bt,N] a g s (s.chain t (c.map PV.pc)) [.ow 267 N (c.map PV.raw),.inv E I] []:=by
 intro w F hB hn
 have h0:0<c.length:=List.length_pos_iff.2 M
 have G:(c.map PV.pc).length=c.length:=by simp
 have ag:=LK (t:=t) (ps:=c.map PV.pc) (s:=s) (hw.lt ht) (λp hp=>by
   obtain⟨q,hq,rfl⟩:=List.mem_map.1 hp
   exact PV.QD (D q hq))
 have O:nW t (c.map PV.pc) s c.length=s.chain t (c.map PV.pc):=by
   have:=KV (t:=t) (s:=s) (ps:=c.map PV.pc) (by simpa using M)
   rwa[G]at this
 have ai:SH cw (bare w) w (AΓ a g s++[.ow 267 N (c.map PV.raw),.inv E I]++[outs w F,rest w F]):=SH.begin hB hn
 refine eV (vs:=[Pt a,Pt bt,N]) (R:=Unit) (r:=()) (E:=some ()) (v:=λ_ (_:AX g (s.chain t (c.map PV.pc)))=>.tuple #[]) (fs:=λ_ x=>AΓ a x.g' (s.chain t (c.map PV.pc))++[]) Tryz.func171 l Tryz.ntmps171 l ai l ?_ l
 refine rK (j:=0) (y:=(c[0]).raw) (v:=N) 5 l (by simp[idx,h0]) ?_
 rintro P cap rfl
 refine sr<|u l<|di 5 Tryz.underlying265 l<|u l<|nt ?_
 have m:(((c.map PV.raw).length:Nat):Int)=(c.length:Int):=by simp
 have Q:=vu (k:=(c.length:Int)) (by omega) c.length 0 (by omega) (by omega)
 refine Gw (E':=Z (run (qW (c.length:Int)) 0) (Out.elim (λi=>if i=(c.length:Int)then some ()else none) (λr=>some r))) (by rw[Q];simp[Z,Out.elim])<|Bg (p:=g.B <+: g.B/\AW g (nW t (c.map PV.pc) s (0:Int).toNat)/\(0:Int)<=0/\(0:Int)<=(c.length:Int)) ⟨List.prefix_rfl,hw,by omega,by omega⟩<|lp (qW (c.length:Int)) 0 g (λi _=>[(0,Pt a),(1,Pt bt),(2,Sl P (c.map PV.raw).length cap),(9,Sl P (c.map PV.raw).length cap),(10,Y (((c.map PV.raw).length:Nat):Int)),(11,Y i)]) (λi x=>AΓ a x (nW t (c.map PV.pc) s i.toNat)++[.ow 267 (Sl P (c.map PV.raw).length cap) (c.map PV.raw),.inv E I,outs w F,rest w F,.pr (g.B <+: x.B/\AW x (nW t (c.map PV.pc) s i.toNat)/\0<=i/\i<=(c.length:Int))]) (rs [1,9,0,0]) (λi x=>?_) (λi x=>?_)
 ·refine pW (p:=g.B <+: x.B/\AW x (nW t (c.map PV.pc) s i.toNat)/\0<=i/\i<=(c.length:Int)) (λw d=>d.get 9 l) λhx=>?_
  obtain⟨n,e,aj,ak⟩:=hx
  unfold qW
  refine sr<|cG l<|cA ?_
  rw[m]
  refine aH l (λh=>?_) (λh=>bu<|aA<|bk x (rs [0,9]))
  simp only[decide_eq_true_eq]at h
  have z:i.toNat<c.length:=by omega
  have U:(c.map PV.pc)[i.toNat]?=some (c[i.toNat]).pc:=by simp[z]
  have V:idx (c.map PV.raw) i=some (c[i.toNat]).raw:=by
    unfold idx
    rw[if_neg (by omega)]
    simp[z]
  have hq:=D c[i.toNat] (List.getElem_mem z)
  have ac:ah (i+1)=i+1:=na (by omega) (by omega)
  have ad:(i+1).toNat=i.toNat+1:=by omega
  have C:ah ((c.length:Int)-1)=(c.length:Int)-1:=na (by omega) (by omega)
  have aq:=(ag i.toNat).L
  refine sn<|al<|aN<|sr<|u l<|ql (dy 5 Tryz.underlying265 jd l l l V)<|st (eS 5 (Raw.opens _) jd l l V) λ_=>aT l<|bA<|u l<|o l<|bB<|ba l<|di 5 Tryz.underlying265 l<|ff l<|cG l<|nt ?_
  by_cases am:i+1<(c.length:Int)
  ·refine aL l (by rw[m,C];simp;omega)<|W<|ql (aC AA l .nil (λw d=>trivial))<|cu l (λw d=>(ck ⟨aa,trivial⟩)) λb=>bH (λw d=>SH.xK e d) ?_
   have an:=e.add b
   have hb:=AG.add_get e b
   refine o l<|bA<|ba l<|u l ?_
   obtain⟨f,caps,hv,hf,hc⟩:=Jj (a:=a) (E:=E) an hb c[i.toNat] hq (by show(nW t (c.map PV.pc) s i.toNat).L.length<=990;omega) (λw h=>hI w h _ (List.getElem_mem z))
   refine vV (X l) l hf (show some (c[i.toNat]).val=_ from congrArg some hv) l (mW [0,1,2,3,4,6] [5,7,8,9] l l (λ_=>l) λw d=>hc w _ l (d.handed [0,1,2,3,4,6] l l l l)) λ⟨g1,ae,ao⟩=>bA<|ba l<|di 6 Tryz.underlying265 l<|ff l<|cG l<|nt<|aL l (by rw[m,C];simp;omega)<|W<|ba l<|cT l Tryz.call168 (rs [0,4]) (rs [5,9]) l (λw d=>uw ao (iz ae hb) w _ l (d.handed (rs [0,4]) l l l l)) λ⟨g2,H,J⟩=>af<|aw<|T<|W<|aM l<|u l<|af ?_
   have e1:(((nW t (c.map PV.pc) s i.toNat).new.piece (nW t (c.map PV.pc) s i.toNat).S.length (c[i.toNat]).pc).here (nW t (c.map PV.pc) s i.toNat).S.length)=nW t (c.map PV.pc) s (ah (i+1)).toNat:=by
     rw[ac,ad,FH U (by rw[G];omega)]
   exact z6 (p:=g.B <+: g2.B/\AW g2 (nW t (c.map PV.pc) s (ah (i+1)).toNat)/\0<=ah (i+1)/\ah (i+1)<=(c.length:Int)) ⟨(n.trans (AG.qo x b)).trans (ae.trans H),e1▸J,by omega,by omega⟩<|eI (Γ':=.pr _::(AΓ a g2 (nW t (c.map PV.pc) s (ah (i+1)).toNat)++[.inv E I,.ow 267 (Sl P (c.map PV.raw).length cap) (c.map PV.raw),outs w F,rest w F])) (λw d=>by rw[<- e1];exact d.cj (rs [0,9]) l)<|nx g2 [1,2,3,4,5,7,6,8,9,0]
  ·refine aU l (by rw[m,C];simp;omega)<|dQ<|ba l<|u l ?_
   obtain⟨f,caps,hv,hf,hc⟩:=Jj (a:=a) (E:=E) e (iz n ht) c[i.toNat] hq (by omega) (λw h=>hI w h _ (List.getElem_mem z))
   refine vV (X l) l hf (show some (c[i.toNat]).val=_ from congrArg some hv) l (mW [0,1,2,3,4,6] [5,7,8,9] l l (λ_=>l) λw d=>hc w _ l (d.handed [0,1,2,3,4,6] l l l l)) λ⟨g2,H,J⟩=>bA<|ba l<|di 6 Tryz.underlying265 l<|ff l<|cG l<|nt<|aU l (by rw[m,C];simp;omega)<|aV<|aw<|T<|W<|aM l<|u l<|af ?_
   have e1:(nW t (c.map PV.pc) s i.toNat).piece t (c[i.toNat]).pc=nW t (c.map PV.pc) s (ah (i+1)).toNat:=by
     rw[ac,ad,G9 U (by rw[G];omega)]
   exact z6 (p:=g.B <+: g2.B/\AW g2 (nW t (c.map PV.pc) s (ah (i+1)).toNat)/\0<=ah (i+1)/\ah (i+1)<=(c.length:Int)) ⟨n.trans H,e1▸J,by omega,by omega⟩<|eI (Γ':=.pr _::(AΓ a g2 (nW t (c.map PV.pc) s (ah (i+1)).toNat)++[.inv E I,.ow 267 (Sl P (c.map PV.raw).length cap) (c.map PV.raw),outs w F,rest w F])) (λw d=>by rw[<- e1];exact d.cj (rs [0,9]) l)<|nx g2 [1,2,3,4,5,7,6,8,9,0]
 ·refine ux (p:=g.B <+: x.B/\AW x (nW t (c.map PV.pc) s i.toNat)/\0<=i/\i<=(c.length:Int)) (λw d=>d.get 9 l) λhx=>?_
  by_cases K:i=(c.length:Int)
  ·obtain⟨n,e,aj,ak⟩:=hx
   rw[if_pos K]
   have e1:nW t (c.map PV.pc) s i.toNat=s.chain t (c.map PV.pc):=by
     rw[K]
     exact O
   rw[e1]at e ⊢
   exact jc (.inr l) l (λw d=>⟨⟨x,n,e⟩,l,d.cj (rs [0,4,7,8]) l⟩)
  ·rw[if_neg K]
   exact oT
def bD (b:Nat): Raw:=⟨Pt b⟩
theorem Cy (f:Int): ∀(n:Nat) (s:ab),s.eJ f (n+1)=(s.eJ f n).new.emit 1 f none (some (s.eJ f n).S.length)
  |0,_=>rfl
  |n+1,s=>Cy f n (s.new.emit 1 f none (some s.S.length))
def zE (a:Nat)(g:AG)(n:Nat)(D:List Nat)(I:World->Prop)(v:Value)(c:ab->ab)(m:Nat): Prop:=
  ∃f caps,v=.func (.func f) #[] (List.toArray caps)/\(∀args w,(callFunc f args).run Tryz.prog w=.ok (.enter f args) w)/\
    (∀s':ab,n<=s'.S.length->s'.gr (c s') m)/\
    ∀(g':AG) (s':ab),g.B <+: g'.B->AW g' s'->n<=s'.S.length->s'.L.length+m+10<=800->sN f caps a g' s' (c s') [.inv D I] [.inv D I]
def Af (c0 c1:ab->ab)(h:ab)(k:Nat): Nat->ab
  |0=>h
  |1=>c0 (h.here k)
  |_=>c1 ((c0 (h.here k)).here (k+1))
theorem Jc {a:Nat}{g:AG}{s:ab}(hw:AW g s)(f t:Int){cv v0 v1:Value}{c0 c1:ab->ab}{D:List Nat}{I:World->Prop}{m:Nat}(h0:zE a g s.S.length D I v0 c0 m)(h1:zE a g s.S.length D I v1 c1 m)(hL:s.L.length+2*m+13<=800): sN 175 [Pt a,Y f,Y t,cv] a g s (s.split f t [c0,c1]) [.ow 1 cv ([⟨v0⟩,⟨v1⟩]:List Raw),.inv D I] [.inv D I]:=by
 intro w H hB hn
 have aq:SH cw (bare w) w (AΓ a g s++[.ow 1 cv ([⟨v0⟩,⟨v1⟩]:List Raw),.inv D I]++[outs w H,rest w H]):=SH.begin hB hn
 refine eV (vs:=[Pt a,Y f,Y t,cv]) (R:=Unit) (r:=()) (E:=some ()) (v:=λ_ (_:AX g (s.split f t [c0,c1]))=>.tuple #[]) (fs:=λ_ x=>AΓ a x.g' (s.split f t [c0,c1])++[.inv D I]) Tryz.func175 l Tryz.ntmps175 l aq l ?_ l
 refine rK (j:=0) (y:=(⟨v0⟩:Raw)) (v:=cv) 5 l l ?_
 rintro bb cap rfl
 refine sr<|ql (aC AA l .nil (λw c=>trivial))<|cu l (λw c=>(ck ⟨aa,trivial⟩)) λb=>bH (λw c=>SH.xK hw c) ?_
 have ar:=hw.add b
 have hb:=AG.add_get hw b
 refine o l<|bA<|ba l<|cT l Tryz.call168 (rs [0,4]) [5,6,7,8] l (λw c=>uw ar hb w _ l (c.handed (rs [0,4]) l l l l)) λ⟨g1,N,au⟩=>?_
 have aS:(s.new.here s.S.length).S.length=s.S.length+1:=by simp[ab.here,ab.new]
 have aU:(s.new.here s.S.length).L.length=s.L.length:=rfl
 refine bA<|st (cq (vs:=[]) ([]:List Raw) Tryz.underlying180 iF Ai l (λw c=>trivial)) λbs=>o l<|bB<|u l<|di 6 Tryz.underlying255 l<|u l<|nt ?_
 have J:=vu (k:=2) (by omega) 2 0 (by omega) (by omega)
 refine Gw (E':=Z (run (qW 2) 0) (Out.elim (λi=>if i=2 then some ()else none) (λr=>some r))) (by rw[J];simp[Z,Out.elim])<|Bg (p:=(g1.B <+: g1.B/\AW g1 ((s.new.here s.S.length).eJ f (0:Int).toNat)/\(0:Int)<=0/\(0:Int)<=2)/\(([]:List Nat).length:Int)=0/\∀j b:Nat,([]:List Nat)[j]?=some b->g1.B[s.S.length+1+j]?=some b) ⟨⟨List.prefix_rfl,au,by omega,by omega⟩,l,λj b h=>by simp at h⟩<|lp (qW 2) 0 (g1,Sl bs 0 0,[]) (λi x=>[(0,Pt a),(1,Y f),(2,Y t),(3,Sl bb 2 cap),(8,Pt b),(9,x.2.1),(20,Y 2),(21,Y i)]) (λi x=>AΓ a x.1 ((s.new.here s.S.length).eJ f i.toNat)++[.ow 258 x.2.1 (x.2.2.map bD),.ow 1 (Sl bb 2 cap) ([⟨v0⟩,⟨v1⟩]:List Raw),.inv D I,outs w H,rest w H,.pr ((g1.B <+: x.1.B/\AW x.1 ((s.new.here s.S.length).eJ f i.toNat)/\0<=i/\i<=2)/\(x.2.2.length:Int)=i/\∀j b:Nat,x.2.2[j]?=some b->x.1.B[s.S.length+1+j]?=some b)]) (rs [2,6,1,1,7,10,0,0]) (λi x=>?_) (λi x=>?_)
 ·obtain⟨q,V,bl⟩:=x
  refine pW (p:=(g1.B <+: q.B/\AW q ((s.new.here s.S.length).eJ f i.toNat)/\0<=i/\i<=2)/\(bl.length:Int)=i/\∀j b:Nat,bl[j]?=some b->q.B[s.S.length+1+j]?=some b) (λw c=>c.get 10 l) λO=>?_
  obtain⟨⟨z,e,av,ax⟩,ad,P⟩:=O
  have ay:=ab.AN f i.toNat (s.new.here s.S.length)
  have az:=ab.Ay f i.toNat (s.new.here s.S.length)
  unfold qW
  refine sr<|cG l<|cA<|aH l (λh=>?_) (λh=>bu<|aA<|bk (q,V,bl) (rs [0,10]))
  simp only[decide_eq_true_eq]at h
  refine sn<|al<|aN<|sr<|ql (aC AA l .nil (λw c=>trivial))<|cu l (λw c=>(ck ⟨aa,trivial⟩)) λb2=>bH (λw c=>SH.xK e c) ?_
  have ae:=e.add b2
  have ag:=AG.add_get e b2
  refine o l<|bA<|ba l<|st (cq (vs:=[Pt b2]) ([bD b2]:List Raw) Tryz.underlying180 iF Ai l (λw c=>⟨Raw.rd l,trivial⟩)) λb3=>st (ec 6 Tryz.underlying180 iF Ai LW l (λw c=>c.bg 0 l) (de (by simp;omega))) λV2=>o l<|nt<|W<|ba l<|u l<|cT l Tryz.call207 (rs [1,5]) (rs [6,10]) l (λw c=>xH ae 1 f none (some ((s.new.here s.S.length).eJ f i.toNat).S.length) l (Am ag) nK (pf (by simp[ab.new])) (by show((s.new.here s.S.length).eJ f i.toNat).L.length<=1000;omega) w _ l (c.handed (rs [1,5]) l l l l)) λ⟨g2,d,Q⟩=>af<|aw<|T<|W<|aM l<|u l<|af ?_
  have U:ah (i+1)=i+1:=na (by omega) (by omega)
  have e1:((s.new.here s.S.length).eJ f i.toNat).new.emit 1 f none (some ((s.new.here s.S.length).eJ f i.toNat).S.length)=(s.new.here s.S.length).eJ f (ah (i+1)).toNat:=by
    rw[U,show(i+1).toNat=i.toNat+1 by omega,Cy]
  have e2:bl.map bD++[bD b2]=(bl++[b2]).map bD:=by simp
  refine z6 (p:=(g1.B <+: g2.B/\AW g2 ((s.new.here s.S.length).eJ f (ah (i+1)).toNat)/\0<=ah (i+1)/\ah (i+1)<=2)/\((bl++[b2]).length:Int)=ah (i+1)/\∀j b:Nat,(bl++[b2])[j]?=some b->g2.B[s.S.length+1+j]?=some b) ⟨⟨(z.trans (AG.qo q b2)).trans d,e1▸Q,by omega,by omega⟩,by simp;omega,λj b hj=>?_⟩ (eI (Γ':=.pr _::(AΓ a g2 ((s.new.here s.S.length).eJ f (ah (i+1)).toNat)++[.ow 258 V2 ((bl++[b2]).map bD),.ow 1 (Sl bb 2 cap) ([⟨v0⟩,⟨v1⟩]:List Raw),.inv D I,outs w H,rest w H])) (λw c=>by rw[<- e1,<- e2];exact c.cj (rs [0,10]) l)<|nx (g2,V2,bl++[b2]) (rs [1,10,0,0]))
  by_cases aB:j<bl.length
  ·rw[List.getElem?_append_left aB]at hj
   exact iz d (iz (AG.qo q b2) (P j b hj))
  ·have ai:j<(bl++[b2]).length:=(List.getElem?_eq_some_iff.1 hj).1
   have aD:j=bl.length:=by simp at ai;omega
   subst aD
   simp only[List.getElem?_append_right (Nat.le_refl _),Nat.sub_self,List.getElem?_cons_zero,Option.some.injEq]at hj
   subst hj
   have e3:s.S.length+1+bl.length=((s.new.here s.S.length).eJ f i.toNat).S.length:=by omega
   rw[e3]
   exact iz d ag
 ·obtain⟨q,V,bl⟩:=x
  refine ux (p:=(g1.B <+: q.B/\AW q ((s.new.here s.S.length).eJ f i.toNat)/\0<=i/\i<=2)/\(bl.length:Int)=i/\∀j b:Nat,bl[j]?=some b->q.B[s.S.length+1+j]?=some b) (λw c=>c.get 10 l) λO=>?_
  by_cases C:i=2
  ·obtain⟨⟨z,e,av,ax⟩,ad,P⟩:=O
   subst C
   rw[if_pos rfl]
   obtain⟨n,b1,rfl⟩:∃n b1,bl=[n,b1]:=by
     match bl,ad with
     |[n,b1],_=>exact⟨n,b1,rfl⟩
     |[],h=>simp at h
     |[_],h=>simp at h
     |_::_::_::_,h=>simp at h;omega
   have ay:=ab.AN f 2 (s.new.here s.S.length)
   have az:=ab.Ay f 2 (s.new.here s.S.length)
   have aj:q.B[s.S.length]?=some b:=iz z (iz N hb)
   refine T<|sr<|ba l<|u l<|cT l Tryz.call207 (rs [0,4]) (rs [5,9]) l (λw c=>xH e 0 t (some s.S.length) none (Am aj) l (pf (e.lt aj)) nK (by show((s.new.here s.S.length).eJ f 2).L.length<=1000;omega) w _ l (c.handed (rs [0,4]) l l l l)) λ⟨g2,d,Q⟩=>?_
   have ak:AW g2 (s.head f t 2):=Q
   have aV:(s.head f t 2).L.length=s.L.length+3:=by
     show(_++[_]).length=_
     simp only[List.length_append,List.length_singleton]
     show((s.new.here s.S.length).eJ f 2).L.length+1=_
     omega
   have aW:(s.head f t 2).S.length=s.S.length+3:=by
     show((s.new.here s.S.length).eJ f 2).S.length=_
     omega
   refine bA<|u l<|di 6 Tryz.underlying255 l<|u l<|nt<|rK (xs:=[bD n,bD b1]) (j:=0) (y:=bD n) (v:=V) 5 l l ?_
   rintro bv F rfl
   refine Gw (E':=Z (run (qW 2) 0) (Out.elim (λi=>if i=2 then some ()else none) (λr=>some r))) (by rw[J];simp[Z,Out.elim])<|Bg (p:=g2.B <+: g2.B/\AW g2 (Af c0 c1 (s.head f t 2) (s.S.length+1) (0:Int).toNat)/\(0:Int)<=0/\(0:Int)<=2) ⟨List.prefix_rfl,ak,by omega,by omega⟩<|lp (qW 2) 0 g2 (λi _=>[(0,Pt a),(9,Sl bv 2 F),(38,Sl bb 2 cap),(39,Y 2),(40,Y i)]) (λi x=>AΓ a x (Af c0 c1 (s.head f t 2) (s.S.length+1) i.toNat)++[.ow 258 (Sl bv 2 F) [bD n,bD b1],.ow 1 (Sl bb 2 cap) ([⟨v0⟩,⟨v1⟩]:List Raw),.inv D I,outs w H,rest w H,.pr (g2.B <+: x.B/\AW x (Af c0 c1 (s.head f t 2) (s.S.length+1) i.toNat)/\0<=i/\i<=2)]) (rs [1,10,0,0]) (λi x=>?_) (λi x=>?_)
   ·refine pW (p:=g2.B <+: x.B/\AW x (Af c0 c1 (s.head f t 2) (s.S.length+1) i.toNat)/\0<=i/\i<=2) (λw c=>c.get 10 l) λO=>?_
    obtain⟨G,ac,aX,aY⟩:=O
    unfold qW
    refine sr<|cG l<|cA<|aH l (λh=>?_) (λh=>bu<|aA<|bk x (rs [0,10]))
    simp only[decide_eq_true_eq]at h
    have am:∀j b:Nat,[n,b1][j]?=some b->x.B[s.S.length+1+j]?=some b:=λj b hj=>iz G (iz d (P j b hj))
    have aE:g.B <+: x.B:=((((AG.qo g b).trans N).trans z).trans d).trans G
    obtain⟨vi,ci,bi,K,M,aF,aG,an,aO,aP⟩:∃vi ci bi,idx ([⟨v0⟩,⟨v1⟩]:List Raw) i=some ⟨vi⟩/\idx [bD n,bD b1] i=some (bD bi)/\x.B[s.S.length+1+i.toNat]?=some bi/\zE a g s.S.length D I vi ci m/\
        Af c0 c1 (s.head f t 2) (s.S.length+1) (i.toNat+1)=ci ((Af c0 c1 (s.head f t 2) (s.S.length+1) i.toNat).here (s.S.length+1+i.toNat))/\s.S.length<=(Af c0 c1 (s.head f t 2) (s.S.length+1) i.toNat).S.length/\(Af c0 c1 (s.head f t 2) (s.S.length+1) i.toNat).L.length<=s.L.length+3+m:=by
      have aI:i=0\/i=1:=by omega
      rcases aI with rfl|rfl
      · exact⟨v0,c0,n,rfl,rfl,am 0 n rfl,h0,rfl,by show _<=(s.head f t 2).S.length;omega,by show(s.head f t 2).L.length<=_;omega⟩
      · obtain⟨_,_,_,_,ao,_⟩:=h0
        have hg:=ao ((s.head f t 2).here (s.S.length+1)) (by simp[ab.here];omega)
        have h3:((s.head f t 2).here (s.S.length+1)).S.length=(s.head f t 2).S.length:=by simp[ab.here]
        have h4:((s.head f t 2).here (s.S.length+1)).L.length=(s.head f t 2).L.length:=rfl
        refine⟨v1,c1,b1,rfl,rfl,am 1 b1 rfl,h1,rfl,?_,?_⟩
        · show _<=(c0 ((s.head f t 2).here (s.S.length+1))).S.length
          have:=hg.S;omega
        · show(c0 ((s.head f t 2).here (s.S.length+1))).L.length<=_
          have:=hg.L;omega
    have aQ:((Af c0 c1 (s.head f t 2) (s.S.length+1) i.toNat).here (s.S.length+1+i.toNat)).S.length=(Af c0 c1 (s.head f t 2) (s.S.length+1) i.toNat).S.length:=by simp[ab.here]
    have aR:((Af c0 c1 (s.head f t 2) (s.S.length+1) i.toNat).here (s.S.length+1+i.toNat)).L.length=(Af c0 c1 (s.head f t 2) (s.S.length+1) i.toNat).L.length:=rfl
    obtain⟨fi,caps,hv,hf,_,hc⟩:=aG
    refine sn<|al<|aN<|sr<|u l<|ql (dy 6 Tryz.underlying255 wG l l l K)<|st (eS 6 (Raw.opens _) wG l l K) λ_=>aT l<|bA<|ba l<|u l<|ql (dy 5 Tryz.underlying180 iF l l l M)<|st (eS 5 (Raw.opens _) iF l l M) λ_=>cT l Tryz.call168 (rs [0,4]) (rs [5,9]) l (λw c=>uw ac aF w _ l (c.handed (rs [0,4]) l l l l)) λ⟨g3,ap,aJ⟩=>nt<|W<|u l<|vV (vs:=[]) (X l) l hf (show some vi=_ from congrArg some hv) l (mW [0,1,2,3,4,7] [5,6,8,9] l l (λ_=>l) λw c=>hc g3 _ (aE.trans ap) aJ (by omega) (by omega) w _ l (c.handed [0,1,2,3,4,7] l l l l)) λ⟨g4,aK,aL⟩=>af<|aw<|T<|W ?_
    refine aM l<|u l<|af ?_
    have U:ah (i+1)=i+1:=na (by omega) (by omega)
    have e1:ci ((Af c0 c1 (s.head f t 2) (s.S.length+1) i.toNat).here (s.S.length+1+i.toNat))=Af c0 c1 (s.head f t 2) (s.S.length+1) (ah (i+1)).toNat:=by
      rw[U,show(i+1).toNat=i.toNat+1 by omega,an]
    exact z6 (p:=g2.B <+: g4.B/\AW g4 (Af c0 c1 (s.head f t 2) (s.S.length+1) (ah (i+1)).toNat)/\0<=ah (i+1)/\ah (i+1)<=2) ⟨(G.trans ap).trans aK,e1▸aL,by omega,by omega⟩<|eI (Γ':=.pr _::(AΓ a g4 (Af c0 c1 (s.head f t 2) (s.S.length+1) (ah (i+1)).toNat)++[.inv D I,.ow 258 (Sl bv 2 F) [bD n,bD b1],.ow 1 (Sl bb 2 cap) ([⟨v0⟩,⟨v1⟩]:List Raw),outs w H,rest w H])) (λw c=>by rw[<- e1];exact c.cj (rs [0,10]) l)<|nx g4 [1,2,3,4,5,7,8,6,9,10,0]
   ·refine ux (p:=g2.B <+: x.B/\AW x (Af c0 c1 (s.head f t 2) (s.S.length+1) i.toNat)/\0<=i/\i<=2) (λw c=>c.get 10 l) λO=>?_
    by_cases C:i=2
    ·obtain⟨G,ac,_,_⟩:=O
     subst C
     rw[if_pos rfl]
     exact jc (.inr l) l (λw c=>⟨⟨x,((((AG.qo g b).trans N).trans z).trans d).trans G,ac⟩,l,c.cj (rs [0,4,7,9]) l⟩)
    ·rw[if_neg C]
     exact oT
  ·rw[if_neg C]
   exact oT
theorem ic {R:Type}{P:Program}{n:Fr}{A:Nat->Prop}{w0 f:World}{Q:R->Exit->Act->World->Prop}{ρ:Env}{Γ Γ' c:Ctx}{E:Option R}{O:List Nat}{ops:Array Oper}{fuel:Nat}{listed:Array Bool}{i:Nat}(d:∀w,SH A w0 w Γ->SH A w0 w Γ')(g:∀b∈Γ'.ae,b∈Γ.ae)(h:JO P n A w0 f c ops O fuel listed Q i ρ Γ' E): JO P n A w0 f c ops O fuel listed Q i ρ Γ E:=
  λr hr a w hs j k e=>h r hr a w hs (d w j) k λb l=>e b (g b l)
theorem qi {R:Type}{P:Program}{n:Fr}{A:Nat->Prop}{w0 u:World}{Q:R->Exit->Act->World->Prop}{ρ:Env}{Γ b:Ctx}{E:Option R}{O:List Nat}{ops:Array Oper}{fuel:Nat}{listed:Array Bool}{ty:TypeId}{pos:String}{after:Array Edge}{g:Option (Nat×Bool)}{i d:Nat}{f:FuncId}{args:List Operand}{p:Array TypeId}{vs:List Value}{G:Type}{v:G->Value}{fs:G->Ctx}{B:List Nat}(ms y js c j:List Nat)(z:ms.all (λm=>gM (m::j))=true)(q:(List.range b.length).all (λi=>(js++c).any (Nat.beq i))=true)(C:cj c b=cj j Γ)(T:(cj js b).ae=O)(hi:ops[i]?=some ⟨some d,.call ⟨.value (.func f),args.toArray,p⟩,ty,pos,after,g⟩)(hw:iE n ρ ops ⟨some d,.call ⟨.value (.func f),args.toArray,p⟩,ty,pos,after,g⟩)(hd:Nat.blt d n.n=true)(U:∀args w,(callFunc f args).run P w=.ok (.enter f args) w)(l:rp ρ args=some vs)(V:gM (y++ms)=true)(L:(cj ms Γ).ae=B)(hl:∀x,(fs x).all Fact.loose=true)(W:∀w,SH A w0 w Γ->iY P f vs w B v fs)(h:∀x,JD P n A w0 u b ops O fuel (listed.setIfInBounds i true) Q ((d,v x)::ρ) (fs x++cj y Γ) E): JO P n A w0 u b ops O fuel listed Q i ρ Γ E:=by
 intro r D a w o M F s
 have N:∀k∈B,k∈O\/u.heap.size<=k:=λk S=>by
   rw[<- L]at S
   obtain⟨m,hm,X,H,I⟩:=kD ms Γ k S
   exact Br m js c j H (List.all_eq_true.1 z m hm) q C T M s k I
 unfold wpOp
 simp only[hi,hw a o,if_true]
 refine .inl ?_
 unfold Oper.wp
 rw[Go.Tc.run_mark o U l,Oper.upon_enter]
 refine(mW ms y V L hl W w M).mono ?_
 rintro e Y ⟨x,rfl,J,t,K⟩
 exact⟨F.C7 t N,h x r D _ _ (o.put (by simpa[Nat.blt_eq]using hd)) J (F.C7 t N) (s.trans F K)⟩
theorem jC {P:Program}{n:Fr}{A:Nat->Prop}{w0:World}{ρ:Env}{Γ:Ctx}{d:Option Nat}{ty:TypeId}{pos:String}{after:Array Edge}{g:Option (Nat×Bool)}{x:Operand}{t:TypeId}{b off i:Nat}{B:List Nat}{I:World->Prop}{v:Value}(c:cg P t=some (1,false))(e:ev ρ x=some (.pointer (some ⟨b,off,none⟩)))(hi:Γ[i]?=some (.inv B I))(f:∀w,I w->w.cell? ⟨b,off,none⟩=some v): Ex P n A w0 ρ Γ ⟨d,.load t x,ty,pos,after,g⟩ v:=by
 intro a w hs h
 have j:=f w (h.get i hi w λ_ _=>rfl)
 simp[execOp,hs.eval e,Instr.loadAt,Instr.sureAddr,loadVar,jX c,run_load,j]
def GC (a:List PV)(w:World): Prop:=∀q∈a,q.holds w
theorem Pa {f1 t1 k1 f2 t2 a f3 t3 k3 r x:Int}{c a2 a3 b1 b2 b3 c1 c2 c3 b:Nat}{w:World}(h:Pk [.bx c 2 [Y f1],.bx a2 2 [Y k1],.bx a3 2 [Y t1],.bx b1 2 [Y f2],.bx b2 2 [Y a],.bx b3 2 [Y t2],.bx c1 2 [Y f3],.bx c2 2 [Y k3],.bx c3 2 [Y t3],.bx b 2 [Y r]] w): GC ([.loop f1 t1 k1 c a2 a3,.loop f2 t2 a b1 b2 b3,.loop f3 t3 k3 c1 c2 c3]++List.replicate x.toNat (.inc r b)) w:=by
 intro q hq
 simp only[List.cons_append,List.nil_append,List.mem_cons]at hq
 rcases hq with rfl|rfl|rfl|hq
 ·exact⟨h (.bx c 2 [Y f1]) (by simp),h (.bx a2 2 [Y k1]) (by simp),h (.bx a3 2 [Y t1]) (by simp)⟩
 ·exact⟨h (.bx b1 2 [Y f2]) (by simp),h (.bx b2 2 [Y a]) (by simp),h (.bx b3 2 [Y t2]) (by simp)⟩
 ·exact⟨h (.bx c1 2 [Y f3]) (by simp),h (.bx c2 2 [Y k3]) (by simp),h (.bx c3 2 [Y t3]) (by simp)⟩
 ·have:=List.eq_of_mem_replicate hq
  subst this
  exact h (.bx b 2 [Y r]) (by simp)
theorem Pz {f1 t1 k1 r x:Int}{a a2 a3 b:Nat}{w:World}(h:Pk [.bx a 2 [Y f1],.bx a2 2 [Y k1],.bx a3 2 [Y t1],.bx b 2 [Y r]] w): GC ([.loop f1 t1 k1 a a2 a3]++List.replicate x.toNat (.inc r b)) w:=by
 intro q hq
 simp only[List.cons_append,List.nil_append,List.mem_cons]at hq
 rcases hq with rfl|hq
 ·exact⟨h (.bx a 2 [Y f1]) (by simp),h (.bx a2 2 [Y k1]) (by simp),h (.bx a3 2 [Y t1]) (by simp)⟩
 ·have:=List.eq_of_mem_replicate hq
  subst this
  exact h (.bx b 2 [Y r]) (by simp)
theorem rY {a:List PV}(h:a.length<=3){x r:Int}(c:x=0\/x=1)(b:Nat): app (a.map PV.raw) (List.replicate x.toNat (Raw.mk (wC b)))=some ((a++List.replicate x.toNat (PV.inc r b)).map PV.raw):=by
 rw[de (by rcases c with rfl|rfl<;>simp<;>omega)]
 simp[PV.raw,PV.val]
theorem uK {r:Int}{b n:Nat}: ∀q∈List.replicate n (PV.inc r b),q.fit:=λq hq=>by
  have:=List.eq_of_mem_replicate hq
  subst this
  trivial
theorem uJ {p q:List PV}(a:∀x∈p,x.fit)(b:∀x∈q,x.fit): ∀x∈p++q,x.fit:=λx c=>(List.mem_append.1 c).elim (a x) (b x)
theorem lS {Γ Γ':Ctx}(is:List Nat)(h:Γ'.ae=(cj is Γ).ae): ∀b∈Γ'.ae,b∈Γ.ae:=λb c=>by
  rw[h]at c
  obtain⟨m,_,f,d,a⟩:=kD is Γ b c
  exact List.mem_flatMap.2 ⟨f,List.mem_of_getElem? d,a⟩
theorem DB:∀(Γ p:Ctx),cj (List.range' p.length Γ.length) (p++Γ)=Γ
  |[],p=>rfl
  |f::Γ,p=>by
    have a:=DB Γ (p++[f])
    rw[List.append_assoc,List.length_append]at a
    show cj (p.length::List.range' (p.length+1) Γ.length) (p++f::Γ)=f::Γ
    simp only[cj]
    rw[List.getElem?_append_right (Nat.le_refl _),Nat.sub_self]
    simp only[List.getElem?_cons_zero]
    exact congrArg _ a
theorem B7:∀(n s:Nat),gM (List.range' s n)=true
  |0,_=>rfl
  |n+1,s=>by
    show(!((List.range' (s+1) n).any _)&&gM (List.range' (s+1) n))=true
    rw[B7 n (s+1),Bool.and_true,Bool.not_eq_true',List.any_eq_false]
    intro k a
    have:=(List.mem_range'_1.1 a).1
    simp only[Nat.beq_eq]
    omega
theorem l6 {P:Program}{A:Nat->Prop}{w0:World}{Γ:Ctx}{f:FuncId}{vs:List Value}{G:Type}{v:G->Value}{fs:G->Ctx}(hl:∀x,(fs x).all Fact.loose=true)(h:∀w,SH A w0 w Γ->iY P f vs w [] v fs): Nf P A w0 Γ f vs v (λx=>fs x++Γ) []:=by
 have a:=mW (Γ:=Γ) [] (List.range' 0 Γ.length) (by rw[List.append_nil];exact B7 _ _) rfl hl h
 have b:cj (List.range' 0 Γ.length) Γ=Γ:=DB Γ []
 rwa[b]at a
theorem HT {a:Nat}{g:AG}{s:ab}(hw:AW g s){t O:Nat}(P:g.B[t]?=some O){x:Int}(F:x=0\/x=1)(Q:s.L.length<=900){D:List Nat}{I:World->Prop}{J p1 p2 H:Nat}(T:∀w,I w->w.heap[J]?=some (Obj.cells #[Pt a] 179 (0,0)))(S:∀w,I w->w.heap[p1]?=some (Obj.cells #[Pt O] 258 (0,0)))(U:∀w,I w->w.heap[p2]?=some (Obj.cells #[Y 2] 2 (0,0)))(V:∀w,I w->w.heap[H]?=some (Obj.cells #[Y x] 2 (0,0))): sN 210 [Pt J,Pt p1,Pt p2,Pt H] a g s (kd 2 t x s) [.inv D I] [.inv D I]:=by
 intro w u W Z
 refine eV (vs:=[Pt J,Pt p1,Pt p2,Pt H]) (R:=Unit) (r:=()) (E:=some ()) (v:=λ_ (_:AX g (kd 2 t x s))=>.tuple #[]) (fs:=λ_ y=>AΓ a y.g' (kd 2 t x s)++[.inv D I]) Tryz.func210 l Tryz.ntmps210 l (SH.begin W Z) l ?_ l
 refine jk (rs [0,4])<|aJ 0 [5,6,7] (rs [0,4]) l (cm (i:=0) nM l l T)<|aJ 1 [5,6,7] (rs [0,4]) l (cm (i:=0) iF l l S)<|aJ 3 [5,6,7] (rs [0,4]) l (cm (i:=0) d l l U)<|aJ 7 [5,6,7] (rs [0,4]) l (cm (i:=0) d l l V)<|bP [5,6,7] (rs [0,4]) l l l λw1 S hp=>D1 2<|gQ l (X l) l Tryz.call172 l (l6 (λ_=>l) λw q=>rS w 2 0 1) (λ_ h=>nomatch h) λ⟨b,c,e⟩=>D1 4<|gQ l (X l) l Tryz.call172 l (l6 (λ_=>l) λw q=>rS w 1 2 2) (λ_ h=>nomatch h) λ⟨f,k,m⟩=>D1 5<|gQ l (X l) l Tryz.call172 l (l6 (λ_=>l) λw q=>rS w 2 1 1) (λ_ h=>nomatch h) λ⟨n,o,p⟩=>dP (i:=6) (j:=8) (by kernel_rfl) ?_ ?_
 ·refine df l (cq (vs:=[sE b c e,sE f k m,sE n o p]) (([.loop 2 0 1 b c e,.loop 1 2 2 f k m,.loop 2 1 1 n o p]:List PV).map PV.raw) Tryz.underlying265 jd nf l (λw q=>⟨Raw.rd l,Raw.rd l,Raw.rd l,trivial⟩)) nh λK=>D1 8<|gQ l (X l) l Tryz.call173 l (l6 (λ_=>l) λw q=>wM w 1 x F) (λ_ h=>nomatch h) λ⟨bi,M⟩=>D1 9<|ic (Γ':=.ow 267 (Sl K 3 3) (([.loop 2 0 1 b c e,.loop 1 2 2 f k m,.loop 2 1 1 n o p]:List PV).map PV.raw)::.ow 267 M (List.replicate x.toNat (Raw.mk (wC bi)))::(([.bx b 2 [Y (2)],.bx c 2 [Y (1)],.bx e 2 [Y (0)],.bx f 2 [Y (1)],.bx k 2 [Y (2)],.bx m 2 [Y (2)],.bx n 2 [Y (2)],.bx o 2 [Y (1)],.bx p 2 [Y (1)],.bx bi 2 [Y 1]]:Ctx)++(AΓ a g s++([.inv D I,outs w u,rest w u]:Ctx)))) (λw q=>q.cj (rs [2,2,1,1,9,11,6,8,3,5,0,0,12,19]) l) (lS (rs [2,2,1,1,9,11,6,8,3,5,0,0,12,19]) l)<|wF 0 (rs [0,4]) [5,6,7] [17,18,19] l l l l l l (X l) l (ec 0 Tryz.underlying265 jd nf vy l (λw q=>q.bg 1 l) (rY (r:=1) (Nat.le_of_ble_eq_true l) F bi)) (λ_ h=>h) λN=>D1 10<|ic (Γ':=.inv (Ctx.ae [.bx b 2 [Y (2)],.bx c 2 [Y (1)],.bx e 2 [Y (0)],.bx f 2 [Y (1)],.bx k 2 [Y (2)],.bx m 2 [Y (2)],.bx n 2 [Y (2)],.bx o 2 [Y (1)],.bx p 2 [Y (1)],.bx bi 2 [Y 1]]) (GC (([.loop 2 0 1 b c e,.loop 1 2 2 f k m,.loop 2 1 1 n o p]:List PV)++List.replicate x.toNat (PV.inc 1 bi)))::(AΓ a g s++([.ow 267 N ((([.loop 2 0 1 b c e,.loop 1 2 2 f k m,.loop 2 1 1 n o p]:List PV)++List.replicate x.toNat (PV.inc 1 bi)).map PV.raw),.inv D I,outs w u,rest w u]:Ctx))) (λw q=>SH.qz (λ_ h=>Pa h) (SH.pack (Δ:=[.bx b 2 [Y (2)],.bx c 2 [Y (1)],.bx e 2 [Y (0)],.bx f 2 [Y (1)],.bx k 2 [Y (2)],.bx m 2 [Y (2)],.bx n 2 [Y (2)],.bx o 2 [Y (1)],.bx p 2 [Y (1)],.bx bi 2 [Y 1]]) l (q.cj (rs [2,16,0,0,17,19]) l))) (lS (rs [2,16,0,0,17,19]) l)<|qi (rs [1,6,0,0]) [7,8,9] (rs [0,4]) [5,6,7] [7,8,9] l l l l l (X l) l Tryz.call171 l l l (λ_=>l) (λw q=>uN hw P (([.loop 2 0 1 b c e,.loop 1 2 2 f k m,.loop 2 1 1 n o p]:List PV)++List.replicate x.toNat (PV.inc 1 bi)) (by simp) (uJ (by simp[PV.fit]) uK) (by rcases F with rfl|rfl<;>simp) Q (λ_ h=>h) w _ l (q.handed (rs [1,6,0,0]) l l l l)) λ⟨G,C,z⟩=>De ?_
  have e1:s.chain t ((([.loop 2 0 1 b c e,.loop 1 2 2 f k m,.loop 2 1 1 n o p]:List PV)++List.replicate x.toNat (PV.inc 1 bi)).map PV.pc)=kd 2 t x s:=by simp[kd,ju,PV.pc]
  rw[e1]at z
  exact eI (Γ':=AΓ a G (kd 2 t x s)++[.inv D I,outs w u,rest w u]) (λw q=>by rw[<- e1];exact q)<|jc (.inr l) l (λw q=>⟨⟨G,C,z⟩,l,q⟩)
 ·refine gQ l (X l) l Tryz.call173 l (l6 (λ_=>l) λw q=>wM w 1 x F) (λ_ h=>nomatch h) λ⟨bi,M⟩=>D1 6<|df l (cq (vs:=[sE b c e,sE f k m,sE n o p]) (([.loop 2 0 1 b c e,.loop 1 2 2 f k m,.loop 2 1 1 n o p]:List PV).map PV.raw) Tryz.underlying265 jd nf l (λw q=>⟨Raw.rd l,Raw.rd l,Raw.rd l,trivial⟩)) nh λK=>D1 9<|ic (Γ':=.ow 267 (Sl K 3 3) (([.loop 2 0 1 b c e,.loop 1 2 2 f k m,.loop 2 1 1 n o p]:List PV).map PV.raw)::.ow 267 M (List.replicate x.toNat (Raw.mk (wC bi)))::(([.bx b 2 [Y (2)],.bx c 2 [Y (1)],.bx e 2 [Y (0)],.bx f 2 [Y (1)],.bx k 2 [Y (2)],.bx m 2 [Y (2)],.bx n 2 [Y (2)],.bx o 2 [Y (1)],.bx p 2 [Y (1)],.bx bi 2 [Y 1]]:Ctx)++(AΓ a g s++([.inv D I,outs w u,rest w u]:Ctx)))) (λw q=>q.cj (rs [0,0,2,2,9,11,6,8,3,5,1,1,12,19]) l) (lS (rs [0,0,2,2,9,11,6,8,3,5,1,1,12,19]) l)<|wF 0 (rs [0,4]) [5,6,7] [17,18,19] l l l l l l (X l) l (ec 0 Tryz.underlying265 jd nf vy l (λw q=>q.bg 1 l) (rY (r:=1) (Nat.le_of_ble_eq_true l) F bi)) (λ_ h=>h) λN=>D1 10<|ic (Γ':=.inv (Ctx.ae [.bx b 2 [Y (2)],.bx c 2 [Y (1)],.bx e 2 [Y (0)],.bx f 2 [Y (1)],.bx k 2 [Y (2)],.bx m 2 [Y (2)],.bx n 2 [Y (2)],.bx o 2 [Y (1)],.bx p 2 [Y (1)],.bx bi 2 [Y 1]]) (GC (([.loop 2 0 1 b c e,.loop 1 2 2 f k m,.loop 2 1 1 n o p]:List PV)++List.replicate x.toNat (PV.inc 1 bi)))::(AΓ a g s++([.ow 267 N ((([.loop 2 0 1 b c e,.loop 1 2 2 f k m,.loop 2 1 1 n o p]:List PV)++List.replicate x.toNat (PV.inc 1 bi)).map PV.raw),.inv D I,outs w u,rest w u]:Ctx))) (λw q=>SH.qz (λ_ h=>Pa h) (SH.pack (Δ:=[.bx b 2 [Y (2)],.bx c 2 [Y (1)],.bx e 2 [Y (0)],.bx f 2 [Y (1)],.bx k 2 [Y (2)],.bx m 2 [Y (2)],.bx n 2 [Y (2)],.bx o 2 [Y (1)],.bx p 2 [Y (1)],.bx bi 2 [Y 1]]) l (q.cj (rs [2,16,0,0,17,19]) l))) (lS (rs [2,16,0,0,17,19]) l)<|qi (rs [1,6,0,0]) [7,8,9] (rs [0,4]) [5,6,7] [7,8,9] l l l l l (X l) l Tryz.call171 l l l (λ_=>l) (λw q=>uN hw P (([.loop 2 0 1 b c e,.loop 1 2 2 f k m,.loop 2 1 1 n o p]:List PV)++List.replicate x.toNat (PV.inc 1 bi)) (by simp) (uJ (by simp[PV.fit]) uK) (by rcases F with rfl|rfl<;>simp) Q (λ_ h=>h) w _ l (q.handed (rs [1,6,0,0]) l l l l)) λ⟨G,C,z⟩=>De ?_
  have e1:s.chain t ((([.loop 2 0 1 b c e,.loop 1 2 2 f k m,.loop 2 1 1 n o p]:List PV)++List.replicate x.toNat (PV.inc 1 bi)).map PV.pc)=kd 2 t x s:=by simp[kd,ju,PV.pc]
  rw[e1]at z
  exact eI (Γ':=AΓ a G (kd 2 t x s)++[.inv D I,outs w u,rest w u]) (λw q=>by rw[<- e1];exact q)<|jc (.inr l) l (λw q=>⟨⟨G,C,z⟩,l,q⟩)
theorem SH.FN {A:Nat->Prop}{w0 w:World}{Γ:Ctx}(h:SH A w0 w Γ)(t:TypeId): SH A w0 w (Tc.eX t [] []::Γ):=
  h.cons (Grow.refl w []) (by simp[Tc.eX,Fact.ae]) (by simp[Tc.eX,Fact.ae]) (λ_ _=>⟨rfl,λk b v a=>by simp at a⟩)
abbrev uj (J p1 p2 a:Nat): Value:=.func (.func 210) #[] #[Pt J,Pt p1,Pt p2,Pt a]
theorem wZ {t:Nat}{x:Int}(a:x=0\/x=1)(s:ab)(b:t<s.S.length): s.gr (kd 2 t x s) 11:=by
 have h:=ab.tL t ([.loop 2 0 1,.loop 1 2 2,.loop 2 1 1]++ju 1 x) s b
 refine h.trans ⟨λh=>h,Nat.le_refl _,Nat.le_refl _⟩ (m:=0) ?_
 rcases a with rfl|rfl
 ·decide
 ·decide
def iota (i:Int): List Int:=(List.range i.toNat).map Int.ofNat
theorem Ka {i:Int}(h:0<=i): iota (i+1)=iota i++[i]:=by
 unfold iota
 rw[show(i+1).toNat=i.toNat+1 by omega,List.range_succ,List.map_append]
 simp[Int.toNat_of_nonneg h]
theorem BW {a:Nat}{g:AG}{s:ab}(hw:AW g s){t e:Nat}(U:g.B[t]?=some e)(hL:s.L.length<=765): sN 174 [Y 2,Pt a,Pt e] a g s (s.mI 2 t) [] []:=by
 intro w n hB hn
 refine eV (vs:=[Y 2,Pt a,Pt e]) (R:=Unit) (r:=()) (E:=some ()) (v:=λ_ (_:AX g (s.mI 2 t))=>.tuple #[]) (fs:=λ_ y=>AΓ a y.g' (s.mI 2 t)++[]) Tryz.func174 l Tryz.ntmps174 l (SH.begin hB hn) l ?_ l
 refine sr<|cu l cI λb3=>cu l cP λb4=>cu l cP λb5=>bA<|st (cq (vs:=[]) ([]:List Raw) Tryz.underlying255 wG Bc l (λw c=>trivial)) λbs=>o l<|bB<|M 3 d l<|u l<|nt ?_
 have z:=vu (k:=2) (by omega) 2 0 (by omega) (by omega)
 refine Gw (E':=Z (run (qW 2) 0) (Out.elim (λi=>if i=2 then some ()else none) (λr=>some r))) (by rw[z];simp[Z,Out.elim])<|Bg (p:=(0:Int)<=0/\(0:Int)<=2/\(([]:List Nat).length:Int)=0) ⟨by omega,by omega,rfl⟩<|lE (Γ':=eX 2 [] (iota 0)::_) (λw c=>SH.FN c 2)<|lp (qW 2) 0 (Sl bs 0 0,[]) (λi x=>[(3,Pt b3),(4,Pt b4),(5,Pt b5),(6,x.1),(9,Y 2),(10,Y i)]) (λi x=>AΓ a g s++[.bx b3 2 [Y 2],.bx b4 179 [Pt a],.bx b5 258 [Pt e],eX 2 x.2 (iota i),.ow 1 x.1 (x.2.map λb=>(⟨uj b4 b5 b3 b⟩:Raw)),outs w n,rest w n,.pr (0<=i/\i<=2/\(x.2.length:Int)=i)]) [6,7,8,9,10,5,4,3,0,2,11,12,1] (λi x=>?_) (λi x=>?_)
 ·obtain⟨V,bl⟩:=x
  refine pW (p:=0<=i/\i<=2/\(bl.length:Int)=i) (λw c=>c.get 12 l) λq=>?_
  obtain⟨C,I,D⟩:=q
  unfold qW
  refine sr<|cG l<|cA<|aH l (λh=>?_) (λh=>bu<|aA<|bk (V,bl) (rs [0,12]))
  simp only[decide_eq_true_eq]at h
  refine sn<|al<|aN<|sr<|u l<|c6 bz l λm=>aR 0 d l cI l<|nt<|W<|u l<|ql (dF l)<|st (cq (vs:=[uj b4 b5 b3 m]) ([⟨uj b4 b5 b3 m⟩]:List Raw) Tryz.underlying255 wG Bc l (λw c=>⟨Raw.rd l,trivial⟩)) λb=>st (ec 11 Tryz.underlying255 wG Bc Lv l (λw c=>c.bg 0 l) (de (by simp;omega))) λX=>o l<|af<|aw<|T<|W<|aM l<|u l<|af ?_
  have J:ah (i+1)=i+1:=na (by omega) (by omega)
  have e1:iota i++[i]=iota (ah (i+1)):=by rw[J,Ka C]
  have e2:bl.map (λb=>(⟨uj b4 b5 b3 b⟩:Raw))++[⟨uj b4 b5 b3 m⟩]=(bl++[m]).map (λb=>(⟨uj b4 b5 b3 b⟩:Raw)):=by simp
  exact z6 (p:=0<=ah (i+1)/\ah (i+1)<=2/\((bl++[m]).length:Int)=ah (i+1)) ⟨by omega,by omega,by simp;omega⟩<|eI (Γ':=eX 2 (bl++[m]) (iota (ah (i+1)))::.pr (0<=ah (i+1)/\ah (i+1)<=2/\((bl++[m]).length:Int)=ah (i+1))::(AΓ a g s++[.bx b3 2 [Y 2],.bx b4 179 [Pt a],.bx b5 258 [Pt e],.ow 1 X ((bl++[m]).map λb=>(⟨uj b4 b5 b3 b⟩:Raw)),outs w n,rest w n])) (λw c=>by rw[<- e1,<- e2];exact(c.cj (rs [2,2,11,11,0,0,3,10,12,14]) l).Hj)<|nx (X,bl++[m]) (rs [2,9,0,0,10,12,1,1])
 ·obtain⟨V,bl⟩:=x
  refine ux (p:=0<=i/\i<=2/\(bl.length:Int)=i) (λw c=>c.get 12 l) λq=>?_
  by_cases F:i=2
  ·obtain⟨C,I,D⟩:=q
   subst F
   rw[if_pos rfl]
   obtain⟨f,j,rfl⟩:∃K b1,bl=[K,b1]:=by
     match bl,D with
     |[K,b1],_=>exact⟨K,b1,rfl⟩
     |[],h=>simp at h
     |[_],h=>simp at h
     |_::_::_::_,h=>simp at h;omega
   refine T<|W<|M 6 nM l<|u l ?_
   have G:∀w:World,Pk [.bx b3 2 [Y 2],.bx b4 179 [Pt a],.bx b5 258 [Pt e],eX 2 [f,j] [0,1]] w->
       w.heap[b3]?=some (Obj.cells #[Y 2] 2 (0,0))/\w.heap[b4]?=some (Obj.cells #[Pt a] 179 (0,0))/\w.heap[b5]?=some (Obj.cells #[Pt e] 258 (0,0))/\w.heap[f]?=some (Obj.cells #[Y 0] 2 (0,0))/\w.heap[j]?=some (Obj.cells #[Y 1] 2 (0,0)):=λw h=>by
     have h5:Dd 2 [f,j] [0,1] w:=h (eX 2 [f,j] [0,1]) (by simp) w (λ_ _=>rfl)
     exact⟨h (.bx b3 2 [Y 2]) (by simp),h (.bx b4 179 [Pt a]) (by simp),h (.bx b5 258 [Pt e]) (by simp),h5.2 0 f 0 rfl rfl,h5.2 1 j 1 rfl rfl⟩
   have ok:∀(x:Int) (bx:Nat),(x=0\/x=1)->(∀w:World,Pk [.bx b3 2 [Y 2],.bx b4 179 [Pt a],.bx b5 258 [Pt e],eX 2 [f,j] [0,1]] w->w.heap[bx]?=some (Obj.cells #[Y x] 2 (0,0)))->
       zE a g s.S.length (Ctx.ae [.bx b3 2 [Y 2],.bx b4 179 [Pt a],.bx b5 258 [Pt e],eX 2 [f,j] [0,1]]) (Pk [.bx b3 2 [Y 2],.bx b4 179 [Pt a],.bx b5 258 [Pt e],eX 2 [f,j] [0,1]]) (uj b4 b5 b3 bx) (kd 2 t x) 11:=
     λx bx q N=>⟨210,[Pt b4,Pt b5,Pt b3,Pt bx],rfl,Tryz.call210,λs' H=>wZ q s' (Nat.lt_of_lt_of_le (hw.lt U) H),
       λg' s' hp O H hl=>HT O (iz hp U) q (by omega) (λw h=>(G w h).2.1) (λw h=>(G w h).2.2.1) (λw h=>(G w h).1) N⟩
   exact bH (Γ':=pack [.bx b3 2 [Y 2],.bx b4 179 [Pt a],.bx b5 258 [Pt e],eX 2 [f,j] [0,1]]::(AΓ a g s++[.ow 1 V ([⟨uj b4 b5 b3 f⟩,⟨uj b4 b5 b3 j⟩]:List Raw),outs w n,rest w n])) (λw c=>(c.cj (rs [5,8,0,4,9,11]) l).pack l)<|cT l Tryz.call175 (rs [1,6,0,0]) [7,8] l (λw c=>Jc hw 0 2 (ok 0 f (.inl l) λw h=>(G w h).2.2.2.1) (ok 1 j (.inr l) λw h=>(G w h).2.2.2.2) (by omega) w _ l (c.handed (rs [1,6,0,0]) l l l l)) λ⟨g2,P,Q⟩=>af<|jc (.inr l) l (λw c=>⟨⟨g2,P,Q⟩,l,c.cj (rs [0,4,6,7]) l⟩)
  ·rw[if_neg F]
   exact oT
theorem CW {P:Program}{n:Fr}{A:Nat->Prop}{w0:World}{ρ:Env}{Γ:Ctx}{d:Option Nat}{ty:TypeId}{pos:String}{after:Array Edge}{g:Option (Nat×Bool)}{x:Operand}{t e:TypeId}{b i:Nat}{B:List Nat}{I:World->Prop}{cs:List Value}(c:cg P t=some (cs.length,true))(f:ev ρ x=some (Pt b))(hi:Γ[i]?=some (.inv B I))(h:∀w,I w->w.heap[b]?=some (Obj.cells cs.toArray e (0,0))): Ex P n A w0 ρ Γ ⟨d,.load t x,ty,pos,after,g⟩ (.agg cs.toArray):=by
 intro a w hs k
 have l:=h w (k.get i hi w λ_ _=>rfl)
 have m:=run_loadCells_list (P:=P) w ⟨b,0,none⟩ cs (λj v o=>by
   rw[Addr.add_lit]
   exact pY l (by simpa using o))
 simp[execOp,hs.eval f,Instr.loadAt,Instr.sureAddr,loadVar,jX c,dR c,m]
structure Dv (a:Nat)(g0:AG)(r:ai)(c v:Int)(J p1 p2 e f g d n cap:Nat)(I:World->Prop): Prop where
  r:∀w,I w->w.heap[J]?=some (Obj.cells #[Y r.Write,Y r.Move,Y r.Next] 62 (0,0))
  a:∀w,I w->w.heap[p1]?=some (Obj.cells #[Pt a] 179 (0,0))
  sec:∀w,I w->w.heap[p2]?=some (Obj.cells #[Sl d n cap] 180 (0,0))
  row:∀(k b:Nat),g0.B[k]?=some b->k<n->∀w,I w->w.cell? ⟨d,k,none⟩=some (Pt b)
  m:∀w,I w->w.cell? ⟨e,1,none⟩=some (Y c)
  s:∀w,I w->w.heap[f]?=some (Obj.cells #[Y 2] 2 (0,0))
  v:∀w,I w->w.heap[g]?=some (Obj.cells #[Y v] 2 (0,0))
theorem Dv.c0 {a:Nat}{g0:AG}{r:ai}{b v:Int}{J p1 p2 c d e f n cap:Nat}{I:World->Prop}(h:Dv a g0 r b v J p1 p2 c d e f n cap I): ∀w,I w->w.cell? ⟨J,0,none⟩=some (Y r.Write):=λw hw=>by simp[World.cell?,h.r w hw]
theorem Dv.c1 {a:Nat}{g0:AG}{r:ai}{b v:Int}{J p1 p2 c d e f n cap:Nat}{I:World->Prop}(h:Dv a g0 r b v J p1 p2 c d e f n cap I): ∀w,I w->w.cell? ⟨J,1,none⟩=some (Y r.Move):=λw hw=>by simp[World.cell?,h.r w hw]
theorem Dv.c2 {a:Nat}{g0:AG}{r:ai}{b v:Int}{J p1 p2 c d e f n cap:Nat}{I:World->Prop}(h:Dv a g0 r b v J p1 p2 c d e f n cap I): ∀w,I w->w.cell? ⟨J,2,none⟩=some (Y r.Next):=λw hw=>by simp[World.cell?,h.r w hw]
theorem Fu {n:Nat}{k:Int}(a:0<=k)(b:k<n): idx (List.replicate n ()) k=some ():=by
 unfold idx
 rw[if_neg (by omega),List.getElem?_replicate,if_pos (by omega)]
theorem Li (r:ai): fw r=some (!(decide (r=⟨0,0,-1⟩))):=rfl
def A6 (a:Int)(r:ai): Prop:=r=⟨0,0,-1⟩\/(r.Write=0\/r.Write=1)/\(r.Move=1\/r.Move=-1)/\0<=r.Next/\r.Next<a
theorem xe {a v:Int}{r:ai}(hr:A6 a r)(j:v=0\/v=1)(q:0<=a)(s:ab)(hs:a.toNat<s.S.length): s.gr (cJ r a 2 v s) 30:=by
 unfold cJ
 have d:∀x:Int,x=0\/x=1->((([.loop 2 1 2]:List Pc)++ju 1 x).map Pc.n).sum<=5:=λx o=>by rcases o with rfl|rfl<;>decide
 split
 ·exact(ab.tL _ _ s hs).trans ⟨λh=>h,Nat.le_refl _,Nat.le_refl _⟩ (m:=0) (by have:=d v j;omega)
 ·rename_i g
  obtain⟨hw,hm,t,u⟩:=hr.resolve_left g
  have e:r.Next.toNat<s.S.length:=by omega
  split
  ·refine(ab.tL _ _ s e).trans ⟨λh=>h,Nat.le_refl _,Nat.le_refl _⟩ (m:=0) ?_
   rcases hw with hw|hw<;>rw[hw]<;>decide
  ·have e1:=(ab.AF s).trans (ab.tL s.S.length ([.loop 2 1 2]++ju 1 r.Write) s.new (by simp[ab.new])) (Nat.le_refl _)
   have e2:=e1.trans (ab.uG _ s.S.length) (Nat.le_refl _)
   refine e2.trans (ab.G0 _ 0 2 _ 11 λc i b p=>?_) (k:=30) (by have:=d r.Write hw;simp only[List.length_cons,List.length_nil];omega)
   have f:r.Next.toNat<b.S.length:=Nat.lt_of_lt_of_le e (Nat.le_trans e2.S p)
   simp only[List.mem_cons,List.not_mem_nil,or_false]at i
   rcases i with rfl|rfl
   ·exact wZ (.inl l) b f
   ·exact wZ (.inr l) b f
theorem Ir {a:Nat}{g0 g:AG}{s:ab}(hw:AW g s)(hp:g0.B <+: g.B){r:ai}{c v:Int}(hr:A6 c r)(hv:v=0\/v=1)(an:0<=c){J p1 p2 p3 p4 p5 rb n cap:Nat}(hn:(n:Int)=c+1)(au:n<=g0.B.length){D:List Nat}{I:World->Prop}(U:Dv a g0 r c v J p1 p2 p3 p4 p5 rb n cap I)(hL:s.L.length<=760): sN 170 [Pt J,Pt p1,Pt p2,Pt p3,Pt p4,Pt p5] a g s (cJ r c 2 v s) [.inv D I] [.inv D I]:=by
 intro w N hB ao
 refine eV (vs:=[Pt J,Pt p1,Pt p2,Pt p3,Pt p4,Pt p5]) (R:=Unit) (r:=()) (E:=some ()) (v:=λ_ (_:AX g (cJ r c 2 v s))=>.tuple #[]) (fs:=λ_ y=>AΓ a y.g' (cJ r c 2 v s)++[.inv D I]) Tryz.func170 l Tryz.ntmps170 l (SH.begin hB ao) l ?_ l
 refine aN<|sr<|ql (CW (i:=5) (cs:=[Y r.Write,Y r.Move,Y r.Next]) bJ l l U.r)<|KQ l Tryz.call86 (λw t=>ke (ai.aG Ri Ri Ri) _ (Li r)) λ_=>bG l<|o l<|nt ?_
 have target:∀k:Int,0<=k->k<=c->∃b,g.B[k.toNat]?=some b/\idx (List.replicate n ()) k=some ()/\∀w,I w->w.cell? ⟨rb,0+k.toNat*1,none⟩=some (Pt b):=λk h0 h1=>by
   have ap:k.toNat<n:=by omega
   have hb:g0.B[k.toNat]?=some g0.B[k.toNat]:=List.getElem?_eq_getElem (by omega)
   refine⟨_,iz hp hb,Fu h0 (by omega),λw hw=>?_⟩
   rw[Nat.zero_add,Nat.mul_one]
   exact U.row _ _ hb ap w hw
 by_cases W:r=⟨0,0,-1⟩
 ·have ak:(!(!(decide (r=⟨0,0,-1⟩))))=true:=by simp[W]
  obtain⟨bt,V,ac,ad⟩:=target c an (Int.le_refl _)
  have em:cJ r c 2 v s=s.chain c.toNat ([.loop 2 1 2]++ju 1 v):=by unfold cJ;rw[if_pos W]
  refine aL l ak<|jk (rs [0,4])<|aJ 0 [5,6,7] (rs [0,4]) l (cm (i:=0) nM l l U.a)<|aJ 1 [5,6,7] (rs [0,4]) l (cm (i:=0) EE l l U.sec)<|aJ 2 [5,6,7] (rs [0,4]) l (e lB l)<|aJ 3 [5,6,7] (rs [0,4]) l (jC (i:=0) d l l U.m)<|aJ 4 [5,6,7] (rs [0,4]) l (mi (xs:=List.replicate n ()) Tryz.underlying180 iF l l ac (by simp))<|aJ 5 [5,6,7] (rs [0,4]) l (jC (i:=0) iF l l ad)<|aJ 6 [5,6,7] (rs [0,4]) l (cm (i:=0) d l l U.s)<|aJ 9 [5,6,7] (rs [0,4]) l (cm (i:=0) d l l U.v)<|bP [5,6,7] (rs [0,4]) l l l λw1 h1 hp=>D1 7<|gQ l (X l) l Tryz.call172 l (l6 (λ_=>l) λw t=>rS w 2 1 2) (λ_ h=>nomatch h) λ⟨f,p,q⟩=>dP (i:=8) (j:=10) (by kernel_rfl) ?_ ?_
  ·refine df l (cq (vs:=[sE f p q]) (([.loop 2 1 2 f p q]:List PV).map PV.raw) Tryz.underlying265 jd nf l (λw t=>⟨Raw.rd l,trivial⟩)) nh λbs=>D1 10<|gQ l (X l) l Tryz.call173 l (l6 (λ_=>l) λw t=>wM w 1 v hv) (λ_ h=>nomatch h) λ⟨bi,vi⟩=>D1 11<|ic (Γ':=.ow 267 (Sl bs 1 1) (([.loop 2 1 2 f p q]:List PV).map PV.raw)::.ow 267 vi (List.replicate v.toNat (Raw.mk (wC bi)))::(([.bx f 2 [Y (2)],.bx p 2 [Y (2)],.bx q 2 [Y (1)],.bx bi 2 [Y 1]]:Ctx)++(AΓ a g s++([.inv D I,outs w N,rest w N]:Ctx)))) (λw t=>t.cj (rs [2,2,1,1,3,5,0,0,6,13]) l) (lS (rs [2,2,1,1,3,5,0,0,6,13]) l)<|wF 0 (rs [0,4]) [5,6,7] [11,12,13] l l l l l l (X l) l (ec 0 Tryz.underlying265 jd nf vy l (λw t=>t.bg 1 l) (rY (r:=1) (Nat.le_of_ble_eq_true l) hv bi)) (λ_ h=>h) λvr=>D1 12<|ic (Γ':=.inv (Ctx.ae [.bx f 2 [Y (2)],.bx p 2 [Y (2)],.bx q 2 [Y (1)],.bx bi 2 [Y 1]]) (GC (([.loop 2 1 2 f p q]:List PV)++List.replicate v.toNat (PV.inc 1 bi)))::(AΓ a g s++([.ow 267 vr ((([.loop 2 1 2 f p q]:List PV)++List.replicate v.toNat (PV.inc 1 bi)).map PV.raw),.inv D I,outs w N,rest w N]:Ctx))) (λw t=>SH.qz (λ_ h=>Pz h) (SH.pack (Δ:=[.bx f 2 [Y (2)],.bx p 2 [Y (2)],.bx q 2 [Y (1)],.bx bi 2 [Y 1]]) l (t.cj (rs [2,10,0,0,11,13]) l))) (lS (rs [2,10,0,0,11,13]) l)<|qi (rs [1,6,0,0]) [7,8,9] (rs [0,4]) [5,6,7] [7,8,9] l l l l l (X l) l Tryz.call171 l l l (λ_=>l) (λw t=>uN hw V (([.loop 2 1 2 f p q]:List PV)++List.replicate v.toNat (PV.inc 1 bi)) (by simp) (uJ (by simp[PV.fit]) uK) (by rcases hv with hq|hq<;>simp[hq]) (by show s.L.length<=900;omega) (λ_ h=>h) w _ l (t.handed (rs [1,6,0,0]) l l l l)) λ⟨Z,O,P⟩=>De ?_
   have e1:s.chain c.toNat ((([.loop 2 1 2 f p q]:List PV)++List.replicate v.toNat (PV.inc 1 bi)).map PV.pc)=cJ r c 2 v s:=by rw[em];simp[ju,PV.pc]
   rw[e1]at P
   exact eI (Γ':=AΓ a Z (cJ r c 2 v s)++[.inv D I,outs w N,rest w N]) (λw t=>by rw[<- e1];exact t)<|aw<|jc (.inr l) l (λw t=>⟨⟨Z,O,P⟩,l,t⟩)
  ·refine gQ l (X l) l Tryz.call173 l (l6 (λ_=>l) λw t=>wM w 1 v hv) (λ_ h=>nomatch h) λ⟨bi,vi⟩=>D1 8<|df l (cq (vs:=[sE f p q]) (([.loop 2 1 2 f p q]:List PV).map PV.raw) Tryz.underlying265 jd nf l (λw t=>⟨Raw.rd l,trivial⟩)) nh λbs=>D1 11<|ic (Γ':=.ow 267 (Sl bs 1 1) (([.loop 2 1 2 f p q]:List PV).map PV.raw)::.ow 267 vi (List.replicate v.toNat (Raw.mk (wC bi)))::(([.bx f 2 [Y (2)],.bx p 2 [Y (2)],.bx q 2 [Y (1)],.bx bi 2 [Y 1]]:Ctx)++(AΓ a g s++([.inv D I,outs w N,rest w N]:Ctx)))) (λw t=>t.cj (rs [0,0,2,5,1,1,6,13]) l) (lS (rs [0,0,2,5,1,1,6,13]) l)<|wF 0 (rs [0,4]) [5,6,7] [11,12,13] l l l l l l (X l) l (ec 0 Tryz.underlying265 jd nf vy l (λw t=>t.bg 1 l) (rY (r:=1) (Nat.le_of_ble_eq_true l) hv bi)) (λ_ h=>h) λvr=>D1 12<|ic (Γ':=.inv (Ctx.ae [.bx f 2 [Y (2)],.bx p 2 [Y (2)],.bx q 2 [Y (1)],.bx bi 2 [Y 1]]) (GC (([.loop 2 1 2 f p q]:List PV)++List.replicate v.toNat (PV.inc 1 bi)))::(AΓ a g s++([.ow 267 vr ((([.loop 2 1 2 f p q]:List PV)++List.replicate v.toNat (PV.inc 1 bi)).map PV.raw),.inv D I,outs w N,rest w N]:Ctx))) (λw t=>SH.qz (λ_ h=>Pz h) (SH.pack (Δ:=[.bx f 2 [Y (2)],.bx p 2 [Y (2)],.bx q 2 [Y (1)],.bx bi 2 [Y 1]]) l (t.cj (rs [2,10,0,0,11,13]) l))) (lS (rs [2,10,0,0,11,13]) l)<|qi (rs [1,6,0,0]) [7,8,9] (rs [0,4]) [5,6,7] [7,8,9] l l l l l (X l) l Tryz.call171 l l l (λ_=>l) (λw t=>uN hw V (([.loop 2 1 2 f p q]:List PV)++List.replicate v.toNat (PV.inc 1 bi)) (by simp) (uJ (by simp[PV.fit]) uK) (by rcases hv with hq|hq<;>simp[hq]) (by show s.L.length<=900;omega) (λ_ h=>h) w _ l (t.handed (rs [1,6,0,0]) l l l l)) λ⟨Z,O,P⟩=>De ?_
   have e1:s.chain c.toNat ((([.loop 2 1 2 f p q]:List PV)++List.replicate v.toNat (PV.inc 1 bi)).map PV.pc)=cJ r c 2 v s:=by rw[em];simp[ju,PV.pc]
   rw[e1]at P
   exact eI (Γ':=AΓ a Z (cJ r c 2 v s)++[.inv D I,outs w N,rest w N]) (λw t=>by rw[<- e1];exact t)<|aw<|jc (.inr l) l (λw t=>⟨⟨Z,O,P⟩,l,t⟩)
 ·have ak:(!(!(decide (r=⟨0,0,-1⟩))))=false:=by simp[W]
  obtain⟨Q,av,aq,ax⟩:=hr.resolve_left W
  obtain⟨bt,V,ac,ad⟩:=target r.Next aq (by omega)
  refine aU l ak<|sr<|F gm l<|ql (jC (i:=5) d l l U.c1)<|eE l<|o l<|nt ?_
  by_cases aj:r.Move=1
  ·have em:cJ r c 2 v s=s.chain r.Next.toNat ([.loop 2 1 1,.loop 0 2 2,.loop 2 0 1]++ju 0 r.Write):=by unfold cJ;rw[if_neg W,if_pos aj]
   refine aL l (by simp[aj])<|jk (rs [0,4])<|aJ 0 [5,6,7] (rs [0,4]) l (cm (i:=0) nM l l U.a)<|aJ 1 [5,6,7] (rs [0,4]) l (cm (i:=0) EE l l U.sec)<|aJ 2 [5,6,7] (rs [0,4]) l (e fH l)<|aJ 3 [5,6,7] (rs [0,4]) l (jC (i:=0) d l l U.c2)<|aJ 4 [5,6,7] (rs [0,4]) l (mi (xs:=List.replicate n ()) Tryz.underlying180 iF l l ac (by simp))<|aJ 5 [5,6,7] (rs [0,4]) l (jC (i:=0) iF l l ad)<|aJ 7 [5,6,7] (rs [0,4]) l (cm (i:=0) d l l U.s)<|aJ 11 [5,6,7] (rs [0,4]) l (e eo l)<|aJ 12 [5,6,7] (rs [0,4]) l (jC (i:=0) d l l U.c0)<|bP [5,6,7] (rs [0,4]) l l l λw1 h1 hp=>D1 6<|gQ l (X l) l Tryz.call172 l (l6 (λ_=>l) λw t=>rS w 2 1 1) (λ_ h=>nomatch h) λ⟨f,p,q⟩=>D1 8<|gQ l (X l) l Tryz.call172 l (l6 (λ_=>l) λw t=>rS w 0 2 2) (λ_ h=>nomatch h) λ⟨x,z,C⟩=>D1 9<|gQ l (X l) l Tryz.call172 l (l6 (λ_=>l) λw t=>rS w 2 0 1) (λ_ h=>nomatch h) λ⟨G,K,M⟩=>dP (i:=10) (j:=13) (by kernel_rfl) ?_ ?_
   ·refine df l (cq (vs:=[sE f p q,sE x z C,sE G K M]) (([.loop 2 1 1 f p q,.loop 0 2 2 x z C,.loop 2 0 1 G K M]:List PV).map PV.raw) Tryz.underlying265 jd nf l (λw t=>⟨Raw.rd l,Raw.rd l,Raw.rd l,trivial⟩)) nh λbs=>D1 13<|gQ l (X l) l Tryz.call173 l (l6 (λ_=>l) λw t=>wM w 0 r.Write Q) (λ_ h=>nomatch h) λ⟨bi,vi⟩=>D1 14<|ic (Γ':=.ow 267 (Sl bs 3 3) (([.loop 2 1 1 f p q,.loop 0 2 2 x z C,.loop 2 0 1 G K M]:List PV).map PV.raw)::.ow 267 vi (List.replicate r.Write.toNat (Raw.mk (wC bi)))::(([.bx f 2 [Y (2)],.bx p 2 [Y (1)],.bx q 2 [Y (1)],.bx x 2 [Y (0)],.bx z 2 [Y (2)],.bx C 2 [Y (2)],.bx G 2 [Y (2)],.bx K 2 [Y (1)],.bx M 2 [Y (0)],.bx bi 2 [Y 0]]:Ctx)++(AΓ a g s++([.inv D I,outs w N,rest w N]:Ctx)))) (λw t=>t.cj (rs [2,2,1,1,9,11,6,8,3,5,0,0,12,19]) l) (lS (rs [2,2,1,1,9,11,6,8,3,5,0,0,12,19]) l)<|wF 0 (rs [0,4]) [5,6,7] [17,18,19] l l l l l l (X l) l (ec 0 Tryz.underlying265 jd nf vy l (λw t=>t.bg 1 l) (rY (r:=0) (Nat.le_of_ble_eq_true l) Q bi)) (λ_ h=>h) λvr=>D1 15<|ic (Γ':=.inv (Ctx.ae [.bx f 2 [Y (2)],.bx p 2 [Y (1)],.bx q 2 [Y (1)],.bx x 2 [Y (0)],.bx z 2 [Y (2)],.bx C 2 [Y (2)],.bx G 2 [Y (2)],.bx K 2 [Y (1)],.bx M 2 [Y (0)],.bx bi 2 [Y 0]]) (GC (([.loop 2 1 1 f p q,.loop 0 2 2 x z C,.loop 2 0 1 G K M]:List PV)++List.replicate r.Write.toNat (PV.inc 0 bi)))::(AΓ a g s++([.ow 267 vr ((([.loop 2 1 1 f p q,.loop 0 2 2 x z C,.loop 2 0 1 G K M]:List PV)++List.replicate r.Write.toNat (PV.inc 0 bi)).map PV.raw),.inv D I,outs w N,rest w N]:Ctx))) (λw t=>SH.qz (λ_ h=>Pa h) (SH.pack (Δ:=[.bx f 2 [Y (2)],.bx p 2 [Y (1)],.bx q 2 [Y (1)],.bx x 2 [Y (0)],.bx z 2 [Y (2)],.bx C 2 [Y (2)],.bx G 2 [Y (2)],.bx K 2 [Y (1)],.bx M 2 [Y (0)],.bx bi 2 [Y 0]]) l (t.cj (rs [2,16,0,0,17,19]) l))) (lS (rs [2,16,0,0,17,19]) l)<|qi (rs [1,6,0,0]) [7,8,9] (rs [0,4]) [5,6,7] [7,8,9] l l l l l (X l) l Tryz.call171 l l l (λ_=>l) (λw t=>uN hw V (([.loop 2 1 1 f p q,.loop 0 2 2 x z C,.loop 2 0 1 G K M]:List PV)++List.replicate r.Write.toNat (PV.inc 0 bi)) (by simp) (uJ (by simp[PV.fit]) uK) (by rcases Q with hq|hq<;>simp[hq]) (by show s.L.length<=900;omega) (λ_ h=>h) w _ l (t.handed (rs [1,6,0,0]) l l l l)) λ⟨Z,O,P⟩=>De ?_
    have e1:s.chain r.Next.toNat ((([.loop 2 1 1 f p q,.loop 0 2 2 x z C,.loop 2 0 1 G K M]:List PV)++List.replicate r.Write.toNat (PV.inc 0 bi)).map PV.pc)=cJ r c 2 v s:=by rw[em];simp[ju,PV.pc]
    rw[e1]at P
    exact eI (Γ':=AΓ a Z (cJ r c 2 v s)++[.inv D I,outs w N,rest w N]) (λw t=>by rw[<- e1];exact t)<|aw<|jc (.inr l) l (λw t=>⟨⟨Z,O,P⟩,l,t⟩)
   ·refine gQ l (X l) l Tryz.call173 l (l6 (λ_=>l) λw t=>wM w 0 r.Write Q) (λ_ h=>nomatch h) λ⟨bi,vi⟩=>D1 10<|df l (cq (vs:=[sE f p q,sE x z C,sE G K M]) (([.loop 2 1 1 f p q,.loop 0 2 2 x z C,.loop 2 0 1 G K M]:List PV).map PV.raw) Tryz.underlying265 jd nf l (λw t=>⟨Raw.rd l,Raw.rd l,Raw.rd l,trivial⟩)) nh λbs=>D1 14<|ic (Γ':=.ow 267 (Sl bs 3 3) (([.loop 2 1 1 f p q,.loop 0 2 2 x z C,.loop 2 0 1 G K M]:List PV).map PV.raw)::.ow 267 vi (List.replicate r.Write.toNat (Raw.mk (wC bi)))::(([.bx f 2 [Y (2)],.bx p 2 [Y (1)],.bx q 2 [Y (1)],.bx x 2 [Y (0)],.bx z 2 [Y (2)],.bx C 2 [Y (2)],.bx G 2 [Y (2)],.bx K 2 [Y (1)],.bx M 2 [Y (0)],.bx bi 2 [Y 0]]:Ctx)++(AΓ a g s++([.inv D I,outs w N,rest w N]:Ctx)))) (λw t=>t.cj (rs [0,0,2,2,9,11,6,8,3,5,1,1,12,19]) l) (lS (rs [0,0,2,2,9,11,6,8,3,5,1,1,12,19]) l)<|wF 0 (rs [0,4]) [5,6,7] [17,18,19] l l l l l l (X l) l (ec 0 Tryz.underlying265 jd nf vy l (λw t=>t.bg 1 l) (rY (r:=0) (Nat.le_of_ble_eq_true l) Q bi)) (λ_ h=>h) λvr=>D1 15<|ic (Γ':=.inv (Ctx.ae [.bx f 2 [Y (2)],.bx p 2 [Y (1)],.bx q 2 [Y (1)],.bx x 2 [Y (0)],.bx z 2 [Y (2)],.bx C 2 [Y (2)],.bx G 2 [Y (2)],.bx K 2 [Y (1)],.bx M 2 [Y (0)],.bx bi 2 [Y 0]]) (GC (([.loop 2 1 1 f p q,.loop 0 2 2 x z C,.loop 2 0 1 G K M]:List PV)++List.replicate r.Write.toNat (PV.inc 0 bi)))::(AΓ a g s++([.ow 267 vr ((([.loop 2 1 1 f p q,.loop 0 2 2 x z C,.loop 2 0 1 G K M]:List PV)++List.replicate r.Write.toNat (PV.inc 0 bi)).map PV.raw),.inv D I,outs w N,rest w N]:Ctx))) (λw t=>SH.qz (λ_ h=>Pa h) (SH.pack (Δ:=[.bx f 2 [Y (2)],.bx p 2 [Y (1)],.bx q 2 [Y (1)],.bx x 2 [Y (0)],.bx z 2 [Y (2)],.bx C 2 [Y (2)],.bx G 2 [Y (2)],.bx K 2 [Y (1)],.bx M 2 [Y (0)],.bx bi 2 [Y 0]]) l (t.cj (rs [2,16,0,0,17,19]) l))) (lS (rs [2,16,0,0,17,19]) l)<|qi (rs [1,6,0,0]) [7,8,9] (rs [0,4]) [5,6,7] [7,8,9] l l l l l (X l) l Tryz.call171 l l l (λ_=>l) (λw t=>uN hw V (([.loop 2 1 1 f p q,.loop 0 2 2 x z C,.loop 2 0 1 G K M]:List PV)++List.replicate r.Write.toNat (PV.inc 0 bi)) (by simp) (uJ (by simp[PV.fit]) uK) (by rcases Q with hq|hq<;>simp[hq]) (by show s.L.length<=900;omega) (λ_ h=>h) w _ l (t.handed (rs [1,6,0,0]) l l l l)) λ⟨Z,O,P⟩=>De ?_
    have e1:s.chain r.Next.toNat ((([.loop 2 1 1 f p q,.loop 0 2 2 x z C,.loop 2 0 1 G K M]:List PV)++List.replicate r.Write.toNat (PV.inc 0 bi)).map PV.pc)=cJ r c 2 v s:=by rw[em];simp[ju,PV.pc]
    rw[e1]at P
    exact eI (Γ':=AΓ a Z (cJ r c 2 v s)++[.inv D I,outs w N,rest w N]) (λw t=>by rw[<- e1];exact t)<|aw<|jc (.inr l) l (λw t=>⟨⟨Z,O,P⟩,l,t⟩)
  ·have em:cJ r c 2 v s=((s.new.chain s.S.length ([.loop 2 1 2]++ju 1 r.Write)).here s.S.length).mI 2 r.Next.toNat:=by unfold cJ;rw[if_neg W,if_neg aj]
   refine aU l (by simp[aj])<|sr<|ql (aC AA l .nil (λw t=>trivial))<|cu l (λw t=>(ck ⟨aa,trivial⟩)) λb=>bH (λw t=>SH.xK hw t) ?_
   have am:=hw.add b
   have hb:=AG.add_get hw b
   refine o l<|cA<|jk (rs [0,4])<|aJ 0 [5,6,7] (rs [0,4]) l (cm (i:=0) nM l l U.a)<|aJ 1 [5,6,7] (rs [0,4]) l (H l)<|aJ 2 [5,6,7] (rs [0,4]) l (cm (i:=0) d l l U.s)<|aJ 5 [5,6,7] (rs [0,4]) l (e eo l)<|aJ 6 [5,6,7] (rs [0,4]) l (jC (i:=0) d l l U.c0)<|bP [5,6,7] (rs [0,4]) l l l λw1 h1 hp=>D1 3<|gQ l (X l) l Tryz.call172 l (l6 (λ_=>l) λw t=>rS w 2 1 2) (λ_ h=>nomatch h) λ⟨f,p,q⟩=>dP (i:=4) (j:=7) (by kernel_rfl) ?_ ?_
   ·refine df l (cq (vs:=[sE f p q]) (([.loop 2 1 2 f p q]:List PV).map PV.raw) Tryz.underlying265 jd nf l (λw t=>⟨Raw.rd l,trivial⟩)) nh λbs=>D1 7<|gQ l (X l) l Tryz.call173 l (l6 (λ_=>l) λw t=>wM w 1 r.Write Q) (λ_ h=>nomatch h) λ⟨bi,vi⟩=>D1 8<|ic (Γ':=.ow 267 (Sl bs 1 1) (([.loop 2 1 2 f p q]:List PV).map PV.raw)::.ow 267 vi (List.replicate r.Write.toNat (Raw.mk (wC bi)))::(([.bx f 2 [Y (2)],.bx p 2 [Y (2)],.bx q 2 [Y (1)],.bx bi 2 [Y 1]]:Ctx)++(AΓ a (g.add b) s.new++([.inv D I,outs w N,rest w N]:Ctx)))) (λw t=>t.cj (rs [2,2,1,1,3,5,0,0,6,13]) l) (lS (rs [2,2,1,1,3,5,0,0,6,13]) l)<|wF 0 (rs [0,4]) [5,6,7] [11,12,13] l l l l l l (X l) l (ec 0 Tryz.underlying265 jd nf vy l (λw t=>t.bg 1 l) (rY (r:=1) (Nat.le_of_ble_eq_true l) Q bi)) (λ_ h=>h) λvr=>D1 9<|ic (Γ':=.inv (Ctx.ae [.bx f 2 [Y (2)],.bx p 2 [Y (2)],.bx q 2 [Y (1)],.bx bi 2 [Y 1]]) (GC (([.loop 2 1 2 f p q]:List PV)++List.replicate r.Write.toNat (PV.inc 1 bi)))::(AΓ a (g.add b) s.new++([.ow 267 vr ((([.loop 2 1 2 f p q]:List PV)++List.replicate r.Write.toNat (PV.inc 1 bi)).map PV.raw),.inv D I,outs w N,rest w N]:Ctx))) (λw t=>SH.qz (λ_ h=>Pz h) (SH.pack (Δ:=[.bx f 2 [Y (2)],.bx p 2 [Y (2)],.bx q 2 [Y (1)],.bx bi 2 [Y 1]]) l (t.cj (rs [2,10,0,0,11,13]) l))) (lS (rs [2,10,0,0,11,13]) l)<|qi (rs [1,6,0,0]) [7,8,9] (rs [0,4]) [5,6,7] [7,8,9] l l l l l (X l) l Tryz.call171 l l l (λ_=>l) (λw t=>uN am hb (([.loop 2 1 2 f p q]:List PV)++List.replicate r.Write.toNat (PV.inc 1 bi)) (by simp) (uJ (by simp[PV.fit]) uK) (by rcases Q with hq|hq<;>simp[hq]) (by show s.L.length<=900;omega) (λ_ h=>h) w _ l (t.handed (rs [1,6,0,0]) l l l l)) λ⟨Z,O,P⟩=>De<|T<|sr<|ql (cm (i:=5) nM l l U.a)<|u l<|cT l Tryz.call168 (rs [0,4]) [5,6,7] l (λw t=>uw P (iz O hb) w _ l (t.handed (rs [0,4]) l l l l)) λ⟨g3,af,ag⟩=>nt ?_
    have e1:(s.new.chain s.S.length ((([.loop 2 1 2 f p q]:List PV)++List.replicate r.Write.toNat (PV.inc 1 bi)).map PV.pc)).here s.S.length=(s.new.chain s.S.length ([.loop 2 1 2]++ju 1 r.Write)).here s.S.length:=by simp[ju,PV.pc]
    rw[e1]at ag
    have ar:((s.new.chain s.S.length ([.loop 2 1 2]++ju 1 r.Write)).here s.S.length).L.length<=s.L.length+5:=by
      have h1:=(ab.tL s.S.length ([.loop 2 1 2]++ju 1 r.Write) s.new (by simp[ab.new])).L
      have h2:((([.loop 2 1 2]:List Pc)++ju 1 r.Write).map Pc.n).sum<=5:=by rcases Q with hq|hq<;>rw[hq]<;>decide
      exact Nat.le_trans h1 (Nat.add_le_add_left h2 _)
    refine lE (Γ':=AΓ a g3 ((s.new.chain s.S.length ([.loop 2 1 2]++ju 1 r.Write)).here s.S.length)++[.inv D I,outs w N,rest w N]) (λw t=>by rw[<- e1];exact t)<|jk (rs [0,4])<|aJ 0 [5,6,7] (rs [0,4]) l (cm (i:=0) d l l U.s)<|aJ 1 [5,6,7] (rs [0,4]) l (cm (i:=0) nM l l U.a)<|aJ 2 [5,6,7] (rs [0,4]) l (cm (i:=0) EE l l U.sec)<|aJ 3 [5,6,7] (rs [0,4]) l (e fH l)<|aJ 4 [5,6,7] (rs [0,4]) l (jC (i:=0) d l l U.c2)<|aJ 5 [5,6,7] (rs [0,4]) l (mi (xs:=List.replicate n ()) Tryz.underlying180 iF l l ac (by simp))<|aJ 6 [5,6,7] (rs [0,4]) l (jC (i:=0) iF l l ad)<|bP [5,6,7] (rs [0,4]) l l l λw1 h1 hp=>D1 7<|gQ l (X l) l Tryz.call174 l (mW (rs [0,4]) [5,6,7] l l (λ_=>l) λw t=>BW ag (iz (((AG.qo g b).trans O).trans af) V) (by omega) w _ l (t.handed (rs [0,4]) l l l l)) (λ_ h=>h) λ⟨g4,al,ah⟩=>De ?_
    rw[<- em]at ah
    exact eI (Γ':=AΓ a g4 (cJ r c 2 v s)++[.inv D I,outs w N,rest w N]) (λw t=>by rw[em];exact t)<|aw<|jc (.inr l) l (λw t=>⟨⟨g4,(((AG.qo g b).trans O).trans af).trans al,ah⟩,l,t⟩)
   ·refine gQ l (X l) l Tryz.call173 l (l6 (λ_=>l) λw t=>wM w 1 r.Write Q) (λ_ h=>nomatch h) λ⟨bi,vi⟩=>D1 4<|df l (cq (vs:=[sE f p q]) (([.loop 2 1 2 f p q]:List PV).map PV.raw) Tryz.underlying265 jd nf l (λw t=>⟨Raw.rd l,trivial⟩)) nh λbs=>D1 8<|ic (Γ':=.ow 267 (Sl bs 1 1) (([.loop 2 1 2 f p q]:List PV).map PV.raw)::.ow 267 vi (List.replicate r.Write.toNat (Raw.mk (wC bi)))::(([.bx f 2 [Y (2)],.bx p 2 [Y (2)],.bx q 2 [Y (1)],.bx bi 2 [Y 1]]:Ctx)++(AΓ a (g.add b) s.new++([.inv D I,outs w N,rest w N]:Ctx)))) (λw t=>t.cj (rs [0,0,2,5,1,1,6,13]) l) (lS (rs [0,0,2,5,1,1,6,13]) l)<|wF 0 (rs [0,4]) [5,6,7] [11,12,13] l l l l l l (X l) l (ec 0 Tryz.underlying265 jd nf vy l (λw t=>t.bg 1 l) (rY (r:=1) (Nat.le_of_ble_eq_true l) Q bi)) (λ_ h=>h) λvr=>D1 9<|ic (Γ':=.inv (Ctx.ae [.bx f 2 [Y (2)],.bx p 2 [Y (2)],.bx q 2 [Y (1)],.bx bi 2 [Y 1]]) (GC (([.loop 2 1 2 f p q]:List PV)++List.replicate r.Write.toNat (PV.inc 1 bi)))::(AΓ a (g.add b) s.new++([.ow 267 vr ((([.loop 2 1 2 f p q]:List PV)++List.replicate r.Write.toNat (PV.inc 1 bi)).map PV.raw),.inv D I,outs w N,rest w N]:Ctx))) (λw t=>SH.qz (λ_ h=>Pz h) (SH.pack (Δ:=[.bx f 2 [Y (2)],.bx p 2 [Y (2)],.bx q 2 [Y (1)],.bx bi 2 [Y 1]]) l (t.cj (rs [2,10,0,0,11,13]) l))) (lS (rs [2,10,0,0,11,13]) l)<|qi (rs [1,6,0,0]) [7,8,9] (rs [0,4]) [5,6,7] [7,8,9] l l l l l (X l) l Tryz.call171 l l l (λ_=>l) (λw t=>uN am hb (([.loop 2 1 2 f p q]:List PV)++List.replicate r.Write.toNat (PV.inc 1 bi)) (by simp) (uJ (by simp[PV.fit]) uK) (by rcases Q with hq|hq<;>simp[hq]) (by show s.L.length<=900;omega) (λ_ h=>h) w _ l (t.handed (rs [1,6,0,0]) l l l l)) λ⟨Z,O,P⟩=>De<|T<|sr<|ql (cm (i:=5) nM l l U.a)<|u l<|cT l Tryz.call168 (rs [0,4]) [5,6,7] l (λw t=>uw P (iz O hb) w _ l (t.handed (rs [0,4]) l l l l)) λ⟨g3,af,ag⟩=>nt ?_
    have e1:(s.new.chain s.S.length ((([.loop 2 1 2 f p q]:List PV)++List.replicate r.Write.toNat (PV.inc 1 bi)).map PV.pc)).here s.S.length=(s.new.chain s.S.length ([.loop 2 1 2]++ju 1 r.Write)).here s.S.length:=by simp[ju,PV.pc]
    rw[e1]at ag
    have ar:((s.new.chain s.S.length ([.loop 2 1 2]++ju 1 r.Write)).here s.S.length).L.length<=s.L.length+5:=by
      have h1:=(ab.tL s.S.length ([.loop 2 1 2]++ju 1 r.Write) s.new (by simp[ab.new])).L
      have h2:((([.loop 2 1 2]:List Pc)++ju 1 r.Write).map Pc.n).sum<=5:=by rcases Q with hq|hq<;>rw[hq]<;>decide
      exact Nat.le_trans h1 (Nat.add_le_add_left h2 _)
    refine lE (Γ':=AΓ a g3 ((s.new.chain s.S.length ([.loop 2 1 2]++ju 1 r.Write)).here s.S.length)++[.inv D I,outs w N,rest w N]) (λw t=>by rw[<- e1];exact t)<|jk (rs [0,4])<|aJ 0 [5,6,7] (rs [0,4]) l (cm (i:=0) d l l U.s)<|aJ 1 [5,6,7] (rs [0,4]) l (cm (i:=0) nM l l U.a)<|aJ 2 [5,6,7] (rs [0,4]) l (cm (i:=0) EE l l U.sec)<|aJ 3 [5,6,7] (rs [0,4]) l (e fH l)<|aJ 4 [5,6,7] (rs [0,4]) l (jC (i:=0) d l l U.c2)<|aJ 5 [5,6,7] (rs [0,4]) l (mi (xs:=List.replicate n ()) Tryz.underlying180 iF l l ac (by simp))<|aJ 6 [5,6,7] (rs [0,4]) l (jC (i:=0) iF l l ad)<|bP [5,6,7] (rs [0,4]) l l l λw1 h1 hp=>D1 7<|gQ l (X l) l Tryz.call174 l (mW (rs [0,4]) [5,6,7] l l (λ_=>l) λw t=>BW ag (iz (((AG.qo g b).trans O).trans af) V) (by omega) w _ l (t.handed (rs [0,4]) l l l l)) (λ_ h=>h) λ⟨g4,al,ah⟩=>De ?_
    rw[<- em]at ah
    exact eI (Γ':=AΓ a g4 (cJ r c 2 v s)++[.inv D I,outs w N,rest w N]) (λw t=>by rw[em];exact t)<|aw<|jc (.inr l) l (λw t=>⟨⟨g4,(((AG.qo g b).trans O).trans af).trans al,ah⟩,l,t⟩)
def Fz (t:TypeId)(B:List Nat)(cs:List (List Value))(w:World): Prop:=
  B.length=cs.length/\∀(k b:Nat) (c:List Value),B[k]?=some b->cs[k]?=some c->w.heap[b]?=some (Obj.cells c.toArray t (0,0))
def vb (t:TypeId)(B:List Nat)(cs:List (List Value)): Fact:=.inv B (Fz t B cs)
theorem SH.LL {A:Nat->Prop}{w0 w:World}{Γ:Ctx}(h:SH A w0 w Γ)(t:TypeId): SH A w0 w (vb t [] []::Γ):=
  h.cons (Grow.refl w []) (by simp[vb,Fact.ae]) (by simp[vb,Fact.ae]) (λ_ _=>⟨rfl,λk b v a=>by simp at a⟩)
theorem SH.Lo {A:Nat->Prop}{w0 w:World}{Γ:Ctx}{t:TypeId}{b:Nat}{c:List Value}{B:List Nat}{cs:List (List Value)}(h:SH A w0 w (.bx b t c::vb t B cs::Γ)): SH A w0 w (vb t (B++[b]) (cs++[c])::Γ):=by
 have s:w.heap[b]?=some (Obj.cells c.toArray t (0,0)):=h.get 0 rfl
 have m:=h.perm (List.perm_middle (l₁:=[.bx b t c]) (a:=vb t B cs))
 have hq:=SH.pack (Δ:=[vb t B cs,.bx b t c]) (Γ:=Γ) rfl m
 have u:=m.nd
 have e:=SH.qz (I':=Fz t (B++[b]) (cs++[c])) (λi e=>by
   have g:Fz t B cs i:=e (vb t B cs) (by simp) i (λ_ _=>rfl)
   have o:i.heap[b]?=some (Obj.cells c.toArray t (0,0)):=e (.bx b t c) (by simp)
   refine⟨by simp[g.1],λk p q d f=>?_⟩
   by_cases n:k<B.length
   · rw[List.getElem?_append_left n]at d
     rw[List.getElem?_append_left (by rw[<- g.1];exact n)]at f
     exact g.2 k p q d f
   · have j:k<(B++[b]).length:=(List.getElem?_eq_some_iff.1 d).1
     have l:k=B.length:=by simp at j;omega
     subst l
     rw[List.getElem?_append_right (Nat.le_refl _),Nat.sub_self]at d
     rw[g.1,List.getElem?_append_right (Nat.le_refl _),Nat.sub_self]at f
     simp at d f
     subst d f
     exact o) hq
 have r:Ctx.ae [vb t B cs,.bx b t c]=B++[b]:=by simp[Ctx.ae,vb,Fact.ae]
 rw[r]at e
 exact e
theorem NX {w:World}{e:TypeId}{b len cap:Nat}{B:List Nat}{k f:Nat}(h:Fact.holds (λ_=>False) 0 w (.ow e (Sl b len cap) (B.map bD)))(n:B[k]?=some f): w.cell? ⟨b,k,none⟩=some (.pointer (some ⟨f,0,none⟩)):=by
 obtain⟨cells,⟨o,d⟩,hr⟩:=h
 rcases d with⟨h,_⟩|⟨v,l,cur,m,_,p,q,r,s,a⟩
 ·simp at h
 simp at m
 obtain⟨rfl,rfl,rfl⟩:=m
 obtain⟨c,t,g,i⟩:=dT.get (B.map bD) cells k (bD f) hr (by simp[n])
 obtain⟨j,_⟩:=g
 subst j
 have:=i 0 _ rfl
 rw[<- a,List.getElem?_take]at this
 split at this
 ·simp only[Nat.add_zero]at this
  have u:k*ar.sz Raw=k:=Nat.mul_one k
  rw[u]at this
  simpa[World.cell?,p,bD]using this
 ·simp at this
abbrev rA (J p1 p2 a b c:Nat): Value:=.func (.func 170) #[] #[Pt J,Pt p1,Pt p2,Pt a,Pt b,Pt c]
def rc (r:ai): List Value:=[Y r.Write,Y r.Move,Y r.Next]
theorem BZ {a:Nat}{g:AG}{s:ab}(hw:AW g s){e:List Nat}(U:e <+: g.B){c:Int}{rules:List ai}(X:0<=c)(hn:(e.length:Int)=c+1){q:Int}(hq:0<=q/\q<=1){r0 r1:ai}(h0:idx rules (q*2)=some r0)(h1:idx rules (q*2+1)=some r1)(aj:A6 c r0)(ak:A6 c r1)(hL:s.L.length<=400){D N:Value}(w:World)(K:List Nat)(hB:Ctx.ae (AΓ a g s++[.ow 258 N (e.map bD)])=K)(am:kb w (AΓ a g s++[.ow 258 N (e.map bD)]))(an:Rd (λk=>k∈K) w D rules): iY Tryz.prog 104 [.agg #[Y 2,Y c,D],Pt a,Y q,N] w K (λ_:AX g (s.ka c 2 r0 r1)=>.tuple #[]) (λx=>AΓ a x.g' (s.ka c 2 r0 r1)++[.ow 258 N (e.map bD)]):=by
 have aa:0<e.length:=by omega
 refine eV (vs:=[.agg #[Y 2,Y c,D],Pt a,Y q,N]) (R:=Unit) (r:=()) (E:=some ()) (v:=λ_ (_:AX g (s.ka c 2 r0 r1))=>.tuple #[]) (fs:=λ_ x=>AΓ a x.g' (s.ka c 2 r0 r1)++[.ow 258 N (e.map bD)]) Tryz.func104 rfl Tryz.ntmps104 rfl ((SH.begin hB am).gn (by
   rw[show Ctx.ae (AΓ a g s++[.ow 258 N (e.map bD)]++[outs w K,rest w K])=Ctx.ae (AΓ a g s++[.ow 258 N (e.map bD)])from by simp[Ctx.ae,Fact.ae]]
   exact hB) an) rfl ?_ rfl
 refine rK (xs:=e.map bD) (j:=0) (y:=bD e[0]) (v:=N) 6 l (by simp[idx,aa]) ?_
 rintro z cap rfl
 refine sr<|cu l (a8 cI cI (cR 0 l)) λb4=>cu l cP λb5=>cu l cS λn=>bA<|F cY l<|M 2 d l<|c6 bz l λt=>aR 0 d l cI l<|bA<|st (cq (vs:=[]) ([]:List Raw) Tryz.underlying255 wG Bc l (λw C=>trivial)) λbs=>o l<|bB<|M 1 d l<|u l<|nt ?_
 have ac:=vu (k:=2) (by omega) 2 0 (by omega) (by omega)
 refine Gw (E':=Z (run (qW 2) 0) (Out.elim (λi=>if i=2 then some ()else none) (λr=>some r))) (by rw[ac];simp[Z,Out.elim])<|Bg (p:=(0:Int)<=0/\(0:Int)<=2/\(([]:List (Nat×Nat)).length:Int)=0) ⟨by omega,by omega,rfl⟩<|lE (Γ':=vb 2 [] []::_) (λw C=>SH.LL C 2)<|lE (Γ':=vb 62 [] []::_) (λw C=>SH.LL C 62)<|lp (qW 2) 0 (Sl bs 0 0,[]) (λi x=>[(2,Y q),(4,Pt b4),(5,Pt b5),(7,Pt n),(8,Pt t),(9,x.1),(15,Y 2),(16,Y i)]) (λi x=>AΓ a g s++[.bx b4 26 [Y 2,Y c,D],.bx b5 179 [Pt a],.bx n 180 [Sl z (e.map bD).length cap],.bx t 2 [Y 2],.rd D rules,.ow 258 (Sl z (e.map bD).length cap) (e.map bD),vb 2 (x.2.map Prod.snd) (([[Y 0],[Y 1]]:List (List Value)).take i.toNat),vb 62 (x.2.map Prod.fst) (([rc r0,rc r1]:List (List Value)).take i.toNat),.ow 1 x.1 (x.2.map λp=>(⟨rA p.1 b5 n b4 t p.2⟩:Raw)),outs w K,rest w K,.pr (0<=i/\i<=2/\(x.2.length:Int)=i)]) [9,10,11,12,13,7,6,5,4,8,14,1,0,3,15,16,2] (λi x=>?_) (λi x=>?_)
 ·obtain⟨V,pl⟩:=x
  refine pW (p:=0<=i/\i<=2/\(pl.length:Int)=i) (λw C=>C.get 16 l) λhx=>?_
  obtain⟨ao,ap,ad⟩:=hx
  unfold qW
  refine sr<|cG l<|cA<|aH l (λh=>?_) (λh=>bu<|aA<|bk (V,pl) (rs [0,16]))
  simp only[decide_eq_true_eq]at h
  have aq:ah (i+1)=i+1:=na (by omega) (by omega)
  obtain⟨ri,ar,ev,er⟩:∃ri,idx rules (ah (ah (q*2)+i))=some ri/\(([[Y 0],[Y 1]]:List (List Value)).take i.toNat)++([[Y i]]:List (List Value))=(([[Y 0],[Y 1]]:List (List Value)).take (ah (i+1)).toNat)/\
      (([rc r0,rc r1]:List (List Value)).take i.toNat)++[rc ri]=(([rc r0,rc r1]:List (List Value)).take (ah (i+1)).toNat):=by
    have e1:ah (q*2)=q*2:=na (by omega) (by omega)
    have e2:ah (q*2+i)=q*2+i:=na (by omega) (by omega)
    rw[aq,e1,e2]
    have au:i=0\/i=1:=by omega
    rcases au with rfl|rfl
    · exact⟨r0,by rw[Int.add_zero];exact h0,rfl,rfl⟩
    · exact⟨r1,h1,rfl,rfl⟩
  refine sn<|al<|aN<|sr<|u l<|c6 bz l λf=>aR 0 d l cI l<|bA<|F ee l<|M 6 fC l<|u l<|M 9 d l<|nj l<|M 0 d l<|aM l<|st (cU 10 Tryz.underlying24 bJ l l l ar) λq6=>st (bM 0 (ai.opens _) bJ l l) λ_=>c6 fx l λm=>aR 0 bJ l (a8 cI cI cI) l<|nt<|W<|u l<|ql (dF l)<|st (cq (vs:=[rA m b5 n b4 t f]) ([⟨rA m b5 n b4 t f⟩]:List Raw) Tryz.underlying255 wG Bc l (λw C=>⟨Raw.rd l,trivial⟩)) λb=>?_
  refine st (ec 17 Tryz.underlying255 wG Bc Lv l (λw C=>C.bg 0 l) (de (by simp;omega))) λV2=>o l<|af<|aw<|T<|W<|aM l<|u l<|af ?_
  have e2:pl.map (λp=>(⟨rA p.1 b5 n b4 t p.2⟩:Raw))++[⟨rA m b5 n b4 t f⟩]=(pl++[(m,f)]).map (λp=>(⟨rA p.1 b5 n b4 t p.2⟩:Raw)):=by simp
  have e3:pl.map Prod.snd++[f]=(pl++[(m,f)]).map Prod.snd:=by simp
  have e4:pl.map Prod.fst++[m]=(pl++[(m,f)]).map Prod.fst:=by simp
  refine z6 (p:=0<=ah (i+1)/\ah (i+1)<=2/\((pl++[(m,f)]).length:Int)=ah (i+1)) ⟨by omega,by omega,by simp;omega⟩ ?_
  exact eI (Γ':=.bx m 62 (rc ri)::vb 62 (pl.map Prod.fst) (([rc r0,rc r1]:List (List Value)).take i.toNat)::vb 2 (pl.map Prod.snd++[f]) ((([[Y 0],[Y 1]]:List (List Value)).take i.toNat)++([[Y i]]:List (List Value)))::.pr (0<=ah (i+1)/\ah (i+1)<=2/\((pl++[(m,f)]).length:Int)=ah (i+1))::(AΓ a g s++[.bx b4 26 [Y 2,Y c,D],.bx b5 179 [Pt a],.bx n 180 [Sl z (e.map bD).length cap],.bx t 2 [Y 2],.rd D rules,.ow 258 (Sl z (e.map bD).length cap) (e.map bD),.ow 1 V2 (pl.map (λp=>(⟨rA p.1 b5 n b4 t p.2⟩:Raw))++([⟨rA m b5 n b4 t f⟩]:List Raw)),outs w K,rest w K])) (λw C=>(SH.Lo (C.cj (rs [4,4,16,16,2,2,17,17,0,0,5,15,18,20]) l)).cj (rs [1,2,0,0,3,17]) l)<|eI (Γ':=vb 62 ((pl++[(m,f)]).map Prod.fst) (([rc r0,rc r1]:List (List Value)).take (ah (i+1)).toNat)::vb 2 ((pl++[(m,f)]).map Prod.snd) (([[Y 0],[Y 1]]:List (List Value)).take (ah (i+1)).toNat)::.pr (0<=ah (i+1)/\ah (i+1)<=2/\((pl++[(m,f)]).length:Int)=ah (i+1))::(AΓ a g s++[.bx b4 26 [Y 2,Y c,D],.bx b5 179 [Pt a],.bx n 180 [Sl z (e.map bD).length cap],.bx t 2 [Y 2],.rd D rules,.ow 258 (Sl z (e.map bD).length cap) (e.map bD),.ow 1 V2 ((pl++[(m,f)]).map (λp=>(⟨rA p.1 b5 n b4 t p.2⟩:Raw))),outs w K,rest w K])) (λw C=>by rw[<- ev,<- er,<- e2,<- e3,<- e4];exact SH.Lo C)<|nx (V2,pl++[(m,f)]) (rs [3,13,1,1,0,0,14,16,2,2])
 ·obtain⟨V,pl⟩:=x
  refine ux (p:=0<=i/\i<=2/\(pl.length:Int)=i) (λw C=>C.get 16 l) λhx=>?_
  by_cases ag:i=2
  ·obtain⟨ao,ap,ad⟩:=hx
   subst ag
   rw[if_pos rfl]
   obtain⟨G,H,I,J,rfl⟩:∃G H I J,pl=[(G,H),(I,J)]:=by
     match pl,ad with
     |[b0,b1],_=>exact⟨b0.1,b0.2,b1.1,b1.2,rfl⟩
     |[],h=>simp at h
     |[_],h=>simp at h
     |_::_::_::_,h=>simp at h;omega
   refine T<|W<|M 6 nM l<|u l ?_
   have aD:s.S.length=g.B.length:=hw.b.symm
   have aE:e.length<=g.B.length:=U.length_le
   have hI:∀(r:ai) (v:Int) (O P:Nat),(∀w:World,Pk ([.bx b4 26 [Y 2,Y c,D],.bx b5 179 [Pt a],.bx n 180 [Sl z (e.map bD).length cap],.bx t 2 [Y 2],.ow 258 (Sl z (e.map bD).length cap) (e.map bD),vb 2 [H,J] [[Y 0],[Y 1]],vb 62 [G,I] [rc r0,rc r1]]:Ctx) w->w.heap[O]?=some (Obj.cells (rc r).toArray 62 (0,0))/\w.heap[P]?=some (Obj.cells [Y v].toArray 2 (0,0)))->
       Dv a { g with B:=e } r c v O b5 n b4 t P z (e.map bD).length cap (Pk ([.bx b4 26 [Y 2,Y c,D],.bx b5 179 [Pt a],.bx n 180 [Sl z (e.map bD).length cap],.bx t 2 [Y 2],.ow 258 (Sl z (e.map bD).length cap) (e.map bD),vb 2 [H,J] [[Y 0],[Y 1]],vb 62 [G,I] [rc r0,rc r1]]:Ctx)):=λr v O P Q=>
     ⟨λw h=>(Q w h).1,λw h=>h (.bx b5 179 [Pt a]) (by simp),λw h=>h (.bx n 180 [Sl z (e.map bD).length cap]) (by simp),λk b hk _ w h=>NX (h (.ow 258 (Sl z (e.map bD).length cap) (e.map bD)) (by simp)) hk,
       λw h=>by
         have h4:w.heap[b4]?=some (Obj.cells #[Y 2,Y c,D] 26 (0,0)):=h (.bx b4 26 [Y 2,Y c,D]) (by simp)
         simp[World.cell?,h4],λw h=>h (.bx t 2 [Y 2]) (by simp),λw h=>(Q w h).2⟩
   have ok:∀(r:ai) (v:Int) (O P:Nat),A6 c r->(v=0\/v=1)->(∀w:World,Pk ([.bx b4 26 [Y 2,Y c,D],.bx b5 179 [Pt a],.bx n 180 [Sl z (e.map bD).length cap],.bx t 2 [Y 2],.ow 258 (Sl z (e.map bD).length cap) (e.map bD),vb 2 [H,J] [[Y 0],[Y 1]],vb 62 [G,I] [rc r0,rc r1]]:Ctx) w->w.heap[O]?=some (Obj.cells (rc r).toArray 62 (0,0))/\w.heap[P]?=some (Obj.cells [Y v].toArray 2 (0,0)))->
       zE a g s.S.length (Ctx.ae ([.bx b4 26 [Y 2,Y c,D],.bx b5 179 [Pt a],.bx n 180 [Sl z (e.map bD).length cap],.bx t 2 [Y 2],.ow 258 (Sl z (e.map bD).length cap) (e.map bD),vb 2 [H,J] [[Y 0],[Y 1]],vb 62 [G,I] [rc r0,rc r1]]:Ctx)) (Pk ([.bx b4 26 [Y 2,Y c,D],.bx b5 179 [Pt a],.bx n 180 [Sl z (e.map bD).length cap],.bx t 2 [Y 2],.ow 258 (Sl z (e.map bD).length cap) (e.map bD),vb 2 [H,J] [[Y 0],[Y 1]],vb 62 [G,I] [rc r0,rc r1]]:Ctx)) (rA O b5 n b4 t P) (cJ r c 2 v) 30:=λr v O P hr hv Q=>
     ⟨170,[Pt O,Pt b5,Pt n,Pt b4,Pt t,Pt P],rfl,Tryz.call170,λs' av=>xe hr hv X s' (by omega),
       λg' s' hp ax av hl=>Ir ax (U.trans hp) hr hv X (by simpa using hn) (by simp) (hI r v O P Q) (by omega)⟩
   have ay:∀w:World,Pk ([.bx b4 26 [Y 2,Y c,D],.bx b5 179 [Pt a],.bx n 180 [Sl z (e.map bD).length cap],.bx t 2 [Y 2],.ow 258 (Sl z (e.map bD).length cap) (e.map bD),vb 2 [H,J] [[Y 0],[Y 1]],vb 62 [G,I] [rc r0,rc r1]]:Ctx) w->w.heap[G]?=some (Obj.cells (rc r0).toArray 62 (0,0))/\w.heap[H]?=some (Obj.cells [Y 0].toArray 2 (0,0)):=λw h=>
     ⟨(h (vb 62 [G,I] [rc r0,rc r1]) (by simp) w (λ_ _=>rfl):Fz 62 [G,I] [rc r0,rc r1] w).2 0 _ _ rfl rfl,(h (vb 2 [H,J] [[Y 0],[Y 1]]) (by simp) w (λ_ _=>rfl):Fz 2 [H,J] [[Y 0],[Y 1]] w).2 0 _ _ rfl rfl⟩
   have az:∀w:World,Pk ([.bx b4 26 [Y 2,Y c,D],.bx b5 179 [Pt a],.bx n 180 [Sl z (e.map bD).length cap],.bx t 2 [Y 2],.ow 258 (Sl z (e.map bD).length cap) (e.map bD),vb 2 [H,J] [[Y 0],[Y 1]],vb 62 [G,I] [rc r0,rc r1]]:Ctx) w->w.heap[I]?=some (Obj.cells (rc r1).toArray 62 (0,0))/\w.heap[J]?=some (Obj.cells [Y 1].toArray 2 (0,0)):=λw h=>
     ⟨(h (vb 62 [G,I] [rc r0,rc r1]) (by simp) w (λ_ _=>rfl):Fz 62 [G,I] [rc r0,rc r1] w).2 1 _ _ rfl rfl,(h (vb 2 [H,J] [[Y 0],[Y 1]]) (by simp) w (λ_ _=>rfl):Fz 2 [H,J] [[Y 0],[Y 1]] w).2 1 _ _ rfl rfl⟩
   exact bH (Γ':=pack ([.bx b4 26 [Y 2,Y c,D],.bx b5 179 [Pt a],.bx n 180 [Sl z (e.map bD).length cap],.bx t 2 [Y 2],.ow 258 (Sl z (e.map bD).length cap) (e.map bD),vb 2 [H,J] [[Y 0],[Y 1]],vb 62 [G,I] [rc r0,rc r1]]:Ctx)::(AΓ a g s++[.ow 1 V ([⟨rA G b5 n b4 t H⟩,⟨rA I b5 n b4 t J⟩]:List Raw),outs w K,rest w K])) (λw C=>(C.cj (rs [5,8,10,12,0,4,13,15]) l).pack l)<|cT l Tryz.call175 (rs [1,6,0,0]) [7,8] l (λw C=>Jc hw 1 2 (ok r0 0 G H aj (.inl l) ay) (ok r1 1 I J ak (.inr l) az) (by omega) w _ l (C.handed (rs [1,6,0,0]) l l l l)) λ⟨g2,aB,aC⟩=>af<|eI (Γ':=([.bx b4 26 [Y 2,Y c,D],.bx b5 179 [Pt a],.bx n 180 [Sl z (e.map bD).length cap],.bx t 2 [Y 2],.ow 258 (Sl z (e.map bD).length cap) (e.map bD),vb 2 [H,J] [[Y 0],[Y 1]],vb 62 [G,I] [rc r0,rc r1]]:Ctx)++(AΓ a g2 (s.ka c 2 r0 r1)++[outs w K,rest w K])) (λw C=>SH.unpack l (C.cj [5,0,1,2,3,4,6,7] l))<|jc (.inr l) l (λw C=>⟨⟨g2,aB,aC⟩,l,C.cj [7,8,9,10,11,4,12,13] l⟩)
  ·rw[if_neg ag]
   exact oT
theorem ye {P:Program}{n:Fr}{A:Nat->Prop}{w0:World}{ρ:Env}{Γ:Ctx}{d:Option Nat}{ty:TypeId}{pos:String}{after:Array Edge}{g:Option (Nat×Bool)}{x y:Operand}{t te u:TypeId}{v:Value}{b:Bool}(c:P.underlying t=some (.pointer te))(e:ev ρ x=some v)(f:∃a:Option Addr,v=.pointer a/\(!a.isNone)=b)(h:ev ρ y=some (.pointer none)): Ex P n A w0 ρ Γ ⟨d,.binOp .neq t x y u,ty,pos,after,g⟩ (.bool b):=by
 obtain⟨a,rfl,rfl⟩:=f
 intro b w hs i
 simp[execOp,hs.eval e,hs.eval h,eqGuard,binOp,D4 c]
def pT (S:List Int)(L:List bX)(k:Nat)(y:bX): Option Nat->List bX
  |none=>L
  |some t=>L.set k ⟨y.Kind,y.cd,S.getD t 0,y.uQ⟩
def pE (S:List Int)(L:List bX)(k:Nat)(y:bX): Option Nat->List bX
  |none=>L
  |some t=>L.set k ⟨y.Kind,y.cd,y.qa,S.getD t 0⟩
def yT (S:List Int)(y:bX): Option Nat->bX
  |none=>y
  |some t=>⟨y.Kind,y.cd,S.getD t 0,y.uQ⟩
theorem O3 {S:List Int}{L:List bX}{k:Nat}{y:bX}(h:L[k]?=some y)(th:Option Nat): (pT S L k y th)[k]?=some (yT S y th)/\(pT S L k y th).length=L.length:=by
 cases th with
 |none=>exact⟨h,rfl⟩
 |some t=>exact⟨List.getElem?_set_self (List.getElem?_eq_some_iff.1 h).1,by simp[pT]⟩
theorem ME {S:List Int}{L:List bX}{k:Nat}{y:bX}(h:L[k]?=some y)(th el:Option Nat): patch S L (k,th,el)=pE S (pT S L k y th) k (yT S y th) el:=by
 have hm:∀f:bX->bX,L.modify k f=L.set k (f y):=λf=>by
   refine List.ext_getElem? λi=>?_
   rw[List.getElem?_modify,List.getElem?_set]
   by_cases hi:k=i
   · subst hi
     rw[h]
     simp[(List.getElem?_eq_some_iff.1 h).1]
   · rw[if_neg hi]
     cases L[i]?<;>simp[hi]
 unfold patch
 rw[hm]
 cases th<;>cases el<;>simp[pE,pT,yT]
 obtain⟨a,rfl⟩:=List.getElem?_eq_some_iff.1 h
 exact List.set_getElem_self a
theorem NW {a:Nat}{sl sp:Value}{B C:List Nat}{L:List bX}{S:List Int}{I:World->Prop}{b1 b2 b3 b4 k:Nat}{th el:Option Nat}(P:k<L.length)(Q:B.length=S.length)(q:∀t,th=some t->t<S.length)(s:∀t,el=some t->t<S.length)(u:∀w,I w->w.heap[b1]?=some (Obj.cells #[tt B th] 258 (0,0)))(M:∀w,I w->w.heap[b2]?=some (Obj.cells #[Pt a] 179 (0,0)))(N:∀w,I w->w.heap[b3]?=some (Obj.cells #[Y (k:Int)] 3 (0,0)))(x:∀w,I w->w.heap[b4]?=some (Obj.cells #[tt B el] 258 (0,0)))(w:World)(p:List Nat)(U:Ctx.ae [.bx a 257 [sl,sp],.ow 249 sl L,.inv C I,eX 260 B S]=p)(V:kb w [.bx a 257 [sl,sp],.ow 249 sl L,.inv C I,eX 260 B S]): iY Tryz.prog 228 [Pt b1,Pt b2,Pt b3,Pt b4] w p (λ_:Unit=>.tuple #[]) (λ_=>[.bx a 257 [sl,sp],.ow 249 sl (patch S L (k,th,el)),.inv C I,eX 260 B S]):=by
 have z:L[k]?=some L[k]:=List.getElem?_eq_getElem P
 obtain⟨y,D⟩:∃y,L[k]?=some y:=⟨_,z⟩
 have e:idx L (k:Int)=some y:=by
   unfold idx
   rw[if_neg (by omega)]
   exact D
 have spot:∀t,t<S.length->∃b,B[t]?=some b/\S[t]?=some (S.getD t 0)/\tt B (some t)=Pt b:=λt W=>by
   have O:B[t]?=some B[t]:=List.getElem?_eq_getElem (by omega)
   have hs:S[t]?=some S[t]:=List.getElem?_eq_getElem W
   exact⟨_,O,by rw[List.getD_eq_getElem?_getD,hs];rfl,(Am O).symm⟩
 refine eV (vs:=[Pt b1,Pt b2,Pt b3,Pt b4]) (R:=Unit) (r:=()) (E:=some ()) (v:=λ_ (_:Unit)=>.tuple #[]) (fs:=λ_ _=>[.bx a 257 [sl,sp],.ow 249 sl (patch S L (k,th,el)),.inv C I,eX 260 B S]) Tryz.func228 l Tryz.ntmps228 l (SH.begin U V) l ?_ l
 refine rK (xs:=L) (j:=(k:Int)) (y:=y) (v:=sl) 1 l e ?_
 rintro bl cap rfl
 have g:0+(k:Int).toNat*4+2=(k:Int).toNat*ar.sz bX+2:=by rw[Nat.zero_add];rfl
 have h:0+(k:Int).toNat*4+3=(k:Int).toNat*ar.sz bX+3:=by rw[Nat.zero_add];rfl
 obtain⟨F,aa⟩:=O3 (S:=S) D th
 have o:idx (pT S L k y th) (k:Int)=some (yT S y th):=by
   unfold idx
   rw[if_neg (by omega)]
   exact F
 refine al ?_
 show J _ _ _ _ _ _ _ _ (Z (some (.bf ()):Option (Out Unit Unit)) (Out.elim (λ(_:Unit)=>some ()) (λ(r:Unit)=>some r)))
 refine pO (λ_ _=>[(0,Pt b1),(1,Pt b2),(2,Pt b3),(3,Pt b4)]) (λ_ _=>[.bx a 257 [Sl bl L.length cap,sp],.ow 249 (Sl bl L.length cap) (pT S L k y th),.inv C I,eX 260 B S,outs w p,rest w p]) ?_ (λ_ _=>?_)
 ·refine sr<|ql (cm (i:=2) iF l l u) ?_
  cases th with
  |none=>
    refine nP (X rfl) rfl (ye Tryz.underlying258 rfl ⟨none,rfl,rfl⟩ rfl) ?_
    refine af ?_
    refine T ?_
    refine aU rfl rfl ?_
    refine aV ?_
    exact Gf () ⟨rfl,rfl,rfl,rfl,trivial⟩ (rs [0,5]) rfl rfl
  |some t=>
    obtain⟨G,m,n,c⟩:=spot t (q t rfl)
    rw[c]at u
    refine nP (X rfl) rfl (ye Tryz.underlying258 rfl ⟨some ⟨G,0,none⟩,c,rfl⟩ rfl) ?_
    refine af ?_
    refine T ?_
    refine aL rfl rfl ?_
    refine Ew [1] (by kernel_rfl) ?_
    refine gP (i:=0) [0,2,3,4,5] [1] rfl (by kernel_rfl) (by kernel_rfl) (by kernel_rfl) rfl rfl (X rfl) rfl (cm (i:=1) nM rfl rfl M) ?_
    refine gP (i:=1) [0,2,3,4,5] [1] rfl (by kernel_rfl) (by kernel_rfl) (by kernel_rfl) rfl rfl (X rfl) rfl (sC rfl) ?_
    refine gP (i:=2) [0,2,3,4,5] [1] rfl (by kernel_rfl) (by kernel_rfl) (by kernel_rfl) rfl rfl (X rfl) rfl (nS pq rfl rfl) ?_
    refine gP (i:=3) [0,2,3,4,5] [1] rfl (by kernel_rfl) (by kernel_rfl) (by kernel_rfl) rfl rfl (X rfl) rfl (zh 0 vP rfl rfl rfl) ?_
    refine gP (i:=4) [0,2,3,4,5] [1] rfl (by kernel_rfl) (by kernel_rfl) (by kernel_rfl) rfl rfl (X rfl) rfl (cm (i:=1) wS rfl rfl N) ?_
    refine gP (i:=5) [0,2,3,4,5] [1] rfl (by kernel_rfl) (by kernel_rfl) (by kernel_rfl) rfl rfl (X rfl) rfl (cm (i:=1) iF rfl rfl u) ?_
    refine gP (i:=6) [0,2,3,4,5] [1] rfl (by kernel_rfl) (by kernel_rfl) (by kernel_rfl) rfl rfl (X rfl) rfl (sC rfl) ?_
    refine gP (i:=7) [0,2,3,4,5] [1] rfl (by kernel_rfl) (by kernel_rfl) (by kernel_rfl) rfl rfl (X rfl) rfl (nS An rfl rfl) ?_
    refine gP (i:=8) [0,2,3,4,5] [1] rfl (by kernel_rfl) (by kernel_rfl) (by kernel_rfl) rfl rfl (X rfl) rfl (wY 2 d rfl rfl m n) ?_
    refine gP (i:=9) [0,2,3,4,5] [1] rfl (by kernel_rfl) (by kernel_rfl) (by kernel_rfl) rfl rfl (X rfl) rfl (mi (xs:=L) Tryz.underlying80 mZ rfl rfl e rfl) ?_
    refine gP (i:=10) [0,2,3,4,5] [1] rfl (by kernel_rfl) (by kernel_rfl) (by kernel_rfl) rfl rfl (X rfl) rfl (nS pb rfl rfl) ?_
    refine bP [0,2,3,4,5] [1] rfl rfl rfl (λw1 H hp=>?_)
    refine Im (i:=11) (by kernel_rfl) ?_
    refine J8 rfl (X rfl) (wW 1 (bX.NT _) d rfl g rfl rfl e) (oX 0 rfl) ?_
    refine EU (by kernel_rfl) ?_
    exact Gf () ⟨rfl,rfl,rfl,rfl,trivial⟩ (rs [0,5]) rfl rfl
 ·refine T<|sr<|ql (cm (i:=2) iF l l x) ?_
  have f:=ME (S:=S) D th el
  cases el with
  |none=>
    refine nP (X rfl) rfl (ye Tryz.underlying258 rfl ⟨none,rfl,rfl⟩ rfl) ?_
    refine af ?_
    refine T ?_
    refine aU rfl rfl ?_
    refine aV ?_
    exact jc (.inr rfl) rfl (λw K=>⟨(),rfl,by rw[f];exact K⟩)
  |some t=>
    obtain⟨G,m,n,c⟩:=spot t (s t rfl)
    rw[c]at x
    refine nP (X rfl) rfl (ye Tryz.underlying258 rfl ⟨some ⟨G,0,none⟩,c,rfl⟩ rfl) ?_
    refine af ?_
    refine T ?_
    refine aL rfl rfl ?_
    refine Ew [1] (by kernel_rfl) ?_
    refine gP (i:=0) [0,2,3,4,5] [1] rfl (by kernel_rfl) (by kernel_rfl) (by kernel_rfl) rfl rfl (X rfl) rfl (cm (i:=1) nM rfl rfl M) ?_
    refine gP (i:=1) [0,2,3,4,5] [1] rfl (by kernel_rfl) (by kernel_rfl) (by kernel_rfl) rfl rfl (X rfl) rfl (sC rfl) ?_
    refine gP (i:=2) [0,2,3,4,5] [1] rfl (by kernel_rfl) (by kernel_rfl) (by kernel_rfl) rfl rfl (X rfl) rfl (nS pq rfl rfl) ?_
    refine gP (i:=3) [0,2,3,4,5] [1] rfl (by kernel_rfl) (by kernel_rfl) (by kernel_rfl) rfl rfl (X rfl) rfl (zh 0 vP rfl rfl rfl) ?_
    refine gP (i:=4) [0,2,3,4,5] [1] rfl (by kernel_rfl) (by kernel_rfl) (by kernel_rfl) rfl rfl (X rfl) rfl (cm (i:=1) wS rfl rfl N) ?_
    refine gP (i:=5) [0,2,3,4,5] [1] rfl (by kernel_rfl) (by kernel_rfl) (by kernel_rfl) rfl rfl (X rfl) rfl (cm (i:=1) iF rfl rfl x) ?_
    refine gP (i:=6) [0,2,3,4,5] [1] rfl (by kernel_rfl) (by kernel_rfl) (by kernel_rfl) rfl rfl (X rfl) rfl (sC rfl) ?_
    refine gP (i:=7) [0,2,3,4,5] [1] rfl (by kernel_rfl) (by kernel_rfl) (by kernel_rfl) rfl rfl (X rfl) rfl (nS An rfl rfl) ?_
    refine gP (i:=8) [0,2,3,4,5] [1] rfl (by kernel_rfl) (by kernel_rfl) (by kernel_rfl) rfl rfl (X rfl) rfl (wY 2 d rfl rfl m n) ?_
    refine gP (i:=9) [0,2,3,4,5] [1] rfl (by kernel_rfl) (by kernel_rfl) (by kernel_rfl) rfl rfl (X rfl) rfl (mi (xs:=L) Tryz.underlying80 mZ rfl rfl e rfl) ?_
    refine gP (i:=10) [0,2,3,4,5] [1] rfl (by kernel_rfl) (by kernel_rfl) (by kernel_rfl) rfl rfl (X rfl) rfl (nS xS rfl rfl) ?_
    refine bP [0,2,3,4,5] [1] rfl rfl rfl (λw1 H hp=>?_)
    refine Im (i:=11) (by kernel_rfl) ?_
    refine J8 rfl (X rfl) (wW 1 (bX.N2 _) d rfl h rfl rfl o) (oX 0 rfl) ?_
    refine EU (by kernel_rfl) ?_
    exact jc (.inr rfl) rfl (λw K=>⟨(),rfl,by rw[f];exact K⟩)
theorem Mj {S:List Int}{L:List bX}{Ps:List (Nat×Option Nat×Option Nat)}{i:Nat}{p:Nat×Option Nat×Option Nat}(h:Ps[i]?=some p): (Ps.take (i+1)).foldl (patch S) L=patch S ((Ps.take i).foldl (patch S) L) p:=by
 obtain⟨hi,rfl⟩:=List.getElem?_eq_some_iff.1 h
 rw[List.take_succ_eq_append_getElem hi,List.foldl_append]
 rfl
theorem GM (S:List Int): ∀(Q:List (Nat×Option Nat×Option Nat)) (L:List bX),(Q.foldl (patch S) L).length=L.length
  |[],_=>rfl
  |p::Q,L=>by rw[List.foldl_cons,GM S Q];simp[patch]
theorem Nl {f f':Nat}{a a2 a3 a4 b1 b2 b3 b4:Nat}(h:(.func (.func f) #[] #[Pt a,Pt a2,Pt a3,Pt a4]:Value)=.func (.func f') #[] #[Pt b1,Pt b2,Pt b3,Pt b4]): a=b1/\a2=b2/\a3=b3/\a4=b4:=by
 simp at h
 exact⟨h.2.1,h.2.2.1,h.2.2.2.1,h.2.2.2.2⟩
theorem J7 {a:Nat}{g:AG}{s:ab}(hw:AW g s)(D:s.num)(U:s.L.length<=400)(w:World)(z:List Nat)(V:Ctx.ae (AΓ a g s)=z)(hn:kb w (AΓ a g s)): iY Tryz.prog 169 [Pt a] w z (λ_:Unit=>.tuple #[g.sl,Y 0]) (λ_=>[.bx a 257 [g.sl,g.sp],.ow 249 g.sl s.fin,.ow 1 g.sp g.vs,jE 228 a 258 179 3 g.B g.C g.vs s.Ps,eX 260 g.B s.S]):=by
 refine eV (vs:=[Pt a]) (R:=Unit) (r:=()) (E:=some ()) (v:=λ_ (_:Unit)=>.tuple #[g.sl,Y 0]) (fs:=λ_ _=>[.bx a 257 [g.sl,g.sp],.ow 249 g.sl s.fin,.ow 1 g.sp g.vs,jE 228 a 258 179 3 g.B g.C g.vs s.Ps,eX 260 g.B s.S]) Tryz.func169 l Tryz.ntmps169 l (SH.begin V hn) l ?_ l
 refine sr<|aT l<|bB<|u l<|ay l<|F pq l<|M 0 vP l<|di 1 Tryz.underlying80 l<|ja l<|nt<|aU l (by simp;omega)<|vf<|u l<|ay l<|F AD l<|M 0 BR l<|di 2 Tryz.underlying255 l<|u l<|af ?_
 refine T ?_
 have aa:g.vs.length<=400:=by rw[hw.v,hw.ok.len];exact U
 have G:=vu (k:=(g.vs.length:Int)) (by omega) g.vs.length 0 (by omega) (by omega)
 refine Gw (E':=Z (run (qW (g.vs.length:Int)) 0) (Out.elim (λi=>if i=(g.vs.length:Int)then some ()else none) (λr=>some r))) (by rw[G];simp[Z,Out.elim])<|Bg (p:=(0:Int)<=0/\(0:Int)<=(g.vs.length:Int)) ⟨by omega,by omega⟩<|lp (qW (g.vs.length:Int)) 0 () (λi _=>[(0,Pt a),(15,g.sp),(16,Y (g.vs.length:Int)),(17,Y i)]) (λi _=>[.bx a 257 [g.sl,g.sp],.ow 249 g.sl ((s.Ps.take i.toNat).foldl (patch s.S) s.L),.ow 1 g.sp g.vs,jE 228 a 258 179 3 g.B g.C g.vs s.Ps,eX 260 g.B s.S,outs w z,rest w z,.pr (0<=i/\i<=(g.vs.length:Int))]) (rs [1,7,0,0]) (λi _=>?_) (λi _=>?_)
 ·refine pW (p:=0<=i/\i<=(g.vs.length:Int)) (λw n=>n.get 7 l) λhx=>?_
  obtain⟨ac,ad⟩:=hx
  unfold qW
  refine sr<|cG l<|cA<|aH l (λh=>?_) (λh=>bu<|aA<|bk () (rs [0,7]))
  simp only[decide_eq_true_eq]at h
  have q:i.toNat<g.vs.length:=by omega
  have d:g.vs[i.toNat]?=some g.vs[i.toNat]:=List.getElem?_eq_getElem q
  have c:s.Ps[i.toNat]?=some (s.Ps[i.toNat]'(by rw[<- hw.v];exact q)):=List.getElem?_eq_getElem _
  generalize hv:g.vs[i.toNat]=v at d
  generalize hp:s.Ps[i.toNat]'(by rw[<- hw.v];exact q)=p at c
  obtain⟨J,th,el⟩:=p
  have H:=hw.ok.sp _ (List.mem_of_getElem? c)
  have N:J=i.toNat:=D.at_ _ _ c
  have t:idx g.vs i=some v:=by
    unfold idx
    rw[if_neg (by omega)]
    exact d
  refine pW (p:=∃b1 b2 b3 b4,v.v=.func (.func 228) #[] #[Pt b1,Pt b2,Pt b3,Pt b4]) (λw n=>by
    have O:sh 228 a 258 179 3 g.B g.C g.vs s.Ps w:=n.get 3 rfl w (λ_ _=>rfl)
    obtain⟨b1,b2,b3,b4,e,_⟩:=O.2 _ _ _ d c
    exact⟨b1,b2,b3,b4,e⟩) λhb=>?_
  obtain⟨b1,b2,b3,b4,I⟩:=hb
  have K:∀w:World,sh 228 a 258 179 3 g.B g.C g.vs s.Ps w->w.heap[b1]?=some (Obj.cells #[tt g.B th] 258 (0,0))/\w.heap[b2]?=some (Obj.cells #[Pt a] 179 (0,0))/\w.heap[b3]?=some (Obj.cells #[Y (J:Int)] 3 (0,0))/\w.heap[b4]?=some (Obj.cells #[tt g.B el] 258 (0,0)):=λw O=>by
    obtain⟨c1,c2,c3,c4,e,_,q1,q2,q3,q4⟩:=O.2 _ _ _ d c
    obtain⟨rfl,rfl,rfl,rfl⟩:=Nl (I.symm.trans e)
    exact⟨q1,q2,q3,q4⟩
  refine rK (xs:=g.vs) (j:=i) (y:=v) (v:=g.sp) 2 l t ?_
  intro Q m f
  rw[f]
  refine sn<|al<|aN<|sr<|ql (dy 2 Tryz.underlying255 wG l l l t)<|st (eS 2 (Raw.opens _) wG l l t) λ_=>o l<|nt<|W<|u l<|vV (vs:=[]) (caps:=[Pt b1,Pt b2,Pt b3,Pt b4]) (X l) l Tryz.call228 (show some v.v=_ from congrArg some I) l (mW [0,1,3,4] [2,5,6,7] l l (λ_=>l) λw n=>NW (k:=J) (by rw[GM,N];have:=hw.v;have:=hw.ok.len;omega) hw.b H.1 H.2 (λw h=>(K w h).1) (λw h=>(K w h).2.1) (λw h=>(K w h).2.2.1) (λw h=>(K w h).2.2.2) w _ l (n.handed [0,1,3,4] l l l l)) λ_=>af<|aw<|T<|W<|aM l<|u l<|af ?_
  have P:ah (i+1)=i+1:=na (by omega) (by omega)
  have e1:patch s.S ((s.Ps.take i.toNat).foldl (patch s.S) s.L) (J,th,el)=(s.Ps.take (ah (i+1)).toNat).foldl (patch s.S) s.L:=by
    rw[P,show(i+1).toNat=i.toNat+1 by omega,Mj c]
  exact z6 (p:=0<=ah (i+1)/\ah (i+1)<=(g.vs.length:Int)) ⟨by omega,by omega⟩<|eI (Γ':=.pr (0<=ah (i+1)/\ah (i+1)<=(g.vs.length:Int))::([.bx a 257 [g.sl,Sl Q g.vs.length m],.ow 249 g.sl ((s.Ps.take (ah (i+1)).toNat).foldl (patch s.S) s.L),jE 228 a 258 179 3 g.B g.C g.vs s.Ps,eX 260 g.B s.S,.ow 1 (Sl Q g.vs.length m) g.vs,outs w z,rest w z]:Ctx)) (λw n=>by rw[<- e1];exact n.cj (rs [0,7]) l)<|nx () [1,2,5,3,4,6,7,0]
 ·by_cases x:i=(g.vs.length:Int)
  ·rw[if_pos x]
   have e1:(s.Ps.take i.toNat).foldl (patch s.S) s.L=s.fin:=by
     rw[x,Int.toNat_natCast,hw.v,List.take_length]
     rfl
   rw[e1]
   exact T<|sr<|u l<|ay l<|F pq l<|M 0 vP l<|aT l<|aK<|n2 l () (rs [0,6])
  ·rw[if_neg x]
   exact oT
def uD (n:Nat): ab:=⟨[],[],List.replicate n 0⟩
theorem Ok (n:Nat): (uD n).new=uD (n+1):=by simp[ab.new,uD,List.replicate_succ']
theorem OG (n:Nat): (uD n).num:=⟨rfl,λj p a=>by simp[uD]at a⟩
def sx (n:Nat)(a:Nat->ai×ai): Nat->ab
  |0=>uD (n+1)
  |k+1=>((sx n a k).here k).ka n 2 (a k).1 (a k).2
def AZ (n:Nat)(a:Nat->ai×ai): ab:=(sx n a n).here n
def oo (n:Nat)(a:Nat->ai×ai)(i:Nat): List Int:=(List.range i).map λk=>(AZ n a).S.getD k 0
theorem Lw (n:Nat)(a:Nat->ai×ai): ∀k,(sx n a k).num
  |0=>OG _
  |k+1=>((Lw n a k).here k).ka _ _ _ _
theorem N9 {a:Int}{r0 r1:ai}(f:A6 a r0)(g:A6 a r1)(d:0<=a)(s:ab)(hs:a.toNat<s.S.length): s.gr (s.ka a 2 r0 r1) 63:=
  ab.G0 s 1 2 _ 30 λc e b h=>by
    simp only[List.mem_cons,List.not_mem_nil,or_false]at e
    rcases e with rfl|rfl
    · exact xe f (.inl rfl) d b (by omega)
    · exact xe g (.inr rfl) d b (by omega)
theorem OC {n:Nat}{a:Nat->ai×ai}(b:∀k,k<n->A6 n (a k).1/\A6 n (a k).2): ∀k,k<=n->(uD (n+1)).gr (sx n a k) (63*k)
  |0,_=>⟨λh=>h,Nat.le_refl _,Nat.le_refl _⟩
  |k+1,d=>by
    have c:=OC b k (by omega)
    have h:=b k (by omega)
    have hl:(uD (n+1)).S.length=n+1:=by simp[uD]
    exact(c.trans (ab.uG _ k) (Nat.le_refl _)).trans (N9 h.1 h.2 (by omega) _ (by
      have:=c.S
      have e:((sx n a k).here k).S.length=(sx n a k).S.length:=by simp[ab.here]
      omega)) (by omega)
theorem SH.Ia {A:Nat->Prop}{w0 w:World}{Γ:Ctx}(h:SH A w0 w Γ)(f a:Nat)(ts c tk:TypeId)(B:List Nat): SH A w0 w (jE f a ts c tk B [] [] []::Γ):=
  h.cons (Grow.refl w []) (by simp[jE,Fact.ae]) (by simp[jE,Fact.ae]) (λ_ _=>⟨rfl,λk b v d=>by simp at d⟩)
theorem GD {P:Program}{n:Fr}{A:Nat->Prop}{w0:World}{ρ:Env}{Γ:Ctx}{d:Option Nat}{ty:TypeId}{pos:String}{after:Array Edge}{g:Option (Nat×Bool)}{x:Operand}{t e f:TypeId}{j:Bool}{b len cap m:Nat}{xs:List Raw}{hi:Option Operand}(i:Nat)(k:P.underlying t=some (.slice e))(he:cg P e=some (1,j))(o:ev ρ x=some (Sl b len cap))(a:bound ρ hi xs.length=some (m:Int))(c:Γ[i]?=some (.ow f (Sl b len cap) xs))(hm:m<=xs.length): Ex P n A w0 ρ Γ ⟨d,.slice t x none hi none,ty,pos,after,g⟩ (Sl b m cap):=by
 have h:=sB (n:=n) (A:=A) (w0:=w0) (ρ:=ρ) (d:=d) (ty:=ty) (pos:=pos) (after:=after) (g:=g) (lo:=none) (l:=0) (ys:=xs.take m) i k he o rfl a c (by
   unfold jV
   rw[if_pos (by omega)]
   simp)
 have e:sb (ar.sz Raw) (0:Int).toNat (m:Int).toNat (Sl b len cap)=Sl b m cap:=by simp[sb,Addr.add]
 rw[e]at h
 exact h
theorem PU {a:Nat}{g:AG}{s:ab}(hw:AW g s){c:List Nat}(j:c <+: g.B){b:Int}{rules:List ai}(n:0<=b)(F:(c.length:Int)=b+1){q:Int}(hq:0<=q/\q<=1){r0 r1:ai}(G:idx rules (q*2)=some r0)(H:idx rules (q*2+1)=some r1)(o:A6 b r0)(p:A6 b r1)(I:s.L.length<=400){f d:Value}{e:Nat}(w:World)(h:List Nat)(D:Ctx.ae (AΓ a g s++[.ow 258 d (c.map bD),.bx e 26 [Y 2,Y b,f]])=h)(t:kb w (AΓ a g s++[.ow 258 d (c.map bD),.bx e 26 [Y 2,Y b,f]]))(y:Rd (λk=>k∈h) w f rules): iY Tryz.prog 103 [Pt a,Y q,d,Pt e] w h (λ_:AX g (s.ka b 2 r0 r1)=>.tuple #[]) (λx=>AΓ a x.g' (s.ka b 2 r0 r1)++[.ow 258 d (c.map bD),.bx e 26 [Y 2,Y b,f]]):=by
 refine eV (vs:=[Pt a,Y q,d,Pt e]) (R:=Unit) (r:=()) (E:=some ()) (v:=λ_ (_:AX g (s.ka b 2 r0 r1))=>.tuple #[]) (fs:=λ_ x=>AΓ a x.g' (s.ka b 2 r0 r1)++[.ow 258 d (c.map bD),.bx e 26 [Y 2,Y b,f]]) Tryz.func103 rfl Tryz.ntmps103 rfl ((SH.begin D t).gn (by
   rw[show Ctx.ae (AΓ a g s++[.ow 258 d (c.map bD),.bx e 26 [Y 2,Y b,f]]++[outs w h,rest w h])=Ctx.ae (AΓ a g s++[.ow 258 d (c.map bD),.bx e 26 [Y 2,Y b,f]])from by simp[Ctx.ae,Fact.ae]]
   exact D) y) rfl ?_ rfl
 exact W<|m 7 bO l<|ba l<|u l<|cT l Tryz.call104 (rs [1,6]) [0,7,8,9] l (λw i=>BZ hw j n F hq G H o p I w _ l (i.handed (rs [1,6]) l l l l) (i.apart (rs [1,6]) l (i.rd 0 l))) λ⟨g2,z,C⟩=>af<|jc (.inr l) l (λw i=>⟨⟨g2,z,C⟩,l,i.cj (rs [0,5,7,9]) l⟩)
theorem HD {n:Nat}(aR:1<=n)(aS:n<=2){rules:List ai}{e:Nat->ai×ai}(ak:∀k,k<n->A6 n (e k).1/\A6 n (e k).2)(av:∀k,k<n->idx rules ((k:Int)*2)=some (e k).1/\idx rules ((k:Int)*2+1)=some (e k).2){z:Value}{D:Nat}(w:World)(g:List Nat)(hB:Ctx.ae [.bx D 26 [Y 2,Y (n:Int),z]]=g)(ax:kb w [.bx D 26 [Y 2,Y (n:Int),z]])(az:Rd (λk=>k∈g) w z rules): iY Tryz.prog 102 [Y (n:Int),.func (.func 103) #[] #[Pt D]] w g (λx:Value×Value=>.tuple #[x.1,x.2,Y 0]) (λx=>[.ow 249 x.1 (AZ n e).fin,.ow 2 x.2 (oo n e n)]):=by
 have aB:(uD (n+1)).S.length=n+1:=by simp[uD]
 refine eV (vs:=[Y (n:Int),.func (.func 103) #[] #[Pt D]]) (R:=Unit) (r:=()) (E:=some ()) (v:=λ_ (x:Value×Value)=>.tuple #[x.1,x.2,Y 0]) (fs:=λ_ x=>[.ow 249 x.1 (AZ n e).fin,.ow 2 x.2 (oo n e n)]) Tryz.func102 l Tryz.ntmps102 l ((SH.begin hB ax).gn hB az) l ?_ l
 refine sr<|aT l<|o l<|bA<|ql (aC PJ l .nil (λw c=>trivial))<|cu l (oB cS cS) λa=>st (cq (vs:=[]) ([]:List Raw) Tryz.underlying180 iF Ai l (λw c=>trivial)) λbs=>aT l<|nt ?_
 have gN:∃g0:AG,g0=⟨N0,N0,[],[],[]⟩:=⟨_,rfl⟩
 have aD:AW ⟨N0,N0,[],[],[]⟩ (uD 0):=⟨rfl,rfl,rfl,λp hp=>by simp[uD]at hp⟩
 refine lE (Γ':=AΓ a ⟨N0,N0,[],[],[]⟩ (uD 0)++[.ow 258 (Sl bs 0 0) ([]:List Raw),.bx D 26 [Y 2,Y (n:Int),z],.rd z rules,outs w g,rest w g]) (λw c=>(SH.FN (SH.Ia ((c.iV (α:=bX) 249).iV (α:=Raw) 1) 228 a 258 179 3 []) 260).cj [5,3,2,1,0,4,7,6,8,9] l)<|al<|sr<|u l<|aM l<|u l<|nt ?_
 have aE:ah ((n:Int)+1)=(n:Int)+1:=na (by omega) (by omega)
 rw[aE]
 have am:=vu (k:=(n:Int)+1) (by omega) (n+1) 0 (by omega) (by omega)
 refine Gw (E':=Z (run (qW ((n:Int)+1)) 0) (Out.elim (λi=>if i=(n:Int)+1 then some ()else none) (λr=>some r))) (by rw[am];simp[Z,Out.elim])<|Bg (p:=AW ⟨N0,N0,[],[],[]⟩ (uD (0:Int).toNat)/\(0:Int)<=0/\(0:Int)<=(n:Int)+1) ⟨aD,by omega,by omega⟩<|lp (qW ((n:Int)+1)) 0 (⟨N0,N0,[],[],[]⟩,Sl bs 0 0) (λi x=>[(0,Y (n:Int)),(1,.func (.func 103) #[] #[Pt D]),(7,Pt a),(8,x.2),(19,Y ((n:Int)+1)),(20,Y i)]) (λi x=>AΓ a x.1 (uD i.toNat)++[.ow 258 x.2 (x.1.B.map bD),.bx D 26 [Y 2,Y (n:Int),z],.rd z rules,outs w g,rest w g,.pr (AW x.1 (uD i.toNat)/\0<=i/\i<=(n:Int)+1)]) (rs [1,10,0,0]) (λi x=>?_) (λi x=>?_)
 ·obtain⟨J,V⟩:=x
  refine pW (p:=AW J (uD i.toNat)/\0<=i/\i<=(n:Int)+1) (λw c=>c.get 10 l) λK=>?_
  obtain⟨t,aV,aW⟩:=K
  have ac:J.B.length=i.toNat:=by rw[t.b];simp[uD]
  unfold qW
  refine sr<|cG l<|cA<|aH l (λh=>?_) (λh=>bu<|aA<|bk (J,V) (rs [0,10]))
  simp only[decide_eq_true_eq]at h
  refine sn<|al<|aN<|W<|u l<|ql (aC AA l .nil (λw c=>trivial))<|cu l (λw c=>(ck ⟨aa,trivial⟩)) λb2=>bH (λw c=>SH.xK t c) ?_
  have an:=t.add b2
  refine st (cq (vs:=[Pt b2]) ([bD b2]:List Raw) Tryz.underlying180 iF Ai l (λw c=>⟨Raw.rd l,trivial⟩)) λb3=>st (ec 6 Tryz.underlying180 iF Ai LW l (λw c=>c.bg 0 l) (de (by simp;omega))) λV2=>o l<|af<|aw<|T<|W<|aM l<|u l<|af ?_
  have G:ah (i+1)=i+1:=na (by omega) (by omega)
  have e1:(uD i.toNat).new=uD (ah (i+1)).toNat:=by
    rw[G,show(i+1).toNat=i.toNat+1 by omega,Ok]
  have e2:J.B.map bD++[bD b2]=(J.add b2).B.map bD:=by simp[AG.add]
  exact eI (Γ':=AΓ a (J.add b2) (uD (ah (i+1)).toNat)++[.ow 258 V2 ((J.add b2).B.map bD),.bx D 26 [Y 2,Y (n:Int),z],.rd z rules,outs w g,rest w g]) (λw c=>by rw[<- e1,<- e2];exact c.cj (rs [1,10]) l)<|z6 (p:=AW (J.add b2) (uD (ah (i+1)).toNat)/\0<=ah (i+1)/\ah (i+1)<=(n:Int)+1) ⟨e1▸an,by omega,by omega⟩<|nx (J.add b2,V2) (rs [1,10,0,0])
 ·obtain⟨g1,sv⟩:=x
  refine ux (p:=AW g1 (uD i.toNat)/\0<=i/\i<=(n:Int)+1) (λw c=>c.get 10 l) λK=>?_
  by_cases m:i=(n:Int)+1
  ·obtain⟨t,_,_⟩:=K
   rw[if_pos m]
   have aF:i.toNat=n+1:=by omega
   rw[aF]at t ⊢
   have ac:g1.B.length=n+1:=by rw[t.b];exact aB
   have ao:=OC ak
   refine T<|rK (xs:=g1.B.map bD) (j:=0) (y:=bD (g1.B[0]'(by omega))) (v:=sv) 5 l (by simp[idx,ac]) ?_
   rintro N cap rfl
   have ad:∀i:Int,0<=i->i<=n->∃b,g1.B[i.toNat]?=some b/\idx (g1.B.map bD) i=some (bD b):=λi h0 h1=>by
     have hb:g1.B[i.toNat]?=some (g1.B[i.toNat]'(by omega)):=List.getElem?_eq_getElem _
     refine⟨_,hb,?_⟩
     unfold idx
     rw[if_neg (by omega),List.getElem?_map,hb]
     rfl
   refine al<|sr<|ba l<|nt ?_
   have H:=vu (k:=(n:Int)) (by omega) n 0 (by omega) (by omega)
   refine Gw (E':=Z (run (qW (n:Int)) 0) (Out.elim (λi=>if i=(n:Int)then some ()else none) (λr=>some r))) (by rw[H];simp[Z,Out.elim])<|Bg (p:=g1.B <+: g1.B/\AW g1 (sx n e (0:Int).toNat)/\(0:Int)<=0/\(0:Int)<=(n:Int)) ⟨List.prefix_rfl,t,by omega,by omega⟩<|lp (qW (n:Int)) 0 g1 (λi _=>[(0,Y (n:Int)),(1,.func (.func 103) #[] #[Pt D]),(7,Pt a),(8,Sl N (g1.B.map bD).length cap),(28,Y (n:Int)),(29,Y i)]) (λi x=>AΓ a x (sx n e i.toNat)++[.ow 258 (Sl N (g1.B.map bD).length cap) (g1.B.map bD),.bx D 26 [Y 2,Y (n:Int),z],.rd z rules,outs w g,rest w g,.pr (g1.B <+: x.B/\AW x (sx n e i.toNat)/\0<=i/\i<=(n:Int))]) (rs [1,10,0,0]) (λi x=>?_) (λi x=>?_)
   ·refine pW (p:=g1.B <+: x.B/\AW x (sx n e i.toNat)/\0<=i/\i<=(n:Int)) (λw c=>c.get 10 l) λK=>?_
    obtain⟨C,O,ap,aG⟩:=K
    unfold qW
    refine sr<|cG l<|cA<|aH l (λh=>?_) (λh=>bu<|aA<|bk x (rs [0,10]))
    simp only[decide_eq_true_eq]at h
    obtain⟨bi,ag,q⟩:=ad i ap aG
    have hg:=ao i.toNat (by omega)
    have aI:(uD (n+1)).L.length=0:=rfl
    have aX:=hg.L
    have aY:=hg.S
    have s:((i.toNat:Nat):Int)=i:=by omega
    have I:=av i.toNat (by omega)
    rw[s]at I
    have U:=ak i.toNat (by omega)
    refine sn<|al<|aN<|sr<|u l<|o l<|bA<|ba l<|u l<|ql (dy 5 Tryz.underlying180 iF l l l q)<|st (eS 5 (Raw.opens _) iF l l q) λ_=>cT l Tryz.call168 (rs [0,4]) (rs [5,9]) l (λw c=>uw O (iz C ag) w _ l (c.handed (rs [0,4]) l l l l)) λ⟨g3,P,Q⟩=>nt ?_
    have aJ:((sx n e i.toNat).here i.toNat).L.length=(sx n e i.toNat).L.length:=rfl
    refine al<|sr<|u l<|ay l<|F pq l<|M 0 vP l<|di 1 Tryz.underlying80 l<|ja l<|nt<|aU l (by simp;omega)<|sn<|W<|ba l<|ba l<|vV (vs:=[Pt a,Y i,Sl N (g1.B.map bD).length cap]) (caps:=[Pt D]) (X l) l Tryz.call103 l l (mW (rs [0,6]) [7,8,9] l l (λ_=>l) λw c=>PU Q (C.trans P) (by omega) (by rw[ac];omega) ⟨ap,by omega⟩ I.1 I.2 U.1 U.2 (by omega) w _ l (c.handed (rs [0,6]) l l l l) (c.apart (rs [0,6]) l (c.rd 7 l))) λ⟨g4,aL,aO⟩=>af<|aw<|T<|W<|aM l<|u l<|af ?_
    have G:ah (i+1)=i+1:=na (by omega) (by omega)
    have e1:((sx n e i.toNat).here i.toNat).ka n 2 (e i.toNat).1 (e i.toNat).2=sx n e (ah (i+1)).toNat:=by
      rw[G,show(i+1).toNat=i.toNat+1 by omega]
      rfl
    exact eI (Γ':=AΓ a g4 (sx n e (ah (i+1)).toNat)++[.ow 258 (Sl N (g1.B.map bD).length cap) (g1.B.map bD),.bx D 26 [Y 2,Y (n:Int),z],.rd z rules,outs w g,rest w g]) (λw c=>by rw[<- e1];exact c.cj (rs [0,9]) l)<|z6 (p:=g1.B <+: g4.B/\AW g4 (sx n e (ah (i+1)).toNat)/\0<=ah (i+1)/\ah (i+1)<=(n:Int)) ⟨(C.trans P).trans aL,e1▸aO,by omega,by omega⟩<|nx g4 (rs [1,10,0,0])
   ·refine ux (p:=g1.B <+: x.B/\AW x (sx n e i.toNat)/\0<=i/\i<=(n:Int)) (λw c=>c.get 10 l) λK=>?_
    by_cases m:i=(n:Int)
    ·obtain⟨C,O,_,_⟩:=K
     rw[if_pos m]
     have s:i.toNat=n:=by omega
     rw[s]at O ⊢
     obtain⟨bn,aq,q⟩:=ad (n:Int) (by omega) (Int.le_refl _)
     rw[Int.toNat_natCast]at aq
     have aZ:=(ao n (Nat.le_refl _)).L
     have aI:(uD (n+1)).L.length=0:=rfl
     refine T<|sr<|ba l<|u l<|ql (dy 5 Tryz.underlying180 iF l l l q)<|st (eS 5 (Raw.opens _) iF l l q) λ_=>cT l Tryz.call168 (rs [0,4]) (rs [5,9]) l (λw c=>uw O (iz C aq) w _ l (c.handed (rs [0,4]) l l l l)) λ⟨g3,P,Q⟩=>?_
     have aJ:((sx n e n).here n).L.length=(sx n e n).L.length:=rfl
     refine bA<|u l<|cT l Tryz.call169 (rs [0,4]) [5,8,9] l (λw c=>J7 Q ((Lw n e n).here n) (by omega) w _ l (c.handed (rs [0,4]) l l l l)) λ_=>u l<|cQ l<|aT l<|bB<|u l<|cW l<|nt<|aU l (by simp)<|dQ<|st (cq (vs:=[]) ([]:List Int) Tryz.underlying27 d bz l (λw c=>trivial)) λbp=>o l<|cA ?_
     refine sr<|ba l<|ql (GD 6 Tryz.underlying180 iF l l l (by simp;omega))<|ql (zN Tryz.underlying180 l)<|u l<|nt<|Gw (E':=Z (run (qW (n:Int)) 0) (Out.elim (λi=>if i=(n:Int)then some ()else none) (λr=>some r))) (by rw[H];simp[Z,Out.elim])<|Bg (p:=(0:Int)<=0/\(0:Int)<=(n:Int)) ⟨by omega,by omega⟩<|lp (qW (n:Int)) 0 (Sl bp 0 0) (λi x=>[(10,g3.sl),(12,x),(67,Sl N n cap),(68,Y (n:Int)),(69,Y i)]) (λi x=>[.ow 2 x (oo n e i.toNat),.ow 249 g3.sl (AZ n e).fin,eX 260 g3.B (AZ n e).S,.ow 258 (Sl N (g1.B.map bD).length cap) (g1.B.map bD),outs w g,rest w g,.pr (0<=i/\i<=(n:Int))]) [1,3,6,7,8,9,0] (λi x=>?_) (λi x=>?_)
     ·refine pW (p:=0<=i/\i<=(n:Int)) (λw c=>c.get 6 l) λK=>?_
      obtain⟨ar,aP⟩:=K
      unfold qW
      refine sr<|cG l<|cA<|aH l (λh=>?_) (λh=>bu<|aA<|bk x (rs [0,6]))
      simp only[decide_eq_true_eq]at h
      obtain⟨bi,ag,aj⟩:=ad i ar aP
      have ab:g3.B[i.toNat]?=some bi:=iz (C.trans P) ag
      have au:i.toNat<(AZ n e).S.length:=Q.lt ab
      have aQ:(AZ n e).S[i.toNat]?=some ((AZ n e).S.getD i.toNat 0):=by
        rw[List.getD_eq_getElem?_getD,List.getElem?_eq_getElem au]
        rfl
      have hu:=Fu (n:=n) ar h
      refine sn<|al<|aN<|sr<|ql (mi (xs:=List.replicate n ()) Tryz.underlying180 iF l l hu (by simp))<|st (eS (j:=i) 3 (Raw.opens _) iF (by show some (Value.pointer (some ⟨N,0+i.toNat*1,none⟩))=some (Value.pointer (some ⟨N,i.toNat*1,none⟩));rw[Nat.zero_add]) l aj) λ_=>o l<|nt<|W<|ba l<|ay l<|F An l<|ql (wY 2 d l l ab aQ)<|st (cq (vs:=[Y ((AZ n e).S.getD i.toNat 0)]) ([(AZ n e).S.getD i.toNat 0]:List Int) Tryz.underlying27 d bz l (λw c=>⟨Rd.LB _ _ _,trivial⟩)) λb5=>st (ec 1 Tryz.underlying27 d bz gq l (λw c=>c.bg 0 l) (de (by simp[oo];omega))) λV2=>o l<|af<|aw<|T<|W<|aM l<|u l<|af ?_
      have G:ah (i+1)=i+1:=na (by omega) (by omega)
      have e1:oo n e i.toNat++[(AZ n e).S.getD i.toNat 0]=oo n e (ah (i+1)).toNat:=by
        rw[G,show(i+1).toNat=i.toNat+1 by omega]
        simp[oo,List.range_succ]
      exact eI (Γ':=[.ow 2 V2 (oo n e (ah (i+1)).toNat),.ow 249 g3.sl (AZ n e).fin,eX 260 g3.B (AZ n e).S,.ow 258 (Sl N (g1.B.map bD).length cap) (g1.B.map bD),outs w g,rest w g]) (λw c=>by rw[<- e1];exact c.cj (rs [1,6]) l)<|z6 (p:=0<=ah (i+1)/\ah (i+1)<=(n:Int)) ⟨by omega,by omega⟩<|nx V2 (rs [1,6,0,0])
     ·by_cases m:i=(n:Int)
      ·rw[if_pos m]
       have s:i.toNat=n:=by omega
       rw[s]
       exact T<|sr<|ba l<|aT l<|o l<|aK<|m3 l (f l) (f l) (f l) (g3.sl,x) [1,0,4,5]
      ·rw[if_neg m]
       exact oT
    ·rw[if_neg m]
     exact oT
  ·rw[if_neg m]
   exact oT
theorem Az {a:Int}{r:ai}(h:yu a r=true): A6 a r:=by
 unfold yu at h
 simp only[Bool.or_eq_true,Bool.and_eq_true,decide_eq_true_eq,beq_iff_eq]at h
 rcases h with h|⟨⟨⟨⟨e,f⟩,b⟩,c⟩,d⟩
 ·exact .inl h
 ·exact .inr ⟨by omega,b,c,d⟩
theorem Qf {J:O}{r:List bX×List Int×Int}(hr:dU J=some r): ∃(n:Nat) (e:Nat->ai×ai),1<=n/\n<=2/\J.I=2/\J.N=(n:Int)/\(∀k,k<n->A6 n (e k).1/\A6 n (e k).2)/\(∀k,k<n->idx J.aB ((k:Int)*2)=some (e k).1/\idx J.aB ((k:Int)*2+1)=some (e k).2)/\r=((AZ n e).fin,oo n e n,0):=by
 unfold dU at hr
 split at hr
 ·rename_i j
  obtain⟨hs,m⟩:=j
  have a:=List.all_eq_true.1 m
  split at hr
  ·rename_i r0 r1 b
   split at hr
   ·rename_i c
    rw[b,c]at a
    refine⟨1,λ_=>(r0,r1),by omega,by omega,hs,c,λk _=>⟨Az (a r0 (by simp)),Az (a r1 (by simp))⟩,λk g=>?_,(Option.some.inj hr).symm⟩
    have f:k=0:=by omega
    subst f
    rw[b]
    exact⟨l,l⟩
   ·cases hr
  ·rename_i r0 r1 h i b
   split at hr
   ·rename_i c
    rw[b,c]at a
    refine⟨2,λk=>if k=0 then (r0,r1)else (h,i),by omega,by omega,hs,c,λk g=>?_,λk g=>?_,(Option.some.inj hr).symm⟩
    ·have d:k=0\/k=1:=by omega
     rcases d with rfl|rfl
     ·exact⟨Az (a r0 (by simp)),Az (a r1 (by simp))⟩
     ·exact⟨Az (a h (by simp)),Az (a i (by simp))⟩
    ·have d:k=0\/k=1:=by omega
     rw[b]
     rcases d with rfl|rfl
     ·exact⟨l,l⟩
     ·exact⟨l,l⟩
   ·cases hr
  ·cases hr
 ·cases hr
theorem re (A:Nat->Prop)(w:World)(t:∀k,A k->k<w.heap.size)(c:Value)(J:O)(g:Rd A w c J)(r:List bX×List Int×Int)(hr:dU J=some r): cy Tryz.prog 41 [c] A w (λa:Value×Value=>.tuple #[a.1,a.2,Y r.2.2]) (λa=>[.ow 249 a.1 r.1,.ow 2 a.2 r.2.1]):=by
 obtain⟨s,rfl,b⟩:=O.open g
 obtain⟨n,e,h,i,hs,j,m,p,rfl⟩:=Qf hr
 rw[hs,j]
 refine LD (v:=λ(r:List bX×List Int×Int) (a:Value×Value)=>.tuple #[a.1,a.2,Y r.2.2]) (fs:=λr a=>[.ow 249 a.1 r.1,.ow 2 a.2 r.2.1]) (r:=((AZ n e).fin,oo n e n,0)) (E:=some ((AZ n e).fin,oo n e n,0)) Tryz.func41 l Tryz.ntmps41 l ((SH.start t).ao l b) l ?_ l
 exact sr<|cu l (a8 cI cI (cR 0 l)) λb1=>aT l<|o l<|bA<|F lB l<|M 0 d l<|ql (dF l)<|cT l Tryz.call102 [0] [1] l (λw q=>HD h i m p w _ l (q.handed [0] l l l l) (q.apart [0] l (q.rd 1 l))) λy=>cQ l<|cz l<|aT l<|o l<|aK<|m3 l (f l) (f l) (f l) y [0,1]
end Go.Proofs.YtapnabgdcndleaaGreatDoor
