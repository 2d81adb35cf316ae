/-
  The assembler in plain Lean: how its state grows, and what the program does that it builds. No condition.
-/
import Derived.Test.YtapnabgdcndleaaGreatDoorAsmF
namespace Go.Fn
open Go Go.Tc
structure ab.ok (a:ab): Prop where
 len:a.Ps.length=a.L.length
 sp:∀p∈a.Ps,(∀k,p.2.1=some k->k<a.S.length)/\(∀k,p.2.2=some k->k<a.S.length)
theorem ab.ok.here {a:ab}(h:a.ok)(s:Nat): (a.here s).ok:=⟨h.len,λp b=>by simpa[ab.here]using h.sp p b⟩
theorem ab.ok.new {a:ab}(h:a.ok): a.new.ok:=⟨h.len,λp c=>by
 have:=h.sp p c
 refine⟨λk b=>?_,λk b=>?_⟩
 ·have:=this.1 k b
  simp[ab.new];omega
 ·have:=this.2 k b
  simp[ab.new];omega⟩
theorem ab.ok.emit {a:ab}(h:a.ok){kind c:Int}{th el:Option Nat}(d:∀k,th=some k->k<a.S.length)(e:∀k,el=some k->k<a.S.length): (a.emit kind c th el).ok:=
 ⟨by simp[ab.emit,h.len],λp b=>by
  simp only[ab.emit,List.mem_append,List.mem_singleton]at b
  rcases b with b|rfl
  ·exact h.sp p b
  ·exact⟨d,e⟩⟩
theorem nK {n:Nat}: ∀k:Nat,(none:Option Nat)=some k->k<n:=λ_ h=>by cases h
theorem pf {n s:Nat}(hs:s<n): ∀k:Nat,some s=some k->k<n:=λ_ h=>by cases h;exact hs
structure ab.gr (a b:ab)(n:Nat): Prop where
 ok:a.ok->b.ok
 L:b.L.length<=a.L.length+n
 S:a.S.length<=b.S.length
theorem ab.gr.trans {a b c:ab}{n m k:Nat}(d:a.gr b n)(e:b.gr c m)(f:n+m<=k): a.gr c k:=⟨λh=>e.ok (d.ok h),by have:=d.L;have:=e.L;omega,Nat.le_trans d.S e.S⟩
theorem ab.uG (a:ab)(s:Nat): a.gr (a.here s) 0:=⟨λh=>h.here s,by simp[ab.here],by simp[ab.here]⟩
theorem ab.AF (a:ab): a.gr a.new 0:=⟨λh=>h.new,by simp[ab.new],by simp[ab.new]⟩
theorem ab.xW (a:ab)(kind b:Int)(th el:Option Nat)(c:∀k,th=some k->k<a.S.length)(d:∀k,el=some k->k<a.S.length): a.gr (a.emit kind b th el) 1:=⟨λh=>h.emit c d,by simp[ab.emit],by simp[ab.emit]⟩
theorem ab.GL (b:Int): ∀(n:Nat) (a:ab),a.gr (a.j7 b n) n
 |0,a=>⟨λh=>h,Nat.le_refl _,Nat.le_refl _⟩
 |n+1,a=>(a.xW 0 b none none nK nK).trans (ab.GL b n _) (by omega)
theorem ab.F1 (b:Int): ∀(n:Nat) (a:ab),(a.j7 b n).S=a.S
 |0,_=>rfl
 |n+1,_=>(ab.F1 b n _).trans rfl
theorem ab.NS (a:ab)(f t:Int)(k e:Nat)(he:e<a.S.length): a.gr (a.loop f t k e) (k+2):=by
 refine((((a.AF).trans (ab.uG _ _) (Nat.le_refl _)).trans (ab.xW _ 1 f none (some e) nK (pf ?_)) (Nat.le_refl _)).trans (ab.GL t (k-1) _) (Nat.le_refl _)).trans (ab.xW _ 0 t (some a.S.length) none (pf ?_) nK) (by omega)
 ·simp[ab.new,ab.here];omega
 ·rw[ab.F1]
  simp[ab.new,ab.here,ab.emit]
def Pc.n:Pc->Nat
 |.loop _ _ k=>k.toNat+2
 |.inc _=>1
theorem ab.AJ (a:ab)(e:Nat)(he:e<a.S.length): ∀p:Pc,a.gr (a.piece e p) p.n
 |.loop f t k=>a.NS f t k.toNat e he
 |.inc r=>a.xW 0 r (some e) none (pf he) nK
theorem ab.tL (t:Nat): ∀(ps:List Pc) (a:ab),t<a.S.length->a.gr (a.chain t ps) (ps.map Pc.n).sum
 |[],_,_=>⟨λh=>h,Nat.le_refl _,Nat.le_refl _⟩
 |[p],a,h=>by simpa[ab.chain]using a.AJ t h p
 |p::q::ps,a,h=>by
  have b:=(a.AF.trans (ab.AJ a.new a.S.length (by simp[ab.new]) p) (Nat.le_refl _)).trans (ab.uG _ a.S.length) (Nat.le_refl _)
  refine b.trans (ab.tL t (q::ps) _ (Nat.lt_of_lt_of_le h b.S)) ?_
  simp[List.map_cons,List.sum_cons]
theorem ab.BC (f:Int): ∀(n:Nat) (a:ab),a.gr (a.eJ f n) n
 |0,a=>⟨λh=>h,Nat.le_refl _,Nat.le_refl _⟩
 |n+1,a=>(a.AF.trans (ab.xW a.new 1 f none (some a.S.length) nK (pf (by simp[ab.new]))) (Nat.le_refl _)).trans (ab.BC f n _) (by omega)
theorem ab.EL:∀(cs:List (ab->ab)) (at_ m:Nat) (a:ab),(∀c∈cs,∀b:ab,a.S.length<=b.S.length->b.gr (c b) m)->a.gr (a.qE at_ cs) (cs.length*m)
 |[],_,_,a,_=>⟨λh=>h,by simp[ab.qE],Nat.le_refl _⟩
 |c::cs,at_,m,a,h=>by
  have e:=(a.uG at_).trans (h c (by simp) (a.here at_) (a.uG at_).S) (Nat.le_refl _)
  refine e.trans (ab.EL cs (at_+1) m _ λd hd b f=>h d (by simp[hd]) b (Nat.le_trans e.S f)) ?_
  simp only[List.length_cons,Nat.succ_mul];omega
theorem ab.G0 (a:ab)(f t:Int)(cs:List (ab->ab))(m:Nat)(h:∀c∈cs,∀b:ab,a.S.length<=b.S.length->b.gr (c b) m): a.gr (a.split f t cs) (cs.length*m+cs.length+1):=by
 have e:=(a.AF.trans (ab.uG _ a.S.length) (Nat.le_refl _)).trans (ab.BC f cs.length _) (Nat.le_refl _)
 have g:a.S.length<(((a.new.here a.S.length).eJ f cs.length)).S.length:=Nat.lt_of_lt_of_le (by simp[ab.new,ab.here]) (ab.BC f cs.length _).S
 have d:=e.trans (ab.xW _ 0 t (some a.S.length) none (pf g) nK) (Nat.le_refl _)
 refine d.trans (ab.EL cs _ m _ λc i b j=>h c i b (Nat.le_trans d.S j)) (by omega)
theorem qk {l:List Int}{s:Nat}{v:Int}(h:l[s]?=some v): l.getD s 0=v:=by simp[List.getD_eq_getElem?_getD,h]
def gz (x:Int->Int)(r v:Int): Int->Int:=λi=>if i=r then v else x i
theorem vM (x:Int->Int)(r v:Int): gz x r v r=v:=by simp[gz]
theorem BN {x:Int->Int}{r v i:Int}(h:i≠r): gz x r v i=x i:=by simp[gz,h]
def tE (ins:Nat->Option bX)(s:Int×(Int->Int)): Option (Int×(Int->Int)):=
 if 0<=s.1 then match ins s.1.toNat with
  |some i=>if i.Kind=0 then some (i.qa,gz s.2 i.cd (s.2 i.cd+1))else if 0<s.2 i.cd then some (i.qa,gz s.2 i.cd (s.2 i.cd-1))else some (i.uQ,s.2)
  |none=>none
 else none
def fy (ins:Nat->Option bX): Nat->Int×(Int->Int)->Option (Int×(Int->Int))
 |0,s=>some s
 |n+1,s=>(tE ins s).bind (fy ins n)
theorem jz {ins:Nat->Option bX}: ∀ {n m:Nat} {s t u:Int×(Int->Int)},fy ins n s=some t->fy ins m t=some u->fy ins (n+m) s=some u
 |0,m,s,t,u,a,b=>by
  simp only[fy,Option.some.injEq]at a
  subst a
  simpa using b
 |n+1,m,s,t,u,a,b=>by
  simp only[fy,Option.bind_eq_some_iff]at a
  obtain⟨s1,c,d⟩:=a
  rw[show n+1+m=(n+m)+1 by omega]
  simp only[fy,Option.bind_eq_some_iff]
  exact⟨s1,c,jz d b⟩
theorem qw {ins:Nat->Option bX}{s t:Int×(Int->Int)}(h:tE ins s=some t): fy ins 1 s=some t:=by simp[fy,h]
theorem fe {ins:Nat->Option bX}{n m:Nat}{s t a:Int×(Int->Int)}(h:fy ins n s=some t)(b:n=m)(c:t=a): fy ins m s=some a:=by rw[<- b,<- c];exact h
theorem yi {ins:Nat->Option bX}{k:Nat}{i:bX}{x:Int->Int}(h:ins k=some i)(a:i.Kind=0): tE ins ((k:Int),x)=some (i.qa,gz x i.cd (x i.cd+1)):=by simp[tE,h,a]
theorem Bx {ins:Nat->Option bX}{k:Nat}{i:bX}{x:Int->Int}(h:ins k=some i)(a:i.Kind=1)(b:0<x i.cd): tE ins ((k:Int),x)=some (i.qa,gz x i.cd (x i.cd-1)):=by simp[tE,h,a,b]
theorem FR {ins:Nat->Option bX}{k:Nat}{i:bX}{x:Int->Int}(h:ins k=some i)(a:i.Kind=1)(b:x i.cd=0): tE ins ((k:Int),x)=some (i.uQ,x):=by simp[tE,h,a,b]
def ab.ins (z:ab)(k:Nat): Option bX:=(z.L[k]?).bind λx=>(z.Ps[k]?).map λp=>⟨x.Kind,x.cd,(match p.2.1 with|some t=>z.S.getD t 0|none=>x.qa),(match p.2.2 with|some t=>z.S.getD t 0|none=>x.uQ)⟩
structure ab.pre (a b:ab): Prop where
 L:a.L <+: b.L
 P:a.Ps <+: b.Ps
 le:a.S.length<=b.S.length
 ok:a.Ps.length=a.L.length->b.Ps.length=b.L.length
theorem ab.pre.trans {a b c:ab}(d:a.pre b)(e:b.pre c): a.pre c:=⟨d.L.trans e.L,d.P.trans e.P,Nat.le_trans d.le e.le,λh=>e.ok (d.ok h)⟩
theorem ab.pre.refl (a:ab): a.pre a:=⟨List.prefix_rfl,List.prefix_rfl,Nat.le_refl _,id⟩
structure ab.ext (a b:ab): Prop extends ab.pre a b where
 S:∀s,s<a.S.length->b.S[s]?=a.S[s]?
theorem ab.ext.trans {a b c:ab}(d:a.ext b)(e:b.ext c): a.ext c:=⟨d.topre.trans e.topre,λs hs=>(e.S s (Nat.lt_of_lt_of_le hs d.le)).trans (d.S s hs)⟩
theorem ab.ext.refl (a:ab): a.ext a:=⟨.refl a,λ_ _=>rfl⟩
theorem ab.ny (a:ab)(s:Nat): a.pre (a.here s):=⟨List.prefix_rfl,List.prefix_rfl,by simp[ab.here],id⟩
theorem ab.rm (a:ab): a.ext a.new:=⟨⟨List.prefix_rfl,List.prefix_rfl,by simp[ab.new],id⟩,λs hs=>by simp[ab.new,List.getElem?_append_left hs]⟩
theorem ab.lN (a:ab)(kind b:Int)(th el:Option Nat): a.ext (a.emit kind b th el):=⟨⟨List.prefix_append _ _,List.prefix_append _ _,Nat.le_refl _,λh=>by simp[ab.emit,h]⟩,λ_ _=>rfl⟩
theorem ab.rJ (b:Int): ∀(n:Nat) (a:ab),a.ext (a.j7 b n)
 |0,a=>.refl a
 |n+1,a=>(a.lN 0 b none none).trans (ab.rJ b n _)
theorem ab.ext.here {a b:ab}(h:a.ext b){s:Nat}(hs:a.S.length<=s): a.ext (b.here s):=⟨h.topre.trans (b.ny s),λr hr=>by
 show(b.S.set s _)[r]?=_
 rw[List.getElem?_set_ne (by omega)]
 exact h.S r hr⟩
theorem ab.MA (a:ab)(f t:Int)(k e:Nat): a.ext (a.loop f t k e):=
 (((a.rm.here (Nat.le_refl _)).trans (ab.lN _ 1 f none (some e))).trans (ab.rJ t (k-1) _)).trans (ab.lN _ 0 t (some a.S.length) none)
theorem ab.yv (a:ab)(e:Nat): ∀p:Pc,a.ext (a.piece e p)
 |.loop f t k=>a.MA f t k.toNat e
 |.inc r=>a.lN 0 r (some e) none
theorem ab.oR (t:Nat): ∀(ps:List Pc) (a:ab),a.ext (a.chain t ps)
 |[],a=>.refl a
 |[p],a=>a.yv t p
 |p::q::ps,a=>((a.rm.trans (ab.yv a.new a.S.length p)).here (Nat.le_refl _)).trans (ab.oR t (q::ps) _)
theorem ab.qh (f:Int): ∀(n:Nat) (a:ab),a.ext (a.eJ f n)
 |0,a=>.refl a
 |n+1,a=>(a.rm.trans (ab.lN a.new 1 f none (some a.S.length))).trans (ab.qh f n _)
theorem ab.DY (a0:ab): ∀(cs:List (ab->ab)) (at_:Nat) (a:ab),a0.ext a->a0.S.length<=at_->(∀c∈cs,∀b:ab,b.ext (c b))->a0.ext (a.qE at_ cs)
 |[],_,_,h,_,_=>h
 |c::cs,at_,a,h,hs,e=>ab.DY a0 cs (at_+1) _ ((h.here hs).trans (e c (by simp) _)) (by omega) λd hd=>e d (by simp[hd])
theorem ab.FE (a:ab)(f t:Int)(cs:List (ab->ab))(d:∀c∈cs,∀b:ab,b.ext (c b)): a.ext (a.split f t cs):=
 ab.DY a cs (a.S.length+1) _ (((a.rm.here (Nat.le_refl _)).trans (ab.qh f cs.length _)).trans (ab.lN _ 0 t (some a.S.length) none)) (by omega) d
structure ab.at_ (a b z:ab): Prop where
 pre:b.pre z
 S:∀s,a.S.length<=s->s<b.S.length->z.S[s]?=b.S[s]?
 ok:a.Ps.length=a.L.length
theorem ab.tH {a z:ab}{kind b:Int}{th el:Option Nat}(h:(a.emit kind b th el).pre z)(ok:a.Ps.length=a.L.length):
  z.ins a.L.length=some ⟨kind,b,(match th with|some t=>z.S.getD t 0|none=>(a.L.length:Int)+1),(match el with|some t=>z.S.getD t 0|none=>0)⟩:=by
 obtain⟨l,hl⟩:=h.L
 obtain⟨q,hq⟩:=h.P
 have c:z.L[a.L.length]?=some ⟨kind,b,(a.L.length:Int)+1,0⟩:=by rw[<- hl];simp[ab.emit]
 have d:z.Ps[a.L.length]?=some (a.L.length,th,el):=by
  rw[<- hq,<- ok]
  simp[ab.emit,ok]
 unfold ab.ins
 rw[c,d]
 cases th<;>cases el<;>rfl
theorem ab.Cz (b:Int): ∀(n:Nat) (a:ab),(a.j7 b n).L.length=a.L.length+n
 |0,_=>rfl
 |n+1,a=>by
  rw[ab.j7,ab.Cz b n]
  simp[ab.emit];omega
theorem Du {z:ab}(t:Int): ∀(n:Nat) (a:ab) (x:Int->Int),(a.j7 t n).pre z->a.Ps.length=a.L.length->fy z.ins n ((a.L.length:Int),x)=some ((a.L.length:Int)+n,gz x t (x t+n))
 |0,a,x,_,_=>by
  simp only[fy,Option.some.injEq,Prod.mk.injEq]
  refine⟨by simp,funext λi=>?_⟩
  by_cases hi:i=t<;>simp[gz,hi]
 |n+1,a,x,h,ok=>by
  have c:(a.emit 0 t none none).pre z:=(ab.rJ t n _).topre.trans h
  have d:=qw (yi (x:=x) (ab.tH c ok) rfl)
  have b:=Du t n (a.emit 0 t none none) (gz x t (x t+1)) h (by simp[ab.emit,ok])
  have e:((a.emit 0 t none none).L.length:Int)=(a.L.length:Int)+1:=by simp[ab.emit]
  rw[e]at b
  refine fe (jz d b) (by omega) ?_
  refine Prod.ext (by simp;omega) (funext λi=>?_)
  by_cases hi:i=t
  ·subst hi;simp[gz];omega
  ·simp[gz,hi]
theorem Kb {a z:ab}{f t:Int}{k e:Nat}(C:1<=k)(b:f≠t)(h:a.at_ (a.loop f t k e) z): ∀(v:Nat) (x:Int->Int),x f=v->
  fy z.ins ((k+1)*v+1) ((a.L.length:Int),x)=some (z.S.getD e 0,gz (gz x t (x t+k*v)) f 0):=by
 have e1:(((((a.new.here a.S.length).emit 1 f none (some e)).j7 t (k-1)).emit 0 t (some a.S.length) none)).pre z:=h.pre
 have e2:=((ab.lN _ 0 t (some a.S.length) none).topre).trans e1
 have e3:=(ab.rJ t (k-1) _).topre.trans e2
 have c:(a.new.here a.S.length).Ps.length=(a.new.here a.S.length).L.length:=h.ok
 have d:(((a.new.here a.S.length).emit 1 f none (some e))).Ps.length=(((a.new.here a.S.length).emit 1 f none (some e))).L.length:=by simp[ab.emit,c]
 have l:=(ab.rJ t (k-1) _).ok d
 have i1:=ab.tH e3 c
 have i3:=ab.tH e1 l
 have m:(a.new.here a.S.length).L.length=a.L.length:=rfl
 have n:((((a.new.here a.S.length).emit 1 f none (some e)).j7 t (k-1))).L.length=a.L.length+k:=by
  rw[ab.Cz]
  simp[ab.emit,ab.here,ab.new];omega
 rw[m]at i1
 rw[n]at i3
 have hs:z.S.getD a.S.length 0=(a.L.length:Int):=by
  refine qk ?_
  have g:a.S.length<(a.new.here a.S.length).S.length:=by simp[ab.here,ab.new]
  have q:=(((ab.lN _ 1 f none (some e)).trans (ab.rJ t (k-1) _)).trans (ab.lN _ 0 t (some a.S.length) none)).S a.S.length g
  rw[h.S a.S.length (Nat.le_refl _) (Nat.lt_of_lt_of_le g (((ab.lN _ 1 f none (some e)).trans (ab.rJ t (k-1) _)).trans (ab.lN _ 0 t (some a.S.length) none)).le)]
  refine q.trans ?_
  simp[ab.here,ab.new]
 intro v
 induction v with
 |zero=>
  intro x o
  refine fe (qw (FR (x:=x) i1 rfl (by simpa using o))) (by simp) ?_
  refine Prod.ext rfl (funext λi=>?_)
  by_cases hi:i=f
  ·subst hi;simp[gz,o]
  ·by_cases j:i=t
   ·subst j;simp[gz,hi]
   ·simp[gz,hi,j]
 |succ v u=>
  intro x o
  have w:=qw (Bx (x:=x) i1 rfl (by show 0<x f;omega))
  have p:=Du t (k-1) _ (gz x f (x f-1)) e2 d
  have r:((((a.new.here a.S.length).emit 1 f none (some e))).L.length:Int)=(a.L.length:Int)+1:=by simp[ab.emit,ab.here,ab.new]
  rw[r]at p
  have y:=qw (yi (x:=gz (gz x f (x f-1)) t (gz x f (x f-1) t+(k-1:Nat))) i3 rfl)
  have A:((a.L.length:Int)+1+(k-1:Nat))=((a.L.length+k:Nat):Int):=by omega
  rw[A]at p
  have s:=jz (jz w p) y
  simp only[hs]at s
  have B:=u (gz (gz (gz x f (x f-1)) t (gz x f (x f-1) t+(k-1:Nat))) t (gz (gz x f (x f-1)) t (gz x f (x f-1) t+(k-1:Nat)) t+1)) (by
   rw[BN b,BN b,vM];omega)
  refine fe (jz s B) ?_ ?_
  ·rw[Nat.mul_add,Nat.mul_one];omega
  ·refine Prod.ext rfl (funext λi=>?_)
   have hm:(k:Int)*((v+1:Nat):Int)=k*v+k:=by rw[Int.natCast_add,Int.mul_add];simp
   by_cases hi:i=f
   ·subst hi;simp[gz]
   ·by_cases j:i=t
    ·subst j
     simp[gz,hi]
     rw[Int.mul_add];omega
    ·simp[gz,hi,j]
def Pc.run:Pc->(Int->Int)->Int->Int
 |.loop f t k,x=>gz (gz x t (x t+k*x f)) f 0
 |.inc r,x=>gz x r (x r+1)
def Pc.cost:Pc->(Int->Int)->Nat
 |.loop f _ k,x=>(k.toNat+1)*(x f).toNat+1
 |.inc _,_=>1
def Pc.fit:Pc->Prop
 |.loop f t k=>1<=k/\f≠t
 |.inc _=>True
def uB (x:Int->Int): Prop:=∀i,0<=x i
theorem uB.gz {x:Int->Int}(h:uB x){r v:Int}(a:0<=v): uB (gz x r v):=λi=>by
 by_cases hi:i=r
 ·subst hi;rw[vM];exact a
 ·rw[BN hi];exact h i
theorem uB.run {x:Int->Int}(h:uB x): ∀ {p:Pc},p.fit->uB (p.run x)
 |.loop f t k,a=>(h.gz (by
   have:=h t
   have:=Int.mul_nonneg (show 0<=k by have:=a.1;omega) (h f)
   omega)).gz (Int.le_refl 0)
 |.inc r,_=>h.gz (by have:=h r;omega)
def kW:List Pc->(Int->Int)->Int->Int
 |[],x=>x
 |p::ps,x=>kW ps (p.run x)
def jh:List Pc->(Int->Int)->Nat
 |[],_=>0
 |p::ps,x=>p.cost x+jh ps (p.run x)
theorem D0 {a z:ab}{e:Nat}: ∀ {p:Pc},p.fit->a.at_ (a.piece e p) z->∀x,uB x->fy z.ins (p.cost x) ((a.L.length:Int),x)=some (z.S.getD e 0,p.run x)
 |.loop f t k,b,h,x,d=>by
  have g:1<=k.toNat:=by have:=b.1;omega
  refine fe (Kb g b.2 h (x f).toNat x (by have:=d f;omega)) rfl ?_
  have c:((k.toNat:Nat):Int)=k:=by have:=b.1;omega
  have i:(((x f).toNat:Nat):Int)=x f:=by have:=d f;omega
  rw[c,i]
  rfl
 |.inc r,_,h,x,_=>by
  have c:=ab.tH (th:=some e) (el:=none) h.pre h.ok
  exact fe (qw (yi (x:=x) c rfl)) rfl rfl
theorem ab.at_.sub {a b c d z:ab}(h:a.at_ b z)(e:a.pre c)(f:d.pre b)(j:∀s,c.S.length<=s->s<d.S.length->b.S[s]?=d.S[s]?): c.at_ d z:=
 ⟨f.trans h.pre,λs g i=>(h.S s (Nat.le_trans e.le g) (Nat.lt_of_lt_of_le i f.le)).trans (j s g i),e.ok h.ok⟩
theorem uO {z:ab}{t:Nat}: ∀(ps:List Pc) (a:ab) (x:Int->Int),ps≠[]->(∀p∈ps,p.fit)->uB x->a.at_ (a.chain t ps) z->fy z.ins (jh ps x) ((a.L.length:Int),x)=some (z.S.getD t 0,kW ps x)
 |[],_,_,h,_,_,_=>absurd rfl h
 |[p],a,x,_,f,i,h=>fe (D0 (f p (by simp)) h x i) (by simp[jh]) rfl
 |p::q::ps,a,x,_,f,i,h=>by
  have e1:=a.rm.trans (ab.yv a.new a.S.length p)
  have e2:=ab.oR t (q::ps) ((a.new.piece a.S.length p).here a.S.length)
  have p2:(a.new.piece a.S.length p).pre (a.chain t (p::q::ps)):=(ab.ny _ _).trans e2.topre
  have j:a.new.S.length=a.S.length+1:=by simp[ab.new]
  have b:a.S.length<(a.new.piece a.S.length p).S.length:=Nat.lt_of_lt_of_le (by omega) (ab.yv a.new a.S.length p).le
  have g:a.S.length<((a.new.piece a.S.length p).here a.S.length).S.length:=by simpa[ab.here]using b
  have e:z.S.getD a.S.length 0=((a.new.piece a.S.length p).L.length:Int):=by
   refine qk ((h.S a.S.length (Nat.le_refl _) (Nat.lt_of_lt_of_le b p2.le)).trans ((e2.S _ g).trans ?_))
   simp[ab.here,b]
  have k:=D0 (f p (by simp)) (h.sub (c:=a.new) (d:=a.new.piece a.S.length p) a.rm.topre p2 λs n l=>by
   refine(e2.S s (by simpa[ab.here]using l)).trans ?_
   show(List.set _ _ _)[s]?=_
   rw[List.getElem?_set_ne (by omega)]) x i
  have m:=uO (t:=t) (q::ps) ((a.new.piece a.S.length p).here a.S.length) (p.run x) (by simp) (λr hr=>f r (by simp[hr])) (i.run (f p (by simp)))
   (h.sub (e1.here (Nat.le_refl _)).topre (ab.pre.refl _) λ_ _ _=>rfl)
  rw[e]at k
  exact fe (jz k m) rfl rfl
theorem ab.Ay (f:Int): ∀(n:Nat) (a:ab),(a.eJ f n).L.length=a.L.length+n
 |0,_=>rfl
 |n+1,a=>by
  rw[ab.eJ,ab.Ay f n]
  simp[ab.emit,ab.new];omega
theorem ab.AN (f:Int): ∀(n:Nat) (a:ab),(a.eJ f n).S.length=a.S.length+n
 |0,_=>rfl
 |n+1,a=>by
  rw[ab.eJ,ab.AN f n]
  simp[ab.emit,ab.new];omega
theorem BU {z:ab}(f:Int): ∀(n:Nat) (a:ab) (x:Int->Int) (v:Nat),(a.eJ f n).pre z->a.Ps.length=a.L.length->x f=v->v<n->
  fy z.ins (v+1) ((a.L.length:Int),x)=some (z.S.getD (a.S.length+v) 0,gz x f 0)
 |0,_,_,_,_,_,_,h=>by omega
 |n+1,a,x,v,h,ok,b,g=>by
  have d:(a.new.emit 1 f none (some a.S.length)).pre z:=(ab.qh f n _).topre.trans h
  have i1:=ab.tH d ok
  cases v with
  |zero=>
   refine fe (qw (FR (x:=x) i1 rfl (by simpa using b))) rfl ?_
   refine Prod.ext rfl (funext λi=>?_)
   by_cases hi:i=f
   ·subst hi;simp[gz,b]
   ·simp[gz,hi]
  |succ v=>
   have e:=qw (Bx (x:=x) i1 rfl (by show 0<x f;omega))
   have c:=BU f n _ (gz x f (x f-1)) v h (by simp[ab.emit,ab.new,ok]) (by rw[vM];omega) (by omega)
   have hl:(((a.new.emit 1 f none (some a.S.length))).L.length:Int)=(a.L.length:Int)+1:=by simp[ab.emit,ab.new]
   rw[hl]at c
   refine fe (jz e c) (by omega) ?_
   refine Prod.ext ?_ (funext λi=>?_)
   ·show z.S.getD _ 0=z.S.getD _ 0
    congr 1
    simp[ab.emit,ab.new];omega
   ·by_cases hi:i=f
    ·subst hi;simp[gz]
    ·simp[gz,hi]
theorem xV {z:ab}(f:Int): ∀(n:Nat) (a:ab) (x:Int->Int),(a.eJ f n).pre z->a.Ps.length=a.L.length->(n:Int)<=x f->
  fy z.ins n ((a.L.length:Int),x)=some (((a.L.length+n:Nat):Int),gz x f (x f-n))
 |0,a,x,_,_,_=>by
  simp only[fy,Option.some.injEq,Prod.mk.injEq]
  refine⟨by simp,funext λi=>?_⟩
  by_cases hi:i=f<;>simp[gz,hi]
 |n+1,a,x,h,ok,g=>by
  have d:(a.new.emit 1 f none (some a.S.length)).pre z:=(ab.qh f n _).topre.trans h
  have i1:=ab.tH d ok
  have e:=qw (Bx (x:=x) i1 rfl (by show 0<x f;omega))
  have c:=xV f n _ (gz x f (x f-1)) h (by simp[ab.emit,ab.new,ok]) (by rw[vM];omega)
  have hl:(((a.new.emit 1 f none (some a.S.length))).L.length:Int)=(a.L.length:Int)+1:=by simp[ab.emit,ab.new]
  have b:((a.new.emit 1 f none (some a.S.length))).L.length=a.L.length+1:=by simp[ab.emit,ab.new]
  rw[hl]at c
  refine fe (jz e c) (by omega) ?_
  refine Prod.ext ?_ (funext λi=>?_)
  ·show((_:Nat):Int)=_
   rw[b];omega
  ·by_cases hi:i=f
   ·subst hi;simp[gz];omega
   ·simp[gz,hi]
def ab.head (a:ab)(f t:Int)(n:Nat): ab:=((a.new.here a.S.length).eJ f n).emit 0 t (some a.S.length) none
theorem ab.Nn (a:ab)(f t:Int)(n:Nat): a.ext (a.head f t n):=(((a.rm.here (Nat.le_refl _)).trans (ab.qh f n _)).trans (ab.lN _ 0 t (some a.S.length) none))
theorem Fs {a z:ab}{f t:Int}{n:Nat}(g:f≠t)(h:(a.head f t n).pre z)(hs:z.S.getD a.S.length 0=(a.L.length:Int))(ok:a.Ps.length=a.L.length)(v:Nat)(o:v<n): ∀(k:Nat) (x:Int->Int),x f=n*k+v->
  fy z.ins ((n+1)*k+v+1) ((a.L.length:Int),x)=some (z.S.getD (a.S.length+1+v) 0,gz (gz x t (x t+k)) f 0):=by
 have e1:(((a.new.here a.S.length).eJ f n).emit 0 t (some a.S.length) none).pre z:=h
 have e2:=(ab.lN _ 0 t (some a.S.length) none).topre.trans e1
 have b:(a.new.here a.S.length).Ps.length=(a.new.here a.S.length).L.length:=ok
 have i2:=ab.tH e1 ((ab.qh f n _).ok b)
 rw[ab.Ay]at i2
 have c:(a.new.here a.S.length).L.length=a.L.length:=rfl
 have j:(a.new.here a.S.length).S.length=a.S.length+1:=by simp[ab.here,ab.new]
 rw[c]at i2
 intro k
 induction k with
 |zero=>
  intro x e
  have q:=BU f n _ x v e2 b (by simpa using e) o
  rw[j]at q
  refine fe q (by simp) ?_
  refine Prod.ext rfl (funext λi=>?_)
  by_cases hi:i=f
  ·subst hi;simp[gz]
  ·by_cases d:i=t
   ·subst d;simp[gz,hi]
   ·simp[gz,hi,d]
 |succ k p=>
  intro x e
  have hm:(n:Int)*((k+1:Nat):Int)=n*k+n:=by rw[Int.natCast_add,Int.mul_add];simp
  have r:(0:Int)<=n*k:=Int.mul_nonneg (by omega) (by omega)
  have l:=xV f n _ x e2 b (by rw[e,hm];omega)
  have m:=qw (yi (x:=gz x f (x f-n)) i2 rfl)
  simp only[hs]at m
  rw[c]at l
  have s:=p (gz (gz x f (x f-n)) t (gz x f (x f-n) t+1)) (by rw[BN g,vM,e,hm];omega)
  refine fe (jz (jz l m) s) ?_ ?_
  ·rw[Nat.mul_add];omega
  ·refine Prod.ext rfl (funext λi=>?_)
   by_cases hi:i=f
   ·subst hi;simp[gz]
   ·by_cases d:i=t
    ·subst d;simp[gz,hi];omega
    ·simp[gz,hi,d]
theorem E4 {a z:ab}{f t:Int}{c0 c1:ab->ab}(d:f≠t)(g:∀b:ab,b.ext (c0 b))(c:∀b:ab,b.ext (c1 b))(h:a.at_ (a.split f t [c0,c1]) z):
  ∃i b1:ab,i.at_ (c0 i) z/\b1.at_ (c1 b1) z/\a.ext i/\a.ext b1/\∀(k:Nat) (x:Int->Int),
   (x f=2*k->fy z.ins (3*k+1) ((a.L.length:Int),x)=some ((i.L.length:Int),gz (gz x t (x t+k)) f 0))/\
   (x f=2*k+1->fy z.ins (3*k+2) ((a.L.length:Int),x)=some ((b1.L.length:Int),gz (gz x t (x t+k)) f 0)):=by
 have j:(a.head f t 2).S.length=a.S.length+3:=by
  show((a.new.here a.S.length).eJ f 2).S.length=_
  rw[ab.AN]
  simp[ab.here,ab.new]
 have w:a.split f t [c0,c1]=c1 ((c0 ((a.head f t 2).here (a.S.length+1))).here (a.S.length+1+1)):=rfl
 rw[w]at h
 have l:a.ext ((a.head f t 2).here (a.S.length+1)):=(a.Nn f t 2).here (by omega)
 have m:a.ext (c0 ((a.head f t 2).here (a.S.length+1))):=l.trans (g _)
 have r:a.ext ((c0 ((a.head f t 2).here (a.S.length+1))).here (a.S.length+1+1)):=m.here (by omega)
 have D:((a.head f t 2).here (a.S.length+1)).S.length=a.S.length+3:=by simpa[ab.here]using j
 have y:=(g ((a.head f t 2).here (a.S.length+1))).le
 have E:((c0 ((a.head f t 2).here (a.S.length+1))).here (a.S.length+1+1)).S.length=(c0 ((a.head f t 2).here (a.S.length+1))).S.length:=by simp[ab.here]
 have A:=(c ((c0 ((a.head f t 2).here (a.S.length+1))).here (a.S.length+1+1))).le
 have B:∀s,s<a.S.length+3->s≠a.S.length+2->s≠a.S.length+1->a.S.length<=s->z.S[s]?=(a.head f t 2).S[s]?:=by
  intro s F G H C
  rw[h.S s C (by omega),(c _).S s (by omega)]
  show(List.set _ _ _)[s]?=_
  rw[List.getElem?_set_ne (by omega),(g _).S s (by omega)]
  show(List.set _ _ _)[s]?=_
  rw[List.getElem?_set_ne (by omega)]
 have n:z.S.getD (a.S.length+1) 0=(((a.head f t 2).here (a.S.length+1)).L.length:Int):=by
  refine qk ?_
  rw[h.S _ (by omega) (by omega),(c _).S _ (by omega)]
  show(List.set _ _ _)[a.S.length+1]?=_
  rw[List.getElem?_set_ne (by omega),(g _).S _ (by omega)]
  show(List.set _ _ _)[a.S.length+1]?=_
  rw[List.getElem?_set_self (by omega)]
  rfl
 have o:z.S.getD (a.S.length+1+1) 0=(((c0 ((a.head f t 2).here (a.S.length+1))).here (a.S.length+1+1)).L.length:Int):=by
  refine qk ?_
  rw[h.S _ (by omega) (by omega),(c _).S _ (by omega)]
  show(List.set _ _ _)[a.S.length+1+1]?=_
  rw[List.getElem?_set_self (by omega)]
  rfl
 have u:z.S.getD a.S.length 0=(a.L.length:Int):=by
  refine qk ((B _ (by omega) (by omega) (by omega) (Nat.le_refl _)).trans ?_)
  have e:=((ab.qh f 2 (a.new.here a.S.length)).trans (ab.lN _ 0 t (some a.S.length) none)).S a.S.length (by simp[ab.here,ab.new])
  refine e.trans ?_
  simp[ab.here,ab.new]
 have v:(a.head f t 2).pre z:=((ab.ny _ _).trans ((g _).topre.trans ((ab.ny _ _).trans (c _).topre))).trans h.pre
 refine⟨_,_,h.sub l.topre ((ab.ny _ _).trans (c _).topre) λs I J=>?_,h.sub r.topre (ab.pre.refl _) λ_ _ _=>rfl,l,r,λk x=>⟨λp=>?_,λp=>?_⟩⟩
 ·rw[(c _).S s (by omega)]
  show(List.set _ _ _)[s]?=_
  rw[List.getElem?_set_ne (by omega)]
 ·have q:=Fs d v u h.ok 0 (by omega) k x (by simpa using p)
  rw[Nat.add_zero,Nat.add_zero,n]at q
  exact q
 ·have q:=Fs d v u h.ok 1 (by omega) k x (by simpa using p)
  rw[o]at q
  exact q
theorem rn:∀(ps a:List Pc) (x:Int->Int),kW (ps++a) x=kW a (kW ps x)
 |[],_,_=>rfl
 |_::ps,a,_=>rn ps a _
theorem p6:∀(ps a:List Pc) (x:Int->Int),jh (ps++a) x=jh ps x+jh a (kW ps x)
 |[],_,_=>by simp[jh,kW]
 |p::ps,a,x=>by simp[jh,kW,p6 ps a,Nat.add_assoc]
theorem GS (r:Int): ∀(n:Nat) (x:Int->Int),kW (List.replicate n (.inc r)) x=gz x r (x r+n)/\jh (List.replicate n (.inc r)) x=n
 |0,x=>⟨funext λi=>by by_cases hi:i=r<;>simp[kW,gz,hi],rfl⟩
 |n+1,x=>by
  obtain⟨a,b⟩:=GS r n (gz x r (x r+1))
  refine⟨?_,?_⟩
  ·rw[List.replicate_succ,kW]
   refine a.trans (funext λi=>?_)
   by_cases hi:i=r
   ·subst hi;simp[gz];omega
   ·simp[gz,hi]
  ·rw[List.replicate_succ,jh]
   show 1+jh _ (gz x r (x r+1))=_
   omega
def fv (l r t:Int): Int->Int:=λi=>if i=0 then l else if i=1 then r else if i=2 then t else 0
theorem yr {l r t:Int}(a:0<=l)(b:0<=r)(c:0<=t): uB (fv l r t):=λi=>by
 unfold fv
 split
 ·exact a
 ·split
  ·exact b
  ·split<;>omega
theorem yO (l r t v:Int): gz (fv l r t) 0 v=fv v r t:=funext λi=>by unfold gz fv;split<;>simp_all
theorem wh (l r t v:Int): gz (fv l r t) 1 v=fv l v t:=funext λi=>by
 unfold gz fv
 by_cases h:i=1
 ·subst h;simp
 ·simp[h]
theorem rF (l r t v:Int): gz (fv l r t) 2 v=fv l r v:=funext λi=>by
 unfold gz fv
 by_cases h:i=2
 ·subst h;simp
 ·simp[h]
theorem EA (l r t:Int): fv l r t 0=l:=rfl
theorem Cn (l r t:Int): fv l r t 1=r:=rfl
theorem wB (l r t:Int): fv l r t 2=t:=rfl
theorem AE {r k:Int}: ∀p∈ju r k,p.fit:=λp a=>by
 have:=List.eq_of_mem_replicate a
 subst this
 trivial
theorem qe (r k:Int)(a:0<=k)(x:Int->Int): kW (ju r k) x=gz x r (x r+k)/\jh (ju r k) x=k.toNat:=by
 have h:=GS r k.toNat x
 rw[show((k.toNat:Nat):Int)=k by omega]at h
 exact h
theorem ab.zD (a:ab)(s:Int)(t:Nat): a.ext (a.mI s t):=ab.FE a 0 2 _ λc d b=>by
 simp only[List.mem_cons,List.not_mem_nil,or_false]at d
 rcases d with rfl|rfl<;>exact ab.oR t _ b
theorem ab.wa (r:ai)(b s v:Int)(a:ab): a.ext (cJ r b s v a):=by
 unfold cJ
 split
 ·exact ab.oR _ _ a
 ·split
  ·exact ab.oR _ _ a
  ·exact((a.rm.trans (ab.oR _ _ _)).here (Nat.le_refl _)).trans (ab.zD _ _ _)
theorem ab.CJ (a:ab)(d s:Int)(r0 r1:ai): a.ext (a.ka d s r0 r1):=ab.FE a 1 2 _ λc e b=>by
 simp only[List.mem_cons,List.not_mem_nil,or_false]at e
 rcases e with rfl|rfl<;>exact ab.wa _ _ _ _ b
theorem yV {a z:ab}{t:Nat}{x:Int}(d:0<=x)(h:a.at_ (kd 2 t x a) z)(j n:Nat):
  fy z.ins (2*j+1+(3*n+1)+(4*n+1)+x.toNat) ((a.L.length:Int),fv 0 n j)=some (z.S.getD t 0,fv j (2*n+x) 0):=by
 have c:=uO _ a (fv 0 n j) (by simp) (λp b=>by
  simp only[List.cons_append,List.nil_append,List.mem_cons]at b
  rcases b with rfl|rfl|rfl|b
  ·exact⟨by omega,by omega⟩
  ·exact⟨by omega,by omega⟩
  ·exact⟨by omega,by omega⟩
  ·exact AE p b) (yr (by omega) (by omega) (by omega)) h
 rw[p6,rn,(qe 1 x d _).1,(qe 1 x d _).2]at c
 simp only[kW,jh,Pc.run,Pc.cost,EA,Cn,wB,yO,wh,rF]at c
 refine fe c ?_ ?_
 ·have:(0+2*(n:Int)).toNat=2*n:=by omega
  simp only[this,Int.toNat_natCast,show(1:Int).toNat=1 from rfl,show(2:Int).toNat=2 from rfl]
  omega
 ·refine Prod.ext rfl ?_
  show fv _ _ _=fv _ _ _
  congr 1<;>omega
theorem Es {a z:ab}{t:Nat}(h:a.at_ (a.mI 2 t) z)(j x n:Nat)(g:x<2):
  fy z.ins (3*j+x+1+(2*j+1+(3*n+1)+(4*n+1)+x)) ((a.L.length:Int),fv ((2*j+x:Nat):Int) n 0)=some (z.S.getD t 0,fv j (2*n+x) 0):=by
 obtain⟨i,b1,a0,f,_,_,hr⟩:=E4 (by omega) (λb=>ab.oR t _ b) (λb=>ab.oR t _ b) h
 have d:x=0\/x=1:=by omega
 rcases d with rfl|rfl
 ·have c:=(hr j (fv ((2*j+0:Nat):Int) n 0)).1 (by rw[EA];omega)
  rw[rF,yO,wB]at c
  have e:=yV (Int.le_refl 0) a0 j n
  rw[show(0:Int)+(j:Int)=j by omega]at c
  exact fe (jz c e) (by omega) rfl
 ·have c:=(hr j (fv ((2*j+1:Nat):Int) n 0)).2 (by rw[EA];omega)
  rw[rF,yO,wB]at c
  have e:=yV (x:=1) (by omega) f j n
  rw[show(0:Int)+(j:Int)=j by omega]at c
  exact fe (jz c e) (by omega) rfl
theorem J1 {a z:ab}{b v:Int}{q:Nat}(hq:b=q)(e:0<=v)(h:a.at_ (cJ ⟨0,0,-1⟩ b 2 v a) z)(l k:Nat):
  ∃x,fy z.ins (3*k+1+v.toNat) ((a.L.length:Int),fv l 0 k)=some (z.S.getD q 0,x):=by
 subst hq
 have f:a.at_ (a.chain q ([.loop 2 1 2]++ju 1 v)) z:=h
 have d:=uO _ a (fv l 0 k) (by simp) (λp c=>by
  simp only[List.cons_append,List.nil_append,List.mem_cons]at c
  rcases c with rfl|c
  ·exact⟨by omega,by omega⟩
  ·exact AE p c) (yr (by omega) (by omega) (by omega)) f
 rw[p6,rn,(qe 1 v e _).1,(qe 1 v e _).2]at d
 simp only[jh,Pc.cost,wB]at d
 refine⟨_,fe d ?_ rfl⟩
 simp only[Int.toNat_natCast,show(2:Int).toNat=2 from rfl]
theorem I0 {a z:ab}{b v w nx:Int}{q:Nat}(hq:nx=q)(hw:0<=w)(h:a.at_ (cJ ⟨w,1,nx⟩ b 2 v a) z)(l k:Nat):
  fy z.ins (2*k+1+(3*l+1)+(4*l+1)+w.toNat) ((a.L.length:Int),fv l 0 k)=some (z.S.getD q 0,fv (2*l+w) k 0):=by
 subst hq
 have f:a.at_ (a.chain q ([.loop 2 1 1,.loop 0 2 2,.loop 2 0 1]++ju 0 w)) z:=by
  unfold cJ at h
  rw[if_neg (by intro e;injection e with _ e2 _;omega),if_pos rfl]at h
  exact h
 have d:=uO _ a (fv l 0 k) (by simp) (λp c=>by
  simp only[List.cons_append,List.nil_append,List.mem_cons]at c
  rcases c with rfl|rfl|rfl|c
  ·exact⟨by omega,by omega⟩
  ·exact⟨by omega,by omega⟩
  ·exact⟨by omega,by omega⟩
  ·exact AE p c) (yr (by omega) (by omega) (by omega)) f
 rw[p6,rn,(qe 0 w hw _).1,(qe 0 w hw _).2]at d
 simp only[kW,jh,Pc.run,Pc.cost,EA,Cn,wB,yO,wh,rF]at d
 refine fe d ?_ ?_
 ·have:(0+2*(l:Int)).toNat=2*l:=by omega
  simp only[this,Int.toNat_natCast,show(1:Int).toNat=1 from rfl,show(2:Int).toNat=2 from rfl]
  omega
 ·refine Prod.ext rfl ?_
  show fv _ _ _=fv _ _ _
  congr 1<;>omega
theorem Km {a z:ab}{b v w nx:Int}{q:Nat}(hq:nx=q)(hw:0<=w)(h:a.at_ (cJ ⟨w,-1,nx⟩ b 2 v a) z)(j x k n:Nat)(m:x<2)(u:(n:Int)=2*k+w):
  fy z.ins (3*k+1+w.toNat+(3*j+x+1+(2*j+1+(3*n+1)+(4*n+1)+x))) ((a.L.length:Int),fv ((2*j+x:Nat):Int) 0 k)=some (z.S.getD q 0,fv j (2*n+x) 0):=by
 subst hq
 have g:a.at_ (((a.new.chain a.S.length ([.loop 2 1 2]++ju 1 w)).here a.S.length).mI 2 q) z:=by
  unfold cJ at h
  rw[if_neg (by intro e;injection e with _ e2 _;omega),if_neg (by show ¬(-1:Int)=1;omega)]at h
  exact h
 have e1:=ab.oR a.S.length ([.loop 2 1 2]++ju 1 w) a.new
 have e2:=ab.zD ((a.new.chain a.S.length ([.loop 2 1 2]++ju 1 w)).here a.S.length) 2 q
 have o:a.new.S.length=a.S.length+1:=by simp[ab.new]
 have i:a.S.length<(a.new.chain a.S.length ([.loop 2 1 2]++ju 1 w)).S.length:=by have:=e1.le;omega
 have l:((a.new.chain a.S.length ([.loop 2 1 2]++ju 1 w)).here a.S.length).S.length=(a.new.chain a.S.length ([.loop 2 1 2]++ju 1 w)).S.length:=by simp[ab.here]
 have c:z.S.getD a.S.length 0=((a.new.chain a.S.length ([.loop 2 1 2]++ju 1 w)).L.length:Int):=by
  refine qk ?_
  rw[g.S _ (Nat.le_refl _) (by have:=e2.le;omega),e2.S _ (by omega)]
  show(List.set _ _ _)[a.S.length]?=_
  rw[List.getElem?_set_self i]
 have r:a.new.at_ (a.new.chain a.S.length ([.loop 2 1 2]++ju 1 w)) z:=g.sub a.rm.topre ((ab.ny _ _).trans e2.topre) λs y A=>by
  rw[e2.S s (by omega)]
  show(List.set _ _ _)[s]?=_
  rw[List.getElem?_set_ne (by omega)]
 have d:=uO _ a.new (fv ((2*j+x:Nat):Int) 0 k) (by simp) (λp f=>by
  simp only[List.cons_append,List.nil_append,List.mem_cons]at f
  rcases f with rfl|f
  ·exact⟨by omega,by omega⟩
  ·exact AE p f) (yr (by omega) (by omega) (by omega)) r
 rw[p6,rn,(qe 1 w hw _).1,(qe 1 w hw _).2,c]at d
 simp only[kW,jh,Pc.run,Pc.cost,Cn,wB,wh,rF]at d
 have t:((a.new.chain a.S.length ([.loop 2 1 2]++ju 1 w)).here a.S.length).at_ (((a.new.chain a.S.length ([.loop 2 1 2]++ju 1 w)).here a.S.length).mI 2 q) z:=
  g.sub (a.rm.topre.trans (e1.topre.trans (ab.ny _ _))) (ab.pre.refl _) λ_ _ _=>rfl
 have hd:=Es t j x n m
 have hr:(0+2*(k:Int)+w)=(n:Int):=by omega
 rw[hr]at d
 refine fe (jz d hd) ?_ rfl
 simp only[Int.toNat_natCast,show(2:Int).toNat=2 from rfl]
inductive Rl where
 |no
 |right (w nx:Nat)
 |left (w nx:Nat)
def Rl.im:Rl->ai
 |.no=>⟨0,0,-1⟩
 |.right w nx=>⟨w,1,nx⟩
 |.left w nx=>⟨w,-1,nx⟩
def Rl.cost:Rl->Nat->Nat->Nat->Nat
 |.no,v,_,k=>3*k+1+v
 |.right w _,_,l,k=>2*k+1+(3*l+1)+(4*l+1)+w
 |.left w _,_,l,k=>3*k+1+w+(3*(l / 2)+l%2+1+(2*(l / 2)+1+(3*(2*k+w)+1)+(4*(2*k+w)+1)+l%2))
theorem KT {a z:ab}{c:Int}{q:Nat}(hq:c=q){R0 d:Rl}(h:a.at_ (a.ka c 2 R0.im d.im) z)(l k v:Nat)(p:v<2):
  ∃x,fy z.ins (3*k+v+1+(if v=0 then R0 else d).cost v l k) ((a.L.length:Int),fv l ((2*k+v:Nat):Int) 0)=some x/\
   (match (if v=0 then R0 else d)with
   |.no=>x.1=z.S.getD q 0
   |.right w nx=>x=(z.S.getD nx 0,fv ((2*l+w:Nat):Int) k 0)
   |.left w nx=>x=(z.S.getD nx 0,fv ((l / 2:Nat):Int) ((2*(2*k+w)+l%2:Nat):Int) 0)):=by
 obtain⟨n,b1,a0,o,_,_,hr⟩:=E4 (by omega) (λb=>ab.wa R0.im c 2 0 b) (λb=>ab.wa d.im c 2 1 b) h
 have go:∀(b:ab) (R:Rl) (g:Nat),b.at_ (cJ R.im c 2 g b) z->∃x,fy z.ins (R.cost g l k) ((b.L.length:Int),fv l 0 k)=some x/\
   (match R with
   |.no=>x.1=z.S.getD q 0
   |.right w nx=>x=(z.S.getD nx 0,fv ((2*l+w:Nat):Int) k 0)
   |.left w nx=>x=(z.S.getD nx 0,fv ((l / 2:Nat):Int) ((2*(2*k+w)+l%2:Nat):Int) 0)):=by
  intro b R g i
  cases R with
  |no=>
   obtain⟨x,e⟩:=J1 hq (by omega) i l k
   exact⟨_,fe e (by simp[Rl.cost]) rfl,rfl⟩
  |right w nx=>
   refine⟨_,fe (I0 (q:=nx) rfl (by omega) i l k) (by simp[Rl.cost]) rfl,?_⟩
   refine Prod.ext rfl ?_
   show fv _ _ _=fv _ _ _
   congr 1
  |left w nx=>
   have m:=Km (q:=nx) rfl (by omega) i (l / 2) (l%2) k (2*k+w) (by omega) (by omega)
   rw[show 2*(l / 2)+l%2=l by omega]at m
   refine⟨_,fe m (by simp[Rl.cost]) rfl,?_⟩
   refine Prod.ext rfl ?_
   show fv _ _ _=fv _ _ _
   congr 1
 have j:v=0\/v=1:=by omega
 rcases j with rfl|rfl
 ·obtain⟨x,e,hm⟩:=go n R0 0 a0
  have f:=(hr k (fv l ((2*k+0:Nat):Int) 0)).1 (by rw[Cn];omega)
  rw[rF,wh,wB,show(0:Int)+(k:Int)=k by omega]at f
  exact⟨x,fe (jz f e) (by simp) rfl,by simpa using hm⟩
 ·obtain⟨x,e,hm⟩:=go b1 d 1 o
  have f:=(hr k (fv l ((2*k+1:Nat):Int) 0)).2 (by rw[Cn];omega)
  rw[rF,wh,wB,show(0:Int)+(k:Int)=k by omega]at f
  exact⟨x,fe (jz f e) (by simp) rfl,by simpa using hm⟩
theorem yb (S:List Int): ∀(Q:List (Nat×Option Nat×Option Nat)) (i:Nat) (L:List bX),(∀j p,Q[j]?=some p->p.1=i+j)->i+Q.length=L.length->
  (Q.foldl (patch S) L).length=L.length/\∀k,(Q.foldl (patch S) L)[k]?=if k<i then L[k]? else (L[k]?).bind λx=>(Q[k-i]?).map λp=>⟨x.Kind,x.cd,(match p.2.1 with|some t=>S.getD t 0|none=>x.qa),(match p.2.2 with|some t=>S.getD t 0|none=>x.uQ)⟩
 |[],i,L,_,hl=>⟨rfl,λk=>by
  simp only[List.foldl_nil,List.length_nil,Nat.add_zero]at hl ⊢
  split
  ·rfl
  ·rw[List.getElem?_eq_none (by omega)]
   rfl⟩
 |p::Q,i,L,d,hl=>by
  have b:p.1=i:=by simpa using d 0 p rfl
  have hlen:(patch S L p).length=L.length:=by simp[patch]
  obtain⟨f,g⟩:=yb S Q (i+1) (patch S L p) (λj r hr=>by
   have:=d (j+1) r (by simpa using hr)
   omega) (by rw[hlen];simp at hl;omega)
  refine⟨by rw[List.foldl_cons,f,hlen],λk=>?_⟩
  rw[List.foldl_cons,g k]
  by_cases e:k<i
  ·rw[if_pos (by omega),if_pos e]
   simp only[patch,List.getElem?_modify,b]
   have a:¬i=k:=by omega
   cases L[k]?<;>simp[a]
  ·rw[if_neg e]
   by_cases c:k=i
   ·subst c
    rw[if_pos (by omega)]
    simp only[patch,List.getElem?_modify,b,if_true,Nat.sub_self,List.getElem?_cons_zero,Option.map_some]
    cases L[k]?<;>rfl
   ·rw[if_neg (by omega)]
    have e1:(patch S L p)[k]?=L[k]?:=by
     simp only[patch,List.getElem?_modify,b]
     have a:¬i=k:=by omega
     cases L[k]?<;>simp[a]
    have e2:(p::Q)[k-i]?=Q[k-(i+1)]?:=by
     rw[show k-i=(k-(i+1))+1 by omega]
     rfl
    rw[e1,e2]
structure ab.num (a:ab): Prop where
 len:a.Ps.length=a.L.length
 at_:∀(j:Nat) (p:Nat×Option Nat×Option Nat),a.Ps[j]?=some p->p.1=j
theorem ab.num.emit {a:ab}(h:a.num)(kind c:Int)(th el:Option Nat): (a.emit kind c th el).num:=⟨by simp[ab.emit,h.len],λj p b=>by
 simp only[ab.emit]at b
 by_cases d:j<a.Ps.length
 ·rw[List.getElem?_append_left d]at b
  exact h.at_ j p b
 ·rw[List.getElem?_append_right (by omega)]at b
  have:j-a.Ps.length=0:=by
   have:=(List.getElem?_eq_some_iff.1 b).1
   simp at this;omega
  rw[this]at b
  simp only[List.getElem?_cons_zero,Option.some.injEq]at b
  subst b
  show a.L.length=j
  have:=h.len
  omega⟩
theorem ab.num.new {a:ab}(h:a.num): a.new.num:=⟨h.len,h.at_⟩
theorem ab.num.here {a:ab}(h:a.num)(s:Nat): (a.here s).num:=⟨h.len,h.at_⟩
theorem ab.num.j7 (b:Int): ∀(n:Nat) {a:ab},a.num->(a.j7 b n).num
 |0,_,h=>h
 |n+1,_,h=>ab.num.j7 b n (h.emit 0 b none none)
theorem ab.num.piece {a:ab}(h:a.num)(e:Nat): ∀p:Pc,(a.piece e p).num
 |.loop f t k=>(ab.num.j7 t (k.toNat-1) ((h.new.here _).emit 1 f none (some e))).emit 0 t (some a.S.length) none
 |.inc r=>h.emit 0 r (some e) none
theorem ab.num.chain (t:Nat): ∀(ps:List Pc) {a:ab},a.num->(a.chain t ps).num
 |[],_,h=>h
 |[p],_,h=>h.piece t p
 |p::q::ps,a,h=>ab.num.chain t (q::ps) ((h.new.piece a.S.length p).here a.S.length)
theorem ab.num.eJ (f:Int): ∀(n:Nat) {a:ab},a.num->(a.eJ f n).num
 |0,_,h=>h
 |n+1,a,h=>ab.num.eJ f n (h.new.emit 1 f none (some a.S.length))
theorem ab.num.qE:∀(cs:List (ab->ab)) (at_:Nat) {a:ab},a.num->(∀c∈cs,∀b:ab,b.num->(c b).num)->(a.qE at_ cs).num
 |[],_,_,h,_=>h
 |c::cs,at_,_,h,e=>ab.num.qE cs (at_+1) (e c (by simp) _ (h.here at_)) λd hd=>e d (by simp[hd])
theorem ab.num.split {a:ab}(h:a.num)(f t:Int)(cs:List (ab->ab))(d:∀c∈cs,∀b:ab,b.num->(c b).num): (a.split f t cs).num:=
 ab.num.qE cs _ ((ab.num.eJ f cs.length (h.new.here a.S.length)).emit 0 t (some a.S.length) none) d
theorem ab.num.ka {a:ab}(h:a.num)(e s:Int)(r0 r1:ai): (a.ka e s r0 r1).num:=by
 have hl:∀(b:ab) (s:Int) (t:Nat),b.num->(b.mI s t).num:=λb s t f=>f.split 0 2 _ λc g d hd=>by
  simp only[List.mem_cons,List.not_mem_nil,or_false]at g
  rcases g with rfl|rfl<;>exact ab.num.chain t _ hd
 have hm:∀(r:ai) (v:Int) (b:ab),b.num->(cJ r e s v b).num:=λr v b f=>by
  unfold cJ
  split
  ·exact ab.num.chain _ _ f
  ·split
   ·exact ab.num.chain _ _ f
   ·exact hl _ _ _ ((ab.num.chain _ _ f.new).here _)
 exact h.split 1 2 _ λc g d hd=>by
  simp only[List.mem_cons,List.not_mem_nil,or_false]at g
  rcases g with rfl|rfl<;>exact hm _ _ d hd
theorem ab.NM {z:ab}(h:z.num)(k:Nat): z.fin[k]?=z.ins k:=by
 have:=(yb z.S z.Ps 0 z.L (λj p a=>by simpa using h.at_ j p a) (by simpa using h.len)).2 k
 rw[if_neg (by omega),Nat.sub_zero]at this
 exact this
theorem ab.JE {z:ab}(h:z.num): z.fin.length=z.L.length:=(yb z.S z.Ps 0 z.L (λj p a=>by simpa using h.at_ j p a) (by simpa using h.len)).1
theorem M1 {R0 a:Rl}{z:ab}(b:z=(((ab.mk [] [] [0,0]).here 0).ka 1 2 R0.im a.im).here 1):
  z.num/\z.S.getD 0 0=0/\z.S.getD 1 0=(z.L.length:Int)/\((ab.mk [] [] [0,0]).here 0).at_ (((ab.mk [] [] [0,0]).here 0).ka 1 2 R0.im a.im) z:=by
 subst b
 have e:=ab.CJ ((ab.mk [] [] [0,0]).here 0) 1 2 R0.im a.im
 have c:(ab.mk [] [] [0,0]).num:=⟨rfl,λj p d=>by simp at d⟩
 have hl:2<=(((ab.mk [] [] [0,0]).here 0).ka 1 2 R0.im a.im).S.length:=e.le
 refine⟨((c.here 0).ka 1 2 _ _).here 1,?_,?_,ab.ny _ _,λs f h=>?_,rfl⟩
 ·refine qk ?_
  show(List.set _ _ _)[0]?=_
  rw[List.getElem?_set_ne (by omega),e.S 0 (by simp[ab.here])]
  rfl
 ·refine qk ?_
  show(List.set _ _ _)[1]?=_
  rw[List.getElem?_set_self (by omega)]
  rfl
 ·have g:2<=s:=f
  show(List.set _ _ _)[s]?=_
  rw[List.getElem?_set_ne (by omega)]
theorem Ol {a0 c b d z:ab}(e:a0.ext c)(g:b=c.here 1)(e2:b.ext d)(n:z=d.here 2)(m:a0.S=[0,0,0])(h:a0.Ps.length=a0.L.length):
  z.S.getD 0 0=0/\z.S.getD 1 0=(b.L.length:Int)/\z.S.getD 2 0=(z.L.length:Int)/\a0.at_ c z/\b.at_ d z:=by
 subst n
 have i:a0.S.length=3:=by rw[m];rfl
 have hl:3<=c.S.length:=i▸e.le
 have o:b.S.length=c.S.length:=by rw[g];simp[ab.here]
 have f:b.S=c.S.set 1 (c.L.length:Int):=by rw[g];rfl
 have j:b.L=c.L:=by rw[g];rfl
 have a:(d.here 2).S=d.S.set 2 (d.L.length:Int):=rfl
 have k:b.S[0]?=some 0:=by
  rw[f,List.getElem?_set_ne (by omega),e.S 0 (by omega),m]
  rfl
 have l:b.S[1]?=some (b.L.length:Int):=by
  rw[f,List.getElem?_set_self (by omega),j]
 have p:=e2.le
 refine⟨?_,?_,?_,⟨(g▸c.ny 1:c.pre b).trans (e2.topre.trans (d.ny 2)),λs q r=>?_,h⟩,d.ny 2,λs q r=>?_,(g▸c.ny 1:c.pre b).ok (e.ok h)⟩
 ·refine qk ?_
  rw[a,List.getElem?_set_ne (by omega),e2.S 0 (by omega)]
  exact k
 ·refine qk ?_
  rw[a,List.getElem?_set_ne (by omega),e2.S 1 (by omega)]
  exact l
 ·refine qk ?_
  rw[a,List.getElem?_set_self (by omega)]
  rfl
 ·rw[a,List.getElem?_set_ne (by omega),e2.S s (by omega),f,List.getElem?_set_ne (by omega)]
 ·rw[a,List.getElem?_set_ne (by omega)]
theorem MP {R0 a c d:Rl}{z b:ab}(g:b=(((ab.mk [] [] [0,0,0]).here 0).ka 2 2 R0.im a.im).here 1)(h:z=(b.ka 2 2 c.im d.im).here 2):
  z.num/\z.S.getD 0 0=0/\z.S.getD 1 0=(b.L.length:Int)/\z.S.getD 2 0=(z.L.length:Int)/\
   ((ab.mk [] [] [0,0,0]).here 0).at_ (((ab.mk [] [] [0,0,0]).here 0).ka 2 2 R0.im a.im) z/\b.at_ (b.ka 2 2 c.im d.im) z:=by
 have i:(ab.mk [] [] [0,0,0]).num:=⟨rfl,λj p k=>by simp at k⟩
 have e:b.num:=by rw[g];exact((i.here 0).ka 2 2 _ _).here 1
 have f:z.num:=by rw[h];exact(e.ka 2 2 _ _).here 2
 exact⟨f,Ol (ab.CJ _ 2 2 R0.im a.im) g (ab.CJ b 2 2 c.im d.im) h rfl rfl⟩
end Go.Fn
