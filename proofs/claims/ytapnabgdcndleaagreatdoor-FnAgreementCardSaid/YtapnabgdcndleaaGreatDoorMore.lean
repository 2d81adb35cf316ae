/-
  Function values that read only: made, handed on, called. No condition.
  Own rows whose inner rows lie apart, told by tokens: made, appended to, stored into, frozen, handed out. No condition.
  The calculus, further: operations on rows with tokens, calls that hand out what lies apart, parts of rows handed on, calls that are walked in place. No condition.
  Functions that write marks into all numbers of a datum: their contracts, and the steps by which these are walked. No condition.
  The calculus, further: marks on data with tokens, calls walked in place, parts of rows handed on, more operations. No condition.
  The calculus, further: tokens of a part, copies, rows opened among orders, a row changed twice among orders, parts of rows handed on. No condition.
  The calculus, further: operations of a region that make memory, each apart from the others, in whatever order; calls of function values walked in place. No condition.
  The calculus, further: maps of the call's own, as lists of entries; shifts and bits; calls walked in place among orders. No condition.
  The calculus, further: ints of other kinds, texts out of bytes. No condition.
-/
import Derived.Test.YtapnabgdcndleaaGreatDoorCore
import Derived.Laws.Small
import Derived.Lib.SliceRun
import Derived.Lib.AppendZerosOnto
import Derived.Laws.CopyRow
namespace Go.Tc
open Go Go.RowKit
section
variable {R:Type}{P:Program}{n:Fr}{A:Nat->Prop}{w0 w:World}{Q:R->Exit->Act->World->Prop}{ρ ρ':Env}{Γ Γ':Ctx}{E:Option R}
variable {d:Option Nat}{ty:TypeId}{pos:String}{after:Array Edge}{g:Option (Nat×Bool)}
def Bp (P:Program)(w0:World){α S:Type}[ar α](cv:Value)(a:α->Option S)(val:S->Value): Prop:=
 ∃(f:FuncId) (caps:List Value),cv=.func (.func f) #[] caps.toArray/\(∀args w,(callFunc f args).run P w=.ok (.enter f args) w)/\
  ∀w,Below w0.heap.size w0 w->∀(v:Value) (x:α) (r:S),Rd cw w v x->a x=some r->cy P f (v::caps) cw w (λ_:Unit=>val r) (λ_=>[])
theorem Bp.mk {α S:Type}[ar α]{a:α->Option S}{val:S->Value}{f:FuncId}{caps:List Value}(b:∀args w,(callFunc f args).run P w=.ok (.enter f args) w)(h:∀w,Below w0.heap.size w0 w->∀(v:Value) (x:α) (r:S),Rd cw w v x->a x=some r->cy P f (v::caps) cw w (λ_:Unit=>val r) (λ_=>[])): Bp P w0 (.func (.func f) #[] caps.toArray) a val:=
 ⟨f,caps,rfl,b,h⟩
theorem Bp.later {α S:Type}[ar α]{cv:Value}{b:α->Option S}{val:S->Value}(h:Bp P w0 cv b val)(c:Below w0.heap.size w0 w): Bp P w cv b val:=by
 obtain⟨f,caps,e,i,j⟩:=h
 exact⟨f,caps,e,i,λw' a=>j w' (c.trans (a.mono c.size))⟩
theorem pF.later {α:Type}[ar α]{w w':World}{p:Value}{x:α}(h:pF cw w.heap.size w p x)(a:Below w.heap.size w w'): pF cw w'.heap.size w' p x:=by
 obtain⟨b,off,cs,e,c,f,i⟩:=h
 exact⟨b,off,cs,e,Nat.lt_of_lt_of_le c a.size,f.frame (a.block b c),ar.frame i λk j l=>⟨a.block k j,l⟩⟩
theorem SH.pK {α:Type}[ar α]{f:Nat->Prop}{b:Nat}{t:TypeId}{c:Value}{x:α}(h:SH A w0 w Γ)(i:Nat)(hi:Γ[i]?=some (.bx b t [c]))(l:Rd f w c x)(m:ar.agg α=false)(hs:ar.sz α=1): pF f w.heap.size w (.pointer (some ⟨b,0,none⟩)) x:=by
 have k:w.heap[b]?=some (.cells #[c] t (0,0)):=h.get i hi
 obtain⟨a,e,hr⟩:=l
 have hl:=ar.len hr
 rw[hs]at hl
 match a,hl with
 |[o],_=>
  simp only[ar.val,m,List.headD_cons]at e
  have p:c=o:=by simpa using e
  subst p
  refine⟨b,0,[c],rfl,?_,?_,hr⟩
  ·exact(Array.getElem?_eq_some_iff.1 k).1
  ·intro j u q
   rw[Nat.zero_add]
   exact pY k (by simpa using q)
theorem dF {f:FuncId}{caps:List Operand}{vs:List Value}(b:rp ρ caps=some vs): Ex P n A w0 ρ Γ ⟨d,.makeFunc (.func f) #[] caps.toArray,ty,pos,after,g⟩ (.func (.func f) #[] vs.toArray):=by
 intro a w hs c
 simp[execOp,Instr.makeFunc,hs.wv b]
theorem yG {a:Act}{d:Nat}{o:Operand}{f:FuncId}{args:List Operand}{c:Array TypeId}{vs caps:List Value}(hs:Sat n ρ a)(e:∀args w,(callFunc f args).run P w=.ok (.enter f args) w)(h:ev ρ o=some (.func (.func f) #[] caps.toArray))(b:rp ρ args=some vs):
  (execOp a.eval ⟨some d,.call ⟨.value o,args.toArray,c⟩,ty,pos,after,g⟩).run P w=.ok (.enter f (vs++caps).toArray) w:=by
 simp[execOp,resolve,hs.eval h,Deferred.ofValue,invoke,hs.wv b,e]
theorem kC {ops:Array Oper}{rest:List Oper}{d:Nat}{o:Operand}{f:FuncId}{args:List Operand}{c:Array TypeId}{vs caps:List Value}{G:Type}{v:G->Value}{Γ':G->Ctx}(hw:iE n ρ ops ⟨some d,.call ⟨.value o,args.toArray,c⟩,ty,pos,after,g⟩)(hd:Nat.blt d n.n=true)(j:∀args w,(callFunc f args).run P w=.ok (.enter f args) w)(k:ev ρ o=some (.func (.func f) #[] caps.toArray))(b:rp ρ args=some vs)(l:Ca P A w0 Γ f (vs++caps) v Γ')(h:∀x,JL P n A w0 ops rest Q ((d,v x)::ρ) (Γ' x) E): JL P n A w0 ops (⟨some d,.call ⟨.value o,args.toArray,c⟩,ty,pos,after,g⟩::rest) Q ρ Γ E:=by
 intro r hr a w hs m
 refine wpList_step λK p=>?_
 rw[hw a hs]
 simp only[if_true]
 unfold Oper.wp
 rw[yG hs j k b,Oper.upon_enter]
 refine(l w m).mono ?_
 rintro e w' ⟨x,rfl,i,_⟩
 exact p _ _ (h x r hr _ _ (hs.put (by simpa[Nat.blt_eq]using hd)) i)
theorem Bp.ca {α S:Type}[ar α]{cv v:Value}{b:α->Option S}{val:S->Value}{y:α}{r:S}(e:Bp P w0 cv b val)(a:∀w,SH A w0 w Γ->Rd cw w v y)(hr:b y=some r):
  ∃(f:FuncId) (caps:List Value),cv=.func (.func f) #[] caps.toArray/\(∀args w,(callFunc f args).run P w=.ok (.enter f args) w)/\Ca P A w0 Γ f ([v]++caps) (λ_:Unit=>val r) (λ_=>Γ):=by
 obtain⟨f,caps,h,i,j⟩:=e
 exact⟨f,caps,h,i,aX λw c=>j w c.below v y r (a w c) hr⟩
theorem L6 {ops:Array Oper}{rest:List Oper}{d:Nat}{o a:Operand}{b:Array TypeId}{α S:Type}[ar α]{cv v:Value}{i:α->Option S}{val:S->Value}{y:α}{r:S}(hw:iE n ρ ops ⟨some d,.call ⟨.value o,#[a],b⟩,ty,pos,after,g⟩)(hd:Nat.blt d n.n=true)(j:Bp P w0 cv i val)(k:ev ρ o=some cv)(l:ev ρ a=some v)(c:∀w,SH A w0 w Γ->Rd cw w v y)(hr:i y=some r)(h:JL P n A w0 ops rest Q ((d,val r)::ρ) Γ E): JL P n A w0 ops (⟨some d,.call ⟨.value o,#[a],b⟩,ty,pos,after,g⟩::rest) Q ρ Γ E:=by
 obtain⟨f,caps,rfl,m,e⟩:=j.ca c hr
 exact kC (args:=[a]) hw hd m k (by simp[rp,l]) e (λ_=>h)
end
section
variable {R:Type}{P:Program}{n:Fr}{A:Nat->Prop}{w0 w1:World}{Γ1:Ctx}{ops:Array Oper}{O:List Nat}{fuel:Nat}{listed:Array Bool}{Q:R->Exit->Act->World->Prop}{ρ ρ':Env}{Γ Γ':Ctx}{E:Option R}
variable {ty:TypeId}{pos:String}{after:Array Edge}{g:Option (Nat×Bool)}
theorem o8 {i d:Nat}{o:Operand}{f:FuncId}{args:List Operand}{j:Array TypeId}{vs caps:List Value}{G:Type}{v:G->Value}{Γ':G->Ctx}(hi:ops[i]?=some ⟨some d,.call ⟨.value o,args.toArray,j⟩,ty,pos,after,g⟩)(hw:iE n ρ ops ⟨some d,.call ⟨.value o,args.toArray,j⟩,ty,pos,after,g⟩)(hd:Nat.blt d n.n=true)(t:∀args w,(callFunc f args).run P w=.ok (.enter f args) w)(u:ev ρ o=some (.func (.func f) #[] caps.toArray))(b:rp ρ args=some vs)(y:Ca P A w0 Γ f (vs++caps) v Γ')(h:∀x,JD P n A w0 w1 Γ1 ops O fuel (listed.setIfInBounds i true) Q ((d,v x)::ρ) (Γ' x) E): JO P n A w0 w1 Γ1 ops O fuel listed Q i ρ Γ E:=by
 intro r l a w c z m p
 unfold wpOp
 simp only[hi,hw a c,if_true]
 refine .inl ?_
 unfold Oper.wp
 rw[yG c t u b,Oper.upon_enter]
 refine(y w z).mono ?_
 rintro e w' ⟨x,rfl,q,k,s⟩
 exact⟨m.more k (by simp),h x r l _ _ (c.put (by simpa[Nat.blt_eq]using hd)) q (m.more k (by simp)) (p.trans m s)⟩
end
end Go.Tc
namespace Go.Tc
open Go Go.RowKit
structure Tk (α:Type) where
 x:α
 B:List Nat
instance {α:Type}[ar α]: ar (Tk α) where
 sz:=ar.sz α
 agg:=ar.agg α
 lG A w cs t:=ar.dc w cs t.x t.B/\∀b∈t.B,¬A b
 len h:=ar.len (ar.sT h.1 h.2)
 one h:=ar.one (ar.sT h.1 h.2)
 pos:=ar.pos
 single:=ar.single
 frame h c:=⟨ar.ub h.1 λb a=>(c b (ar.tj h.1 b a) (h.2 b a)).1,λb a=>(c b (ar.tj h.1 b a) (h.2 b a)).2⟩
 dc w cs t B:=ar.dc w cs t.x B/\t.B=B
 ub h c:=⟨ar.ub h.1 c,h.2⟩
 sT h e:=⟨by rw[h.2];exact h.1,by rw[h.2];exact e⟩
 tj h:=ar.tj h.1
 flat:=false
 uX h:=by cases h
def xP {α:Type}(xs:List (Tk α)): List Nat:=xs.flatMap Tk.B
def zC {α:Type}(xs:List (Tk α)): List α:=xs.map Tk.x
theorem sS {α:Type}(xs:List (Tk α)): (zC xs).length=xs.length:=by simp[zC]
theorem DL.tk {α:Type}[ar α]{A:Nat->Prop}{w:World}: ∀(xs:List α) (cs:List Value) (B:List Nat),DL w cs xs B->(∀b∈B,¬A b)->∃ts:List (Tk α),zC ts=xs/\xP ts=B/\dT A w cs ts
 |[],_,_,h,_=>⟨[],rfl,h.2.symm,h.1⟩
 |x::r,_,_,⟨c1,c2,f,i,e,j,k,l⟩,c=>by
  subst j
  obtain⟨ts,e1,e2,m⟩:=DL.tk r c2 i l λb a=>c b (by simp[a])
  exact⟨⟨x,f⟩::ts,by simp[zC]at e1 ⊢;exact e1,by simp[xP]at e2 ⊢;exact e2,c1,c2,e,⟨k,λb a=>c b (by simp[a])⟩,m⟩
theorem dT.P6 {α:Type}[ar α]{A:Nat->Prop}{w:World}: ∀(ts:List (Tk α)) (cs:List Value),dT A w cs ts->DL w cs (zC ts) (xP ts)/\∀b∈xP ts,¬A b
 |[],_,h=>⟨⟨h,rfl⟩,by simp[xP]⟩
 |t::r,_,⟨c1,c2,e,c,f⟩=>by
  obtain⟨i,j⟩:=dT.P6 r c2 f
  refine⟨⟨c1,c2,t.B,xP r,e,rfl,c.1,i⟩,λb a=>?_⟩
  simp only[xP,List.flatMap_cons,List.mem_append]at a
  rcases a with a|a
  ·exact c.2 b a
  ·exact j b a
def kill:List Nat->Ctx->Ctx
 |[],Γ=>Γ
 |j::js,Γ=>kill js (Γ.set j (.pr True))
section
variable {A:Nat->Prop}{w0 w w':World}{Γ Γ':Ctx}
theorem Aj {f:Fact}{i:Nat}(hi:Γ[i]?=some f): Γ.set i f=Γ:=by
 apply List.ext_getElem?
 intro j
 rw[List.getElem?_set]
 by_cases e:i=j
 ·subst e
  rw[if_pos rfl,if_pos (List.getElem?_eq_some_iff.1 hi).1,hi]
 ·rw[if_neg e]
theorem qn {f:Fact}{i:Nat}(a:i<Γ.length): (Γ.set i f)[i]?=some f:=by simp[a]
theorem yl {f f':Fact}{i:Nat}(hi:Γ[i]?=some f): (Ctx.cb (Γ.set i f')).Perm (f'.cb++Ctx.cb (Γ.set i (.pr True))):=by
 obtain⟨c,e,_,e2⟩:=tR (f':=f') hi
 have a:=(List.getElem?_eq_some_iff.1 hi).1
 obtain⟨m1,m2,b,a2⟩:=tR (Γ:=Γ.set i f') (f:=f') (f':=.pr True) (i:=i) (qn a)
 rw[List.set_set]at a2
 rw[b,a2]
 simp only[Fact.cb,List.append_nil]
 exact(List.perm_append_comm.append_right m2).trans (by rw[List.append_assoc])
theorem p8 {f:Fact}{i:Nat}(hi:Γ[i]?=some f): (Ctx.cb Γ).Perm (f.cb++Ctx.cb (Γ.set i (.pr True))):=by
 have:=yl (f':=f) hi
 rwa[Aj hi]at this
theorem Dy {f:Fact}{j:Nat}: ∀(is:List Nat),(∀i∈is,i≠j)->cj is (Γ.set j f)=cj is Γ
 |[],_=>rfl
 |i::is,h=>by
  have hi:i≠j:=h i (by simp)
  simp only[cj,List.getElem?_set_ne (Ne.symm hi)]
  rw[Dy is λk a=>h k (by simp[a])]
theorem Fb:∀(js:List Nat) (Γ:Ctx),gM js=true->Γ.cb.Perm ((cj js Γ).cb++(kill js Γ).cb)
 |[],Γ,_=>by simp[cj,kill,Ctx.cb]
 |j::js,Γ,b=>by
  simp only[gM,Bool.and_eq_true,Bool.not_eq_true',List.any_eq_false]at b
  have c:∀i∈js,i≠j:=λi hi e=>b.1 i hi (by subst e;exact Nat.beq_refl i)
  have a:=Fb js (Γ.set j (.pr True)) b.2
  rw[Dy js c]at a
  simp only[cj,kill]
  cases h:Γ[j]? with
  |none=>
   rw[List.set_eq_of_length_le (by simpa using h)]at a ⊢
   exact a
  |some f=>
   refine(p8 h).trans ?_
   simp only[Ctx.cb,List.flatMap_cons,List.append_assoc]at a ⊢
   exact a.append_left _
theorem SH.dead {f:Fact}{i:Nat}(h:SH A w0 w Γ)(hi:Γ[i]?=some f): SH A w0 w (Γ.set i (.pr True)):=
 h.set hi (Grow.refl w _) (by simp[Fact.ae]) (by simp[Fact.ae]) trivial
theorem SH.kill:∀(js:List Nat) {Γ:Ctx},SH A w0 w Γ->SH A w0 w (kill js Γ)
 |[],_,h=>h
 |j::js,Γ,h=>by
  refine SH.kill js ?_
  cases a:Γ[j]? with
  |none=>rw[List.set_eq_of_length_le (by simpa using a)];exact h
  |some f=>exact h.dead a
theorem Bz {i:Nat}: ∀ {b:Nat},b∈Ctx.ae (Γ.set i (.pr True))->b∈Γ.ae:=by
 intro b a
 cases c:Γ[i]? with
 |none=>rwa[List.set_eq_of_length_le (by simpa using c)]at a
 |some f=>
  obtain⟨e,h,e1,e2⟩:=nq (f':=.pr True) c
  rw[e2]at a
  rw[e1]
  simp only[Fact.ae,List.append_nil,List.mem_append]at a ⊢
  rcases a with a|a
  ·exact .inl (.inl a)
  ·exact .inr a
theorem Bm:∀(js:List Nat) {Γ:Ctx} {b:Nat},b∈Ctx.ae (Tc.kill js Γ)->b∈Γ.ae
 |[],_,_,h=>h
 |_::js,_,_,h=>Bz (Bm js h)
theorem lg {f f':Fact}{i:Nat}(hi:Γ[i]?=some f)(a:f'.ae=f.ae): Ctx.ae (Γ.set i f')=Γ.ae:=by
 obtain⟨b,c,e1,e2⟩:=nq (f':=f') hi
 rw[e1,e2,a]
theorem SH.Cv {f f':Fact}{i:Nat}(h:SH A w0 w Γ)(hi:Γ[i]?=some f)(a:f'.ae=f.ae)(m:f.holds (λk=>A k\/k∈Γ.ae) w0.heap.size w->f'.holds (λk=>A k\/k∈Γ.ae) w0.heap.size w)(c:(Ctx.cb (Γ.set i f')).Nodup)(e:∀b∈f'.cb,w0.heap.size<=b): SH A w0 w (Γ.set i f'):=by
 have j:=lg (f':=f') hi a
 refine h.P9 hi (Grow.refl w _) ?_ ?_ ?_ c e
 ·rw[a];exact G4 h.nd hi
 ·intro b l
  rw[a]at l
  exact⟨.inl l,(h.ge b (List.mem_flatMap.2 ⟨f,List.mem_of_getElem? hi,l⟩)).2⟩
 ·rw[j]
  exact m (h.get i hi)
theorem Bl {f f':Fact}{i:Nat}(hi:Γ[i]?=some f)(a:f'.cb=[])(h:Γ.cb.Nodup): (Ctx.cb (Γ.set i f')).Nodup:=by
 obtain⟨m1,m2,t1,t2⟩:=tR (f':=f') hi
 rw[t1]at h
 rw[t2,a]
 exact EK h
theorem SH.Iv {α:Type}[ar α]{e:TypeId}{v:Value}{xs:List α}{B:List Nat}(h:SH A w0 w Γ)(i:Nat)(hi:Γ[i]?=some (.od e v xs B)):
  ∃ts:List (Tk α),zC ts=xs/\(xP ts).Nodup/\(∀b∈xP ts,b∈B)/\SH A w0 w (Γ.set i (.ow e v ts)):=by
 obtain⟨⟨cells,p,c,f,j,a⟩,l⟩:=h.get i hi
 obtain⟨ts,e1,e2,m⟩:=DL.tk (A:=λk=>A k\/k∈Γ.ae) _ _ _ f λb o=>(l b (a b o)).2
 refine⟨ts,e1,by rw[e2];exact j,by rw[e2];exact a,h.Cv hi rfl (λ_=>⟨cells,?_,m⟩) (Bl hi rfl h.tu) (by simp[Fact.cb])⟩
 have:ts.length=xs.length:=by rw[<- e1,sS]
 rw[this];exact c
theorem SH.NY {α:Type}[ar α]{e:TypeId}{v:Value}{ts:List (Tk α)}{B:List Nat}(h:SH A w0 w Γ)(i:Nat)(hi:Γ[i]?=some (.ow e v ts))(j:(xP ts).Nodup)(a:∀b∈xP ts,b∈B)(f:∀b∈B,w0.heap.size<=b/\b<w.heap.size/\b∉Γ.ae)(k:(B++Γ.cb).Nodup): SH A w0 w (Γ.set i (.od e v (zC ts) B)):=by
 refine h.Cv hi rfl ?_ ?_ (λb c=>(f b c).1)
 ·rintro⟨cells,m,o⟩
  obtain⟨p,q⟩:=dT.P6 _ _ o
  refine⟨⟨cells,xP ts,by rw[sS];exact m,p,j,a⟩,λb c=>⟨(f b c).2.1,?_⟩⟩
  rintro(l|l)
  ·have:=h.av b l
   have:=(f b c).1
   omega
  ·exact(f b c).2.2 l
 ·refine(yl hi).nodup_iff.2 ?_
  refine((p8 hi).append_left B).nodup_iff.1 k |>.sublist ?_
  exact List.Sublist.append (List.Sublist.refl _) (List.sublist_append_right _ _)
theorem SH.HG {α:Type}[ar α]{e:TypeId}{v:Value}{xs:List α}{B:List Nat}(h:SH A w0 w Γ)(i:Nat)(hi:Γ[i]?=some (.od e v xs B)): SH A w0 w (Γ.set i (.ow e v xs)):=by
 obtain⟨⟨cells,l,a,c,m,f⟩,j⟩:=h.get i hi
 exact h.Cv hi rfl (λ_=>⟨cells,a,DL.rd _ _ _ c λb k=>(j b (f b k)).2⟩) (Bl hi rfl h.tu) (by simp[Fact.cb])
def Nb {α:Type}[ar α](x:α): Prop:=∀A w cs,ar.lG A w cs x->ar.dc w cs x []
theorem NI {α:Type}[ar α](a:ar.flat α=true)(x:α): Nb x:=λ_ _ _ h=>ar.uX a h
theorem dT.nb {α:Type}[ar α]{A:Nat->Prop}{w:World}: ∀(xs:List α) (cs:List Value),(∀x∈xs,Nb x)->dT A w cs xs->DL w cs xs []
 |[],_,_,h=>⟨h,rfl⟩
 |x::r,_,a,⟨c1,c2,e,b,c⟩=>⟨c1,c2,[],[],e,rfl,a x (by simp) _ _ _ b,dT.nb r c2 (λy f=>a y (by simp[f])) c⟩
theorem SH.Np {α:Type}[ar α]{e:TypeId}{v:Value}{xs:List α}(h:SH A w0 w Γ)(i:Nat)(hi:Γ[i]?=some (.ow e v xs))(a:∀x∈xs,Nb x): SH A w0 w (Γ.set i (.od e v xs [])):=by
 refine h.Cv hi rfl ?_ (Bl hi rfl h.tu) (by simp[Fact.cb])
 rintro⟨cells,b,c⟩
 exact⟨⟨cells,[],b,dT.nb _ _ a c,by simp,by simp⟩,by simp⟩
theorem SH.Js {α:Type}[ar α]{e:TypeId}{v:Value}{xs:List α}(h:SH A w0 w Γ)(i:Nat)(hi:Γ[i]?=some (.ow e v xs))(a:ar.flat α=true): SH A w0 w (Γ.set i (.od e v xs [])):=h.Np i hi λx _=>NI a x
theorem SH.sR {α:Type}[ar α](e:TypeId)(h:SH A w0 w Γ): SH A w0 w (.od e (.slice none 0 0) ([]:List α) []::Γ):=(SH.iV (α:=α) e h).Np 0 rfl (by simp)
theorem Ql.dn {α:Type}[ar α]{e:TypeId}{v:Value}{xs:List α}{B:List Nat}(h:Ql w e v xs B)(r:∀b∈v.ownBlock.toList,b∉B): Dn w v xs (v.ownBlock.toList++B):=by
 obtain⟨cells,o,⟨hl,c⟩,s,t,p⟩:=h
 rcases c with⟨rfl,x⟩|⟨g,cap,cur,rfl,_,q,k,l,m,a⟩
 ·have y:xs=[]:=List.eq_nil_of_length_eq_zero x
  subst y
  exact⟨[],⟨[_],rfl,_,rfl,.inl ⟨rfl,rfl,none,rfl⟩⟩,by simp,by simp⟩
 ·refine⟨g::o,⟨[_],rfl,_,rfl,.inr ⟨g,0,cap,cells,o,cur,e,rfl,q,k,l,λj u i=>?_,s,by rw[m,Nat.zero_add];exact Nat.le_refl _,rfl⟩⟩,?_,?_⟩
  ·rw[<- a,List.getElem?_take]at i
   split at i
   ·simpa[World.cell?,q]using i
   ·simp at i
  ·refine List.nodup_cons.2 ⟨λhm=>r g (by simp[Value.ownBlock]) (p g hm),t⟩
  ·intro b f
   simp only[Value.ownBlock,Option.toList_some,List.cons_append,List.nil_append,List.mem_cons]at f ⊢
   exact f.imp id (p b)
theorem SH.tok {α:Type}[ar α]{e:TypeId}{v:Value}{xs:List α}{B:List Nat}(h:SH A w0 w Γ)(i:Nat)(hi:Γ[i]?=some (.od e v xs B)): SH A w0 w (.fL v xs (v.ownBlock.toList++B)::Γ.set i (.rd v xs)):=by
 have k:=(List.getElem?_eq_some_iff.1 hi).1
 have y:=h.HG i hi
 have u:=y.freeze i (qn k)
 rw[List.set_set]at u
 obtain⟨q,r⟩:=h.get i hi
 have j:∀b∈v.ownBlock.toList,b∈Γ.ae:=λb c=>List.mem_flatMap.2 ⟨_,List.mem_of_getElem? hi,c⟩
 have s:∀b∈v.ownBlock.toList,b∉B:=λb c hm=>(r b hm).2 (.inr (j b c))
 have m:∀b,b∈Ctx.ae (Γ.set i (.rd v xs))->b∈Γ.ae:=λb c=>by
  have:=Cf (Γ:=Γ.set i (.ow e v xs)) (e:=e) (v:=v) (xs:=xs) (i:=i) (qn k) b (by rw[List.set_set];exact c)
  rwa[lg (f':=.ow e v xs) hi rfl]at this
 have o:∀b∈v.ownBlock.toList,b∉Ctx.ae (Γ.set i (.rd v xs)):=by
  obtain⟨D,F,e1,e2⟩:=nq (f':=.rd v xs) hi
  have l:=h.nd
  rw[e1]at l
  simp only[Fact.ae,List.append_assoc,List.nodup_append]at l
  intro b c hm
  rw[e2]at hm
  simp only[Fact.ae,List.append_nil,List.mem_append]at hm
  rcases hm with hm|hm
  ·exact l.2.2 b hm b (by simp[c]) rfl
  ·exact l.2.1.2.2 b c b hm rfl
 refine u.Oj (Grow.refl w []) (by simp[Fact.ae]) (by simp[Fact.ae]) ⟨q.dn s,λb c=>?_⟩ ?_ ?_
 ·have z:Ctx.ae (Fact.fL v xs (v.ownBlock.toList++B)::Γ.set i (.rd v xs))=Ctx.ae (Γ.set i (.rd v xs)):=by simp[Ctx.ae,Fact.ae]
  rw[z]
  rcases List.mem_append.1 c with c|c
  ·refine⟨(h.ge b (j b c)).2,?_⟩
   rintro(p|p)
   ·have:=h.av b p
    have:=(h.ge b (j b c)).1
    omega
   ·exact o b c p
  ·exact⟨(r b c).1,λp=>(r b c).2 (p.imp id (m b))⟩
 ·show((v.ownBlock.toList++B)++Ctx.cb (Γ.set i (.rd v xs))).Nodup
  have x:=p8 hi
  have t:Ctx.cb (Γ.set i (.rd v xs))=Ctx.cb (Γ.set i (.pr True)):=by
   obtain⟨m1,m2,t1,t2⟩:=tR (f':=.rd v xs) hi
   have hq:=yl (f':=.rd v xs) hi
   obtain⟨k1,H,s1,s2⟩:=tR (Γ:=Γ.set i (.rd v xs)) (f:=.rd v xs) (f':=.pr True) (i:=i) (qn k)
   rw[List.set_set]at s2
   rw[s1,s2];rfl
  rw[t,List.append_assoc,List.nodup_append]
  have l:=x.nodup_iff.1 h.tu
  refine⟨?_,l,?_⟩
  ·cases v.ownBlock<;>simp
  ·rintro a C b c rfl
   have:a∈Γ.cb:=x.mem_iff.2 c
   exact(h.ER a this).2 (j a C)
 ·intro b c
  simp only[Fact.cb,List.mem_append]at c
  rcases c with c|c
  ·exact(h.ge b (j b c)).1
  ·exact h.uS b (List.mem_flatMap.2 ⟨_,List.mem_of_getElem? hi,c⟩)
theorem MN {α:Type}[ar α]{e:TypeId}{v:Value}{xs:List α}{B:List Nat}{i:Nat}(hi:Γ[i]?=some (.od e v xs B)): ∀b∈Ctx.ae (Fact.fL v xs (v.ownBlock.toList++B)::Γ.set i (.rd v xs)),b∈Γ.ae:=λb a=>by
 have a:b∈Ctx.ae (Γ.set i (.rd v xs)):=by simpa[Ctx.ae,Fact.ae]using a
 obtain⟨c,f,e1,e2⟩:=nq (f':=.rd v xs) hi
 rw[e2]at a
 rw[e1]
 simp only[Fact.ae,List.append_nil,List.mem_append]at a ⊢
 rcases a with a|a
 ·exact .inl (.inl a)
 ·exact .inr a
theorem SH.iA {α:Type}[ar α]{e:TypeId}{v:Value}{xs:List α}(h:SH A w0 w Γ)(i:Nat)(hi:Γ[i]?=some (.ow e v xs))(b:ar.flat α=true): SH A w0 w (.fL v xs (v.ownBlock.toList++[])::Γ.set i (.rd v xs)):=by
 have c:=h.Js i hi b
 have a:=(List.getElem?_eq_some_iff.1 hi).1
 have:=c.tok i (qn a)
 rwa[List.set_set]at this
theorem rL {α:Type}[ar α]{e:TypeId}{v:Value}{xs:List α}{i:Nat}(hi:Γ[i]?=some (.ow e v xs)): ∀b∈Ctx.ae (Fact.fL v xs (v.ownBlock.toList++[])::Γ.set i (.rd v xs)),b∈Γ.ae:=λb a=>by
 have a:b∈Ctx.ae (Γ.set i (.rd v xs)):=by simpa[Ctx.ae,Fact.ae]using a
 exact Cf hi b a
theorem Dn.rd {α:Type}[ar α]{v:Value}{x:α}{B:List Nat}(h:Dn w v x B)(a:∀b∈B,¬A b): Rd A w v x:=by
 obtain⟨i,c,_,e⟩:=h
 exact c.rd λb f=>a b (e b f)
theorem SH.iD {α:Type}[ar α]{v:Value}{x:α}{B:List Nat}(h:SH A w0 w Γ)(i:Nat)(hi:Γ[i]?=some (.fL v x B)): SH A w0 w (.rd v x::Γ):=by
 obtain⟨a,c⟩:=h.get i hi
 exact h.oa (a.rd λb e=>(c b e).2)
theorem SH.M8 {α:Type}[ar α]{e:TypeId}{v:Value}{xs:List α}{B:List Nat}(h:SH A w0 w Γ)(i:Nat)(hi:Γ[i]?=some (.od e v xs B)): Rd cw w v xs:=
 (h.HG i hi).bV i (qn (List.getElem?_eq_some_iff.1 hi).1)
def Fact.x6:Fact->Bool
 |@Fact.ow α inst _ _ _=>@ar.flat α inst
 |@Fact.od _ _ _ _ _ _=>true
 |@Fact.fL _ _ _ _ _=>true
 |.bx _ _ _=>true
 |.pr _=>true
 |.inv _ _=>true
 |_=>false
theorem Fact.Gk {A s:Nat->Prop}{n:Nat}{f:Fact}(hr:f.x6=true)(h:f.holds A n w)(a:∀b∈f.ae,w'.heap[b]?=w.heap[b]?)(c:∀b∈f.cb,w'.heap[b]?=w.heap[b]?/\¬s b): f.holds s n w':=by
 cases f with
 |ow e v xs=>
  obtain⟨cells,i,l⟩:=h
  exact⟨cells,pS i a,DL.rd _ _ _ (DL.frame _ _ _ (DL.flat hr _ _ l) (by simp)) (by simp)⟩
 |od e v xs B=>
  obtain⟨⟨cells,m,i,l,o,j⟩,q⟩:=h
  exact⟨⟨cells,m,pS i a,DL.frame _ _ _ l λb a=>(c b (j b a)).1,o,j⟩,λb a=>⟨lt_of_heap (c b a).1 (q b a).1,(c b a).2⟩⟩
 |fL v x B=>
  obtain⟨⟨m,i,o,j⟩,q⟩:=h
  exact⟨⟨m,i.frame λb a=>(c b (j b a)).1,o,j⟩,λb a=>⟨lt_of_heap (c b a).1 (q b a).1,(c b a).2⟩⟩
 |bx b t cs=>
  have:=a b (by simp[Fact.ae])
  simp only[Fact.holds]at h ⊢
  rw[this,h]
 |pr p=>exact h
 |inv B I=>exact λu r=>h u λb k=>(r b k).trans (a b k)
 |_=>simp[Fact.x6]at hr
theorem SH.join_self {Δ:Ctx}(h:SH A w0 w Γ)(k:SH cw w w' Δ)(B:Δ.all Fact.x6=true): SH A w0 w' (Δ++Γ):=by
 have s:Ctx.ae (Δ++Γ)=Δ.ae++Γ.ae:=by simp[Ctx.ae]
 have v:Ctx.cb (Δ++Γ)=Δ.cb++Γ.cb:=by simp[Ctx.cb]
 have q:Grow w w' []:=Grow.om k.below []
 have y:=h.grow q
 refine⟨y.below,h.av,?_,?_,?_,?_,?_⟩
 ·rw[s,List.nodup_append]
  refine⟨k.nd,h.nd,λa m b c e=>?_⟩
  subst e
  have z:=(k.ge a m).1
  have C:=(h.ge a c).2
  omega
 ·intro b c
  rw[s]at c
  rcases List.mem_append.1 c with c|c
  ·exact⟨Nat.le_trans h.lt (k.ge b c).1,(k.ge b c).2⟩
  ·exact y.ge b c
 ·rw[v,List.nodup_append]
  refine⟨k.tu,h.tu,λa m b c e=>?_⟩
  subst e
  have z:=k.uS a m
  have C:=(h.ER a c).1
  omega
 ·intro b c
  rw[v]at c
  rcases List.mem_append.1 c with c|c
  ·exact Nat.le_trans h.lt (k.uS b c)
  ·exact h.uS b c
 ·intro f l
  rcases List.mem_append.1 l with l|l
  ·have D:=k.all f l
   have hr:=List.all_eq_true.1 B f l
   refine(?_:f.holds (λk=>A k\/k∈Ctx.ae (Δ++Γ)) w0.heap.size w')
   have t:f.holds (λk=>A k\/k∈Ctx.ae (Δ++Γ)) w.heap.size w':=by
    refine Fact.Gk hr D (λ_ _=>rfl) λb c=>⟨rfl,?_⟩
    have r:b∈Δ.cb:=List.mem_flatMap.2 ⟨f,l,c⟩
    have z:=k.uS b r
    rintro(F|o)
    ·have:=h.av b F
     have:=h.lt
     omega
    ·rw[s]at o
     rcases List.mem_append.1 o with o|o
     ·exact(k.ER b r).2 o
     ·have:=(h.ge b o).2;omega
   cases f with
   |pa p x=>simp[Fact.x6]at hr
   |_=>exact t
  ·refine Fact.frame q.size (h.all f l) (λb c=>q.block b (h.ge b (List.mem_flatMap.2 ⟨f,l,c⟩)).2 (by simp)) (λj u=>q.block j (Nat.lt_of_lt_of_le u h.lt) (by simp)) (λj u m=>⟨q.block j u (by simp),?_⟩)
   rintro(i|i)
   ·exact m (.inl i)
   ·rw[s]at i
    rcases List.mem_append.1 i with i|i
    ·have:=(k.ge j i).1;omega
    ·exact m (.inr i)
end
end Go.Tc
namespace Go.Tc
open Go Go.RowKit
def Dw {α:Type}[ar α](w:World)(v:Value)(x:α)(B C:List Nat): Prop:=B.Nodup->∃a,Dc w v x a/\a.Nodup/\(∀b∈a,b∈B/\b∉C)/\C.Sublist B
theorem LF {α:Type}[ar α]{w:World}{B:List Nat}: Dn w (.slice none 0 0) ([]:List α) B:=⟨[],⟨[_],rfl,_,rfl,.inl ⟨rfl,rfl,none,rfl⟩⟩,by simp,by simp⟩
theorem Dw.two {α β:Type}[ar α][ar β]{w:World}{v u:Value}{x:α}{y:β}{B C D:List Nat}(h:Dw w v x B C)(k:Dw w u y C D)(m:B.Nodup):
  ∃f i,Dc w v x f/\Dc w u y i/\(f++i).Nodup/\(∀b∈f++i,b∈B/\b∉D)/\D.Sublist B:=by
 obtain⟨f,o,p,j,l⟩:=h m
 obtain⟨i,k1,q,k3,k4⟩:=k (m.sublist l)
 refine⟨f,i,o,k1,?_,?_,k4.trans l⟩
 ·rw[List.nodup_append]
  exact⟨p,q,λa r b c e=>(j a r).2 (e▸(k3 b c).1)⟩
 ·intro b c
  rcases List.mem_append.1 c with c|c
  ·exact⟨(j b c).1,λhd=>(j b c).2 (k4.subset hd)⟩
  ·exact⟨l.subset (k3 b c).1,(k3 b c).2⟩
def H8 {α:Type}[ar α](w:World): List Value->List α->List Nat->Prop
 |[],[],_=>True
 |v::vs,x::xs,B=>∃C,Dw w v x B C/\H8 w vs xs C
 |_,_,_=>False
theorem kz {α:Type}[ar α]{w:World}{v:Value}{x:α}{vs:List Value}{xs:List α}{B C:List Nat}(h:Dw w v x B C)(k:H8 w vs xs C): H8 w (v::vs) (x::xs) B:=⟨C,h,k⟩
theorem lz {α:Type}[ar α]{w:World}: H8 w [] ([]:List α) []:=trivial
theorem H8.tk {α:Type}[ar α]{A:Nat->Prop}{w:World}: ∀(vs:List Value) (xs:List α) (B:List Nat),H8 w vs xs B->B.Nodup->(∀b∈B,¬A b)->∃ts:List (Tk α),zC ts=xs/\(xP ts).Nodup/\(∀b∈xP ts,b∈B)/\Ek A w vs ts
 |[],[],_,_,_,_=>⟨[],rfl,by simp[xP],by simp[xP],trivial⟩
 |v::vs,x::xs,B,⟨C,h,k⟩,j,l=>by
  obtain⟨o,⟨cs,e1,p⟩,q,f,i⟩:=h j
  obtain⟨ts,e2,e3,m,r⟩:=H8.tk (A:=A) vs xs C k (j.sublist i) λb c=>l b (i.subset c)
  refine⟨⟨x,o⟩::ts,by simp[zC]at e2 ⊢;exact e2,?_,?_,⟨cs,e1,p,λb c=>l b (f b c).1⟩,r⟩
  ·simp only[xP,List.flatMap_cons,List.nodup_append]
   exact⟨q,e3,λa s b c e=>(f a s).2 (e▸m b c)⟩
  ·intro b c
   simp only[xP,List.flatMap_cons,List.mem_append]at c
   exact c.elim (λc=>(f b c).1) (λc=>i.subset (m b c))
 |[],_::_,_,h,_,_=>h.elim
 |_::_,[],_,h,_,_=>h.elim
section
variable {R:Type}{P:Program}{n:Fr}{A:Nat->Prop}{w0 w w':World}{Q:R->Exit->Act->World->Prop}{ρ ρ':Env}{Γ Γ':Ctx}{E:Option R}
variable {d:Option Nat}{ty:TypeId}{pos:String}{after:Array Edge}{g:Option (Nat×Bool)}
theorem SH.dw {α:Type}[ar α]{v:Value}{x:α}{B C:List Nat}(h:SH A w0 w Γ)(i:Nat)(hi:Γ[i]?=some (.fL v x B)): Dw w v x (B++C) C:=λa=>by
 obtain⟨f,j,k,c⟩:=(h.get i hi).1
 rw[List.nodup_append]at a
 exact⟨f,j,k,λb e=>⟨by simp[c b e],λl=>a.2.2 b (c b e) b l rfl⟩,List.sublist_append_right _ _⟩
theorem SH.Qi (h:SH A w0 w Γ){js:List Nat}{B:List Nat}(c:(Tc.cj js Γ).cb=B): ∀b∈B,w0.heap.size<=b/\b<w.heap.size/\b∉Γ.ae:=λb e=>by
 have a:b∈Γ.cb:=AK js Γ b (by rw[c];exact e)
 exact⟨h.uS b a,h.ER b a⟩
theorem SH.M6 (h:SH A w0 w Γ){B:List Nat}(c:∀b∈B,w0.heap.size<=b/\b<w.heap.size/\b∉Γ.ae): ∀b∈B,¬(A b\/b∈Γ.ae):=λb e a=>by
 obtain⟨i,_,f⟩:=c b e
 rcases a with a|a
 ·have:=h.av b a;omega
 ·exact f a
theorem du {α:Type}[ar α]{t e:TypeId}{len:Nat}{C:Bool}{z:Value}{parts:List (Nat×Operand)}{vs:List Value}{B:List Nat}(xs:List α)(js:List Nat)(D:P.underlying t=some (.slice e))(he:cg P e=some (ar.sz α,C))(F:fu P e=some z)(i:Gq ρ parts=some (wj 0 vs))(hlen:xs.length=len)(o:Nat.ble (len*ar.sz α) 16777216=true)(H:gM js=true)(q:(cj js Γ).cb=B)(I:∀w,SH A w0 w Γ->H8 w vs xs B):
  St P n A w0 ρ Γ ⟨d,.buildSlice t len parts.toArray,ty,pos,after,g⟩ (λb:Nat=>.slice (some ⟨b,0,none⟩) len len) (λb=>.od e (.slice (some ⟨b,0,none⟩) len len) xs B::kill js Γ) []:=by
 intro a w hs m
 have f:=m.Qi q
 have r:=Fb js Γ H
 have s:B.Nodup:=by
  have:=r.nodup_iff.1 m.tu
  rw[q,List.nodup_append]at this
  exact this.1
 obtain⟨ts,e1,e2,e3,J⟩:=H8.tk vs xs B (I w m) s (m.M6 f)
 have hl:ts.length=len:=by rw[<- hlen,<- e1,sS]
 have u:=m.kill js
 have x:Ek (λk=>A k\/k∈(kill js Γ).ae) w vs ts:=by
  have:∀(vs:List Value) (ts:List (Tk α)),Ek (λk=>A k\/k∈Γ.ae) w vs ts->Ek (λk=>A k\/k∈(kill js Γ).ae) w vs ts:=by
   intro vs
   induction vs with
   |nil=>intro ts h;cases ts<;>exact h
   |cons v vs L=>
    intro ts h
    cases ts with
    |nil=>exact h
    |cons t ts=>exact⟨Rd.D7 h.1 λk M=>M.imp id (Bm js),L ts h.2⟩
  exact this vs ts J
 obtain⟨b,w',p,N,y,T⟩:=zB (d:=d) (ty:=ty) (pos:=pos) (after:=after) (g:=g) ts D he F i hl o x a hs u
 have j:∀c,c∈Ctx.ae (.ow e (.slice (some ⟨b,0,none⟩) len len) ts::kill js Γ)->c∈Γ.ae\/w.heap.size<=c:=λc l=>(T c l).imp (Bm js) id
 refine⟨b,w',p,?_,y,?_⟩
 ·have:=N.NY (B:=B) 0 rfl e2 e3 (λc l=>⟨(f c l).1,Nat.lt_of_lt_of_le (f c l).2.1 y.size,λhm=>?_⟩) ?_
  ·rw[e1]at this
   exact this
  ·rcases j c hm with hm|hm
   ·exact(f c l).2.2 hm
   ·have:=(f c l).2.1;omega
  ·rw[q]at r
   exact r.nodup_iff.1 m.tu
 ·intro c l
  exact j c (by simpa[Ctx.ae,Fact.ae]using l)
theorem ij {α:Type}[ar α]{x y:Operand}{t e:TypeId}{ag:Bool}{z:Value}{bytes:Nat}{v u:Value}{xs ys zs:List α}{o m:List Nat}(i j:Nat)(ht:P.underlying t=some (.slice e))(he:cg P e=some (ar.sz α,ag))(hz:fu P e=some z)(J:z.cells.size=ar.sz α)(L:rk P e=some bytes)(M:Nat.ble bytes 128=true)(hx:ev ρ x=some v)(hy:ev ρ y=some u)(hi:Γ[i]?=some (.od e v xs o))(s:Γ[j]?=some (.od e u ys m))(N:Nat.beq j i=false)(T:app xs ys=some zs):
  St P n A w0 ρ Γ ⟨d,.call ⟨.builtin .append,#[x,y],#[t,t]⟩,ty,pos,after,g⟩ (λh:Value=>h) (λh=>(Γ.set i (.od e h zs (o++m))).set j (.pr True)) v.ownBlock.toList:=by
 intro a w hs q
 have l:j≠i:=λe=>by subst e;simp at N
 have C:=(List.getElem?_eq_some_iff.1 hi).1
 obtain⟨ts,e1,e2,e3,h1⟩:=q.Iv i hi
 obtain⟨us,f1,f2,f3,h2⟩:=q.Iv j s
 have U:Src (λk=>A k\/k∈Ctx.ae (Γ.set i (.ow e v ts))) w u us:=by
  have hg:=h2.get j (qn (List.getElem?_eq_some_iff.1 s).1)
  have ho:Ctx.ae (Γ.set j (.ow e u us))=Γ.ae:=lg s rfl
  have V:Ctx.ae (Γ.set i (.ow e v ts))=Γ.ae:=lg hi rfl
  rw[V]
  rw[ho]at hg
  exact Ow.src hg
 obtain⟨rfl,D⟩:=Lm T
 have W:app ts us=some (ts++us):=by
  have l1:ts.length=xs.length:=by rw[<- e1,sS]
  have l2:us.length=ys.length:=by rw[<- f1,sS]
  unfold app
  rw[if_pos (by rw[l1,l2];exact D)]
 obtain⟨h,w',F,h3,h4,h5⟩:=SH.append (P:=P) (ty:=ty) i h1 (qn C) U ht he hz J L M W
 rw[List.set_set]at h3 h5
 have X:Ctx.ae (Γ.set i (.ow e v ts))=Γ.ae:=lg hi rfl
 have r:∀c,c∈Ctx.ae (Γ.set i (.ow e h (ts++us)))->c∈Γ.ae\/w.heap.size<=c:=λc f=>by
  have:=h5 c f
  rwa[X]at this
 have Y:(Γ.set i (.ow e h (ts++us)))[j]?=some (.od e u ys m):=by rw[List.getElem?_set_ne (Ne.symm l)];exact s
 have h6:=h3.dead Y
 have H:((Γ.set i (.ow e h (ts++us))).set j (.pr True))[i]?=some (.ow e h (ts++us)):=by
  rw[List.getElem?_set_ne l]
  exact qn C
 have I:∀c∈o++m,c∈Γ.cb:=λc f=>by
  rcases List.mem_append.1 f with f|f
  ·exact List.mem_flatMap.2 ⟨_,List.mem_of_getElem? hi,f⟩
  ·exact List.mem_flatMap.2 ⟨_,List.mem_of_getElem? s,f⟩
 have h7:=h6.NY (B:=o++m) i H ?_ ?_ ?_ ?_
 ·have ed:zC (ts++us)=xs++ys:=by rw[<- e1,<- f1];simp[zC]
  rw[ed,List.set_comm _ _ l,List.set_set]at h7
  refine⟨h,w',?_,h7,h4,λc f=>?_⟩
  ·simp[execOp,resolve,invoke,builtin,hs.eval hx,hs.eval hy,F]
  ·have f:=Bz f
   have:Ctx.ae (Γ.set i (.od e h (xs++ys) (o++m)))=Ctx.ae (Γ.set i (.ow e h (ts++us))):=by
    have:=lg (Γ:=Γ.set i (.ow e h (ts++us))) (f':=.od e h (xs++ys) (o++m)) (qn C) rfl
    rwa[List.set_set]at this
   rw[this]at f
   exact r c f
 ·simp only[xP,List.flatMap_append,List.nodup_append]
  refine⟨e2,f2,λa T b L Z=>?_⟩
  subst Z
  exact zW (g:=Fact.cb) q.tu hi s (Ne.symm l) (e3 a T) (f3 a L)
 ·intro c f
  simp only[xP,List.flatMap_append,List.mem_append]at f ⊢
  exact f.imp (e3 c) (f3 c)
 ·intro c f
  have p:=I c f
  refine⟨q.uS c p,Nat.lt_of_lt_of_le (q.ER c p).1 h4.size,λhm=>?_⟩
  rcases r c (Bz hm)with hm|hm
  ·exact(q.ER c p).2 hm
  ·have:=(q.ER c p).1;omega
 ·have p1:=p8 hi
  have aa:(Γ.set i (.pr True))[j]?=some (.od e u ys m):=by rw[List.getElem?_set_ne (Ne.symm l)];exact s
  have p2:=p8 aa
  have p3:=p1.trans (p2.append_left o)
  have p4:=p8 H
  simp only[Fact.cb,List.nil_append]at p4
  have e5:(((Γ.set i (.ow e h (ts++us))).set j (.pr True)).set i (.pr True))=(Γ.set i (.pr True)).set j (.pr True):=by
   rw[List.set_comm _ _ l,List.set_set]
  rw[e5]at p4
  have p5:=p4.append_left (o++m)
  rw[List.append_assoc o m (Ctx.cb ((Γ.set i (.pr True)).set j (.pr True)))]at p5
  exact p5.nodup_iff.2 (p3.nodup_iff.1 q.tu)
theorem Ob {α:Type}[ar α]{o:Oper}{u:Value}{e:TypeId}{v:Value}{xs:List α}{B:List Nat}(i:Nat)(hi:Γ[i]?=some (.od e v xs B))(h:Ex P n A w0 ρ (Γ.set i (.ow e v xs)) o u): Ex P n A w0 ρ Γ o u:=
 λa w hs b=>h a w hs (b.HG i hi)
theorem SH.Qn {α:Type}[ar α]{e:TypeId}{v:Value}{xs:List α}{B:List Nat}(h:SH A w0 w Γ)(i:Nat)(hi:Γ[i]?=some (.od e v xs B)): CV v [v]:=
 (h.HG i hi).hY i (qn (List.getElem?_eq_some_iff.1 hi).1)
theorem dL {f:FuncId}{vs:List Value}{G:Type}{v:G->Value}{fs:G->Ctx}(i:∀x,(fs x).all Fact.x6=true)(h:∀w,SH A w0 w Γ->cy P f vs cw w v fs): Ca P A w0 Γ f vs v (λx=>fs x++Γ):=
 λw e=>(h w e).mono λ_ _ ⟨x,he,c⟩=>⟨x,he,e.join_self c (i x),Grow.om c.below [],λb a=>by
  simp only[Ctx.ae,List.flatMap_append,List.mem_append]at a
  rcases a with a|a
  ·exact .inr (c.ge b a).1
  ·exact .inl a⟩
theorem se {α:Type}[ar α]{v a:Value}{xs ys:List α}{B:List Nat}{i:Nat}(hi:Γ[i]?=some (.fL v xs B)): ∀b∈Ctx.ae (Γ.set i (.fL a ys B)),b∈Γ.ae:=λb c=>by
 rwa[lg (f':=.fL a ys B) hi rfl]at c
end
end Go.Tc
namespace Go.Tc
open Go Go.RowKit
def bare (w:World): World:={ w with heap:=#[] }
abbrev rest (w:World)(B:List Nat): Fact:=.fz w (λk=>k<w.heap.size/\k∉B)
theorem Dc.ds {β:Type}[ar β]{w:World}{v:Value}{z:List β}{B:List Nat}(h:Dc w v z B): DS w v z B:=by
 obtain⟨cs,rfl,u,rfl,h⟩:=h
 exact h
theorem DS.dc {β:Type}[ar β]{w:World}{v:Value}{z:List β}{B:List Nat}(h:DS w v z B): Dc w v z B:=⟨[v],rfl,v,rfl,h⟩
section
variable {R:Type}{P:Program}{n:Fr}{A:Nat->Prop}{w0 w w':World}{Q:R->Exit->Act->World->Prop}{ρ ρ':Env}{Γ Γ':Ctx}{E:Option R}
variable {d:Option Nat}{ty:TypeId}{pos:String}{after:Array Edge}{g:Option (Nat×Bool)}
theorem ND {k:Nat}{f:FuncId}{fn:Func}{body:Code}{vs:List Value}{G:Type}{v:R->G->Value}{fs:R->G->Ctx}{r:R}(l:P.funcs[f]?=some fn)(m:fn.body=some body)(o:fn.ntmps=k)(hl:Nat.ble vs.length k=true)(a:SH A w0 w Γ)(b:enum 0 vs=ρ)(h:J P ⟨k,[],none⟩ A w0 body (rO P fn (tA A w0 v fs)) ρ Γ E)(p:E=some r): Calls P f vs.toArray w λe w'=>∃x,e=.returned (v r x)/\SH A w0 w' (fs r x):=by
 refine vJ l m ?_
 refine h r p _ w ⟨?_,rfl,?_⟩ a
 ·simp[Nat.ble_eq]at hl
  simp[o];omega
 ·intro t u j
  rw[<- b]at j
  obtain⟨_,c⟩:=tX vs 0 t u j
  simp at c
  have i:t<vs.length:=(List.getElem?_eq_some_iff.1 c).1
  simp[Nat.ble_eq]at hl
  refine⟨?_,show t<k by omega⟩
  simp[Array.getD_eq_getD_getElem?,Array.getElem?_append_left (show t<vs.toArray.size by simpa using i),c]
theorem mi {α:Type}{x f:Operand}{t e:TypeId}{k:IntKind}{h:Bool}{b off cap len s:Nat}{xs:List α}{j:Int}{y:α}(i:P.underlying t=some (.slice e))(he:cg P e=some (s,h))(l:ev ρ x=some (.slice (some ⟨b,off,none⟩) len cap))(c:ev ρ f=some (.int k j))(m:idx xs j=some y)(hl:len=xs.length):
  Ex P n A w0 ρ Γ ⟨d,.indexAddr t x f,ty,pos,after,g⟩ (.pointer (some ⟨b,off+j.toNat*s,none⟩)):=by
 intro a w hs p
 obtain⟨q,r,u⟩:=idx_eq m
 have o:0<=j/\j<(len:Int):=⟨by omega,by omega⟩
 simp[execOp,hs.eval l,hs.eval c,Instr.indexAt,asIntOf,run_underlying i,o,dR he,Addr.add_lit]
theorem cH {α:Type}{x f:Operand}{t e:TypeId}{k:IntKind}{h:Bool}{b cap len s:Nat}{xs:List α}{j:Int}{y:α}(i:P.underlying t=some (.slice e))(he:cg P e=some (s,h))(l:ev ρ x=some (.slice (some ⟨b,0,none⟩) len cap))(c:ev ρ f=some (.int k j))(m:idx xs j=some y)(hl:len=xs.length):
  Ex P n A w0 ρ Γ ⟨d,.indexAddr t x f,ty,pos,after,g⟩ (.pointer (some ⟨b,j.toNat*s,none⟩)):=by
 intro a w hs o
 have:=mi (P:=P) (A:=A) (w0:=w0) (Γ:=Γ) (d:=d) (ty:=ty) (pos:=pos) (after:=after) (g:=g) i he l c m hl a w hs o
 rw[Nat.zero_add]at this
 exact this
theorem run_mark {f:FuncId}{args:List Operand}{c:Array TypeId}{vs:List Value}{a:Act}{d:Nat}(hs:Sat n ρ a)(e:∀args w,(callFunc f args).run P w=.ok (.enter f args) w)(b:rp ρ args=some vs):
  (execOp a.eval ⟨some d,.call ⟨.value (.func f),args.toArray,c⟩,ty,pos,after,g⟩).run P w=.ok (.enter f vs.toArray) w:=by
 simp[execOp,resolve,Act.eval,Deferred.ofValue,invoke,hs.wv b,e]
end
end Go.Tc
namespace Go.Tc
open Go Go.RowKit
section
variable {R:Type}{P:Program}{n:Fr}{A:Nat->Prop}{w0 w w':World}{Q:R->Exit->Act->World->Prop}{ρ ρ':Env}{Γ Γ':Ctx}{E:Option R}
variable {d:Option Nat}{ty:TypeId}{pos:String}{after:Array Edge}{g:Option (Nat×Bool)}
def vN (P:Program)(fn:Func)(K:R->Value->World->Prop): R->Exit->Act->World->Prop:=λr=>bodyPostM (Fx none) 0 P fn (λe w=>∃u,e=.returned u/\K r u w)
def vE (P:Program)(n:Fr)(A:Nat->Prop)(w0:World)(ops:Array Oper)(rest:List Oper)(Q:R->Exit->Act->World->Prop)(d:Nat)(ρ:Env)(K:R->Value->World->Prop): Prop:=
 ∀u Γ' E',JL P n A w0 ops rest Q ((d,u)::ρ) Γ' E'->∀r,E'=some r->∀w,SH A w0 w Γ'->K r u w
theorem KK {ops:Array Oper}{rest:List Oper}{d:Nat}{f:FuncId}{fn:Func}{body:Code}{i:Nat}{args:List Operand}{c:Array TypeId}{vs:List Value}(hw:iE n ρ ops ⟨some d,.call ⟨.value (.func f),args.toArray,c⟩,ty,pos,after,g⟩)(hd:Nat.blt d n.n=true)(s:∀args w,(callFunc f args).run P w=.ok (.enter f args) w)(b:rp ρ args=some vs)(j:P.funcs[f]?=some fn)(v:fn.body=some body)(x:fn.ntmps=i)(hl:Nat.ble vs.length i=true)(k:enum 0 vs=ρ')(h:∀K:R->Value->World->Prop,vE P n A w0 ops rest Q d ρ K->J P ⟨i,[],none⟩ A w0 body (vN P fn K) ρ' Γ E): JL P n A w0 ops (⟨some d,.call ⟨.value (.func f),args.toArray,c⟩,ty,pos,after,g⟩::rest) Q ρ Γ E:=by
 intro r hr a w hs y
 refine wpList_step λK z=>?_
 rw[hw a hs]
 simp only[if_true]
 unfold Oper.wp
 rw[run_mark hs s b,Oper.upon_enter]
 refine(vJ j v (R:=λe w'=>∃u,e=.returned u/\wpList P ops (BF (Q r)) rest (a.put (some d) u) w') ?_).mono ?_
 ·have B:=h (λr u w'=>wpList P ops (BF (Q r)) rest (a.put (some d) u) w') (λu Γ' E' l r C w m=>l r C _ w (hs.put (by simpa[Nat.blt_eq]using hd)) m)
  refine B r hr _ w ⟨?_,rfl,?_⟩ y
  ·simp[Nat.ble_eq]at hl
   simp[x];omega
  ·intro t u q
   rw[<- k]at q
   obtain⟨_,o⟩:=tX vs 0 t u q
   simp at o
   have p:t<vs.length:=(List.getElem?_eq_some_iff.1 o).1
   simp[Nat.ble_eq]at hl
   refine⟨?_,show t<i by omega⟩
   simp[Array.getD_eq_getD_getElem?,Array.getElem?_append_left (show t<vs.toArray.size by simpa using p),o]
 ·rintro e w' ⟨u,rfl,hu⟩
  exact z _ _ hu
theorem l8 {fn:Func}{n2:Fr}{c:Env}{ops:Array Oper}{rest:List Oper}{d:Nat}{K:R->Value->World->Prop}{e:Exit}(he:e=.ret\/e=.normal)(j:vE P n A w0 ops rest Q d ρ K)(b:fn.results=#[])(h:JL P n A w0 ops rest Q ((d,.tuple #[])::ρ) Γ E)(f:n2.ds=[]:=by rfl): N n2 A w0 (vN P fn K) e c Γ E:=by
 intro r hr a w hs k
 have key:a.defers=[]/\∃u,(results fn a.tmps).run P w=.ok u w/\(∃i,Ending.returned u=.returned i/\K r i w):=by
  refine⟨hs.defers.trans f,.tuple #[],?_,_,rfl,j _ _ _ h r hr w k⟩
  rw[jv,b]
  simp
 rcases he with rfl|rfl<;>exact nG key.1 key.2
theorem Pf {fn:Func}{n2:Fr}{b:Env}{ops:Array Oper}{rest:List Oper}{d:Nat}{K:R->Value->World->Prop}{f:ResultVar}{u:Value}(j:vE P n A w0 ops rest Q d ρ K)(c:fn.results=#[f])(hu:Rv P n2 A w0 b Γ f u)(h:JL P n A w0 ops rest Q ((d,u)::ρ) Γ E)(e:n2.ds=[]:=by rfl): N n2 A w0 (vN P fn K) .ret b Γ E:=by
 intro r hr a w hs i
 refine nG (hs.defers.trans e) ⟨u,?_,_,rfl,j _ _ _ h r hr w i⟩
 rw[jv,c]
 simp[hu a w hs i]
theorem iH {fn:Func}{n2:Fr}{b:Env}{ops:Array Oper}{rest:List Oper}{d:Nat}{K:R->Value->World->Prop}{c e:ResultVar}{i j:Value}(p:vE P n A w0 ops rest Q d ρ K)(f:fn.results=#[c,e])(k:Rv P n2 A w0 b Γ c i)(l:Rv P n2 A w0 b Γ e j)(h:JL P n A w0 ops rest Q ((d,.tuple #[i,j])::ρ) Γ E)(m:n2.ds=[]:=by rfl): N n2 A w0 (vN P fn K) .ret b Γ E:=by
 intro r hr a w hs o
 refine nG (hs.defers.trans m) ⟨.tuple #[i,j],?_,_,rfl,p _ _ _ h r hr w o⟩
 rw[jv,f]
 simp[k a w hs o,l a w hs o]
theorem kr {fn:Func}{n2:Fr}{b:Env}{ops:Array Oper}{rest:List Oper}{d:Nat}{K:R->Value->World->Prop}{c e f:ResultVar}{k l m:Value}(t:vE P n A w0 ops rest Q d ρ K)(i:fn.results=#[c,e,f])(o:Rv P n2 A w0 b Γ c k)(p:Rv P n2 A w0 b Γ e l)(q:Rv P n2 A w0 b Γ f m)(h:JL P n A w0 ops rest Q ((d,.tuple #[k,l,m])::ρ) Γ E)(s:n2.ds=[]:=by rfl): N n2 A w0 (vN P fn K) .ret b Γ E:=by
 intro r hr a w hs j
 refine nG (hs.defers.trans s) ⟨.tuple #[k,l,m],?_,_,rfl,t _ _ _ h r hr w j⟩
 rw[jv,i]
 simp[o a w hs j,p a w hs j,q a w hs j]
theorem sQ {ops:Array Oper}{l:List Oper}: JL P n A w0 ops l Q ρ Γ none:=λ_ hr=>by cases hr
theorem oT {e:Exit}: N n A w0 Q e ρ Γ none:=λ_ hr=>by cases hr
theorem NG {ops:Array Oper}{l:List Oper}{E':Option R}(he:E=E')(h:JL P n A w0 ops l Q ρ Γ E'): JL P n A w0 ops l Q ρ Γ E:=he▸h
theorem HI {x y:Operand}{t u:TypeId}{m l:Int}(b:ev ρ x=some (.int .i64 m))(c:ev ρ y=some (.int .i64 l)): Ex P n A w0 ρ Γ ⟨d,.call ⟨.builtin .max,#[x,y],#[t,u]⟩,ty,pos,after,g⟩ (.int .i64 (if l>m then l else m)):=by
 intro a w hs e
 simp[execOp,resolve,invoke,builtin,hs.eval b,hs.eval c,run_max_int2]
theorem PT {x y:Operand}{t u:TypeId}{m l:Int}(b:ev ρ x=some (.int .i64 m))(c:ev ρ y=some (.int .i64 l)): Ex P n A w0 ρ Γ ⟨d,.call ⟨.builtin .min,#[x,y],#[t,u]⟩,ty,pos,after,g⟩ (.int .i64 (if l<m then l else m)):=by
 intro a w hs e
 simp[execOp,resolve,invoke,builtin,hs.eval b,hs.eval c,run_min_int2]
theorem MO {α:Type}[ar α]{ops:Array Oper}{rest:List Oper}{d:Nat}{x:Operand}{t u e:TypeId}{v:Value}{xs:List α}(i:Nat)(l:P.underlying t=some (.slice e))(o:ev ρ x=some v)(hi:Γ[i]?=some (.rd v xs))(hw:iE n ρ ops ⟨some d,.binOp .eql t x (.const (.slice none 0 0)) u,ty,pos,after,g⟩)(hd:Nat.blt d n.n=true)(p:xs=[]->JL P n A w0 ops rest Q ((d,.bool true)::ρ) Γ E)(q:JL P n A w0 ops rest Q ((d,.bool false)::ρ) Γ E): JL P n A w0 ops (⟨some d,.binOp .eql t x (.const (.slice none 0 0)) u,ty,pos,after,g⟩::rest) Q ρ Γ E:=by
 intro r hr a w hs f
 have key:∃b,(execOp a.eval ⟨some d,.binOp .eql t x (.const (.slice none 0 0)) u,ty,pos,after,g⟩).run P w=.ok (.value (.bool b)) w/\(b=true->xs=[]):=by
  have s:∃ad m cap,v=.slice ad m cap/\(ad=none->xs=[]):=by
   rcases Rd.sl (f.get i hi)with⟨rfl,ad,cap,rfl,_⟩|⟨b,off,cap,cells,rfl,_⟩
   ·exact⟨ad,0,cap,rfl,λ_=>rfl⟩
   ·exact⟨_,_,_,rfl,by simp⟩
  obtain⟨ad,m,cap,rfl,j⟩:=s
  refine⟨ad.isNone,?_,λh=>j (by simpa using h)⟩
  have y:a.eval (.const (.slice none 0 0))=.slice none 0 0:=rfl
  simp only[execOp,hs.eval o,y,eqGuard,Sem.run_bind]
  simp[Go.Lib.run_eql_slice_nil w t e ad m cap 0 0 l]
 obtain⟨b,c,z⟩:=key
 refine wpList_step λK k=>?_
 rw[hw a hs]
 simp only[if_true]
 unfold Oper.wp
 rw[c,Oper.upon_value]
 cases b with
 |true=>exact k _ _ (p (z rfl) r hr _ _ (hs.put (by simpa[Nat.blt_eq]using hd)) f)
 |false=>exact k _ _ (q r hr _ _ (hs.put (by simpa[Nat.blt_eq]using hd)) f)
end
end Go.Tc
namespace Go.Tc
open Go Go.RowKit
section
variable {R:Type}{P:Program}{n:Fr}{A:Nat->Prop}{w0 w w':World}{Q:R->Exit->Act->World->Prop}{ρ ρ':Env}{Γ Γ':Ctx}{E:Option R}
variable {d:Option Nat}{ty:TypeId}{pos:String}{after:Array Edge}{g:Option (Nat×Bool)}
def yK {α:Type}(xs ys:List α): List α:=ys.take (min xs.length ys.length)++xs.drop (min xs.length ys.length)
theorem wI {α:Type}(xs ys:List α): (yK xs ys).length=xs.length:=by simp[yK];omega
theorem Ot {α:Type}[ar α]{x y:Operand}{t e:TypeId}{ag:Bool}{v u:Value}{xs ys:List α}(i:Nat)(q:ar.sz α=1)(U:P.underlying t=some (.slice e))(he:cg P e=some (1,ag))(hx:ev ρ x=some v)(hy:ev ρ y=some u)(hi:Γ[i]?=some (.ow e v xs))(V:∀w,SH A w0 w Γ->Src (λk=>A k\/k∈Γ.ae) w u ys):
  St P n A w0 ρ Γ ⟨d,.call ⟨.builtin .copy,#[x,y],#[t,t]⟩,ty,pos,after,g⟩ (λ_:Unit=>.int .i64 ((min xs.length ys.length:Nat):Int)) (λ_=>Γ.set i (.ow e v (yK xs ys))) v.ownBlock.toList:=by
 intro a w hs T
 obtain⟨cells,h,hr⟩:=T.get i hi
 have z:(P.info? e).map (·.size)=some 1:=by
  unfold cg at he
  split at he
  ·rename_i inf u' e1 e2
   simp at he
   simp[e1,he.1]
  ·simp at he
 have H:=dT.length _ _ hr
 rw[q,Nat.mul_one]at H
 have o:yK xs ys=xs->∀w',w'=w->SH A w0 w' (Γ.set i (.ow e v (yK xs ys))):=λB w' hw=>by
  subst hw
  rw[B,Aj hi]
  exact T
 have C:gR Γ (Γ.set i (.ow e v (yK xs ys))) w:=.set hi (λc B=>.inl B)
 have b:(execOp a.eval ⟨d,.call ⟨.builtin .copy,#[x,y],#[t,t]⟩,ty,pos,after,g⟩).run P w=((Builtin.copy_ #[t,t] ty #[v,u]).run P w).andThen λr w'=>.ok (.value r) w':=by
  simp[execOp,resolve,invoke,builtin,hs.eval hx,hs.eval hy]
 rw[show((min xs.length ys.length:Nat):Int)=((min ys.length xs.length:Nat):Int)by rw[Nat.min_comm]]
 rcases V w T with⟨rfl,rfl⟩|⟨ad,cap,news,rfl,W,f⟩
 ·have B:yK xs []=xs:=by simp[yK]
  refine⟨(),w,?_,o B w rfl,Grow.refl w _,C⟩
  rw[b]
  have X:∃ad c,v=.slice ad xs.length c:=by
   obtain⟨_,h⟩:=h
   rcases h with⟨rfl,Y⟩|⟨p,c,cur,rfl,_⟩
   ·exact⟨none,0,by rw[Y]⟩
   ·exact⟨_,c,rfl⟩
  obtain⟨ad,c,rfl⟩:=X
  rw[run_copy_none w t t ty e ad none xs.length c 0 0 U z (by simp)]
  simp[goInt]
 ·have Z:=dT.length _ _ f
  rw[q,Nat.mul_one]at Z
  obtain⟨ah,D⟩:=h
  rcases D with⟨rfl,Y⟩|⟨p,c,cur,rfl,_,hg,I,aa,J,F⟩
  ·have ab:xs=[]:=List.eq_nil_of_length_eq_zero Y
   subst ab
   have B:yK ([]:List α) ys=[]:=by simp[yK]
   refine⟨(),w,?_,o B w rfl,Grow.refl w _,C⟩
   rw[b,run_copy_none w t t ty e none (some ad) 0 0 ys.length cap U z (by simp)]
   simp[goInt]
  ·generalize hm:min ys.length xs.length=m
   have j:(news.take m).length=m:=by rw[List.length_take];omega
   have L:0+(news.take m).length<=cur.size:=by rw[j,J,q];omega
   have s:=run_copy_row (P:=P) w t t ty e p 0 xs.length c ad ys.length cap cur e (news.take m) U z hg (by rw[j,<- hm]) (λk v l=>W k v (by
     rw[List.getElem?_take]at l
     split at l
     ·exact l
     ·simp at l)) L (λv X=>dT.one _ _ f v (List.mem_of_mem_take X))
   simp only[List.take_zero,List.nil_append,Nat.zero_add,j]at s
   refine⟨(),w.setRow p (news.take m++cur.toList.drop m).toArray,?_,?_,⟨rfl,rfl,rfl,by simp,λk _ l=>setRow_other w p k _ (λe=>l (by simp[Value.ownBlock,e]))⟩,C⟩
   ·rw[b,s]
    simp[goInt]
   ·have ac:Ctx.ae (Γ.set i (.ow e (.slice (some ⟨p,0,none⟩) xs.length c) (yK xs ys)))=Γ.ae:=lg hi rfl
    have af:p∈Γ.ae:=List.mem_flatMap.2 ⟨_,List.mem_of_getElem? hi,by simp[Fact.ae,Value.ownBlock]⟩
    have hA:∀k,k<w.heap.size->¬(A k\/k∈Γ.ae)->(w.setRow p (news.take m++cur.toList.drop m).toArray).heap[k]?=w.heap[k]?/\¬(A k\/k∈Γ.ae):=λk l M=>⟨setRow_other w p k _ (λe=>M (.inr (e▸af))),M⟩
    refine T.set hi ⟨rfl,rfl,rfl,by simp,λk _ l=>setRow_other w p k _ (λe=>l (by simp[Fact.ae,Value.ownBlock,e]))⟩ (by simp[Fact.ae,Value.ownBlock]) (λk l=>?_) ?_
    ·simp[Fact.ae,Value.ownBlock]at l
     subst l
     exact⟨.inl (by simp[Fact.ae,Value.ownBlock]),by simpa using mj hg⟩
    ·rw[ac]
     have ai:m<=xs.length:=by omega
     have N:cur.size=c:=by rw[J,q,Nat.mul_one]
     refine⟨news.take m++cells.drop m,⟨?_,.inr ⟨p,c,_,?_,Nat.zero_le _,setRow_heap w p cur _ e _ hg,?_,aa,?_,?_⟩⟩,?_⟩
     ·rw[wI,List.length_append,j,List.length_drop,H,q];omega
     ·rw[wI]
     ·rw[wI];exact I
     ·simp only[List.size_toArray,List.length_append,j,List.length_drop,Array.length_toList]
      rw[N,q];omega
     ·rw[wI,q,Nat.mul_one]at *
      rw[<- F,List.take_append,j,List.take_of_length_le (by omega),List.drop_take]
     ·have e1:yK xs ys=ys.take m++xs.drop m:=by unfold yK;rw[Nat.min_comm,hm]
      rw[e1]
      have t1:=dT.take ys news m f
      have t2:=dT.drop xs cells m hr
      rw[q,Nat.mul_one]at t1 t2
      exact dT.append _ _ _ _ (dT.frame hA _ _ t1) (dT.frame hA _ _ t2)
theorem Dz {x:Operand}{t e:TypeId}{m c:Nat}{ad:Option Addr}(b:P.underlying t=some (.slice e))(f:ev ρ x=some (.slice ad m c)): Ex P n A w0 ρ Γ ⟨d,.call ⟨.builtin .cap,#[x],#[t]⟩,ty,pos,after,g⟩ (.int .i64 (c:Int)):=by
 intro a w hs h
 simp[execOp,resolve,invoke,builtin,hs.eval f,Builtin.cap_,run_underlying b,goInt]
theorem Gx {x hi:Operand}{t e:TypeId}{c:Bool}{s:Nat}(f:P.underlying t=some (.slice e))(he:cg P e=some (s,c))(h:ev ρ x=some (.slice none 0 0))(b:ev ρ hi=some (.int .i64 0)): Ex P n A w0 ρ Γ ⟨d,.slice t x none (some hi) none,ty,pos,after,g⟩ (.slice none 0 0):=by
 intro a w hs i
 simp[execOp,hs.eval h,hs.eval b,Instr.sliceAt,Instr.slice,run_underlying f,Instr.sliceBounds,Instr.sliceBound,asIntOf,dR he]
theorem um {α:Type}[ar α]{x:Operand}{t e:TypeId}{L:Bool}{v:Value}{xs ys:List α}{hi:Operand}{h:Int}(i:Nat)(p:P.underlying t=some (.slice e))(he:cg P e=some (ar.sz α,L))(q:ev ρ x=some v)(f:ev ρ hi=some (.int .i64 h))(b:Γ[i]?=some (.ow e v xs))(M:jV xs 0 h=some ys): St P n A w0 ρ Γ ⟨d,.slice t x none (some hi) none,ty,pos,after,g⟩ (λr:Value=>r) (λr=>Γ.set i (.ow e r ys)) []:=by
 intro a w hs s
 obtain⟨W,X,N,rfl⟩:=ug M
 simp only[Int.toNat_zero,List.drop_zero]
 obtain⟨cells,⟨u,l⟩,hr⟩:=s.get i b
 have hlen:(xs.take h.toNat).length=h.toNat:=by rw[List.length_take];omega
 rcases l with⟨rfl,T⟩|⟨y,c,cur,rfl,U,J,V,z,B,j⟩
 ·have C:xs=[]:=List.eq_nil_of_length_eq_zero T
  subst C
  simp at N
  have D:h=0:=by omega
  subst D
  refine⟨.slice none 0 0,w,?_,?_,Grow.refl w _,.set b (λc F=>.inl F)⟩
  ·simp[execOp,hs.eval q,hs.eval f,Instr.sliceAt,Instr.slice,run_underlying p,Instr.sliceBounds,Instr.sliceBound,asIntOf,dR he]
  ·rw[List.take_nil,Aj b]
   exact s
 ·refine⟨.slice (some ⟨y,0,none⟩) h.toNat c,w,?_,?_,Grow.refl w _,.set b (λc F=>.inl (by simpa[Fact.ae,Value.ownBlock]using F))⟩
  ·have m:0<=h/\h<=(c:Int):=⟨by omega,by omega⟩
   by_cases o:c=0
   ·simp[execOp,hs.eval q,hs.eval f,Instr.sliceAt,Instr.slice,run_underlying p,Instr.sliceBounds,Instr.sliceBound,asIntOf,dR he,m,o]
    omega
   ·simp[execOp,hs.eval q,hs.eval f,Instr.sliceAt,Instr.slice,run_underlying p,Instr.sliceBounds,Instr.sliceBound,asIntOf,dR he,Addr.add_lit,m,o]
    try omega
  ·have H:Ctx.ae (Γ.set i (.ow e (.slice (some ⟨y,0,none⟩) h.toNat c) (xs.take h.toNat)))=Γ.ae:=lg b rfl
   refine s.set b (Grow.refl w _) (by simp[Fact.ae,Value.ownBlock]) (λk I=>⟨.inl (by simpa[Fact.ae,Value.ownBlock]using I),?_⟩) ?_
   ·simp[Fact.ae,Value.ownBlock]at I
    subst I
    exact mj J
   ·rw[H]
    refine⟨cells.take (h.toNat*ar.sz α),⟨?_,.inr ⟨y,c,cur,by rw[hlen],U,J,by rw[hlen];omega,z,B,?_⟩⟩,dT.take _ _ _ hr⟩
    ·rw[hlen,List.length_take,u]
     have:=Nat.mul_le_mul_right (ar.sz α) (show h.toNat<=xs.length by omega)
     omega
    ·rw[hlen,<- j,List.take_take,Nat.min_eq_left (Nat.mul_le_mul_right _ (by omega))]
theorem Ml {α:Type}[ar α]{x y:Operand}{t C e:TypeId}{U:Bool}{bytes:Nat}{f:Value}{z:α}{k:Int}{xs:List α}(V:P.underlying t=some (.slice e))(D:P.underlying C=some (.int .i64))(he:cg P e=some (ar.sz α,U))(W:fu P e=some f)(X:rk P e=some bytes)(l:Nat.ble bytes 128=true)(b:∀A w,∃j:List Value,f.cells=j.toArray/\ar.lG A w j z)(Y:ev ρ x=some (.slice none 0 0))(N:ev ρ y=some (.int .i64 k))(Z:0<k)(B:Fg k z=some xs):
  St P n A w0 ρ Γ ⟨d,.call ⟨.builtin .append,#[x,y],#[t,C]⟩,ty,pos,after,g⟩ (λv:Value=>v) (λv=>.ow e v xs::Γ) []:=by
 intro a w hs hh
 obtain⟨h0,h,rfl⟩:=L9 B
 obtain⟨inf,c,F⟩:=Option.bind_eq_some_iff.1 W
 have H:inf.size=ar.sz α:=by
  have h:=he
  unfold cg at h
  rw[c]at h
  split at h
  ·rename_i i' u' e1 e2
   simp at e1 h
   rw[e1];exact h.1
  ·simp at h
 have I:inf.bytes=bytes:=by simpa[rk,c]using X
 simp only[Nat.ble_eq]at l
 obtain⟨m,rfl⟩:=Int.eq_ofNat_of_zero_le h0
 simp only[Int.toNat_natCast]at B h N ⊢
 have J:0<m:=by omega
 have L:m*inf.bytes<=281474976710656:=by
  rw[I]
  have:=Nat.mul_le_mul (show m<=1099511627776 by omega) l
  omega
 have i:=Go.Lib.run_append_nil_zeros (P:=P) w t C ty e inf f .i64 .i64 V D c F m J (by rw[H];exact ar.pos) (by omega) L
 obtain⟨j,o,b⟩:=b (λT=>A T\/T∈Ctx.ae (.ow e (.slice (some ⟨w.heap.size,0,none⟩) m (grownCap w m 0 e)) (List.replicate m z)::Γ)) w
 have p:m<=grownCap w m 0 e:=grownCap_ge w _ _ _
 have r:j.length=ar.sz α:=ar.len b
 generalize hG:grownCap w m 0 e=G at i p b
 have s:f.cells.size=ar.sz α:=by rw[o];simpa using r
 have M:∀q,q<m*ar.sz α->(Builtin.zeroCells f.cells m++Builtin.zeroCells f.cells (G-m))[q]?=(madeCells j.toArray (m*ar.sz α))[q]?:=by
  intro q hq
  rw[Array.getElem?_append_left (by rw[size_zeroCells,s];exact hq)]
  rw[o]
  simp[Builtin.zeroCells,madeCells,r,hq]
 refine⟨.slice (some ⟨w.heap.size,0,none⟩) m G,w.drew.alloc (.cells (Builtin.zeroCells f.cells m++Builtin.zeroCells f.cells (G-m)) e),?_,?_,(Grow.drew w []).trans (Grow.alloc w.drew _ []),.cons (by simp[Fact.ae,Value.ownBlock])⟩
 ·simp[execOp,resolve,invoke,builtin,hs.eval Y,hs.eval N,i]
 ·have u:w.drew.heap.size=w.heap.size:=rfl
  refine hh.drew.cons (Grow.alloc w.drew _ []) (by simp[Fact.ae,Value.ownBlock]) (by simp[Fact.ae,Value.ownBlock,u]) ?_
  refine⟨(madeCells j.toArray (m*ar.sz α)).toList,⟨?_,.inr ⟨w.heap.size,G,_,by simp,Nat.zero_le _,heap_alloc_new w.drew _,by simpa using p,?_,?_,?_⟩⟩,?_⟩
  ·simp[size_madeCells]
  ·have:=grownCap_le_maxLen w m 0 e (by unfold maxLen;omega)
   rw[hG]at this
   exact this
  ·simp only[Array.size_append,size_zeroCells,s]
   rw[<- Nat.add_mul];congr 1;omega
  ·simp only[List.length_replicate]
   apply List.ext_getElem?
   intro q
   rw[List.getElem?_take]
   by_cases hq:q<m*ar.sz α
   ·rw[if_pos hq]
    have:=M q hq
    rw[<- Array.getElem?_toList,<- Array.getElem?_toList]at this
    exact this
   ·rw[if_neg hq,List.getElem?_eq_none]
    simp[size_madeCells];omega
  ·refine dT.frame ?_ _ _ (zy b m)
   intro k B ha
   exact⟨heap_alloc_old w.drew _ (by rw[u];exact B),ha⟩
def Sub {α:Type}[ar α](v:Value)(xs:List α)(a:Value)(ys:List α): Prop:=(∀w B,Dn w v xs B->Dn w a ys B)/\∀A w,Rd A w v xs->Rd A w a ys
theorem Sub.refl {α:Type}[ar α]{v:Value}{xs:List α}: Sub v xs v xs:=⟨λ_ _ h=>h,λ_ _ h=>h⟩
theorem Sub.nil {α:Type}[ar α]{v:Value}{xs:List α}: Sub v xs (.slice none 0 0) ([]:List α):=⟨λ_ _ _=>LF,λ_ _ _=>F6⟩
theorem Sub.trans {α:Type}[ar α]{v b a:Value}{xs ys c:List α}(h:Sub v xs b ys)(k:Sub b ys a c): Sub v xs a c:=⟨λw B d=>k.1 w B (h.1 w B d),λA w r=>k.2 A w (h.2 A w r)⟩
theorem DL.take {α:Type}[ar α]{w:World}: ∀(xs:List α) (cs:List Value) (B:List Nat) (k:Nat),DL w cs xs B->∃a,a.Sublist B/\DL w (cs.take (k*ar.sz α)) (xs.take k) a
 |[],cs,B,k,h=>⟨[],List.nil_sublist _,by rw[h.1];simp[DL]⟩
 |x::r,cs,B,0,h=>⟨[],List.nil_sublist _,by simp[DL]⟩
 |x::r,cs,B,k+1,⟨c1,c2,b,f,e,i,c,j⟩=>by
  subst e i
  have l:=ar.len (ar.sT (A:=cw) c λ_ _ h=>h)
  obtain⟨a,s',m⟩:=DL.take r c2 f k j
  refine⟨b++a,List.Sublist.append (List.Sublist.refl _) s',c1,c2.take (k*ar.sz α),b,a,?_,rfl,c,m⟩
  rw[show(k+1)*ar.sz α=c1.length+k*ar.sz α by rw[Nat.add_mul,l];omega,List.take_length_add_append]
theorem DL.drop {α:Type}[ar α]{w:World}: ∀(xs:List α) (cs:List Value) (B:List Nat) (k:Nat),DL w cs xs B->∃a,a.Sublist B/\DL w (cs.drop (k*ar.sz α)) (xs.drop k) a
 |[],cs,B,k,h=>⟨[],List.nil_sublist _,by rw[h.1];simp[DL]⟩
 |x::r,cs,B,0,h=>⟨B,List.Sublist.refl _,by simpa using h⟩
 |x::r,cs,B,k+1,⟨c1,c2,m,b,e,c,f,i⟩=>by
  subst e c
  have j:=ar.len (ar.sT (A:=cw) f λ_ _ h=>h)
  obtain⟨a,s',l⟩:=DL.drop r c2 b k i
  refine⟨a,s'.trans (List.sublist_append_right _ _),?_⟩
  rw[show(k+1)*ar.sz α=c1.length+k*ar.sz α by rw[Nat.add_mul,j];omega,List.drop_length_add_append]
  exact l
def sb (s l h:Nat): Value->Value
 |.slice ad _ cap=>.slice (if cap=l then ad else ad.map (·.add (l*s))) (h-l) (cap-l)
 |v=>v
theorem GH {t e:TypeId}{s len cap:Nat}{j:Bool}{ad:Option Addr}{lo hi:Option Value}{l h:Int}(k:P.underlying t=some (.slice e))(he:cg P e=some (s,j))(a:lo=none/\l=0\/lo=some (.int .i64 l))(b:hi=none/\h=len\/hi=some (.int .i64 h))(m:0<=l)(p:l<=h)(q:h<=len)(r:len<=cap):
  (Instr.sliceAt t (.slice ad len cap) lo hi none).run P w=.ok (sb s l.toNat h.toNat (.slice ad len cap)) w:=by
 have c:0<=h/\h<=(cap:Int):=⟨by omega,by omega⟩
 have f:0<=l/\l<=(len:Int):=⟨m,by omega⟩
 have o:¬max h 0<l:=by omega
 have i:l<=max h 0:=by omega
 rcases a with⟨rfl,rfl⟩|rfl<;>rcases b with⟨rfl,rfl⟩|rfl <;>
  simp[Instr.sliceAt,Instr.slice,run_underlying k,Instr.sliceBounds,Instr.sliceBound,asIntOf,dR he,sb,c,f,i]
theorem M4 {α:Type}[ar α]{ad:Option Addr}{cap:Nat}{xs ys:List α}{l h:Int}(L:jV xs l h=some ys)(r:∀a,ad=some a->a.spot=none)(s:ad=none->cap=0)(F:xs.length<=cap)(v:cap<=maxLen): Sub (.slice ad xs.length cap) xs (sb (ar.sz α) l.toNat h.toNat (.slice ad xs.length cap)) ys:=by
 obtain⟨X,Y,H,rfl⟩:=ug L
 have hlen:((xs.take h.toNat).drop l.toNat).length=h.toNat-l.toNat:=by simp;omega
 have k:ad=none->xs=[]/\l=0/\h=0:=λe=>by
  have:=s e
  have:xs.length=0:=by omega
  exact⟨List.eq_nil_of_length_eq_zero this,by omega,by omega⟩
 refine⟨λw B hd=>?_,λA w hr=>?_⟩
 ·obtain⟨Z,x,y,o⟩:=hd
  have z:=x.ds
  cases ad with
  |none=>
   obtain⟨rfl,rfl,rfl⟩:=k rfl
   have:=s rfl
   subst this
   exact LF
  |some a=>
   obtain⟨b,off,sp⟩:=a
   have:=r _ rfl
   simp only at this
   subst this
   rcases z with⟨rfl,rfl,_,C⟩|⟨b',I,p,cells,M,arr,t,q,N,h3,h4,T,U,V,rfl⟩
   ·simp at H
    have:l=0:=by omega
    have:h=0:=by omega
    subst l h
    have D:cap=0:=by
     simp at C
     omega
    subst D
    exact⟨[],DS.dc (.inl ⟨by simp,rfl,_,rfl⟩),by simp,by simp⟩
   ·simp only[Value.slice.injEq,Option.some.injEq,Addr.mk.injEq,and_true]at q
    obtain⟨⟨rfl,rfl⟩,_,rfl⟩:=q
    obtain⟨W,s1,d1⟩:=DL.take xs cells M h.toNat U
    obtain⟨J,s2,d2⟩:=DL.drop _ _ W l.toNat d1
    have hs:=s2.trans s1
    refine⟨b::J,DS.dc (.inr ⟨b,if cap=l.toNat then off else off+l.toNat*ar.sz α,cap-l.toNat,_,J,arr,t,?_,N,?_,?_,?_,d2,?_,rfl⟩),y.sublist (hs.cons_cons b),λc f=>o c ((hs.cons_cons b).subset f)⟩
    ·rw[hlen]
     simp only[sb]
     by_cases f:cap=l.toNat<;>simp[f,Addr.add_lit]
    ·rw[hlen];omega
    ·omega
    ·intro j u i
     have m:=(List.getElem?_eq_some_iff.1 i).1
     simp at m
     by_cases f:cap=l.toNat
     ·exfalso
      have:h.toNat<=l.toNat:=by omega
      have:=Nat.mul_le_mul_right (ar.sz α) this
      omega
     ·rw[if_neg f,Nat.add_assoc]
      refine T _ _ ?_
      rw[List.getElem?_drop,List.getElem?_take]at i
      split at i
      ·exact i
      ·simp at i
    ·by_cases f:cap=l.toNat
     ·rw[if_pos f,f,Nat.sub_self,Nat.zero_mul]
      omega
     ·rw[if_neg f,Nat.add_assoc,<- Nat.add_mul,show l.toNat+(cap-l.toNat)=cap by omega]
      exact V
 ·refine .zT ?_
  rcases Rd.sl hr with⟨rfl,_⟩|⟨b,off,p,cells,q,g1,g2,g3,g4,g5,g6⟩
  ·simp at H
   have:l=0:=by omega
   have:h=0:=by omega
   subst l h
   refine .inl ⟨by simp,_,cap,rfl,λe=>?_,v⟩
   cases ad with
   |none=>exact s rfl
   |some a=>split at e<;>simp at e
  ·simp only[Value.slice.injEq]at q
   obtain⟨rfl,_,rfl⟩:=q
   refine .inr ⟨b,if cap=l.toNat then off else off+l.toNat*ar.sz α,cap-l.toNat,(cells.take (h.toNat*ar.sz α)).drop (l.toNat*ar.sz α),?_,g1,g2,?_,?_,?_,dT.drop _ _ _ (dT.take _ _ _ g6)⟩
   ·rw[hlen]
    simp only[sb]
    by_cases f:cap=l.toNat<;>simp[f,Addr.add_lit]
   ·rw[hlen];omega
   ·omega
   ·intro j u i
    have m:=(List.getElem?_eq_some_iff.1 i).1
    simp at m
    by_cases f:cap=l.toNat
    ·exfalso
     have:h.toNat<=l.toNat:=by omega
     have:=Nat.mul_le_mul_right (ar.sz α) this
     omega
    ·rw[if_neg f,Nat.add_assoc]
     refine g5 _ _ ?_
     rw[List.getElem?_drop,List.getElem?_take]at i
     split at i
     ·exact i
     ·simp at i
theorem Gz {α:Type}[ar α]{x:Operand}{t e:TypeId}{Y:Bool}{v:Value}{xs ys:List α}{lo hi:Option Operand}{l h:Int}(i:Nat)(Z:P.underlying t=some (.slice e))(he:cg P e=some (ar.sz α,Y))(hx:ev ρ x=some v)(z:bound ρ lo 0=some l)(C:bound ρ hi xs.length=some h)(p:Γ[i]?=some (.rd v xs))(D:jV xs l h=some ys): St P n A w0 ρ Γ ⟨d,.slice t x lo hi none,ty,pos,after,g⟩ (λu:Value=>u) (λu=>.rd u ys::.pr (Sub v xs u ys)::Γ) []:=by
 intro a w hs F
 have hr:=Rd.sl (F.get i p)
 have hv:∃ad cap,v=.slice ad xs.length cap/\(∀a,ad=some a->xs=[]\/a.spot=none)/\(ad=none->cap=0)/\xs.length<=cap/\cap<=maxLen:=by
  rcases hr with⟨rfl,ad,cap,rfl,y,j⟩|⟨b,off,cap,cells,rfl,g1,g2,g3,g4,g5,g6⟩
  ·exact⟨ad,cap,rfl,λ_ _=>.inl rfl,y,Nat.zero_le _,j⟩
  ·exact⟨_,cap,rfl,λa e=>by cases e;exact .inr rfl,by simp,g3,g4⟩
 obtain⟨ad,cap,rfl,H,y,k,j⟩:=hv
 obtain⟨h0,h1,W,_⟩:=ug D
 have q:=GH (P:=P) (w:=w) (ad:=ad) (cap:=cap) Z he (kU hs z) (kU hs C) h0 h1 W k
 have m:Sub (.slice ad xs.length cap) xs (sb (ar.sz α) l.toNat h.toNat (.slice ad xs.length cap)) ys:=by
  by_cases r:xs=[]
  ·subst r
   obtain⟨_,_,_,rfl⟩:=ug D
   simp at W
   have:l=0:=by omega
   have:h=0:=by omega
   subst l h
   simp only[List.take_nil,List.drop_nil]
   have o:∃c,sb (ar.sz α) (Int.toNat 0) (Int.toNat 0) (.slice ad ([]:List α).length cap)=.slice c 0 cap/\(c=none->cap=0)/\∀b off,ad=some ⟨b,off,none⟩->c=ad:=by
    refine⟨_,rfl,λe=>?_,λb off e=>?_⟩
    ·cases ad with
     |none=>exact y rfl
     |some a=>split at e<;>simp at e
    ·subst e
     split
     ·rfl
     ·simp[Addr.add_lit]
   obtain⟨c,I,J,L⟩:=o
   rw[I]
   refine⟨λw B hB=>?_,λA w _=>.zT (.inl ⟨rfl,c,cap,rfl,J,j⟩)⟩
   obtain⟨B0,s,M,N⟩:=hB
   have T:=s.ds
   rcases T with⟨_,_,aa,f⟩|⟨b,off,X,cells,Bs,arr,t2,f,U⟩
   ·have V:cap=0:=by
     simp at f
     exact f.2
    subst V
    exact⟨[],DS.dc (.inl ⟨rfl,rfl,c,rfl⟩),by simp,by simp⟩
   ·have e1:ad=some ⟨b,off,none⟩:=by
     simp at f
     exact f.1
    rw[L b off e1]
    exact⟨B0,s,M,N⟩
  ·exact M4 D (λa e=>(H a e).resolve_left r) y k j
 refine⟨sb (ar.sz α) l.toNat h.toNat (.slice ad xs.length cap),w,?_,?_,Grow.refl w _,.plain rfl⟩
 ·simp only[execOp,hs.eval hx,Option.map_none]
  simp[q]
 ·have h3:SH A w0 w (.pr (Sub (.slice ad xs.length cap) xs (sb (ar.sz α) l.toNat h.toNat (.slice ad xs.length cap)) ys)::Γ):=F.cons (Grow.refl w []) (by simp[Fact.ae]) (by simp[Fact.ae]) m
  refine h3.oa ?_
  have:=m.2 _ w (F.get i p)
  simpa[Ctx.ae,Fact.ae]using this
theorem SH.pr {p:Prop}(h:SH A w0 w Γ)(i:Nat)(hi:Γ[i]?=some (.pr p)): p:=h.get i hi
theorem SH.lF {α:Type}[ar α]{v a:Value}{xs ys:List α}{B:List Nat}(h:SH A w0 w Γ)(i:Nat)(hi:Γ[i]?=some (.fL v xs B))(hs:Sub v xs a ys): SH A w0 w (Γ.set i (.fL a ys B)):=by
 refine h.Cv hi rfl (λc=>⟨hs.1 _ _ c.1,c.2⟩) ?_ (λb e=>h.uS b (List.mem_flatMap.2 ⟨_,List.mem_of_getElem? hi,e⟩))
 refine(yl (f':=.fL a ys B) hi).nodup_iff.2 ?_
 exact(p8 hi).nodup_iff.1 h.tu
theorem SH.mS {α:Type}[ar α]{v a:Value}{xs ys:List α}(h:SH A w0 w Γ)(i:Nat)(hi:Γ[i]?=some (.rd v xs))(hs:Sub v xs a ys): SH A w0 w (.rd a ys::Γ):=h.oa (hs.2 _ _ (h.get i hi))
theorem SH.o7 {p:Prop}(h:SH A w0 w Γ)(a:p): SH A w0 w (.pr p::Γ):=h.cons (Grow.refl w []) (by simp[Fact.ae]) (by simp[Fact.ae]) a
section
variable {w1:World}{Γ1:Ctx}{ops:Array Oper}{O:List Nat}{fuel:Nat}{listed:Array Bool}
theorem uz {α:Type}[ar α]{e:TypeId}{v:Value}{xs:List α}{j:Int}{y:α}(i:Nat)(hi:Γ[i]?=some (.ow e v xs))(k:idx xs j=some y)(h:∀b cap,v=.slice (some ⟨b,0,none⟩) xs.length cap->JP P n A w0 ops O fuel listed Q ρ Γ E): JP P n A w0 ops O fuel listed Q ρ Γ E:=by
 intro r hr a w hs f
 obtain⟨cells,⟨_,c⟩,_⟩:=f.get i hi
 rcases c with⟨rfl,o⟩|⟨l,cap,cur,m,_⟩
 ·have:=(idx_eq k).2.1
  omega
 ·exact h l cap m r hr a w hs f
theorem ID {α:Type}[ar α]{e:TypeId}{v:Value}{xs:List α}{j:Int}{y:α}(i:Nat)(hi:Γ[i]?=some (.ow e v xs))(k:idx xs j=some y)(h:∀b cap,v=.slice (some ⟨b,0,none⟩) xs.length cap->JD P n A w0 w1 Γ1 ops O fuel listed Q ρ Γ E): JD P n A w0 w1 Γ1 ops O fuel listed Q ρ Γ E:=by
 intro r hr a w hs f l m
 obtain⟨cells,⟨_,c⟩,_⟩:=f.get i hi
 rcases c with⟨rfl,q⟩|⟨o,cap,cur,p,_⟩
 ·have:=(idx_eq k).2.1
  omega
 ·exact h o cap p r hr a w hs f l m
theorem O9 {α:Type}[ar α]{js:List Nat}{e:TypeId}{v:Value}{xs:List α}{B:List Nat}(m:Nat)(hm:(cj js Γ)[m]?=some (.od e v xs B)): ∀k∈v.ownBlock.toList,k∈(cj js Γ).ae:=xG m hm
theorem oX {α:Type}[ar α]{js:List Nat}{e:TypeId}{b len cap:Nat}{xs:List α}(m:Nat)(hm:(cj js Γ)[m]?=some (.ow e (.slice (some ⟨b,0,none⟩) len cap) xs)): ∀k∈[b],k∈(cj js Γ).ae:=xG m hm
theorem Br {f:Fact}(m:Nat)(js c j:List Nat)(hm:Γ[m]?=some f)(l:gM (m::j)=true)(o:(List.range Γ1.length).all (λi=>(js++c).any (Nat.beq i))=true)(hs:cj c Γ1=cj j Γ)(D:(cj js Γ1).ae=O)(F:SH A w0 w Γ)(r:gR Γ1 Γ w1): ∀k∈f.ae,k∈O\/w1.heap.size<=k:=by
 intro k B
 have p:k∈Γ.ae:=List.mem_flatMap.2 ⟨f,List.mem_of_getElem? hm,B⟩
 rcases r k p with s|s
 ·left
  obtain⟨f1,t,u⟩:=List.mem_flatMap.1 s
  obtain⟨i,hi⟩:=List.mem_iff_getElem?.1 t
  have v:=(List.getElem?_eq_some_iff.1 hi).1
  have:=List.all_eq_true.1 o i (List.mem_range.2 v)
  rw[List.any_eq_true]at this
  obtain⟨I,b,e⟩:=this
  have e:=Nat.eq_of_beq_eq_true e
  subst e
  have a:∀(is:List Nat),i∈is->k∈(cj is Γ1).ae:=by
   intro is
   induction is with
   |nil=>intro h;simp at h
   |cons q is H=>
    intro h
    simp only[cj]
    rcases List.mem_cons.1 h with rfl|h
    ·rw[hi]
     simp only[Ctx.ae,List.flatMap_cons,List.mem_append]
     exact .inl u
    ·have:=H h
     cases hq:Γ1[q]? with
     |none=>exact this
     |some f'=>
      simp only[Ctx.ae,List.flatMap_cons,List.mem_append]
      exact .inr this
  rcases List.mem_append.1 b with b|b
  ·rw[<- D]
   exact a js b
  ·have C:=a c b
   rw[hs]at C
   obtain⟨m2,x,f2,y,z⟩:=kD j Γ k C
   simp only[gM,Bool.and_eq_true,Bool.not_eq_true',List.any_eq_false]at l
   exact(wb F.nd hm y (λe=>by subst e;exact l.1 m x (Nat.beq_refl m)) B z).elim
 ·exact .inr s
theorem Grow.C7 {w w':World}{T:List Nat}(a:Grow w1 w O)(b:Grow w w' T)(e:∀k∈T,k∈O\/w1.heap.size<=k): Grow w1 w' O:=
 ⟨b.os.trans a.os,b.tape.trans a.tape,b.output.trans a.output,Nat.le_trans a.size b.size,λk c hs=>(b.block k (Nat.lt_of_lt_of_le c a.size) (λhm=>(e k hm).elim hs (λh=>by omega))).trans (a.block k c hs)⟩
variable {ty:TypeId}{pos:String}{after:Array Edge}{g:Option (Nat×Bool)}
theorem wF {i d:Nat}{op:Op}{G:Type}{v:G->Value}{Γ':G->Ctx}{f:Fact}(m:Nat)(js b c:List Nat)(hm:Γ[m]?=some f)(q:gM (m::c)=true)(j:(List.range Γ1.length).all (λi=>(js++b).any (Nat.beq i))=true)(s:cj b Γ1=cj c Γ)(F:(cj js Γ1).ae=O)(hi:ops[i]?=some ⟨some d,op,ty,pos,after,g⟩)(hw:iE n ρ ops ⟨some d,op,ty,pos,after,g⟩)(hd:Nat.blt d n.n=true){T:List Nat}(H:St P n A w0 ρ Γ ⟨some d,op,ty,pos,after,g⟩ v Γ' T)(t:∀k∈T,k∈f.ae)(h:∀x,JD P n A w0 w1 Γ1 ops O fuel (listed.setIfInBounds i true) Q ((d,v x)::ρ) (Γ' x) E): JO P n A w0 w1 Γ1 ops O fuel listed Q i ρ Γ E:=by
 intro r u a w e C y l
 obtain⟨x,w',o,z,p,B⟩:=H a w e C
 have D:∀k∈T,k∈O\/w1.heap.size<=k:=λk I=>Br m js b c hm q j s F C l k (t k I)
 unfold wpOp
 simp only[hi,hw a e,if_true]
 refine .inl ?_
 unfold Oper.wp
 rw[o,Oper.upon_value]
 exact⟨y.C7 p D,h x r u _ _ (e.put (by simpa[Nat.blt_eq]using hd)) z (y.C7 p D) (l.trans y B)⟩
theorem yM {i:Nat}{op:Op}{f:Fact}(m:Nat)(js b c:List Nat)(hm:Γ[m]?=some f)(q:gM (m::c)=true)(j:(List.range Γ1.length).all (λi=>(js++b).any (Nat.beq i))=true)(s:cj b Γ1=cj c Γ)(C:(cj js Γ1).ae=O)(hi:ops[i]?=some ⟨none,op,ty,pos,after,g⟩)(hw:iE n ρ ops ⟨none,op,ty,pos,after,g⟩){T:List Nat}(D:Sk P n A w0 ρ Γ ⟨none,op,ty,pos,after,g⟩ Γ' T)(t:∀k∈T,k∈f.ae)(h:JD P n A w0 w1 Γ1 ops O fuel (listed.setIfInBounds i true) Q ρ Γ' E): JO P n A w0 w1 Γ1 ops O fuel listed Q i ρ Γ E:=by
 intro r u a w e z v l
 obtain⟨w',o,x,p,y⟩:=D a w e z
 have B:∀k∈T,k∈O\/w1.heap.size<=k:=λk F=>Br m js b c hm q j s C z l k (t k F)
 unfold wpOp
 simp only[hi,hw a e,if_true]
 refine .inl ?_
 unfold Oper.wp
 rw[o,Oper.upon_skip]
 exact⟨v.C7 p B,h r u _ _ e x (v.C7 p B) (l.trans v y)⟩
end
end
end Go.Tc
namespace Go.Tc
open Go Go.RowKit
section
variable {A:Nat->Prop}{w0 w w':World}{Γ Γ' Δ:Ctx}
theorem SH.perm (h:SH A w0 w Γ)(a:Γ.Perm Γ'): SH A w0 w Γ':=by
 have c:Γ.ae.Perm Γ'.ae:=a.flatMap_right _
 have j:Γ.cb.Perm Γ'.cb:=a.flatMap_right _
 refine⟨h.below,h.av,c.nodup_iff.1 h.nd,λb e=>h.ge b (c.mem_iff.2 e),j.nodup_iff.1 h.tu,λb e=>h.uS b (j.mem_iff.2 e),λf m=>?_⟩
 refine Fact.frame (Nat.le_refl _) (h.all f (a.mem_iff.2 m)) (λ_ _=>rfl) (λ_ _=>rfl) (λk _ l=>⟨rfl,?_⟩)
 rintro(i|i)
 ·exact l (.inl i)
 ·exact l (.inr (c.mem_iff.2 i))
end
structure HP where
 i:Nat
 d:Nat
 G:Type
 v:G->Value
 fs:G->Ctx
def Fo:List HP->(Env->Ctx->Prop)->Env->Ctx->Prop
 |[],K,ρ,Γ=>K ρ Γ
 |p::S,K,ρ,Γ=>∀x:p.G,Fo S K ((p.d,p.v x)::ρ) (p.fs x++Γ)
def w5 (P:Program)(n:Fr)(A:Nat->Prop)(w0:World)(ops:Array Oper)(ρ:Env)(Γ:Ctx)(p:HP): Prop:=
 ∀(Δ:Ctx) (Q:Exit->Act->World->Prop) (a:Act) (w:World) (K:Act->World->Prop),Sat n ρ a->SH A w0 w (Γ++Δ)->
  (∀x w',SH A w0 w' (p.fs x++(Γ++Δ))->Grow w w' []->gR (Γ++Δ) (p.fs x++(Γ++Δ)) w->K (a.put (some p.d) (p.v x)) w')->wpOp P ops Q p.i K a w
def BO (P:Program)(n:Fr)(A:Nat->Prop)(w0:World)(ops:Array Oper)(ρ:Env)(Γ:Ctx): List HP->Prop
 |[]=>True
 |p::S=>w5 P n A w0 ops ρ Γ p/\BO P n A w0 ops ρ Γ S
theorem BO.get {P:Program}{n:Fr}{A:Nat->Prop}{w0:World}{ops:Array Oper}{ρ:Env}{Γ:Ctx}: ∀ {S:List HP},BO P n A w0 ops ρ Γ S->∀p∈S,w5 P n A w0 ops ρ Γ p
 |_::_,h,p,a=>by
  rcases List.mem_cons.1 a with rfl|a
  ·exact h.1
  ·exact h.2.get p a
def Dm (ops:Array Oper)(listed:Array Bool): List Nat->List Nat->Bool
 |_,[]=>true
 |pre,i::r=>Nat.blt i listed.size&&!(listed.getD i true)&&(match ops[i]? with|none=>false|some o=>o.after.all λe=>!Region.binds .any e || listed.getD e.on false || pre.contains e.on)&&Dm ops listed (i::pre) r
def Il (ops:Array Oper)(listed:Array Bool)(is:List Nat): Bool:=
 Dm ops listed [] is &&
 (List.range ops.size).all λj=>listed.getD j true || is.contains j || match ops[j]? with
  |none=>true
  |some o=>(is.all λi=>o.after.any λe=>Region.binds .any e&&e.on==i) || o.after.any λe=>Region.binds .any e&&!(listed.getD e.on false)&&!(is.contains e.on)
def mY (listed:Array Bool)(is:List Nat): Array Bool:=is.foldl (λl i=>l.setIfInBounds i true) listed
theorem pR:∀(is:List Nat) (listed:Array Bool) (j:Nat),(mY listed is)[j]?=if j∈is/\j<listed.size then some true else listed[j]?
 |[],_,_=>by simp[mY]
 |i::is,l,j=>by
  show(mY (l.setIfInBounds i true) is)[j]?=_
  rw[pR is,Array.size_setIfInBounds,Array.getElem?_setIfInBounds]
  by_cases c:j∈is
  ·by_cases a:j<l.size
   ·simp[c,a]
   ·by_cases b:i=j
    ·subst b;simp[a]
    ·simp[a,b]
  ·by_cases b:i=j
   ·subst b
    by_cases a:i<l.size
    ·simp[c,a]
    ·simp[a]
   ·simp[c,b,Ne.symm b]
theorem Hy {is js:List Nat}(h:is.Perm js)(listed:Array Bool): mY listed is=mY listed js:=by
 apply Array.ext_getElem?
 intro j
 rw[pR,pR]
 simp only[h.mem_iff]
theorem HV (listed:Array Bool)(is:List Nat)(i:Nat): mY listed (is++[i])=(mY listed is).setIfInBounds i true:=by
 simp[mY,List.foldl_append]
theorem getD_eq {l:Array Bool}{j:Nat}{b:Bool}: l.getD j b=(l[j]?).getD b:=by simp[Array.getD_eq_getD_getElem?]
theorem mem_ready {ops:Array Oper}{l:Array Bool}{j:Nat}: j∈Region.ready .any ops l↔j<ops.size/\l.getD j true=false/\∃o,ops[j]?=some o/\∀e∈o.after,Region.binds .any e=true->l.getD e.on false=true:=by
 unfold Region.ready
 rw[List.mem_filter,List.mem_range]
 constructor
 ·rintro⟨a,b⟩
  simp only[Bool.and_eq_true,Bool.not_eq_true']at b
  refine⟨a,b.1,ops[j],by simp[a],λe he c=>?_⟩
  have f:=b.2
  simp only[Array.getElem?_eq_getElem a,Option.map_some,Option.getD_some]at f
  have:=Array.all_eq_true_iff_forall_mem.1 f e he
  simpa[c]using this
 ·rintro⟨a,b,o,h,f⟩
  refine⟨a,?_⟩
  simp only[Bool.and_eq_true,Bool.not_eq_true',h,Option.map_some,Option.getD_some]
  refine⟨b,Array.all_eq_true_iff_forall_mem.2 λe he=>?_⟩
  cases c:Region.binds .any e with
  |false=>rfl
  |true=>simpa[c]using f e he c
theorem Fy {ops:Array Oper}{listed:Array Bool}: ∀ {is pre:List Nat},Dm ops listed pre is=true->∀i∈is,i<listed.size/\listed.getD i true=false
 |x::r,pre,h,i,hi=>by
  unfold Dm at h
  simp only[Bool.and_eq_true,Nat.blt_eq,Bool.not_eq_true']at h
  rcases List.mem_cons.1 hi with rfl|hi
  ·exact⟨h.1.1.1,h.1.1.2⟩
  ·exact Fy h.2 i hi
theorem Ce {ops:Array Oper}{listed:Array Bool}{ds:List Nat}: ∀ {is pre:List Nat},Dm ops listed pre is=true->(∀x∈pre,x∈ds/\x<listed.size)->(∃t∈is,t∉ds)->∃u,u∈Region.ready .any ops (mY listed ds)
 |[],_,_,_,⟨t,c,_⟩=>by simp at c
 |x::r,pre,h,a,⟨t,c,f⟩=>by
  have s:=h
  unfold Dm at h
  simp only[Bool.and_eq_true,Nat.blt_eq,Bool.not_eq_true']at h
  by_cases i:x∈ds
  ·refine Ce h.2 (λy j=>?_) ⟨t,?_,f⟩
   ·rcases List.mem_cons.1 j with rfl|j
    ·exact⟨i,h.1.1.1⟩
    ·exact a y j
   ·rcases List.mem_cons.1 c with rfl|c
    ·exact absurd i f
    ·exact c
  ·refine⟨x,mem_ready.2 ?_⟩
   cases l:ops[x]? with
   |none=>rw[l]at h;simp at h
   |some o=>
    have m:=h.1.2
    rw[l]at m
    simp only at m
    refine⟨mj l,by rw[getD_eq,pR,if_neg (λk=>i k.1),<- getD_eq];exact h.1.1.2,o,rfl,λe he p=>?_⟩
    have b:=Array.all_eq_true_iff_forall_mem.1 m e he
    simp only[p,Bool.not_true,Bool.false_or,Bool.or_eq_true]at b
    rw[getD_eq,pR]
    split
    ·rfl
    ·rename_i q
     rcases b with b|b
     ·rw[getD_eq]at b;exact b
     ·have:=a e.on (by simpa using b)
      exact absurd this q
theorem HE {ops:Array Oper}{listed:Array Bool}{is ds:List Nat}{t:Nat}(h:Il ops listed is=true)(i:∀d∈ds,d∈is)(s:t∈is)(l:t∉ds):
  Region.ready .any ops (mY listed ds)≠[]/\∀j∈Region.ready .any ops (mY listed ds),j∈is/\j∉ds:=by
 unfold Il at h
 rw[Bool.and_eq_true,List.all_eq_true]at h
 obtain⟨y,C⟩:=h
 have m:=Fy y
 have f:∀j,j∉ds->(mY listed ds)[j]?=listed[j]?:=λj v=>by rw[pR,if_neg (λk=>v k.1)]
 refine⟨?_,?_⟩
 ·intro he
  obtain⟨u,hu⟩:=Ce (ds:=ds) y (by simp) ⟨t,s,l⟩
  rw[he]at hu
  simp at hu
 ·intro j v
  obtain⟨r1,r,o,D,z⟩:=mem_ready.1 v
  have p:j∉ds:=by
   intro hm
   obtain⟨hs,_⟩:=m j (i j hm)
   rw[getD_eq,pR,if_pos ⟨hm,hs⟩]at r
   simp at r
  refine⟨?_,p⟩
  have a:=C j (List.mem_range.2 r1)
  rw[getD_eq,f j p,<- getD_eq]at r
  simp only[r,D,Bool.false_or,Bool.or_eq_true]at a
  rcases a with a|a|a
  ·simpa using a
  ·exfalso
   have:=List.all_eq_true.1 a t s
   obtain⟨e,he,c⟩:=Array.any_eq_true'.1 this
   simp only[Bool.and_eq_true,beq_iff_eq]at c
   have:=z e he c.1
   rw[c.2,getD_eq,f t l]at this
   obtain⟨_,q⟩:=m t s
   rw[getD_eq]at q
   cases hl:listed[t]? with
   |none=>rw[hl]at this;simp at this
   |some b=>rw[hl]at this q;simp at this q;rw[this]at q;simp at q
  ·exfalso
   obtain⟨e,he,c⟩:=Array.any_eq_true'.1 a
   simp only[Bool.and_eq_true,Bool.not_eq_true']at c
   have B:=z e he c.1.1
   have x:e.on∉ds:=λhm=>by
    have:=i _ hm
    have F:=c.2
    simp[this]at F
   rw[getD_eq,f _ x,<- getD_eq,c.1.2]at B
   simp at B
section
variable {R:Type}{P:Program}{n:Fr}{A:Nat->Prop}{w0 w1:World}{Q:R->Exit->Act->World->Prop}{ρ ρ':Env}{Γ Γ' Γp Γ1:Ctx}{E:Option R}{O:List Nat}{ops:Array Oper}{fuel:Nat}{listed:Array Bool}
variable {ty:TypeId}{pos:String}{after:Array Edge}{g:Option (Nat×Bool)}
abbrev kS:=(p:HP)×p.G
def kS.holds (n:Fr)(a:Act)(q:kS): Prop:=a.tmps.getD q.1.d undef=q.1.v q.2/\q.1.d<n.n
def kS.fs (q:kS): Ctx:=q.1.fs q.2
theorem Sat.more {a:Act}{d:Nat}{v:Value}(h:Sat n ρ a)(c:a.tmps.getD d undef=v)(hd:d<n.n): Sat n ((d,v)::ρ) a:=by
 refine⟨h.size,h.defers,λt u b=>?_⟩
 simp only[Env.get]at b
 by_cases e:d=t
 ·subst e
  simp at b
  subst b
  exact⟨c,hd⟩
 ·rw[uh e]at b
  exact h.get t u (by simpa using b)
theorem Fo.use {K:Env->Ctx->Prop}: ∀(S:List HP) (ρ:Env) (Γ:Ctx) (D:List kS),(D.map (·.1)).Perm S->Fo S K ρ Γ->
  ∃ρ' Γ',K ρ' Γ'/\(∀a,Sat n ρ a->(∀q∈D,q.holds n a)->Sat n ρ' a)/\(Γ++D.flatMap kS.fs).Perm Γ'
 |[],ρ,Γ,D,e,h=>by
  have:D=[]:=by simpa using e.length_eq
  subst this
  exact⟨ρ,Γ,h,λa f _=>f,by simp⟩
 |p::S,ρ,Γ,D,e,h=>by
  have hm:p∈D.map (·.1):=e.mem_iff.2 List.mem_cons_self
  obtain⟨q,hq,rfl⟩:=List.mem_map.1 hm
  obtain⟨D1,b,rfl⟩:=List.append_of_mem hq
  have c:(D1++q::b).Perm (q::(D1++b)):=List.perm_middle
  have i:((D1++b).map (·.1)).Perm S:=by
   have:=(c.map (·.1)).symm.trans e
   exact List.Perm.cons_inv this
  obtain⟨ρ',Γ',k1,k,k3⟩:=Fo.use S ((q.1.d,q.1.v q.2)::ρ) (q.1.fs q.2++Γ) (D1++b) i (h q.2)
  refine⟨ρ',Γ',k1,λa f hs=>k a (f.more (hs q hq).1 (hs q hq).2) (λl j=>hs l (c.mem_iff.2 (List.mem_cons_of_mem _ j))),?_⟩
  refine List.Perm.trans ?_ k3
  have:((D1++q::b).flatMap kS.fs).Perm (q.fs++(D1++b).flatMap kS.fs):=by
   have:=c.flatMap_right kS.fs
   simpa using this
  refine(this.append_left Γ).trans ?_
  show(Γ++(q.1.fs q.2++(D1++b).flatMap kS.fs)).Perm ((q.1.fs q.2++Γ)++(D1++b).flatMap kS.fs)
  rw[<- List.append_assoc]
  exact List.perm_append_comm.append_right _
theorem OH (S:List HP)(Z:Il ops listed (S.map (·.i))=true)(aa:(S.all λp=>(ρ.get p.d).isNone&&Nat.blt p.d n.n)=true)(ab:gM (S.map (·.d))=true)(ac:gM (S.map (·.i))=true)(ad:BO P n A w0 ops ρ Γ S)(h:Fo S (λρ' Γ'=>JD P n A w0 w1 Γ1 ops O fuel (mY listed (S.map (·.i))) Q ρ' Γ' E) ρ Γ): JD P n A w0 w1 Γ1 ops O (fuel+S.length) listed Q ρ Γ E:=by
 have f:∀l:List Nat,gM l=true->l.Nodup:=by
  intro l
  induction l with
  |nil=>simp
  |cons x l ih=>
   intro hl
   simp only[gM,Bool.and_eq_true,Bool.not_eq_true',List.any_eq_false]at hl
   exact List.nodup_cons.2 ⟨λhm=>hl.1 x hm (Nat.beq_refl x),ih hl.2⟩
 intro r hr
 have key:∀(k:Nat) (T:List HP) (D:List kS) (a:Act) (w:World),T.length=k->(D.map (·.1)++T).Perm S->Sat n ρ a->(∀q∈D,q.holds n a)->SH A w0 w (Γ++D.flatMap kS.fs)->Grow w1 w O->
   gR Γ1 (Γ++D.flatMap kS.fs) w1->wpAnyH P .any ops (BF (Q r)) (λw'=>Grow w1 w' O) (fuel+k) (mY listed ((D.map (·.1)).map (·.i))) a w:=by
  intro k
  induction k with
  |zero=>
   intro T D a w Y v hs hq J I m
   have:T=[]:=List.eq_nil_of_length_eq_zero Y
   subst this
   rw[List.append_nil]at v
   obtain⟨ρ',Γ',k1,k2,k3⟩:=Fo.use (n:=n) S ρ Γ D v h
   have e:=Hy (v.map (·.i)) listed
   rw[e]
   refine k1 r hr a w (k2 a hs hq) (J.perm k3) I (λb hb=>m b ?_)
   have ho:Ctx.ae (Γ++D.flatMap kS.fs) |>.Perm Γ'.ae:=k3.flatMap_right _
   exact ho.mem_iff.2 hb
  |succ k ih=>
   intro T D a w Y v hs hq J I m
   have o:=v.map (·.i)
   have L:=v.map (·.d)
   rw[List.map_append]at o L
   have y:=o.nodup_iff.2 (f _ ac)
   have z:=L.nodup_iff.2 (f _ ab)
   obtain⟨t,ht⟩:∃t,t∈T:=by
    cases T with
    |nil=>simp at Y
    |cons t T=>exact⟨t,List.mem_cons_self⟩
   rw[List.nodup_append]at y z
   obtain⟨r1,r2⟩:=HE (ds:=(D.map (·.1)).map (·.i)) (t:=t.i) Z (λd hd=>o.mem_iff.1 (List.mem_append_left _ hd)) (o.mem_iff.1 (List.mem_append_right _ (List.mem_map.2 ⟨t,ht,rfl⟩)))
    (λhm=>y.2.2 _ hm _ (List.mem_map.2 ⟨t,ht,rfl⟩) rfl)
   rw[show fuel+(k+1)=(fuel+k)+1 from rfl]
   refine wpAnyH_all rfl r1 λj hj=>?_
   obtain⟨j1,j2⟩:=r2 j hj
   have M:=o.mem_iff.2 j1
   rcases List.mem_append.1 M with M|M
   ·exact absurd M j2
   obtain⟨p,C,rfl⟩:=List.mem_map.1 M
   have N:p∈S:=v.mem_iff.1 (List.mem_append_right _ C)
   obtain⟨T1,T2,rfl⟩:=List.append_of_mem C
   have s:=List.all_eq_true.1 aa p N
   simp only[Bool.and_eq_true,Option.isNone_iff_eq_none,Nat.blt_eq]at s
   refine ad.get p N (D.flatMap kS.fs) _ a w _ hs J λx w' af ag U=>?_
   have V:Grow w1 w' O:=I.more ag (by simp)
   refine⟨V,?_⟩
   have W:(mY listed ((D.map (·.1)).map (·.i))).setIfInBounds p.i true=mY listed (((D++[(⟨p,x⟩:kS)]).map (·.1)).map (·.i)):=by
    rw[List.map_append,List.map_append]
    exact(HV _ _ _).symm
   rw[W]
   have B:(p.fs x++(Γ++D.flatMap kS.fs)).Perm (Γ++(D++[(⟨p,x⟩:kS)]).flatMap kS.fs):=by
    have e:(D++[(⟨p,x⟩:kS)]).flatMap kS.fs=D.flatMap kS.fs++p.fs x:=by simp[kS.fs]
    refine List.perm_append_comm.trans ?_
    rw[e,List.append_assoc]
   refine ih (T1++T2) (D++[⟨p,x⟩]) _ _ ?_ ?_ ?_ ?_ (af.perm B) V ?_
   ·simp at Y ⊢;omega
   ·refine List.Perm.trans ?_ v
    rw[List.map_append,List.append_assoc]
    exact(List.perm_middle (l₁:=T1) (l₂:=T2) (a:=p)).symm.append_left _
   ·refine⟨by simp[Act.put,hs.size],hs.defers,λt u F=>?_⟩
    obtain⟨g1,g2⟩:=hs.get t u F
    have H:p.d≠t:=by
     rintro rfl
     rw[s.1]at F
     cases F
    refine⟨?_,g2⟩
    simp[Act.put,Array.getD_eq_getD_getElem?,H]
    simpa[Array.getD_eq_getD_getElem?]using g1
   ·intro q c
    rcases List.mem_append.1 c with c|c
    ·obtain⟨g1,g2⟩:=hq q c
     have H:p.d≠q.1.d:=by
      intro e
      exact z.2.2 q.1.d (List.mem_map.2 ⟨q.1,List.mem_map.2 ⟨q,c,rfl⟩,rfl⟩) p.d (List.mem_map.2 ⟨p,C,rfl⟩) e.symm
     refine⟨?_,g2⟩
     simp[Act.put,Array.getD_eq_getD_getElem?,H]
     simpa[Array.getD_eq_getD_getElem?]using g1
    ·rw[List.mem_singleton]at c
     subst c
     exact⟨by simp[Act.put,hs.size,s.2],s.2⟩
   ·have ho:(Ctx.ae (p.fs x++(Γ++D.flatMap kS.fs))).Perm (Ctx.ae (Γ++(D++[(⟨p,x⟩:kS)]).flatMap kS.fs)):=B.flatMap_right _
    have X:=gR.trans m I U
    exact λb hb=>X b (ho.mem_iff.2 hb)
 intro a w hs J I m
 have:=key S.length S [] a w rfl (by simp) hs (by simp) (by simpa using J) I (by simpa using m)
 simpa[mY]using this
theorem PH (S:List HP)(is:List Nat)(k:Nat)(a:S.map (·.i)=is)(l:S.length=k)(b:Il ops listed is=true)(c:(S.all λp=>(ρ.get p.d).isNone&&Nat.blt p.d n.n)=true)(e:gM (S.map (·.d))=true)(f:gM is=true)(j:BO P n A w0 ops ρ Γ S)(h:Fo S (λρ' Γ'=>JD P n A w0 w1 Γ1 ops O fuel (mY listed is) Q ρ' Γ' E) ρ Γ): JD P n A w0 w1 Γ1 ops O (fuel+k) listed Q ρ Γ E:=by
 subst a l
 exact OH S b c e f j h
theorem w5.st {i d:Nat}{op:Op}{G:Type}{v:G->Value}{fs:G->Ctx}(hi:ops[i]?=some ⟨some d,op,ty,pos,after,g⟩)(hw:iE n ρ ops ⟨some d,op,ty,pos,after,g⟩)(h:∀Δ,St P n A w0 ρ (Γ++Δ) ⟨some d,op,ty,pos,after,g⟩ v (λx=>fs x++(Γ++Δ)) []): w5 P n A w0 ops ρ Γ ⟨i,d,G,v,fs⟩:=by
 intro Δ Q a w K hs j k
 obtain⟨x,w',b,c,e,f⟩:=h Δ a w hs j
 unfold wpOp
 simp only[hi,hw a hs,if_true]
 refine .inl ?_
 unfold Oper.wp
 rw[b,Oper.upon_value]
 exact k x w' c e f
theorem w5.call {i d:Nat}{f:FuncId}{args:List Operand}{b:Array TypeId}{vs:List Value}{G:Type}{v:G->Value}{fs:G->Ctx}(hi:ops[i]?=some ⟨some d,.call ⟨.value (.func f),args.toArray,b⟩,ty,pos,after,g⟩)(hw:iE n ρ ops ⟨some d,.call ⟨.value (.func f),args.toArray,b⟩,ty,pos,after,g⟩)(m:∀args w,(callFunc f args).run P w=.ok (.enter f args) w)(c:rp ρ args=some vs)(o:∀Δ,Ca P A w0 (Γ++Δ) f vs v (λx=>fs x++(Γ++Δ))): w5 P n A w0 ops ρ Γ ⟨i,d,G,v,fs⟩:=by
 intro Δ Q a w K hs p q
 unfold wpOp
 simp only[hi,hw a hs,if_true]
 refine .inl ?_
 have h:(execOp a.eval ⟨some d,.call ⟨.value (.func f),args.toArray,b⟩,ty,pos,after,g⟩).run P w=.ok (.enter f vs.toArray) w:=by
  simp[execOp,resolve,Act.eval,Deferred.ofValue,invoke,hs.wv c,m]
 unfold Oper.wp
 rw[h,Oper.upon_enter]
 refine(o Δ w p).mono ?_
 rintro e w' ⟨x,rfl,j,k,l⟩
 exact q x w' j k l
end
section
variable {R S S' G G':Type}{n:Fr}{A:Nat->Prop}{w0:World}{Q:R->Exit->Act->World->Prop}{ρ:Env}{Γ:Ctx}{E:Option R}
theorem bq {id:Nat}{a:S->G->Env}{b:S->G->Ctx}{c:S'->G'->Env}{e:S'->G'->Ctx}{f:S'->Option R}(h:N n A w0 Q .ret ρ Γ E):
  N n A w0 (vC n A w0 id Q a b c e (Out.elim f (λ(r:Option R)=>r))) .ret ρ Γ (some (.inr (.ret E))):=eA h
end
section
variable {R:Type}{P:Program}{n:Fr}{A:Nat->Prop}{w0 w:World}{Q:R->Exit->Act->World->Prop}{ρ ρ':Env}{Γ Γ':Ctx}{E:Option R}
variable {ty:TypeId}{pos:String}{after:Array Edge}{g:Option (Nat×Bool)}
theorem j4 {ops:Array Oper}{rest:List Oper}{d:Nat}{o:Operand}{f:FuncId}{fn:Func}{body:Code}{k:Nat}{args:List Operand}{c:Array TypeId}{vs caps:List Value}(hw:iE n ρ ops ⟨some d,.call ⟨.value o,args.toArray,c⟩,ty,pos,after,g⟩)(hd:Nat.blt d n.n=true)(x:∀args w,(callFunc f args).run P w=.ok (.enter f args) w)(y:ev ρ o=some (.func (.func f) #[] caps.toArray))(b:rp ρ args=some vs)(l:P.funcs[f]?=some fn)(z:fn.body=some body)(B:fn.ntmps=k)(hl:Nat.ble (vs++caps).length k=true)(m:enum 0 (vs++caps)=ρ')(h:∀K:R->Value->World->Prop,vE P n A w0 ops rest Q d ρ K->J P ⟨k,[],none⟩ A w0 body (vN P fn K) ρ' Γ E): JL P n A w0 ops (⟨some d,.call ⟨.value o,args.toArray,c⟩,ty,pos,after,g⟩::rest) Q ρ Γ E:=by
 intro r hr a w hs C
 refine wpList_step λK D=>?_
 rw[hw a hs]
 simp only[if_true]
 unfold Oper.wp
 rw[yG hs x y b,Oper.upon_enter]
 refine(vJ l z (R:=λe w'=>∃u,e=.returned u/\wpList P ops (BF (Q r)) rest (a.put (some d) u) w') ?_).mono ?_
 ·have F:=h (λr u w'=>wpList P ops (BF (Q r)) rest (a.put (some d) u) w') (λu Γ' E' p r H w q=>p r H _ w (hs.put (by simpa[Nat.blt_eq]using hd)) q)
  refine F r hr _ w ⟨?_,rfl,?_⟩ C
  ·simp[Nat.ble_eq]at hl
   simp[B];omega
  ·intro t u v
   rw[<- m]at v
   obtain⟨_,I⟩:=tX (vs++caps) 0 t u v
   have i:(vs++caps)[t]?=some u:=by simpa using I
   have s:t<(vs++caps).length:=(List.getElem?_eq_some_iff.1 i).1
   simp only[Nat.ble_eq]at hl
   refine⟨?_,show t<k by omega⟩
   have j:t<((vs++caps).toArray).size:=by simpa using s
   rw[Array.getD_eq_getD_getElem?,Array.getElem?_append_left j]
   simp only[List.getElem?_toArray,i,Option.getD_some]
 ·rintro e w' ⟨u,rfl,hu⟩
  exact D _ _ hu
end
end Go.Tc
namespace Go.Tc
open Go Go.RowKit
section
variable {κ ν:Type}[DecidableEq κ]
def fA:List (κ×ν)->κ->Option ν
 |[],_=>none
 |(a,v)::r,k=>if a=k then some v else fA r k
def lY:List (κ×ν)->κ->ν->List (κ×ν)
 |[],k,v=>[(k,v)]
 |(a,u)::r,k,v=>if a=k then (a,v)::r else (a,u)::lY r k v
@[simp] theorem AQ (k:κ): fA ([]:List (κ×ν)) k=none:=rfl
theorem BK (m:List (κ×ν))(k b:κ)(v:ν): fA (lY m k v) b=if k=b then some v else fA m b:=by
 induction m with
 |nil=>simp[lY,fA]
 |cons p r f=>
  obtain⟨a,u⟩:=p
  simp only[lY]
  by_cases h:a=k
  ·subst h
   simp only[if_true,fA]
   split<;>simp_all
  ·simp only[if_neg h,fA,f]
   by_cases c:a=b
   ·subst c
    have i:¬k=a:=λe=>h e.symm
    simp[i]
   ·simp[c]
end
structure yc (P:Program)(K:TypeId){κ:Type}(enc:κ->Value): Prop where
 Jp:∀(w:World) (em:Bool) (x:κ),(Instr.checkKey em 10000 K (enc x)).run P w=.ok () w
 now:∃d,P.underlying K=some d/\((∀x y:κ,Instr.sameNow d (enc x) (enc y)=none)\/∀x y:κ,∃b,Instr.sameNow d (enc x) (enc y)=some b/\(b=true↔x=y))
 eq:∀(w:World) (x y:κ),∃b,(Op.equal K (enc x) (enc y)).run P w=.ok b w/\(b=true↔x=y)
 bits:∀x:κ,Instr.sameBits 10000 (enc x) (enc x)=true
theorem rR {P:Program}{w:World}{r:Nat}{es:Array MapEntry}{clock:Nat}(a:w.heap[r]?=some (.map es clock)): (getObj r).run P w=.ok (.map es clock) w:=by simp[getObj,Sem.run,a]
theorem DJ {P:Program}{w:World}{r:Nat}{es:Array MapEntry}{clock:Nat}(a:w.heap[r]?=some (.map es clock))(o:Obj): (setObj r o).run P w=.ok () { w with heap:=w.heap.setIfInBounds r o }:=by simp[setObj,Sem.run,a]
def HQ (es:Array MapEntry)(clock:Nat): Prop:=(es.toList.map (·.born)).Nodup/\∀e∈es.toList,e.born<clock
def Od {κ ν:Type}(enc:κ->Value)(venc:ν->Value)(b:Nat)(m:List (κ×ν))(w:World): Prop:=
 ∃es clock,w.heap[b]?=some (.map es clock)/\es.toList.map (λe=>(e.key,e.val))=m.map (λp=>(enc p.1,venc p.2))/\HQ es clock
def qv {κ ν:Type}(enc:κ->Value)(venc:ν->Value)(b:Nat)(m:List (κ×ν)): Fact:=.inv [b] (Od enc venc b m)
section
variable {P:Program}{K:TypeId}{κ ν:Type}[DecidableEq κ]{enc:κ->Value}{venc:ν->Value}
theorem xL (s:yc P K enc)(w:World)(x:κ): ∀(es:List MapEntry) (m:List (κ×ν)) (i:Nat),es.map (λe=>(e.key,e.val))=m.map (λp=>(enc p.1,venc p.2))->
  (Instr.findAsking K (enc x) es i).run P w=.ok none w/\fA m x=none\/
  ∃j e v,(Instr.findAsking K (enc x) es i).run P w=.ok (some (i+j,e.val)) w/\es[j]?=some e/\fA m x=some v/\e.val=venc v/\e.key=enc x/\∀k,lY m x k=m.set j (x,k)
 |[],m,i,h=>by
  have:m=[]:=by simpa using h.symm
  subst this
  left
  simp[Instr.findAsking,fA]
 |e::es,[],i,h=>by simp at h
 |e::es,(a,u)::m,i,h=>by
  simp only[List.map_cons,List.cons.injEq,Prod.mk.injEq]at h
  obtain⟨⟨o,y⟩,z⟩:=h
  obtain⟨b,t,l⟩:=s.eq w x a
  cases b with
  |true=>
   have q:x=a:=l.1 rfl
   subst q
   right
   refine⟨0,e,u,?_,rfl,by simp[fA],y,o,λk=>by simp[lY]⟩
   simp[Instr.findAsking,o,t]
  |false=>
   have f:¬a=x:=λq=>by have:=l.2 q.symm;simp at this
   have c:(Instr.findAsking K (enc x) (e::es) i).run P w=(Instr.findAsking K (enc x) es (i+1)).run P w:=by simp[Instr.findAsking,o,t]
   rcases xL s w x es m (i+1) z with⟨k1,r⟩|⟨j,B,v,k1,r,k3,k4,k5,k6⟩
   ·left
    exact⟨by rw[c,k1],by simp[fA,f,r]⟩
   ·right
    refine⟨j+1,B,v,?_,by simpa using r,by simp[fA,f,k3],k4,k5,λk=>by simp[lY,f,k6 k]⟩
    rw[c,k1,show i+1+j=i+(j+1)by omega]
theorem zu {d:TypeDesc}(s:∀x y:κ,∃b,Instr.sameNow d (enc x) (enc y)=some b/\(b=true↔x=y))(x:κ): ∀(es:List MapEntry) (m:List (κ×ν)) (i:Nat),es.map (λe=>(e.key,e.val))=m.map (λp=>(enc p.1,venc p.2))->
  Instr.findNow d (enc x) es i=some none/\fA m x=none\/
  ∃j e v,Instr.findNow d (enc x) es i=some (some (i+j,e.val))/\es[j]?=some e/\fA m x=some v/\e.val=venc v/\e.key=enc x/\∀k,lY m x k=m.set j (x,k)
 |[],m,i,h=>by
  have:m=[]:=by simpa using h.symm
  subst this
  left
  simp[Instr.findNow,fA]
 |e::es,[],i,h=>by simp at h
 |e::es,(a,u)::m,i,h=>by
  simp only[List.map_cons,List.cons.injEq,Prod.mk.injEq]at h
  obtain⟨⟨o,z⟩,B⟩:=h
  obtain⟨b,t,l⟩:=s x a
  cases b with
  |true=>
   have q:x=a:=l.1 rfl
   subst q
   right
   refine⟨0,e,u,?_,rfl,by simp[fA],z,o,λk=>by simp[lY]⟩
   simp[Instr.findNow,o,t]
  |false=>
   have f:¬a=x:=λq=>by have:=l.2 q.symm;simp at this
   have c:Instr.findNow d (enc x) (e::es) i=Instr.findNow d (enc x) es (i+1):=by simp[Instr.findNow,o,t]
   rcases zu s x es m (i+1) B with⟨k1,r⟩|⟨j,C,v,k1,r,k3,k4,k5,k6⟩
   ·left
    exact⟨by rw[c,k1],by simp[fA,f,r]⟩
   ·right
    refine⟨j+1,C,v,?_,by simpa using r,by simp[fA,f,k3],k4,k5,λk=>by simp[lY,f,k6 k]⟩
    rw[c,k1,show i+1+j=i+(j+1)by omega]
theorem xi (f:yc P K enc)(w:World)(x:κ)(es:List MapEntry)(m:List (κ×ν))(h:es.map (λe=>(e.key,e.val))=m.map (λp=>(enc p.1,venc p.2))):
  (Instr.findKey K (enc x) es).run P w=.ok none w/\fA m x=none\/
  ∃j e v,(Instr.findKey K (enc x) es).run P w=.ok (some (j,e.val)) w/\es[j]?=some e/\fA m x=some v/\e.val=venc v/\e.key=enc x/\∀i,lY m x i=m.set j (x,i):=by
 obtain⟨d,hd,b|b⟩:=f.now
 ·cases es with
  |nil=>
   have:m=[]:=by simpa using h.symm
   subst this
   left
   simp[Instr.findKey,Instr.findNow,run_underlying hd,fA]
  |cons e es=>
   cases m with
   |nil=>simp at h
   |cons p m=>
    have k:e.key=enc p.1:=by simp at h;exact h.1.1
    have l:Instr.findNow d (enc x) (e::es) 0=none:=by simp[Instr.findNow,k,b]
    have hr:(Instr.findKey K (enc x) (e::es)).run P w=(Instr.findAsking K (enc x) (e::es) 0).run P w:=by simp[Instr.findKey,run_underlying hd,l]
    rcases xL f w x (e::es) (p::m) 0 h with⟨k1,a⟩|⟨j,c,v,k1,a⟩
    ·exact .inl ⟨by rw[hr,k1],a⟩
    ·exact .inr ⟨j,c,v,by rw[hr,k1,Nat.zero_add],a⟩
 ·rcases zu (ν:=ν) (venc:=venc) b x es m 0 h with⟨k1,a⟩|⟨j,c,v,k1,a⟩
  ·exact .inl ⟨by simp[Instr.findKey,run_underlying hd,k1],a⟩
  ·exact .inr ⟨j,c,v,by simp[Instr.findKey,run_underlying hd,k1],a⟩
end
section
variable {R:Type}{P:Program}{n:Fr}{A:Nat->Prop}{w0:World}{Q:R->Exit->Act->World->Prop}{ρ ρ':Env}{Γ Γ':Ctx}{E:Option R}
variable {d:Option Nat}{ty:TypeId}{pos:String}{after:Array Edge}{g:Option (Nat×Bool)}
variable {κ ν:Type}{enc:κ->Value}{venc:ν->Value}
theorem SH.map {w:World}{b:Nat}{m:List (κ×ν)}(h:SH A w0 w Γ)(i:Nat)(hi:Γ[i]?=some (qv enc venc b m)): Od enc venc b m w:=h.get i hi w λ_ _=>rfl
theorem uH {t:TypeId}: St P n A w0 ρ Γ ⟨d,.makeMap t none,ty,pos,after,g⟩ (λb:Nat=>.map (some b)) (λb=>qv enc venc b ([]:List (κ×ν))::Γ) []:=by
 intro a w hs e
 refine⟨w.heap.size,w.alloc (.map #[] 0),?_,?_,Grow.alloc w _ _,.cons (by simp[qv,Fact.ae])⟩
 ·simp[execOp,Instr.makeMap]
 ·refine e.cons (Grow.alloc w _ []) (by simp[qv,Fact.ae]) (by simp[qv,Fact.ae]) ?_
  intro w' c
  refine⟨#[],0,?_,rfl,by simp[HQ]⟩
  rw[c _ (by simp)]
  exact heap_alloc_new w _
variable [DecidableEq κ]
theorem Gc {l o:Operand}{t k e:TypeId}{b:Nat}{m:List (κ×ν)}{x:κ}{z:ν}{p q:Value}(i:Nat)(c:yc P k enc)(r:P.underlying t=some (.map k e))(B:fu P e=some (venc z))(hm:ev ρ l=some p)(f:p=.map (some b))(s:ev ρ o=some q)(h:q=enc x)(hi:Γ[i]?=some (qv enc venc b m)):
  Ex P n A w0 ρ Γ ⟨d,.lookup t l o false,ty,pos,after,g⟩ (venc ((fA m x).getD z)):=by
 intro a w hs C
 subst f h
 obtain⟨es,clock,u,he,_⟩:=C.map i hi
 rcases xi c w x es.toList m he with⟨k1,y⟩|⟨j,D,v,k1,y,k3,k4,k5,k6⟩
 ·simp[execOp,hs.eval hm,hs.eval s,Instr.lookup,run_underlying r,rR u,c.Jp,k1,y,xJ B]
 ·simp[execOp,hs.eval hm,hs.eval s,Instr.lookup,run_underlying r,rR u,c.Jp,k1,k3,k4]
theorem j8 {l o:Operand}{t k e:TypeId}{b:Nat}{m:List (κ×ν)}{x:κ}{z:ν}{p q:Value}(i:Nat)(c:yc P k enc)(r:P.underlying t=some (.map k e))(B:fu P e=some (venc z))(hm:ev ρ l=some p)(f:p=.map (some b))(s:ev ρ o=some q)(h:q=enc x)(hi:Γ[i]?=some (qv enc venc b m)):
  Ex P n A w0 ρ Γ ⟨d,.lookup t l o true,ty,pos,after,g⟩ (.tuple #[venc ((fA m x).getD z),.bool (fA m x).isSome]):=by
 intro a w hs C
 subst f h
 obtain⟨es,clock,u,he,_⟩:=C.map i hi
 rcases xi c w x es.toList m he with⟨k1,y⟩|⟨j,D,v,k1,y,k3,k4,k5,k6⟩
 ·simp[execOp,hs.eval hm,hs.eval s,Instr.lookup,run_underlying r,rR u,c.Jp,k1,y,xJ B]
 ·simp[execOp,hs.eval hm,hs.eval s,Instr.lookup,run_underlying r,rR u,c.Jp,k1,k3,k4]
theorem lj {N T U:Operand}{t k e:TypeId}{b:Nat}{m:List (κ×ν)}{x:κ}{y:ν}{mv kv vv:Value}(i:Nat)(z:yc P k enc)(ht:P.underlying t=some (.map k e))(hm:ev ρ N=some mv)(V:mv=.map (some b))(hx:ev ρ T=some kv)(W:kv=enc x)(hy:ev ρ U=some vv)(X:vv=venc y)(hi:Γ[i]?=some (qv enc venc b m))(Y:Γ.set i (qv enc venc b (lY m x y))=Γ'):
  Sk P n A w0 ρ Γ ⟨d,.mapUpdate t N T U,ty,pos,after,g⟩ Γ' [b]:=by
 intro a w hs B
 subst V W X Y
 obtain⟨es,clock,D,he,q⟩:=B.map i hi
 have F:b<w.heap.size:=mj D
 have key:∃o f,(execOp a.eval ⟨d,.mapUpdate t N T U,ty,pos,after,g⟩).run P w=.ok .skip { w with heap:=w.heap.setIfInBounds b (.map o f) }/\
   o.toList.map (λe=>(e.key,e.val))=(lY m x y).map (λp=>(enc p.1,venc p.2))/\HQ o f:=by
  rcases xi z w x es.toList m he with⟨k1,H⟩|⟨j,Z,v,k1,H,k3,k4,k5,k6⟩
  ·refine⟨es.push { key:=enc x,val:=venc y,born:=clock },clock+1,?_,?_,?_⟩
   ·simp[execOp,hs.eval hm,hs.eval hx,hs.eval hy,Instr.mapUpdate,run_underlying ht,rR D,z.Jp,k1,DJ D]
   ·have hp:∀(l:List (κ×ν)),fA l x=none->lY l x y=l++[(x,y)]:=by
     intro l
     induction l with
     |nil=>intro _;rfl
     |cons p r ih=>
      obtain⟨a,u⟩:=p
      intro h
      simp only[fA]at h
      split at h
      ·simp at h
      ·rename_i aa
       simp[lY,aa,ih h]
    rw[hp m H]
    simp[he]
   ·refine⟨?_,λe hm=>?_⟩
    ·simp only[Array.toList_push,List.map_append,List.map_cons,List.map_nil]
     rw[List.nodup_append]
     refine⟨q.1,by simp,λa ha c C e=>?_⟩
     rw[List.mem_singleton.1 C]at e
     obtain⟨Z,ab,rfl⟩:=List.mem_map.1 ha
     have:=q.2 Z ab
     omega
    ·simp only[Array.toList_push,List.mem_append,List.mem_singleton]at hm
     rcases hm with hm|rfl
     ·have:=q.2 e hm
      omega
     ·simp only;omega
  ·refine⟨es.modify j λe=>{ e with key:=enc x,val:=venc y },clock,?_,?_,?_⟩
   ·have ac:es[j]?=some Z:=by simpa using H
    simp[execOp,hs.eval hm,hs.eval hx,hs.eval hy,Instr.mapUpdate,run_underlying ht,rR D,z.Jp,k1,ac,k5,Instr.keyThatStays,z.bits,DJ D]
   ·rw[k6]
    simp only[Array.toList_modify]
    apply List.ext_getElem?
    intro i
    have B:=congrArg (λl=>l[i]?) he
    simp only[List.getElem?_map]at B
    simp only[List.getElem?_map,List.getElem?_modify,List.getElem?_set]
    by_cases s:j=i
    ·subst s
     rw[H]at B ⊢
     have hl:j<m.length:=by
      have:=congrArg List.length he
      simp at this
      have:=(List.getElem?_eq_some_iff.1 H).1
      simp at this
      omega
     simp[hl]
    ·simp[s]
     simpa using B
   ·have I:(es.modify j λe=>{ e with key:=enc x,val:=venc y }).toList.map (·.born)=es.toList.map (·.born):=by
     simp only[Array.toList_modify]
     apply List.ext_getElem?
     intro i
     simp only[List.getElem?_map,List.getElem?_modify]
     by_cases s:j=i
     ·simp[s]
      cases es[i]?<;>rfl
     ·simp[s]
    refine⟨by rw[I];exact q.1,λe hm=>?_⟩
    have:e.born∈es.toList.map (·.born):=by rw[<- I];exact List.mem_map_of_mem hm
    obtain⟨e2,h2,h3⟩:=List.mem_map.1 this
    rw[<- h3]
    exact q.2 e2 h2
 obtain⟨o,f,J,ad,L⟩:=key
 have M:Grow w { w with heap:=w.heap.setIfInBounds b (.map o f) } [b]:=by
  refine⟨rfl,rfl,rfl,by simp,λk _ z=>?_⟩
  have:b≠k:=λe=>z (by simp[e])
  simp[this]
 refine⟨_,J,?_,M,.set hi (λc C=>.inl C)⟩
 refine B.set hi M (by simp[qv,Fact.ae]) (λc C=>?_) ?_
 ·simp[qv,Fact.ae]at C
  subst C
  exact⟨.inl (by simp[qv,Fact.ae]),by simpa using F⟩
 ·intro w' af
  refine⟨o,f,?_,ad,L⟩
  rw[af b (by simp)]
  simp[F]
theorem PC {x y:Operand}{t u:TypeId}{m l:Int}{b:IntKind}(c:ev ρ x=some (.int .i64 m))(e:ev ρ y=some (.int b l))(hl:0<=l): Ex P n A w0 ρ Γ ⟨d,.binOp .shl t x y u,ty,pos,after,g⟩ (.int .i64 (ah (m*2^min l.toNat 64))):=by
 intro a w hs f
 have:¬l<0:=by omega
 simp[execOp,hs.eval c,hs.eval e,eqGuard,binOp,Op.shift,ah,this,IntKind.bits]
theorem PD {x y:Operand}{t u:TypeId}{m l:Int}{b:IntKind}(c:ev ρ x=some (.int .i64 m))(e:ev ρ y=some (.int b l))(hl:0<=l): Ex P n A w0 ρ Γ ⟨d,.binOp .shr t x y u,ty,pos,after,g⟩ (.int .i64 (m.fdiv (2^min l.toNat 64))):=by
 intro a w hs f
 have:¬l<0:=by omega
 simp[execOp,hs.eval c,hs.eval e,eqGuard,binOp,Op.shift,this,IntKind.bits]
end
def LN (x y:Int): Int:=ah (((x%18446744073709551616).toNat &&& (y%18446744073709551616).toNat:Nat):Int)
theorem MX (x y:Int): (BitVec.ofInt 64 x &&& BitVec.ofInt 64 y).toNat=((x%18446744073709551616).toNat &&& (y%18446744073709551616).toNat):=by
 rw[BitVec.toNat_and,BitVec.toNat_ofInt,BitVec.toNat_ofInt];rfl
def uB (b:Int): Option Unit:=if 0<=b then some ()else none
theorem Jo {b:Int}{u:Unit}(h:uB b=some u): 0<=b:=by
 unfold uB at h
 split at h
 ·assumption
 ·simp at h
section
variable {R:Type}{P:Program}{n:Fr}{A:Nat->Prop}{w0:World}{Q:R->Exit->Act->World->Prop}{ρ ρ':Env}{Γ Γ':Ctx}{E:Option R}
variable {d:Option Nat}{ty:TypeId}{pos:String}{after:Array Edge}{g:Option (Nat×Bool)}
theorem Pr {x y:Operand}{t u:TypeId}{m l:Int}(b:ev ρ x=some (.int .i64 m))(c:ev ρ y=some (.int .i64 l)): Ex P n A w0 ρ Γ ⟨d,.binOp .and t x y u,ty,pos,after,g⟩ (.int .i64 (LN m l)):=by
 intro a w hs e
 simp[execOp,hs.eval b,hs.eval c,eqGuard,binOp,Op.intBits,LN,ah,IntKind.bits]
 exact congrArg (λz:Nat=>IntKind.i64.wrap (z:Int)) (MX m l)
end
def Fact.exact:Fact->Bool
 |.bx _ _ _=>true
 |@Fact.rd _ _ _ _=>true
 |@Fact.pt _ _ _ _=>true
 |@Fact.pa _ _ _ _=>true
 |@Fact.fL _ _ _ _ _=>true
 |.pr _=>true
 |.fz _ _=>true
 |_=>false
theorem Fact.I3 {A e:Nat->Prop}{B i:Nat}{w w':World}{f:Fact}(he:f.exact=true)(h:f.holds A B w)(j:f.holds e i w'): ∀b∈f.ae,w'.heap[b]?=w.heap[b]?:=by
 intro b a
 cases f with
 |bx c t cs=>
  simp[Fact.ae]at a
  subst a
  have e1:w.heap[b]?=some (.cells cs.toArray t (0,0)):=h
  have e2:w'.heap[b]?=some (.cells cs.toArray t (0,0)):=j
  rw[e1,e2]
 |_=>simp_all[Fact.ae,Fact.exact]
def Fact.HK:Fact->Bool
 |.bx _ _ _=>false
 |f=>f.exact
theorem Fact.JR {f:Fact}(h:f.HK=true): f.ae=[]:=by
 cases f<;>first|rfl|simp[Fact.HK,Fact.exact]at h
def Cw (w0 w1:World)(Γ1:Ctx): Nat->Prop:=λk=>w0.heap.size<=k/\k<w1.heap.size/\k∉Γ1.ae
section
variable {R:Type}{P:Program}{n:Fr}{A:Nat->Prop}{w0 w1:World}{Q:R->Exit->Act->World->Prop}{ρ ρ':Env}{Γ Γ' Γ1:Ctx}{E:Option R}{ops:Array Oper}{O:List Nat}{fuel:Nat}{listed:Array Bool}
variable {ty:TypeId}{pos:String}{after:Array Edge}{g:Option (Nat×Bool)}
def Ci (P:Program)(n:Fr)(A:Nat->Prop)(w0 w1:World)(Γ1:Ctx)(ops:Array Oper)(O:List Nat)(fuel:Nat)(listed:Array Bool)(Q:R->Exit->Act->World->Prop)(i d:Nat)(ρ:Env)(a:List Nat)(C:Nat->Prop)(K:R->Value->World->Prop): Prop:=
 ∀u Γ' E' (p:Nat) (b:List Nat),Γ'[p]?=some (.fz w1 C)->cj b Γ'=cj a Γ1->JD P n A w0 w1 Γ1 ops O fuel (listed.setIfInBounds i true) Q ((d,u)::ρ) Γ' E'->∀r,E'=some r->∀w,SH A w0 w Γ'->K r u w
theorem HL (s:SH A w0 w1 Γ1)(js o t:List Nat)(u:(List.range Γ1.length).all (λi=>(js++o).any (Nat.beq i) || (Γ1[i]?).all Fact.HK)=true)(M:(cj js Γ1).ae=O)(hex:(cj o Γ1).all Fact.exact=true){w':World}{p:Nat}(N:Γ'[p]?=some (.fz w1 (Cw w0 w1 Γ1)))(v:cj t Γ'=cj o Γ1)(h:SH A w0 w' Γ'): Grow w1 w' O/\gR Γ1 Γ' w1:=by
 have B:=h.get p N
 constructor
 ·refine⟨h.below.os.trans s.below.os.symm,h.below.tape.trans s.below.tape.symm,h.below.output.trans s.below.output.symm,B.1,λk T C=>?_⟩
  by_cases I:k<w0.heap.size
  ·rw[h.below.block k I,s.below.block k I]
  ·by_cases m:k∈Γ1.ae
   ·obtain⟨f,x,e⟩:=List.mem_flatMap.1 m
    obtain⟨i,hi⟩:=List.mem_iff_getElem?.1 x
    have D:i<Γ1.length:=(List.getElem?_eq_some_iff.1 hi).1
    have r:=List.all_eq_true.1 u i (List.mem_range.2 D)
    rcases Bool.or_eq_true _ _▸r with r|r
    rotate_left
    ·rw[hi]at r
     rw[Fact.JR (by simpa using r)]at e
     simp at e
    obtain⟨j,y,F⟩:=List.any_eq_true.1 r
    have z:i=j:=Nat.eq_of_beq_eq_true F
    subst z
    have c:∀(l:List Nat),i∈l->f∈cj l Γ1:=by
     intro l
     induction l with
     |nil=>intro h;simp at h
     |cons a l J=>
      intro h
      simp only[cj]
      rcases List.mem_cons.1 h with rfl|h
      ·rw[hi];simp
      ·split
       ·exact List.mem_cons_of_mem _ (J h)
       ·exact J h
    rcases List.mem_append.1 y with y|y
    ·exact absurd (by rw[<- M];exact List.mem_flatMap.2 ⟨f,c _ y,e⟩) C
    ·have hm:=c _ y
     have he:=List.all_eq_true.1 hex f hm
     rw[<- v]at hm
     obtain⟨q,_,hq⟩:=pV t Γ' f hm
     exact Fact.I3 he (s.all f x) (h.all f (List.mem_of_getElem? hq)) k e
   ·exact(B.2 k ⟨by omega,T,m⟩).2.2
 ·intro b L
  by_cases H:b<w1.heap.size
  ·left
   refine Classical.byContradiction λU=>?_
   exact(B.2 b ⟨(h.ge b L).1,H,U⟩).1 (.inr L)
  ·right;omega
theorem gd {i d:Nat}{f:FuncId}{fn:Func}{body:Code}{D:Nat}{args:List Operand}{j:Array TypeId}{vs:List Value}(h1:SH A w0 w1 Γ1)(js b:List Nat)(s:(List.range Γ1.length).all (λi=>(js++b).any (Nat.beq i) || (Γ1[i]?).all Fact.HK)=true)(hO:(cj js Γ1).ae=O)(hex:(cj b Γ1).all Fact.exact=true)(hi:ops[i]?=some ⟨some d,.call ⟨.value (.func f),args.toArray,j⟩,ty,pos,after,g⟩)(hw:iE n ρ ops ⟨some d,.call ⟨.value (.func f),args.toArray,j⟩,ty,pos,after,g⟩)(hd:Nat.blt d n.n=true)(hf:∀args w,(callFunc f args).run P w=.ok (.enter f args) w)(l:rp ρ args=some vs)(F:P.funcs[f]?=some fn)(hb:fn.body=some body)(hn:fn.ntmps=D)(hl:Nat.ble vs.length D=true)(H:enum 0 vs=ρ')(h:∀(C:Nat->Prop) (K:R->Value->World->Prop),Ci P n A w0 w1 Γ1 ops O fuel listed Q i d ρ b C K->J P ⟨D,[],none⟩ A w0 body (vN P fn K) ρ' (.fz w1 C::Γ) E): JO P n A w0 w1 Γ1 ops O fuel listed Q i ρ Γ E:=by
 intro r I a w m hh L M
 unfold wpOp
 simp only[hi,hw a m,if_true]
 refine .inl ?_
 have v:(execOp a.eval ⟨some d,.call ⟨.value (.func f),args.toArray,j⟩,ty,pos,after,g⟩).run P w=.ok (.enter f vs.toArray) w:=by
  simp[execOp,resolve,Act.eval,Deferred.ofValue,invoke,m.wv l,hf]
 unfold Oper.wp
 rw[v,Oper.upon_enter]
 have N:SH A w0 w (.fz w1 (Cw w0 w1 Γ1)::Γ):=by
  refine hh.cons (Grow.refl w []) (by simp[Fact.ae]) (by simp[Fact.ae]) ⟨L.size,λk o=>⟨?_,Nat.lt_of_lt_of_le o.2.1 L.size,?_⟩⟩
  ·rintro(c|c)
   ·have:=hh.av k c
    have:=o.1
    omega
   ·simp only[Ctx.ae,List.flatMap_cons,Fact.ae,List.nil_append]at c
    rcases M k c with h' | h'
    ·exact o.2.2 h'
    ·have:=o.2.1
     omega
  ·refine L.block k o.2.1 λx=>o.2.2 ?_
   rw[<- hO]at x
   obtain⟨f,T,U⟩:=List.mem_flatMap.1 x
   obtain⟨q,_,hq⟩:=pV js Γ1 f T
   exact List.mem_flatMap.2 ⟨f,List.mem_of_getElem? hq,U⟩
 refine(vJ F hb (R:=λe w'=>∃u,e=.returned u/\(Grow w1 w' O/\wpAnyH P .any ops (BF (Q r)) (λw'=>Grow w1 w' O) fuel (listed.setIfInBounds i true) (a.put (some d) u) w')) ?_).mono ?_
 ·have hJ:=h (Cw w0 w1 Γ1) (λr u w'=>Grow w1 w' O/\wpAnyH P .any ops (BF (Q r)) (λw'=>Grow w1 w' O) fuel (listed.setIfInBounds i true) (a.put (some d) u) w') (λu Γ' E' p V hp y W r hE w' z=>by
   obtain⟨B,X⟩:=HL h1 js b V s hO hex hp y z
   exact⟨B,W r hE _ w' (m.put (by simpa[Nat.blt_eq]using hd)) z B X⟩)
  refine hJ r I _ w ⟨?_,rfl,?_⟩ N
  ·simp[Nat.ble_eq]at hl
   simp[hn];omega
  ·intro t u ht
   rw[<- H]at ht
   obtain⟨_,Y⟩:=tX vs 0 t u ht
   simp at Y
   have Z:t<vs.length:=(List.getElem?_eq_some_iff.1 Y).1
   simp[Nat.ble_eq]at hl
   refine⟨?_,show t<D by omega⟩
   simp[Array.getD_eq_getD_getElem?,Array.getElem?_append_left (show t<vs.toArray.size by simpa using Z),Y]
 ·rintro e w' ⟨u,rfl,hu⟩
  exact hu
theorem cV {fn:Func}{n2:Fr}{b:Env}{i d:Nat}{c:List Nat}{C:Nat->Prop}{K:R->Value->World->Prop}{l:ResultVar}{u:Value}(o:Ci P n A w0 w1 Γ1 ops O fuel listed Q i d ρ c C K)(e:fn.results=#[l])(hu:Rv P n2 A w0 b Γ l u)(p:Nat)(f:List Nat)(q:Γ[p]?=some (.fz w1 C))(j:cj f Γ=cj c Γ1)(h:JD P n A w0 w1 Γ1 ops O fuel (listed.setIfInBounds i true) Q ((d,u)::ρ) Γ E)(k:n2.ds=[]:=by rfl): N n2 A w0 (vN P fn K) .ret b Γ E:=by
 intro r hr a w hs m
 refine nG (hs.defers.trans k) ⟨u,?_,_,rfl,o _ _ _ p f q j h r hr w m⟩
 rw[jv,e]
 simp[hu a w hs m]
theorem oy {fn:Func}{n2:Fr}{b:Env}{i d:Nat}{c:List Nat}{C:Nat->Prop}{K:R->Value->World->Prop}{e f:ResultVar}{m o:Value}(v:Ci P n A w0 w1 Γ1 ops O fuel listed Q i d ρ c C K)(j:fn.results=#[e,f])(q:Rv P n2 A w0 b Γ e m)(s:Rv P n2 A w0 b Γ f o)(p:Nat)(k:List Nat)(x:Γ[p]?=some (.fz w1 C))(l:cj k Γ=cj c Γ1)(h:JD P n A w0 w1 Γ1 ops O fuel (listed.setIfInBounds i true) Q ((d,.tuple #[m,o])::ρ) Γ E)(t:n2.ds=[]:=by rfl): N n2 A w0 (vN P fn K) .ret b Γ E:=by
 intro r hr a w hs u
 refine nG (hs.defers.trans t) ⟨.tuple #[m,o],?_,_,rfl,v _ _ _ p k x l h r hr w u⟩
 rw[jv,j]
 simp[q a w hs u,s a w hs u]
end
inductive EM (P:Program)(t:TypeId): List Value->List (Nat×Value×List Value)->List Value->Prop
 |nil {cs:List Value}:EM P t cs [] cs
 |cons {cs b a vs:List Value} {i off s:Nat} {v:Value} {r:List (Nat×Value×List Value)} (e:eD P t i=some (off,s)) (hlen:vs.length=s) (c:Nat.ble (off+vs.length) cs.length=true) (hs:cs.take off++vs++cs.drop (off+vs.length)=a) (h:EM P t a r b):EM P t cs ((i,v,vs)::r) b
def KI:List (Nat×Value×List Value)->Prop
 |[]=>True
 |(_,v,vs)::r=>CV v vs/\KI r
theorem EM.fill {P:Program}{t:TypeId}{places:Array (Nat×Nat)}(f:∀i off s,eD P t i=some (off,s)->places[i]?=some (off,s)):
  ∀ {cs:List Value} {parts:List (Nat×Value×List Value)} {a:List Value},EM P t cs parts a->KI parts->Instr.fill (places[·]?) cs.toArray (parts.map λp=>(p.1,p.2.1))=some a.toArray:=by
 intro cs parts a h
 induction h with
 |nil=>intro _;simp[Instr.fill]
 |cons j hlen b hs h k=>
  rename_i cs a c vs i off s v r
  rintro⟨l,m⟩
  simp only[Nat.ble_eq]at b
  simp only[List.map_cons,Instr.fill,f _ _ _ j,l.1]
  rw[if_neg (by simp;omega)]
  rw[<- k m,<- hs]
  congr 1
  have e:=F7 vs (cs.take off) (cs.drop off) off (by simp;omega) (by simp;omega)
  rw[List.take_append_drop]at e
  rw[e]
  simp[List.drop_drop]
section
variable {P:Program}{n:Fr}{A:Nat->Prop}{w0:World}{ρ:Env}{Γ:Ctx}
variable {d:Option Nat}{ty:TypeId}{pos:String}{after:Array Edge}{g:Option (Nat×Bool)}
theorem jq {t:TypeId}{o f:List Value}{parts:List (Nat×Operand)}(vs:List (Nat×Value×List Value))(q:qX P t o)(c:Gq ρ parts=some (vs.map λp=>(p.1,p.2.1)))(r:EM P t o vs f)(u:∀w,SH A w0 w Γ->KI vs):
  Ex P n A w0 ρ Γ ⟨d,.build t parts.toArray,ty,pos,after,g⟩ (.agg f.toArray):=by
 intro a w hs v
 obtain⟨fields,z,hu,x,l,j⟩:=q.ex
 have y:parts.toArray.map (λp=>(p.1,a.eval p.2))=(vs.map λp=>(p.1,p.2.1)).toArray:=by
  apply Array.ext'
  simp[hs.HN c]
 have b:∀i off s,eD P t i=some (off,s)->((fields.toList.map (placeOf P)).toArray)[i]?=some (off,s):=by
  intro i off s e
  unfold eD at e
  rw[hu]at e
  simp only at e
  split at e
  ·rename_i C m
   split at e
   ·rename_i s' D B
    simp at e
    obtain⟨rfl,rfl⟩:=e
    simp[m,B,placeOf]
   ·simp at e
  ·simp at e
 have h:=EM.fill b r (u w v)
 have hm:=run_places (P:=P) w fields.toList (List.all_eq_true.1 j)
 have k:(Instr.build t (vs.map λp=>(p.1,p.2.1)).toArray).run P w=.ok (.agg f.toArray) w:=by
  simp only[Instr.build,Sem.run_bind,xJ x,Result.andThen_ok,run_underlying hu,l,Array.mapM_eq_mapM_toList,map_eq_pure_bind,hm,Sem.run_pure]
  simp only[h,Sem.run_pure]
 simp only[execOp,Sem.run_bind]
 rw[y,k]
 rfl
theorem wQ {r:Option Nat}: CV (.map r) [.map r]:=⟨rfl,by simp[Value.oneCell']⟩
end
theorem vz {κ ν:Type}{enc:κ->Value}{venc:ν->Value}{Γ:Ctx}{js:List Nat}{b:Nat}{m:List (κ×ν)}(q:Nat)(hm:(cj js Γ)[q]?=some (qv enc venc b m)): ∀k∈[b],k∈(cj js Γ).ae:=xG q hm
open Classical in
def ud (em:Bool)(n:Nat)(cs:Array Value): List Field->Sem Unit
 |[]=>pure ()
 |f::fs=>
  if f.name≠ "_" then do
   let a <- part f.type cs f.offset
   Instr.checkKey em n f.type a
   ud em n cs fs
  else ud em n cs fs
section
variable {P:Program}(w:World)
theorem uI (em:Bool)(n:Nat)(t:TypeId)(cs:Array Value)(c:P.underlying t=some (.struct (P.fieldsOf t))):
  (Instr.checkKey em (n+1) t (.agg cs)).run P w=(ud em n cs (P.fieldsOf t).toList).run P w:=by
 simp only[Instr.checkKey,Sem.run_bind,run_underlying c,Result.andThen_ok]
 rw[<- Array.forIn_toList]
 generalize (P.fieldsOf t).toList=fs
 clear c
 induction fs generalizing w with
 |nil=>simp[ud]
 |cons f fs e=>
  simp only[List.forIn_cons,ud,Sem.run_bind,Sem.run_ite]
  split
  ·generalize (part f.type cs f.offset).run P w=r1
   cases r1 with
   |ok a w1=>
    simp only[Result.andThen_ok]
    generalize (Instr.checkKey em n f.type a).run P w1=i
    cases i with
    |ok b h=>
     simp only[Result.andThen_ok,Sem.run_pure]
     exact e h
    |halt x h=>simp[Result.andThen]
   |halt x w1=>simp[Result.andThen]
  ·simp only[Sem.run_pure,Result.andThen_ok]
   exact e w
theorem sF (em:Bool)(n:Nat)(t:TypeId)(k:IntKind)(v:Value)(h:P.underlying t=some (.int k)): (Instr.checkKey em (n+1) t v).run P w=.ok () w:=by
 simp[Instr.checkKey,run_underlying h]
end
theorem Kk {P:Program}{K:TypeId}(h:P.underlying K=some (.int .i64)): yc P K (Value.int .i64):=by
 refine⟨λw em x=>sF w em 9999 K .i64 _ h,⟨_,h,.inr λx y=>⟨x==y,rfl,by simp⟩⟩,λw x y=>⟨x==y,run_equalIn_int w 9999 K .i64 .i64 x y h,by simp⟩,λx=>by simp[Instr.sameBits]⟩
end Go.Tc
namespace Go.Tc
open Go Go.RowKit
structure Ik (k:IntKind) where
 val:Int
deriving DecidableEq
instance {k:IntKind}: ar (Ik k) where
 sz:=1
 agg:=false
 lG _ _ cs x:=cs=[.int k x.val]
 len h:=by subst h;rfl
 one h:=by subst h;simp[Value.oneCell']
 pos:=by decide
 single _:=rfl
 frame h _:=h
 dc _ cs x B:=cs=[.int k x.val]/\B=[]
 ub h _:=h
 sT h _:=h.1
 tj h b a:=by simp[h.2]at a
 flat:=true
 uX _ h:=⟨h,rfl⟩
theorem Rd.ik {k:IntKind}{A:Nat->Prop}{w:World}{v:Value}{x:Ik k}(h:Rd A w v x): v=.int k x.val:=by
 obtain⟨cs,rfl,h⟩:=h
 simp only[ar.lG]at h
 subst h;rfl
theorem Rd.NK {k:IntKind}(A:Nat->Prop)(w:World)(x:Int): Rd A w (.int k x) (⟨x⟩:Ik k):=⟨_,rfl,rfl⟩
theorem MU {k:IntKind}(y:Ik k): oQ y (λ_:Unit=>.int k y.val) (λ_=>[]):=λ_ _ _ _ h=>⟨(),h.ik,by simp⟩
def wk (k:IntKind)(n:Int): Int:=k.wrap n
def strOf (xs:List (Ik .u8)): ByteArray:=⟨(xs.map λx=>UInt8.ofNat x.val.toNat).toArray⟩
theorem L5 {k:IntKind}{A:Nat->Prop}{w:World}: ∀(xs:List (Ik k)) (cs:List Value),dT A w cs xs->cs=xs.map λx=>.int k x.val
 |[],_,h=>h
 |x::r,_,⟨c1,c2,e,a,b⟩=>by
  have a:c1=[.int k x.val]:=a
  rw[e,a,L5 r c2 b]
  rfl
def cat (a b:ByteArray): Option ByteArray:=if a.size+b.size<=1099511627776 then some (a++b)else none
section
variable {R:Type}{P:Program}{n:Fr}{A:Nat->Prop}{w0:World}{Q:R->Exit->Act->World->Prop}{ρ ρ':Env}{Γ Γ':Ctx}{E:Option R}
variable {d:Option Nat}{ty:TypeId}{pos:String}{after:Array Edge}{g:Option (Nat×Bool)}
theorem nB {x:Operand}{s t:TypeId}{ds:TypeDesc}{k b:IntKind}{m:Int}(a:P.underlying s=some ds)(c:P.underlying t=some (.int k))(e:ev ρ x=some (.int b m)): Ex P n A w0 ρ Γ ⟨d,.convert s t x,ty,pos,after,g⟩ (.int k (wk k m)):=Cr a c e
theorem oD {x y:Operand}{t u:TypeId}{m l r:ByteArray}(b:ev ρ x=some (.string m))(c:ev ρ y=some (.string l))(hr:cat m l=some r): Ex P n A w0 ρ Γ ⟨d,.binOp .add t x y u,ty,pos,after,g⟩ (.string r):=by
 intro a w hs e
 unfold cat at hr
 split at hr
 ·rename_i h
  have hm:¬(((m.size+l.size:Nat):Int)>IntKind.i64.max):=by
   have:IntKind.i64.max=9223372036854775807:=rfl
   omega
  rw[<- Option.some.inj hr]
  simp only[execOp,hs.eval b,hs.eval c,eqGuard,binOp,Op.stringOp,if_neg hm]
  simp
 ·simp at hr
end
section
variable {R:Type}{P:Program}{n:Fr}{A:Nat->Prop}{w0 w:World}{Q:R->Exit->Act->World->Prop}{ρ ρ':Env}{Γ Γ':Ctx}{E:Option R}
variable {d:Option Nat}{ty:TypeId}{pos:String}{after:Array Edge}{g:Option (Nat×Bool)}
def xc {α:Type}(xs:List α)(l h:Int)(ys:List α): List α:=xs.take l.toNat++yK ((xs.take h.toNat).drop l.toNat) ys++xs.drop h.toNat
theorem CZ {α:Type}{xs ys:List α}{l h:Int}(a:0<=l)(b:l<=h)(c:h<=xs.length): xc xs l h ys=xs.take l.toNat++ys.take (min ys.length (h.toNat-l.toNat))++xs.drop (l.toNat+min ys.length (h.toNat-l.toNat)):=by
 have hl:((xs.take h.toNat).drop l.toNat).length=h.toNat-l.toNat:=by simp;omega
 unfold xc yK
 rw[hl,Nat.min_comm]
 generalize hm:min ys.length (h.toNat-l.toNat)=m
 have:((xs.take h.toNat).drop l.toNat).drop m++xs.drop h.toNat=xs.drop (l.toNat+m):=by
  rw[List.drop_drop]
  conv=>rhs;rw[<- List.take_append_drop h.toNat xs]
  rw[List.drop_append_of_le_length (by simp;omega)]
 rw[List.append_assoc,List.append_assoc,this,List.append_assoc]
theorem sB {α:Type}[ar α]{x:Operand}{t e C:TypeId}{D:Bool}{v:Value}{xs ys:List α}{lo hi:Option Operand}{l h:Int}(i:Nat)(F:P.underlying t=some (.slice e))(he:cg P e=some (ar.sz α,D))(H:ev ρ x=some v)(m:bound ρ lo 0=some l)(p:bound ρ hi xs.length=some h)(r:Γ[i]?=some (.ow C v xs))(I:jV xs l h=some ys): Ex P n A w0 ρ Γ ⟨d,.slice t x lo hi none,ty,pos,after,g⟩ (sb (ar.sz α) l.toNat h.toNat v):=by
 intro a w hs J
 obtain⟨cells,⟨_,k⟩,_⟩:=J.get i r
 obtain⟨s,L,M,_⟩:=ug I
 have N:∃ad cap,v=.slice ad xs.length cap/\xs.length<=cap:=by
  rcases k with⟨rfl,s⟩|⟨T,c,cur,rfl,_,_,u,_⟩
  ·exact⟨none,0,by rw[s],by omega⟩
  ·exact⟨_,c,rfl,u⟩
 obtain⟨ad,cap,rfl,u⟩:=N
 have B:∀ {o:Option Operand} {y j:Int},bound ρ o y=some j->o.map a.eval=none/\j=y\/o.map a.eval=some (.int .i64 j):=by
  intro o y j f
  cases o with
  |none=>simp[bound]at f;exact .inl ⟨rfl,f.symm⟩
  |some z=>
   simp only[bound]at f
   split at f
   ·rename_i q hq
    right
    simp at f
    simp[hs.eval hq,f]
   ·simp at f
 have b:=GH (P:=P) (w:=w) (ad:=ad) F he (B m) (B p) s L M u
 simp only[execOp,hs.eval H]
 cases lo<;>cases hi<;>simp at b ⊢<;>simp[b]
theorem SH.Iy {α:Type}[ar α]{e:TypeId}{v:Value}{xs ys:List α}{l h:Int}(s:SH A w0 w Γ)(i:Nat)(hi:Γ[i]?=some (.ow e v xs))(t:jV xs l h=some ys): Src (λk=>A k\/k∈Γ.ae) w (sb (ar.sz α) l.toNat h.toNat v) ys:=by
 obtain⟨cells,⟨x,f⟩,hr⟩:=s.get i hi
 obtain⟨D,F,p,rfl⟩:=ug t
 have hlen:((xs.take h.toNat).drop l.toNat).length=h.toNat-l.toNat:=by simp;omega
 have m:=dT.drop _ _ l.toNat (dT.take xs cells h.toNat hr)
 rcases f with⟨rfl,y⟩|⟨q,c,cur,rfl,_,z,r,B,C,a⟩
 ·have:xs=[]:=List.eq_nil_of_length_eq_zero y
  subst this
  have e1:l.toNat=0:=by simp at p;omega
  have e2:h.toNat=0:=by simp at p;omega
  rw[e1,e2]
  exact .inl ⟨rfl,rfl⟩
 ·right
  by_cases o:c=l.toNat
  ·refine⟨⟨q,0,none⟩,c-l.toNat,(cells.take (h.toNat*ar.sz α)).drop (l.toNat*ar.sz α),by simp only[sb,o,if_true,hlen],?_,m⟩
   have:(cells.take (h.toNat*ar.sz α)).drop (l.toNat*ar.sz α)=[]:=by
    apply List.drop_eq_nil_of_le
    rw[List.length_take]
    have:h.toNat<=l.toNat:=by omega
    have:=Nat.mul_le_mul_right (ar.sz α) this
    omega
   rw[this]
   simp
  ·refine⟨⟨q,l.toNat*ar.sz α,none⟩,c-l.toNat,(cells.take (h.toNat*ar.sz α)).drop (l.toNat*ar.sz α),?_,?_,m⟩
   ·simp only[sb,if_neg o,hlen,Option.map_some]
    rw[Addr.add_lit,Nat.zero_add]
   ·intro j u b
    rw[Addr.add_lit]
    rw[List.getElem?_drop,List.getElem?_take]at b
    split at b
    ·rw[<- a,List.getElem?_take]at b
     split at b
     ·simpa[World.cell?,z]using b
     ·simp at b
    ·simp at b
theorem DF {α:Type}[ar α]{x y:Operand}{t e:TypeId}{ag:Bool}{v u:Value}{xs M ys:List α}{l h:Int}(i:Nat)(F:ar.sz α=1)(ht:P.underlying t=some (.slice e))(he:cg P e=some (1,ag))(hx:ev ρ x=some (sb (ar.sz α) l.toNat h.toNat v))(hy:ev ρ y=some u)(hi:Γ[i]?=some (.ow e v xs))(hz:jV xs l h=some M)(aa:∀w,SH A w0 w Γ->Src (λk=>A k\/k∈Γ.ae) w u ys):
  St P n A w0 ρ Γ ⟨d,.call ⟨.builtin .copy,#[x,y],#[t,t]⟩,ty,pos,after,g⟩ (λ_:Unit=>.int .i64 ((min M.length ys.length:Nat):Int)) (λ_=>Γ.set i (.ow e v (xc xs l h ys))) v.ownBlock.toList:=by
 intro a w hs Z
 obtain⟨cells,f,hr⟩:=Z.get i hi
 obtain⟨z0,z1,z2,rfl⟩:=ug hz
 have hlen:((xs.take h.toNat).drop l.toNat).length=h.toNat-l.toNat:=by simp;omega
 have N:(P.info? e).map (·.size)=some 1:=by
  unfold cg at he
  split at he
  ·rename_i inf u' e1 e2
   simp at he
   simp[e1,he.1]
  ·simp at he
 have T:=dT.length _ _ hr
 rw[F,Nat.mul_one]at T
 have I:min ys.length (h.toNat-l.toNat)=0->∀w',w'=w->SH A w0 w' (Γ.set i (.ow e v (xc xs l h ys))):=λhc w' hw=>by
  subst hw
  rw[CZ z0 z1 z2,hc,List.take_zero,List.append_nil,Nat.add_zero,List.take_append_drop,Aj hi]
  exact Z
 have U:gR Γ (Γ.set i (.ow e v (xc xs l h ys))) w:=.set hi (λc hc=>.inl hc)
 have z:(execOp a.eval ⟨d,.call ⟨.builtin .copy,#[x,y],#[t,t]⟩,ty,pos,after,g⟩).run P w=((Builtin.copy_ #[t,t] ty #[sb (ar.sz α) l.toNat h.toNat v,u]).run P w).andThen λr w'=>.ok (.value r) w':=by
  simp[execOp,resolve,invoke,builtin,hs.eval hx,hs.eval hy]
 rw[hlen,show((min (h.toNat-l.toNat) ys.length:Nat):Int)=((min ys.length (h.toNat-l.toNat):Nat):Int)by rw[Nat.min_comm]]
 have ab:∃dd dc,sb (ar.sz α) l.toNat h.toNat v=.slice dd (h.toNat-l.toNat) dc:=by
  obtain⟨_,f⟩:=f
  rcases f with⟨rfl,_⟩|⟨p,c,cur,rfl,_⟩<;>exact⟨_,_,rfl⟩
 have hzero:min ys.length (h.toNat-l.toNat)=0->(∃ad sc,u=.slice ad ys.length sc)->∃(r:Unit) (w':World),(execOp a.eval ⟨d,.call ⟨.builtin .copy,#[x,y],#[t,t]⟩,ty,pos,after,g⟩).run P w=.ok (.value (.int .i64 ((min ys.length (h.toNat-l.toNat):Nat):Int))) w'/\SH A w0 w' (Γ.set i (.ow e v (xc xs l h ys)))/\Grow w w' v.ownBlock.toList/\gR Γ (Γ.set i (.ow e v (xc xs l h ys))) w:=by
  intro B hu
  obtain⟨dd,dc,hd⟩:=ab
  obtain⟨ad,sc,rfl⟩:=hu
  refine⟨(),w,?_,I B w rfl,Grow.refl w _,U⟩
  rw[z,hd,run_copy_none w t t ty e dd ad (h.toNat-l.toNat) dc ys.length sc ht N B,B]
  simp[goInt]
 rcases aa w Z with⟨rfl,rfl⟩|⟨ad,cap,news,rfl,ac,b⟩
 ·exact hzero (by simp) ⟨none,0,rfl⟩
 ·have af:=dT.length _ _ b
  rw[F,Nat.mul_one]at af
  by_cases B:min ys.length (h.toNat-l.toNat)=0
  ·exact hzero B ⟨_,_,rfl⟩
  obtain⟨am,J⟩:=f
  rcases J with⟨rfl,an⟩|⟨p,c,cur,rfl,_,hg,V,ah,ai,C⟩
  ·exfalso
   omega
  ·have aj:¬c=l.toNat:=by omega
   have L:sb (ar.sz α) l.toNat h.toNat (.slice (some ⟨p,0,none⟩) xs.length c)=.slice (some ⟨p,l.toNat,none⟩) (h.toNat-l.toNat) (c-l.toNat):=by
    simp only[sb,if_neg aj,Option.map_some]
    rw[Addr.add_lit,F,Nat.mul_one,Nat.zero_add]
   generalize hm:min ys.length (h.toNat-l.toNat)=m at *
   have q:(news.take m).length=m:=by rw[List.length_take];omega
   have D:cur.size=c:=by rw[ai,F,Nat.mul_one]
   have W:l.toNat+(news.take m).length<=cur.size:=by rw[q,D];omega
   have H:=run_copy_row (P:=P) w t t ty e p l.toNat (h.toNat-l.toNat) (c-l.toNat) ad ys.length cap cur e (news.take m) ht N hg (by rw[q,<- hm]) (λk v s=>ac k v (by
     rw[List.getElem?_take]at s
     split at s
     ·exact s
     ·simp at s)) W (λv hv=>dT.one _ _ b v (List.mem_of_mem_take hv))
   simp only[q]at H
   refine⟨(),w.setRow p (cur.toList.take l.toNat++news.take m++cur.toList.drop (l.toNat+m)).toArray,?_,?_,⟨rfl,rfl,rfl,by simp,λk _ s=>setRow_other w p k _ (λe=>s (by simp[Value.ownBlock,e]))⟩,U⟩
   ·rw[z,L,H]
    simp[goInt]
   ·have ak:Ctx.ae (Γ.set i (.ow e (.slice (some ⟨p,0,none⟩) xs.length c) (xc xs l h ys)))=Γ.ae:=lg hi rfl
    have al:p∈Γ.ae:=List.mem_flatMap.2 ⟨_,List.mem_of_getElem? hi,by simp[Fact.ae,Value.ownBlock]⟩
    have hA:∀k,k<w.heap.size->¬(A k\/k∈Γ.ae)->(w.setRow p (cur.toList.take l.toNat++news.take m++cur.toList.drop (l.toNat+m)).toArray).heap[k]?=w.heap[k]?/\¬(A k\/k∈Γ.ae):=λk s X=>⟨setRow_other w p k _ (λe=>X (.inr (e▸al))),X⟩
    refine Z.set hi ⟨rfl,rfl,rfl,by simp,λk _ s=>setRow_other w p k _ (λe=>s (by simp[Fact.ae,Value.ownBlock,e]))⟩ (by simp[Fact.ae,Value.ownBlock]) (λk s=>?_) ?_
    ·simp[Fact.ae,Value.ownBlock]at s
     subst s
     exact⟨.inl (by simp[Fact.ae,Value.ownBlock]),by simpa using mj hg⟩
    ·rw[ak]
     have ao:l.toNat+m<=xs.length:=by omega
     have o:(xc xs l h ys).length=xs.length:=by rw[CZ z0 z1 z2,hm];simp;omega
     refine⟨cells.take l.toNat++news.take m++cells.drop (l.toNat+m),⟨?_,.inr ⟨p,c,_,?_,Nat.zero_le _,setRow_heap w p cur _ e _ hg,?_,ah,?_,?_⟩⟩,?_⟩
     ·rw[o,List.length_append,List.length_append,q,List.length_drop,List.length_take,T,F];omega
     ·rw[o]
     ·rw[o];exact V
     ·simp only[List.size_toArray,List.length_append,q,List.length_drop,List.length_take,Array.length_toList]
      rw[D,F];omega
     ·rw[o]
      rw[F,Nat.mul_one]at C ⊢
      simp only
      have Y:cur.toList.length=c:=by simpa using D
      rw[<- C]
      apply List.ext_getElem?
      intro j
      simp only[List.getElem?_take,List.getElem?_append,List.getElem?_drop,List.length_append,List.length_take,q,Y]
      grind
     ·rw[CZ z0 z1 z2,hm]
      have t0:=dT.take xs cells l.toNat hr
      have t1:=dT.take ys news m b
      have t2:=dT.drop xs cells (l.toNat+m) hr
      rw[F,Nat.mul_one]at t0 t1 t2
      exact dT.append _ _ _ _ (dT.append _ _ _ _ (dT.frame hA _ _ t0) (dT.frame hA _ _ t1)) (dT.frame hA _ _ t2)
end
def wx (k:IntKind)(x y:Int): Int:=k.wrap (((BitVec.ofInt k.bits x &&& BitVec.ofInt k.bits y).toNat:Nat):Int)
section
variable {R:Type}{P:Program}{n:Fr}{A:Nat->Prop}{w0:World}{Q:R->Exit->Act->World->Prop}{ρ ρ':Env}{Γ Γ':Ctx}{E:Option R}
variable {d:Option Nat}{ty:TypeId}{pos:String}{after:Array Edge}{g:Option (Nat×Bool)}
theorem wm {k:IntKind}{x y:Operand}{t u:TypeId}{m l:Int}(b:ev ρ x=some (.int k m))(c:ev ρ y=some (.int k l)): Ex P n A w0 ρ Γ ⟨d,.binOp .add t x y u,ty,pos,after,g⟩ (.int k (wk k (m+l))):=by
 intro a w hs e
 simp[execOp,hs.eval b,hs.eval c,eqGuard,binOp,Op.intArith,wk]
theorem xz {k:IntKind}{x y:Operand}{t u:TypeId}{m l:Int}(b:ev ρ x=some (.int k m))(c:ev ρ y=some (.int k l)): Ex P n A w0 ρ Γ ⟨d,.binOp .mul t x y u,ty,pos,after,g⟩ (.int k (wk k (m*l))):=by
 intro a w hs e
 simp[execOp,hs.eval b,hs.eval c,eqGuard,binOp,Op.intArith,wk]
theorem v8 {k:IntKind}{x y:Operand}{t u:TypeId}{m l:Int}{b:IntKind}(c:ev ρ x=some (.int k m))(e:ev ρ y=some (.int b l))(hl:0<=l): Ex P n A w0 ρ Γ ⟨d,.binOp .shr t x y u,ty,pos,after,g⟩ (.int k (m.fdiv (2^min l.toNat k.bits))):=by
 intro a w hs f
 have:¬l<0:=by omega
 simp[execOp,hs.eval c,hs.eval e,eqGuard,binOp,Op.shift,this]
theorem BV {k:IntKind}{x y:Operand}{t u:TypeId}{m l:Int}(b:ev ρ x=some (.int k m))(c:ev ρ y=some (.int k l)): Ex P n A w0 ρ Γ ⟨d,.binOp .and t x y u,ty,pos,after,g⟩ (.int k (wx k m l)):=by
 intro a w hs e
 simp[execOp,hs.eval b,hs.eval c,eqGuard,binOp,Op.intBits,wx]
end
end Go.Tc
