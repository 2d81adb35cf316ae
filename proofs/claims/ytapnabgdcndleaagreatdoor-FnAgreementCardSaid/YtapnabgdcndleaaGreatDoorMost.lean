/-
  Rows as cells alone; functions that turn an own row round. No condition.
  Functions that store through what they are handed: boxes and rows of the caller's go in, and come back with what they hold then. No condition.
  Arrays of numbers inside boxes: parts of them copied, read and written at an index. No condition.
  Ranges over a map, in whatever order its entries come. No condition.
  Tokens that go over one by one: a row with tokens is read from its begin on, and what is taken out takes its tokens along. No condition.
  Own rows in full, their inner rows too; an element of such a row, opened and closed; tokens that become own rows again. No condition.
  Ranges over functions: the function that is ranged over and the rounds are walked in place. No condition.
  Bytes and parts of texts. No condition.
  Functions that strike elements out of an own row by a function value (slices.DeleteFunc). No condition.
  Interface values of known dynamic types: made, and their methods called. No condition.
  What strings.Builder does with memory: a pointer in a box held against itself, turned to unsafe.Pointer and back; the bytes of an own row as a text. No condition.
  Function values in boxes; calls of closures that store through what they have captured. No condition.
  An inner row of a row of rows, opened and closed; append to such a row; rows with tokens that become own rows in full. No condition.
  A cell of which nothing is known; a cell that holds a known value. No condition.
  Closures as data: a function with what it has captured, in boxes that are written no more. No condition.
  Boxes of numbers that are told by one fact. No condition.
  A row of closures, each with four boxes of its own: what the boxes hold, by one fact. No condition.
  Facts bundled into one; cells read out of a bundle. No condition.
  Decimal numerals by a contract of the kit's: what the table of powers holds goes along from world to world. No condition.
  strings.Split and strings.Cut by contracts of the kit's; a variable of the library that holds some number. No condition.
  strings.ReplaceAll and strconv.ParseInt by contracts of the kit's; an error is none or not. No condition.
  strings.IndexAny at short texts by the kit's contract. No condition.
-/
import Derived.Test.YtapnabgdcndleaaGreatDoorMore
import Derived.Maps.RangeRun
import Derived.Lib.Builder
import Derived.Lib.UnsafeStr
import Derived.Lib.Join
import Derived.ArgAppend
import Derived.Lib.AppendIntMem
import Derived.Lib.SplitLaws
import Derived.Lib.IndexMore
import Derived.Lib.ParseIntB
import Derived.Lib.Replace
import Derived.Lib.AtoiErrMem
import Derived.WideLaws
import Derived.Lib.IndexAny
import Derived.Laws.RangeString
namespace Go.Tc
open Go Go.RowKit
structure Vc where
 v:Value
 one:v.oneCell'=true
instance:ar Vc where
 sz:=1
 agg:=false
 lG _ _ cs x:=cs=[x.v]
 len h:=by subst h;rfl
 one:=by
  intro A w cs x h c a
  subst h
  simp at a
  subst a
  exact x.one
 pos:=by decide
 single _:=rfl
 frame h _:=h
 dc _ cs x B:=cs=[x.v]/\B=[]
 ub h _:=h
 sT h _:=h.1
 tj h b e:=by simp[h.2]at e
 flat:=true
 uX _ h:=⟨h,rfl⟩
section
variable {R:Type}{P:Program}{n:Fr}{A:Nat->Prop}{w0 w w':World}{Q:R->Exit->Act->World->Prop}{ρ ρ':Env}{Γ Γ':Ctx}{E:Option R}
variable {d:Option Nat}{ty:TypeId}{pos:String}{after:Array Edge}{g:Option (Nat×Bool)}
theorem jc {fn:Func}{G:Type}{v:R->G->Value}{fs:R->G->Ctx}{r:R}{e:Exit}(he:e=.ret\/e=.normal)(b:fn.results=#[])(h:∀w,SH A w0 w Γ->∃x,.tuple #[]=v r x/\SH A w0 w (fs r x))(c:n.ds=[]:=by rfl): N n A w0 (rO P fn (tA A w0 v fs)) e ρ Γ (some r):=by
 rintro j hr a w hs f
 cases hr
 have key:a.defers=[]/\∃u,(results fn a.tmps).run P w=.ok u w/\tA A w0 v fs r (.returned u) w:=by
  refine⟨hs.defers.trans c,.tuple #[],?_,?_⟩
  ·rw[jv,b]
   simp
  ·obtain⟨x,e,i⟩:=h w f
   exact⟨x,by rw[e],i⟩
 rcases he with rfl|rfl<;>exact nG key.1 key.2
end
end Go.Tc
namespace Go.Tc
open Go Go.RowKit
def oi (w:World)(B:List Nat): List Nat:=(List.range w.heap.size).filter (λk=>!(B.contains k))
theorem BD {w:World}{B:List Nat}{k:Nat}: k∈oi w B↔k<w.heap.size/\k∉B:=by
 simp[oi]
abbrev outs (w:World)(B:List Nat): Fact:=.fL (.int .i64 0) (0:Int) (oi w B)
def Fact.loose:Fact->Bool
 |@Fact.ow α _ _ _ _=>ar.flat α
 |@Fact.od _ _ _ _ _ _=>true
 |@Fact.fL _ _ _ _ _=>true
 |.bx _ _ _=>true
 |.pr _=>true
 |.inv _ _=>true
 |_=>false
theorem Fact.yq {A c:Nat->Prop}{B j:Nat}{w:World}{f:Fact}(hl:f.loose=true)(h:f.holds A B w)(i:∀b∈f.cb,¬c b): f.holds c j w:=by
 cases f with
 |ow e v xs=>
  obtain⟨cells,k,l⟩:=h
  exact⟨cells,k,(DL.flat hl _ _ l).rd _ _ _ (by simp)⟩
 |od e v xs m=>
  exact⟨h.1,λb a=>⟨(h.2 b a).1,i b a⟩⟩
 |fL v x m=>
  exact⟨h.1,λb a=>⟨(h.2 b a).1,i b a⟩⟩
 |bx b t cs=>exact h
 |pr p=>exact h
 |rd v x=>simp[Fact.loose]at hl
 |pt v x=>simp[Fact.loose]at hl
 |pa v x=>simp[Fact.loose]at hl
 |inv B I=>exact h
 |fz w1 C=>simp[Fact.loose]at hl
theorem KB {w:World}{Γin:Ctx}(p:Γin.ae.Nodup)(q:∀b∈Γin.ae,b<w.heap.size)(o:Γin.cb=[])(hl:Γin.all Fact.loose=true){A:Nat->Prop}{B:Nat}(r:∀f∈Γin,f.holds A B w):
  SH cw (bare w) w (Γin++[outs w Γin.ae,rest w Γin.ae]):=by
 have j:Ctx.ae (Γin++[outs w Γin.ae,rest w Γin.ae])=Γin.ae:=by simp[Ctx.ae,Fact.ae]
 have l:Ctx.cb (Γin++[outs w Γin.ae,rest w Γin.ae])=oi w Γin.ae:=by
  have:Ctx.cb (Γin++[outs w Γin.ae,rest w Γin.ae])=Γin.cb++oi w Γin.ae:=by simp[Ctx.cb,Fact.cb]
  rw[this,o,List.nil_append]
 refine⟨⟨rfl,rfl,rfl,by simp[bare],λk a=>by simp[bare]at a⟩,λk a=>a.elim,by rw[j];exact p,λb h=>⟨by simp[bare],?_⟩,?_,λb _=>by simp[bare],λf c=>?_⟩
 ·rw[j]at h
  exact q b h
 ·rw[l]
  exact List.nodup_range.filter _
 ·rw[j]
  rcases List.mem_append.1 c with c|c
  ·refine Fact.yq (List.all_eq_true.1 hl f c) (r f c) (λb m=>?_)
   have:b∈Γin.cb:=List.mem_flatMap.2 ⟨f,c,m⟩
   rw[o]at this
   simp at this
  ·simp only[List.mem_cons,List.not_mem_nil,or_false]at c
   rcases c with rfl|rfl
   ·refine⟨⟨[],⟨[.int .i64 0],rfl,rfl,rfl⟩,by simp,by simp⟩,λb i=>⟨(BD.1 i).1,?_⟩⟩
    rintro(a|a)
    ·exact a
    ·exact(BD.1 i).2 a
   ·refine⟨Nat.le_refl _,λk a=>⟨?_,a.1,rfl⟩⟩
    rintro(e|e)
    ·exact e.elim
    ·exact a.2 e
def kb (w:World)(Γin:Ctx): Prop:=Γin.ae.Nodup/\(∀b∈Γin.ae,b<w.heap.size)/\Γin.cb=[]/\Γin.all Fact.loose=true/\∀f∈Γin,f.holds (λ_=>False) 0 w
theorem SH.begin {w:World}{Γin:Ctx}{B:List Nat}(a:Γin.ae=B)(h:kb w Γin): SH cw (bare w) w (Γin++[outs w B,rest w B]):=by
 subst a
 exact KB h.1 h.2.1 h.2.2.1 h.2.2.2.1 h.2.2.2.2
theorem SH.gn {α:Type}[ar α]{w0 w:World}{Γ:Ctx}{B:List Nat}{v:Value}{x:α}(h:SH cw w0 w Γ)(a:Γ.ae=B)(hr:Rd (λk=>k∈B) w v x): SH cw w0 w (.rd v x::Γ):=
 h.oa (by
  rw[a]
  exact hr.D7 λk b=>b.elim (λh=>h.elim) id)
def iY (P:Program)(f:FuncId)(vs:List Value)(w:World)(B:List Nat){G:Type}(v:G->Value)(fs:G->Ctx): Prop:=
 Calls P f vs.toArray w λe w'=>∃x,e=.returned (v x)/\SH cw (bare w) w' (fs x++[outs w B,rest w B])
section
variable {R:Type}{P:Program}{n:Fr}{A:Nat->Prop}{w0 w w':World}{Q:R->Exit->Act->World->Prop}{ρ ρ':Env}{Γ Γ' Δ:Ctx}{E:Option R}{B:List Nat}
variable {d:Option Nat}{ty:TypeId}{pos:String}{after:Array Edge}{g:Option (Nat×Bool)}
theorem Nc {p:Nat->Prop}{w1:World}(k:SH p w1 w' (Δ++[outs w B,rest w B]))(hw:w1=bare w)(m:p=cw):
  Grow w w' B/\(∀b∈Δ.ae,b∈B\/w.heap.size<=b)/\(∀b∈Δ.cb,b∈B\/w.heap.size<=b)/\Δ.ae.Nodup/\Δ.cb.Nodup/\(∀b∈Δ.ae,b<w'.heap.size)/\∀b∈Δ.cb,b<w'.heap.size/\b∉Δ.ae:=by
 subst hw m
 have i:Ctx.ae (Δ++[outs w B,rest w B])=Δ.ae:=by simp[Ctx.ae,Fact.ae]
 have e:Ctx.cb (Δ++[outs w B,rest w B])=Δ.cb++oi w B:=by simp[Ctx.cb,Fact.cb]
 have q:=k.get Δ.length (f:=outs w B) (by simp)
 have l:=k.get (Δ.length+1) (f:=rest w B) (by simp)
 rw[i]at q l
 have c:=k.tu
 rw[e,List.nodup_append]at c
 refine⟨⟨k.below.os,k.below.tape,k.below.output,l.1,λj r a=>(l.2 j ⟨r,a⟩).2.2⟩,λb a=>?_,λb a=>?_,by have:=k.nd;rw[i]at this;exact this,c.1,λb a=>(k.ge b (by rw[i];exact a)).2,λb a=>?_⟩
 ·refine Classical.byContradiction λo=>?_
  exact(l.2 b ⟨by omega,λh=>o (.inl h)⟩).1 (.inr a)
 ·refine Classical.byContradiction λo=>?_
  exact c.2.2 b a b (BD.2 ⟨by omega,λh=>o (.inl h)⟩) rfl
 ·have:=k.ER b (by rw[e];simp[a])
  rw[i]at this
  exact this
theorem SH.MD (h:SH A w0 w Γ)(is js:List Nat)(Z:gM (js++is)=true)(N:(Tc.cj is Γ).ae=B)(k:SH cw (bare w) w' (Δ++[outs w B,rest w B]))(hl:Δ.all Fact.loose=true):
  SH A w0 w' (Δ++Tc.cj js Γ)/\Grow w w' B/\gR Γ (Δ++Tc.cj js Γ) w:=by
 obtain⟨D,t,u,T,U,V,W⟩:=Nc k rfl rfl
 have F:=h.Fa js is Z N D
 have r:∀b∈B,b∈Γ.ae:=λb c=>by
  rw[<- N]at c
  obtain⟨i,_,f,q,s⟩:=kD is Γ b c
  exact List.mem_flatMap.2 ⟨f,List.mem_of_getElem? q,s⟩
 have v:∀b∈(Tc.cj js Γ).ae,b∈Γ.ae:=λb c=>by
  obtain⟨m,_,f,q,s⟩:=kD js Γ b c
  exact List.mem_flatMap.2 ⟨f,List.mem_of_getElem? q,s⟩
 have y:∀b∈(Tc.cj js Γ).ae,b∉B:=λb c G=>by
  rw[<- N]at G
  obtain⟨i,hi,f,q,s⟩:=kD js Γ b c
  obtain⟨j,H,f',X,I⟩:=kD is Γ b G
  exact wb h.nd q X ((yx js is Z).2 i hi j H) s I
 have J:Ctx.ae (Δ++Tc.cj js Γ)=Δ.ae++(Tc.cj js Γ).ae:=by simp[Ctx.ae]
 have K:Ctx.cb (Δ++Tc.cj js Γ)=Δ.cb++(Tc.cj js Γ).cb:=by simp[Ctx.cb]
 have z:∀b,b∈B\/w.heap.size<=b->w0.heap.size<=b:=λb c=>by
  rcases c with c|c
  ·exact(h.ge b (r b c)).1
  ·exact Nat.le_trans h.lt c
 have L:∀b∈(Tc.cj js Γ).cb,b∈Γ.cb:=λb c=>AK js Γ b c
 refine⟨⟨F.below,h.av,?_,?_,?_,?_,?_⟩,D,?_⟩
 ·rw[J,List.nodup_append]
  refine⟨T,F.nd,λa x b c e=>?_⟩
  subst e
  rcases t a x with p|p
  ·exact y a c p
  ·have:=(h.ge a (v a c)).2;omega
 ·intro b c
  rw[J]at c
  rcases List.mem_append.1 c with c|c
  ·exact⟨z b (t b c),V b c⟩
  ·exact F.ge b c
 ·rw[K,List.nodup_append]
  refine⟨U,F.tu,λa x b c e=>?_⟩
  subst e
  rcases u a x with p|p
  ·exact(h.ER a (L a c)).2 (r a p)
  ·have:=(h.ER a (L a c)).1;omega
 ·intro b c
  rw[K]at c
  rcases List.mem_append.1 c with c|c
  ·exact z b (u b c)
  ·exact F.uS b c
 ·intro f q
  rcases List.mem_append.1 q with q|q
  ·have hk:=k.all f (List.mem_append_left _ q)
   refine Fact.yq (List.all_eq_true.1 hl f q) hk (λb Y=>?_)
   have C:b∈Δ.cb:=List.mem_flatMap.2 ⟨f,q,Y⟩
   rintro(l|l)
   ·have p:=h.av b l
    have h2:=z b (u b C)
    omega
   ·rw[J]at l
    rcases List.mem_append.1 l with l|l
    ·exact(W b C).2 l
    ·rcases u b C with p|p
     ·exact y b l p
     ·have:=(h.ge b (v b l)).2;omega
  ·obtain⟨m,hm,M⟩:=pV js Γ f q
   refine Fact.frame D.size (h.all f (List.mem_of_getElem? M)) (λb c=>D.block b (h.ge b (List.mem_flatMap.2 ⟨f,List.mem_of_getElem? M,c⟩)).2 (y b (List.mem_flatMap.2 ⟨f,q,c⟩))) (λj H=>D.block j (Nat.lt_of_lt_of_le H h.lt) (λhm=>absurd (h.ge j (r j hm)).1 (by omega))) (λj H x=>⟨D.block j H (λhm=>x (.inr (r j hm))),?_⟩)
   rintro(o|o)
   ·exact x (.inl o)
   ·rw[J]at o
    rcases List.mem_append.1 o with o|o
    ·rcases t j o with p|p
     ·exact x (.inr (r j p))
     ·omega
    ·exact x (.inr (v j o))
 ·intro b c
  rw[J]at c
  rcases List.mem_append.1 c with c|c
  ·rcases t b c with p|p
   ·exact .inl (r b p)
   ·exact .inr p
  ·exact .inl (v b c)
theorem SH.handed {Γin:Ctx}(h:SH A w0 w Γ)(is:List Nat)(j:gM is=true)(c:Tc.cj is Γ=Γin)(hl:Γin.all Fact.loose=true)(k:Γin.all (λf=>f.cb.isEmpty)=true):
  kb w Γin:=by
 subst c
 refine⟨Bk is Γ j h.nd,λb l=>?_,?_,hl,λf a=>?_⟩
 ·obtain⟨m,_,f,a,e⟩:=kD is Γ b l
  exact(h.ge b (List.mem_flatMap.2 ⟨f,List.mem_of_getElem? a,e⟩)).2
 ·simp only[Ctx.cb,List.flatMap_eq_nil_iff]
  intro f a
  simpa using List.all_eq_true.1 k f a
 ·obtain⟨m,_,i⟩:=pV is Γ f a
  exact Fact.yq (List.all_eq_true.1 hl f a) (h.all f (List.mem_of_getElem? i)) (λ_ _ h=>h)
theorem SH.apart {α:Type}[ar α]{v:Value}{x:α}(h:SH A w0 w Γ)(is:List Nat)(c:(Tc.cj is Γ).ae=B)(hr:Rd (λk=>A k\/k∈Γ.ae) w v x): Rd (λk=>k∈B) w v x:=by
 refine hr.D7 λk b=>.inr ?_
 rw[<- c]at b
 obtain⟨i,_,f,e,a⟩:=kD is Γ k b
 exact List.mem_flatMap.2 ⟨f,List.mem_of_getElem? e,a⟩
theorem eV {k:Nat}{f:FuncId}{fn:Func}{body:Code}{vs:List Value}{G:Type}{v:R->G->Value}{fs:R->G->Ctx}{r:R}(c:P.funcs[f]?=some fn)(e:fn.body=some body)(i:fn.ntmps=k)(hl:Nat.ble vs.length k=true)(a:SH cw (bare w) w Γ)(b:enum 0 vs=ρ)(h:J P ⟨k,[],none⟩ cw (bare w) body (rO P fn (tA cw (bare w) v (λr x=>fs r x++[outs w B,rest w B]))) ρ Γ E)(j:E=some r): iY P f vs w B (v r) (fs r):=
 ND c e i hl a b h j
def Nf (P:Program)(A:Nat->Prop)(w0:World)(Γ:Ctx)(f:FuncId)(vs:List Value){G:Type}(v:G->Value)(Γ':G->Ctx)(T:List Nat): Prop:=
 ∀w,SH A w0 w Γ->Calls P f vs.toArray w λe w'=>∃x,e=.returned (v x)/\SH A w0 w' (Γ' x)/\Grow w w' T/\gR Γ (Γ' x) w
theorem mW {f:FuncId}{vs:List Value}{G:Type}{v:G->Value}{fs:G->Ctx}(is js:List Nat)(b:gM (js++is)=true)(c:(cj is Γ).ae=B)(hl:∀x,(fs x).all Fact.loose=true)(h:∀w,SH A w0 w Γ->iY P f vs w B v fs): Nf P A w0 Γ f vs v (λx=>fs x++cj js Γ) B:=
 λw a=>(h w a).mono λ_ _ ⟨x,he,e⟩=>⟨x,he,a.MD is js b c e (hl x)⟩
theorem CO {ops:Array Oper}{rest:List Oper}{d:Nat}{f:FuncId}{args:List Operand}{c:Array TypeId}{vs:List Value}{G:Type}{v:G->Value}{Γ':G->Ctx}{T:List Nat}(hw:iE n ρ ops ⟨some d,.call ⟨.value (.func f),args.toArray,c⟩,ty,pos,after,g⟩)(hd:Nat.blt d n.n=true)(j:∀args w,(callFunc f args).run P w=.ok (.enter f args) w)(b:rp ρ args=some vs)(k:Nf P A w0 Γ f vs v Γ' T)(h:∀x,JL P n A w0 ops rest Q ((d,v x)::ρ) (Γ' x) E): JL P n A w0 ops (⟨some d,.call ⟨.value (.func f),args.toArray,c⟩,ty,pos,after,g⟩::rest) Q ρ Γ E:=by
 intro r hr a w hs l
 refine wpList_step λK m=>?_
 rw[hw a hs]
 simp only[if_true]
 unfold Oper.wp
 rw[run_mark hs j b,Oper.upon_enter]
 refine(k w l).mono ?_
 rintro e w' ⟨x,rfl,i,_⟩
 exact m _ _ (h x r hr _ _ (hs.put (by simpa[Nat.blt_eq]using hd)) i)
theorem gQ {w1:World}{Γ1:Ctx}{ops:Array Oper}{O:List Nat}{fuel:Nat}{listed:Array Bool}{i d:Nat}{f:FuncId}{args:List Operand}{j:Array TypeId}{vs:List Value}{G:Type}{v:G->Value}{Γ':G->Ctx}{T:List Nat}(hi:ops[i]?=some ⟨some d,.call ⟨.value (.func f),args.toArray,j⟩,ty,pos,after,g⟩)(hw:iE n ρ ops ⟨some d,.call ⟨.value (.func f),args.toArray,j⟩,ty,pos,after,g⟩)(hd:Nat.blt d n.n=true)(u:∀args w,(callFunc f args).run P w=.ok (.enter f args) w)(b:rp ρ args=some vs)(y:Nf P A w0 Γ f vs v Γ' T)(t:∀k∈T,k∈O)(h:∀x,JD P n A w0 w1 Γ1 ops O fuel (listed.setIfInBounds i true) Q ((d,v x)::ρ) (Γ' x) E): JO P n A w0 w1 Γ1 ops O fuel listed Q i ρ Γ E:=by
 intro r m a w c z o p
 unfold wpOp
 simp only[hi,hw a c,if_true]
 refine .inl ?_
 unfold Oper.wp
 rw[run_mark c u b,Oper.upon_enter]
 refine(y w z).mono ?_
 rintro e w' ⟨x,rfl,q,l,s⟩
 exact⟨o.more l t,h x r m _ _ (c.put (by simpa[Nat.blt_eq]using hd)) q (o.more l t) (p.trans o s)⟩
theorem PM {fn:Func}{b c e f:ResultVar}{k l m o:Value}{G:Type}{v:R->G->Value}{fs:R->G->Ctx}{r:R}(i:fn.results=#[b,c,e,f])(p:Rv P n A w0 ρ Γ b k)(q:Rv P n A w0 ρ Γ c l)(s:Rv P n A w0 ρ Γ e m)(t:Rv P n A w0 ρ Γ f o)(h:∀w,SH A w0 w Γ->∃x,.tuple #[k,l,m,o]=v r x/\SH A w0 w (fs r x))(u:n.ds=[]:=by rfl): N n A w0 (rO P fn (tA A w0 v fs)) .ret ρ Γ (some r):=by
 rintro C hr a w hs j
 cases hr
 refine nG (hs.defers.trans u) ⟨.tuple #[k,l,m,o],?_,?_⟩
 ·rw[jv,i]
  simp[p a w hs j,q a w hs j,s a w hs j,t a w hs j]
 ·obtain⟨x,y,z⟩:=h w j
  exact⟨x,by rw[y],z⟩
theorem ry {fn:Func}{n2:Fr}{b:Env}{ops:Array Oper}{rest:List Oper}{d:Nat}{K:R->Value->World->Prop}{c e f i:ResultVar}{l m o p:Value}(x:vE P n A w0 ops rest Q d ρ K)(j:fn.results=#[c,e,f,i])(q:Rv P n2 A w0 b Γ c l)(s:Rv P n2 A w0 b Γ e m)(t:Rv P n2 A w0 b Γ f o)(u:Rv P n2 A w0 b Γ i p)(h:JL P n A w0 ops rest Q ((d,.tuple #[l,m,o,p])::ρ) Γ E)(v:n2.ds=[]:=by rfl): N n2 A w0 (vN P fn K) .ret b Γ E:=by
 intro r hr a w hs k
 refine nG (hs.defers.trans v) ⟨.tuple #[l,m,o,p],?_,_,rfl,x _ _ _ h r hr w k⟩
 rw[jv,j]
 simp[q a w hs k,s a w hs k,t a w hs k,u a w hs k]
end
end Go.Tc
namespace Go.Tc
open Go Go.RowKit
end Go.Tc
namespace Go.Tc
open Go Go.RowKit
section
variable {α S R0:Type}
open Classical in
end
end Go.Tc
namespace Go.Tc
open Go Go.RowKit
end Go.Tc
namespace Go.Tc
open Go Go.RowKit
end Go.Tc
namespace Go.Tc
open Go Go.RowKit
def jmp (js:List Code)(k:Int): Option Code:=match k with
 |.ofNat (m+1)=>js[m]?
 |_=>none
def E9:Option Code->Option Exit
 |none=>some .normal
 |some .ret=>some .ret
 |some (.exit id)=>some (.exit id)
 |_=>none
structure Lp where
 fn:FuncId
 tm:Array Value
 ps:Array Tmp
 assign:Code
 body:Code
 D:Nat
def Lp.AT (L:Lp)(st:LoopState)(a:Option Code): Loop:={ state:=st,pending:=a,fn:=L.fn,tmps:=L.tm,params:=L.ps,assign:=L.assign,body:=L.body,defers:=L.D }
def Jl (j:Option Code): LoopState:=if j.isNone then .ready else .done
theorem Nt (j:Option Code): Jl j≠.busy:=by cases j<;>simp[Jl]
def Eu (l:Nat)(L:Lp)(js:List Code)(k:Int): Fact:=.inv [l] (λw=>w.heap[l]?=some (.loop (L.AT (Jl (jmp js k)) (jmp js k))))
def Qd (l:Nat)(L:Lp): Fact:=.inv [l] (λw=>w.heap[l]?=some (.loop (L.AT .busy none)))
def Gl (D:Nat): Fact:=.inv [D] (λw=>w.heap[D]?=some (.deferred (some [])))
def Ft (D:Nat): Deferred:={ target:=.collected D,args:=#[] }
structure OJ (n:Fr)(ρ:Env)(ps:Array Tmp)(assign body:Code)(L:Lp): Prop where
 e1:L.ps=ps
 e2:L.assign=assign
 e3:L.body=body
 sat:Sat ⟨n.n,[],none⟩ ρ { tmps:=L.tm,defers:=[] }
theorem tG.slice3 {α:Type}[ar α]{P:Program}{w:World}{A:Nat->Prop}{t e:TypeId}{s:Bool}{v:Value}{xs ys:List α}{lo:Option Value}{l h:Int}(p:P.underlying t=some (.slice e))(he:cg P e=some (ar.sz α,s))(hr:tG A w v xs)(a:lo=none/\l=0\/lo=some (.int .i64 l))(x:jV xs l h=some ys):
  ∃q,(Instr.sliceAt t v lo (some (.int .i64 h)) (some (.int .i64 h))).run P w=.ok q w/\tG A w q ys:=by
 obtain⟨y,z,C,rfl⟩:=ug x
 rcases hr with⟨rfl,ad,cap,rfl,G,D⟩|⟨b,off,cap,cells,rfl,g1,g2,g3,g4,g5,g6⟩
 ·simp at C
  have hl:l=0:=by omega
  have F:h=0:=by omega
  subst hl F
  refine⟨.slice ad 0 0,?_,.inl ⟨by simp,ad,0,rfl,λ_=>rfl,Nat.zero_le _⟩⟩
  rcases a with⟨rfl,_⟩|rfl <;>
   simp[Instr.sliceAt,Instr.slice,run_underlying p,Instr.sliceBounds,Instr.sliceBound,asIntOf,dR he]
 ·have c:(Instr.sliceAt t (.slice (some ⟨b,off,none⟩) xs.length cap) lo (some (.int .i64 h)) (some (.int .i64 h))).run P w=.ok (.slice (if h.toNat=l.toNat then some ⟨b,off,none⟩else some ⟨b,off+l.toNat*ar.sz α,none⟩) (h.toNat-l.toNat) (h.toNat-l.toNat)) w:=by
   have i:0<=l/\l<=(h.toNat:Int):=⟨y,by omega⟩
   have k:0<=h/\h<=(cap:Int):=⟨by omega,by omega⟩
   have m:0<=h/\h<=(h.toNat:Int):=⟨by omega,by omega⟩
   have hm:max h 0=h:=by omega
   rcases a with⟨rfl,rfl⟩|rfl <;>
    simp[Instr.sliceAt,Instr.slice,run_underlying p,Instr.sliceBounds,Instr.sliceBound,asIntOf,dR he,Addr.add_lit,i,k,m,hm,z]
  refine⟨_,c,?_⟩
  have hlen:((xs.take h.toNat).drop l.toNat).length=h.toNat-l.toNat:=by simp;omega
  refine .inr ⟨b,if h.toNat=l.toNat then off else off+l.toNat*ar.sz α,h.toNat-l.toNat,(cells.take (h.toNat*ar.sz α)).drop (l.toNat*ar.sz α),?_,g1,g2,?_,?_,?_,dT.drop _ _ _ (dT.take _ _ _ g6)⟩
  ·rw[hlen];split<;>rfl
  ·rw[hlen];omega
  ·omega
  ·intro j u f
   have o:=(List.getElem?_eq_some_iff.1 f).1
   simp at o
   by_cases r:h.toNat=l.toNat
   ·exfalso
    have:=Nat.mul_le_mul_right (ar.sz α) (Nat.le_of_eq r)
    omega
   ·rw[if_neg r,Nat.add_assoc]
    refine g5 _ _ ?_
    rw[List.getElem?_drop,List.getElem?_take]at f
    split at f
    ·exact f
    ·simp at f
section
variable {R:Type}{P:Program}{n nc:Fr}{A:Nat->Prop}{w0 w w':World}{Q:R->Exit->Act->World->Prop}{ρ ρ' ρc:Env}{Γ Γ':Ctx}{E:Option R}
variable {d:Option Nat}{ty:TypeId}{pos:String}{after:Array Edge}{g:Option (Nat×Bool)}
theorem SH.zn {B:List Nat}{I:World->Prop}(h:SH A w0 w Γ)(i:Nat)(hi:Γ[i]?=some (.inv B I)): I w:=h.get i hi w (λ_ _=>rfl)
theorem SH.Je {b:Nat}{I I':World->Prop}{o:Obj}(h:SH A w0 w Γ)(i:Nat)(hi:Γ[i]?=some (.inv [b] I))(j:∀w',w'.heap[b]?=some o->I' w'):
  SH A w0 (w.putObj b o) (Γ.set i (.inv [b] I')):=by
 have l:b∈Γ.ae:=List.mem_flatMap.2 ⟨_,List.mem_of_getElem? hi,by simp[Fact.ae]⟩
 have a:=(h.ge b l).2
 have m:Grow w (w.putObj b o) [b]:=⟨rfl,rfl,rfl,by simp,λk _ p=>World.putObj_heap_other (by simpa using p)⟩
 refine h.set hi m (by simp[Fact.ae]) (λc e=>⟨.inl e,?_⟩) ?_
 ·simp[Fact.ae]at e
  subst e
  simpa using a
 ·intro q f
  refine j q ?_
  rw[f b (by simp)]
  exact World.putObj_heap_same a
theorem SH.JQ {b:Nat}{I:World->Prop}{o:Obj}(h:SH A w0 w Γ)(i:Nat)(hi:Γ[i]?=some (.inv [b] I)):
  SH A w0 (w.putObj b o) (Γ.set i (.pr True)):=by
 have a:Grow w (w.putObj b o) [b]:=⟨rfl,rfl,rfl,by simp,λk _ e=>World.putObj_heap_other (by simpa using e)⟩
 exact h.set hi a (by simp[Fact.ae]) (λc f=>by simp[Fact.ae]at f) trivial
theorem SH.I2 {o:Obj}{I:World->Prop}(h:SH A w0 w Γ)(b:∀w',w'.heap[w.heap.size]?=some o->I w'): SH A w0 (w.alloc o) (.inv [w.heap.size] I::Γ):=by
 refine h.cons (Grow.alloc w o []) (by simp[Fact.ae]) (by simp[Fact.ae]) ?_
 intro c a
 refine b c ?_
 rw[a _ (by simp)]
 exact heap_alloc_new w o
def IH (n:Fr)(A:Nat->Prop)(w0:World)(Q:R->Exit->Act->World->Prop)(ρ:Env)(l D:Nat)(L:Lp)(js:List Code)(K:R->Value->World->Prop): Prop:=
 ∀(k:Int) (e:Exit),E9 (jmp js k)=some e->∀(Γ':Ctx) (E':Option R) (i:Nat),Γ'[i]?=some (Eu l L js k)->N ⟨n.n,Ft D::n.ds,none⟩ A w0 Q e ρ (Γ'.set i (.pr True)) E'->∀r,E'=some r->∀u w,SH A w0 w Γ'->K r u w
theorem xn {g:Operand}{ps:Array Tmp}{assign body f:Code}{m F:Nat}{j:Func}{lb:List Value}{p:Env}(js:List Code)(V:ev ρ g=some (.func (.func m) #[] lb.toArray))(W:∀args w,(callFunc m args).run P w=.ok (.enter m args) w)(G:P.funcs[m]?=some j)(X:j.body=some f)(Y:j.ntmps=F)(hl:Nat.ble (lb.length+1) F=true)(H:enum 1 lb=p)(h:∀(l D:Nat) (L:Lp) (K:R->Value->World->Prop),OJ n ρ ps assign body L->IH n A w0 Q ρ l D L js K->J P ⟨F,[],none⟩ A w0 f (vN P j K) ((0,.func (.yield l) #[] #[])::p) (Eu l L js 0::Gl D::Γ) E)(Z:n.o=none:=by rfl): J P n A w0 (.rangeFunc g ps assign body) Q ρ Γ E:=by
 intro r hr a w hs hh
 refine wpIn_rangeFunc λfn _=>?_
 obtain⟨L,s⟩:∃L:Lp,L=⟨fn,a.tmps,ps,assign,body,w.heap.size⟩:=⟨_,rfl⟩
 have hL:OJ n ρ ps assign body L:=by
  subst s
  exact⟨rfl,rfl,rfl,⟨hs.size,rfl,hs.get⟩⟩
 have h1:SH A w0 (w.alloc (.deferred (some []))) (Gl w.heap.size::Γ):=hh.I2 λ_ h=>h
 obtain⟨q,v⟩:∃q,(w.alloc (.deferred (some []))).alloc (.loop (L.AT .ready none))=q:=⟨_,rfl⟩
 have x:SH A w0 q (Eu (w.heap.size+1) L js 0::Gl w.heap.size::Γ):=by
  have:=h1.I2 (o:=.loop (L.AT .ready none)) (I:=λw'=>w'.heap[w.heap.size+1]?=some (.loop (L.AT .ready none))) (λw' h=>by simpa using h)
  have e:(w.alloc (Obj.deferred (some []))).heap.size=w.heap.size+1:=by simp
  rw[e]at this
  rw[<- v]
  exact this
 refine⟨w.heap.size+1,[Ft w.heap.size],q,{ target:=.fn (.func m) lb.toArray,args:=#[.func (.yield (w.heap.size+1)) #[] #[]] },q,m,#[.func (.yield (w.heap.size+1)) #[] #[]]++lb.toArray,q,?_,?_,λ_ _=>trivial,?_,λhd=>by simp[Fx,Fence.wide]at hd,?_⟩
 ·rw[show(Fx n.o).round=none from Z,<- v,s]
  exact run_enterLoop_outer _ _ _ _ _
 ·simp only[resolve,hs.eval V]
  simp[go_sem]
 ·simp[invoke,go_sem,W]
 ·have hc:Calls P m (#[.func (.yield (w.heap.size+1)) #[] #[]]++lb.toArray) q
    (λe w'=>∃u,e=.returned u/\∃jump b,(Instr.endLoop (w.heap.size+1)).run P w'=.ok jump b/\(match jump with|none=>Q r .normal { a with defers:=Ft w.heap.size::a.defers } b|some c=>c.wpIn (Fx n.o) 0 P (Q r) { a with defers:=Ft w.heap.size::a.defers } b)):=by
   refine vJ G X ?_
   have hJ:=h (w.heap.size+1) w.heap.size L (λr _ w'=>∃jump b,(Instr.endLoop (w.heap.size+1)).run P w'=.ok jump b/\(match jump with|none=>Q r .normal { a with defers:=Ft w.heap.size::a.defers } b|some c=>c.wpIn (Fx n.o) 0 P (Q r) { a with defers:=Ft w.heap.size::a.defers } b)) hL ?_
   ·refine hJ r hr _ _ ⟨?_,rfl,?_⟩ x
    ·simp[Nat.ble_eq]at hl
     simp[Y];omega
    ·intro t u U
     have he:((0,Value.func (.yield (w.heap.size+1)) #[] #[])::p)=enum 0 (.func (.yield (w.heap.size+1)) #[] #[]::lb):=by rw[<- H];rfl
     rw[he]at U
     obtain⟨_,x⟩:=tX _ 0 t u U
     rw[Nat.sub_zero]at x
     have y:=(List.getElem?_eq_some_iff.1 x).1
     simp[Nat.ble_eq]at hl
     simp only[List.length_cons]at y
     refine⟨?_,show t<F by omega⟩
     have e2:(#[Value.func (.yield (w.heap.size+1)) #[] #[]]++lb.toArray)=(.func (.yield (w.heap.size+1)) #[] #[]::lb).toArray:=by simp
     rw[e2,Array.getD_eq_getD_getElem?,Array.getElem?_append_left (by simpa using y),List.getElem?_toArray,x]
     rfl
   ·intro k e he Γ' E' i hi hN r' hE u w' z
    have M:w'.heap[w.heap.size+1]?=some (.loop (L.AT (Jl (jmp js k)) (jmp js k))):=z.zn i hi
    have C:=run_endLoop (P:=P) M (Nt _)
    refine⟨_,_,C,?_⟩
    have N:Sat ⟨n.n,Ft w.heap.size::n.ds,none⟩ ρ { a with defers:=Ft w.heap.size::a.defers }:=⟨hs.size,by rw[hs.defers],hs.get⟩
    have hq:=hN r' hE _ _ N (z.JQ (o:=.loop { L.AT (Jl (jmp js k)) (jmp js k)with state:=.exhausted }) i hi)
    show match jmp js k with|none=>_|some c=>_
    cases T:jmp js k with
    |none=>
     rw[T]at he
     simp only[E9,Option.some.injEq]at he
     subst he
     rw[T]at hq
     exact hq
    |some c=>
     rw[T]at he hq
     cases c<;>simp only[E9,Option.some.injEq,reduceCtorEq]at he
     ·subst he;exact wpIn_exit hq
     ·subst he;exact wpIn_ret hq
  refine CallsIn.mono (Hs n.o _ hc) ?_
  rintro e w' ⟨u,rfl,hu⟩
  exact hu
theorem mT {fn:Func}{n2:Fr}{c:Env}{l D:Nat}{L:Lp}{js:List Code}{K:R->Value->World->Prop}{e:Exit}(k:Int)(f:Exit)(he:e=.ret\/e=.normal)(o:IH n A w0 Q ρ l D L js K)(p:E9 (jmp js k)=some f)(b:fn.results=#[])(i:Nat)(hi:Γ[i]?=some (Eu l L js k))(h:N ⟨n.n,Ft D::n.ds,none⟩ A w0 Q f ρ (Γ.set i (.pr True)) E)(j:n2.ds=[]:=by rfl): N n2 A w0 (vN P fn K) e c Γ E:=by
 intro r hr a w hs q
 have key:a.defers=[]/\∃u,(results fn a.tmps).run P w=.ok u w/\(∃m,Ending.returned u=.returned m/\K r m w):=by
  refine⟨hs.defers.trans j,.tuple #[],?_,_,rfl,o k f p Γ E i hi h r hr _ w q⟩
  rw[jv,b]
  simp
 rcases he with rfl|rfl<;>exact nG key.1 key.2
theorem IT {F:Fence}{m:Nat}{o:Oper}{a:Act}{w:World}{K i:Act->World->Prop}{Q Q':Exit->Act->World->Prop}(b:∀a w,K a w->i a w)(hq:∀c a w,Q (.panic c) a w->Q' (.panic c) a w)(j:LetsOut Q->LetsOut Q')(h:o.wpIn F m P a w K Q): o.wpIn F m P a w i Q':=by
 refine⟨h.1,?_⟩
 have h:=h.2
 generalize (o.semAt F.round a.eval).run P w=x at h
 cases x with
 |ok n w'=>
  cases n<;>simp only[Oper.uponIn]at h ⊢ <;>
   first
    |exact b _ _ h
    |exact⟨h.1,CallsIn.mono h.2 (λe f he=>by cases e<;>first|exact b _ _ he|exact hq _ _ _ he|exact j he)⟩
    |exact⟨h.1,RowsIn.mono h.2 (λ_ _ he=>b _ _ he)⟩
    |exact⟨h.1,RoundIn.mono h.2 (λe f he=>by cases e<;>first|exact b _ _ he|exact hq _ _ _ he|exact j he)⟩
 |halt x w'=>cases x<;>simp only[Oper.uponIn]at h ⊢<;>first|exact h|exact hq _ _ _ h
def QY (P:Program)(o:Option Nat)(ops:Array Oper)(rest:List Oper)(Q:R->Exit->Act->World->Prop): R->Exit->Act->World->Prop:=λr e a w=>match e with
 |.normal=>wpListIn (Fx o) 0 P ops (Q r) rest a w
 |_=>False
theorem zU {F:Fence}{m:Nat}{ops:Array Oper}{Q Q':Exit->Act->World->Prop}{rest:List Oper}(b:∀a w,Q .normal a w->wpListIn F m P ops Q' rest a w)(hq:∀c a w,¬Q (.panic c) a w)(e:¬LetsOut Q): ∀(l:List Oper) (a:Act) (w:World),wpListIn F m P ops Q l a w->wpListIn F m P ops Q' (l++rest) a w
 |[],_,_,h=>b _ _ h
 |o::l,a,w,h=>by
  rw[List.cons_append]
  unfold wpListIn at h ⊢
  split
  ·rename_i hw
   rw[if_pos hw]at h
   exact IT (λa w h=>zU b hq e l a w h) (λc a w h=>absurd h (hq c a w)) (λh=>absurd h e) h
  ·rename_i hw
   rw[if_neg hw]at h
   exact⟨h.1,zU b hq e l _ w h.2⟩
theorem ir {id:Nat}{b:List Oper}(k:Nat)(h:JL P n A w0 b.toArray (b.take k) (QY P n.o b.toArray (b.drop k) Q) ρ Γ E)(c:n.o=none:=by rfl): J P n A w0 (.region id b.toArray false) Q ρ Γ E:=by
 intro r hr a w hs e
 refine wpIn_region_lit ?_
 have f:=xU (r:=n.o) (xx _) (.inl c) a w (h r hr a w hs e)
 have i:=zU (Q':=Q r) (rest:=b.drop k) (λa w h=>h) (λ_ _ _ h=>h) (xx _) _ a w f
 rwa[List.take_append_drop]at i
def JS (P:Program)(n:Fr)(A:Nat->Prop)(w0:World)(ops:Array Oper)(rest:List Oper)(Q:R->Exit->Act->World->Prop)(d:Nat)(ρ:Env)(K:R->Value->World->Prop): Prop:=
 ∀u Γ' E',JL P n A w0 ops rest Q ((d,u)::ρ) Γ' E'->∀r,E'=some r->∀w,SH A w0 w Γ'->K r u w
def QB (P:Program)(l:Nat)(body:Code)(K:R->Value->World->Prop): R->Exit->Act->World->Prop:=λr e a w=>
 e=.normal/\∃b,(Instr.beginRound l).run P w=.ok () b/\body.wpIn (Fx (some l)) 0 P (roundPost P l (λe w=>∃u,e=.returned u/\K r u w)) a b
def QK (P:Program)(l:Nat)(K:R->Value->World->Prop): R->Exit->Act->World->Prop:=λr=>roundPost P l (λe w=>∃u,e=.returned u/\K r u w)
def CP:List Tmp->List Value->Env->Env
 |p::ps,v::vs,ρ=>CP ps vs ((p,v)::ρ)
 |_,_,ρ=>ρ
theorem Hb:∀(ps:List Tmp) (vs:List Value) {n:Fr} {ρ:Env} {tm:Array Value},(ps.all λp=>Nat.blt p n.n)=true->Sat n ρ { tmps:=tm,defers:=[] }->Sat n (CP ps vs ρ) { tmps:=(ps.zip vs).foldl (λt (p,v)=>t.setIfInBounds p v) tm,defers:=[] }
 |[],_,_,_,_,_,h=>by simpa[CP]using h
 |p::ps,[],_,_,_,_,h=>by simpa[CP]using h
 |p::ps,v::vs,n,ρ,tm,a,h=>by
  simp only[List.all_cons,Bool.and_eq_true,Nat.blt_eq]at a
  rw[CP,List.zip_cons_cons,List.foldl_cons]
  refine Hb ps vs (by simpa[Nat.blt_eq]using a.2) ?_
  have:=h.put (v:=v) a.1
  simpa[Act.put]using this
theorem kO {f rest:List Oper}{k d l:Nat}{o:Operand}{args:List Operand}{b:Array TypeId}{vs:List Value}{L:Lp}{js:List Code}{ps:List Tmp}{assign body:Code}{j:Env}(m:f.drop k=⟨some d,.call ⟨.value o,args.toArray,b⟩,ty,pos,after,g⟩::rest)(hw:iE n ρ f.toArray ⟨some d,.call ⟨.value o,args.toArray,b⟩,ty,pos,after,g⟩)(hd:Nat.blt d n.n=true)(W:ev ρ o=some (.func (.yield l) #[] #[]))(q:rp ρ args=some vs)(i:Nat)(hi:Γ[i]?=some (Eu l L js 0))(y:OJ nc ρc ps.toArray assign body L)(hlen:Nat.beq vs.length ps.length=true)(D:(ps.all λp=>Nat.blt p nc.n)=true)(F:CP ps vs ρc=j)(h:∀K:R->Value->World->Prop,JS P n A w0 f.toArray rest Q d ρ K->J P ⟨nc.n,[],some l⟩ A w0 assign (QB P l body K) j Γ E)(U:n.o=none:=by rfl): N n A w0 (QY P n.o f.toArray (f.drop k) Q) .normal ρ Γ E:=by
 intro r hr a w hs V
 show wpListIn (Fx n.o) 0 P f.toArray (Q r) (f.drop k) a w
 rw[m]
 refine wpListIn_step λK X=>?_
 rw[hw a hs]
 simp only[if_true]
 refine⟨λ_ _=>trivial,?_⟩
 have hl:w.heap[l]?=some (.loop (L.AT .ready none)):=V.zn i hi
 have G:vs.length=ps.length:=Nat.eq_of_beq_eq_true hlen
 have z:(execOp a.eval ⟨some d,.call ⟨.value o,args.toArray,b⟩,ty,pos,after,g⟩).run P w=.ok (.round l L.fn ((ps.zip vs).foldl (λt (p,v)=>t.setIfInBounds p v) L.tm) assign body) w:=by
  have s:=run_yield (P:=P) (args:=vs.toArray) hl (by show vs.toArray.size=L.ps.size;rw[y.e1];simp[G])
  have e3:(L.AT .ready none).params=ps.toArray:=y.e1
  have Y:(L.AT .ready none).tmps=L.tm:=rfl
  have Z:(L.AT .ready none).assign=assign:=y.e2
  have e6:(L.AT .ready none).body=body:=y.e3
  rw[e3,Y,Z,e6]at s
  have e7:(ps.toArray.zip vs.toArray).foldl (λ(tmps:Array Value) (x:Tmp×Value)=>match x with|(t,a)=>tmps.setIfInBounds t a) L.tm=(ps.zip vs).foldl (λt (p,v)=>t.setIfInBounds p v) L.tm:=by simp
  rw[e7]at s
  simp[execOp,resolve,Deferred.ofValue,invoke,hs.eval W,hs.wv q,s]
  rfl
 have C:(Oper.semAt (Fx n.o).round a.eval ⟨some d,.call ⟨.value o,args.toArray,b⟩,ty,pos,after,g⟩)=execOp a.eval ⟨some d,.call ⟨.value o,args.toArray,b⟩,ty,pos,after,g⟩:=Oper.semAt_eq _ _ _ (λc e=>by cases e)
 rw[C,z,Oper.uponIn_round]
 refine⟨λH=>by simp[Fx,Fence.wide]at H,?_⟩
 have hJ:=h (λr u w'=>wpListIn (Fx n.o) 0 P f.toArray (Q r) rest (a.put (some d) u) w') (λu Γ' E' I r hE w M=>
  td (λ_ _ _=>Ey) _ _ _ (xU (xx _) (.inl U) _ _ (I r hE _ w (hs.put (by simpa[Nat.blt_eq]using hd)) M)))
 have hR:RoundIn (Fx none) 0 P l L.fn ((ps.zip vs).foldl (λt (p,v)=>t.setIfInBounds p v) L.tm) assign body w (λe w=>∃u,e=.returned u/\wpListIn (Fx n.o) 0 P f.toArray (Q r) rest (a.put (some d) u) w):=by
  refine roundIn_of_wpIn trivial ?_
  have T:Sat ⟨nc.n,[],some l⟩ j { tmps:=(ps.zip vs).foldl (λt (p,v)=>t.setIfInBounds p v) L.tm,defers:=[] }:=by
   rw[<- F]
   have:=Hb ps vs (n:=⟨nc.n,[],none⟩) D y.sat
   exact⟨this.size,this.defers,this.get⟩
  refine Code.wpIn_mono ?_ (hJ r hr _ w T V)
  rintro e a2 w2 ⟨rfl,h3⟩
  exact h3
 rw[show Fx n.o=Fx none by rw[U]]at *
 refine RoundIn.mono hR ?_
 rintro e w2 ⟨u,rfl,hu⟩
 exact X _ _ hu
theorem kL {b:Fr}{l:Nat}{L:Lp}{js:List Code}{body:Code}{K:R->Value->World->Prop}(i:Nat)(hi:Γ[i]?=some (Eu l L js 0))(e:b.o=some l)(h:J P b A w0 body (QK P l K) ρ (Γ.set i (Qd l L)) E): N b A w0 (QB P l body K) .normal ρ Γ E:=by
 intro r hr a w hs c
 have hl:w.heap[l]?=some (.loop (L.AT .ready none)):=c.zn i hi
 refine⟨rfl,_,run_beginRound hl rfl,?_⟩
 have:=h r hr a _ hs (c.Je (o:=.loop { L.AT .ready none with state:=.busy }) i hi (λ_ h=>h))
 rw[e]at this
 exact this
theorem dA {q:Fr}{ops:Array Oper}{rest:List Oper}{d l:Nat}{L:Lp}{js:List Code}{K:R->Value->World->Prop}{m:Env}{e:Exit}(k:Int)(b:Bool)(he:E9 (jmp js k)=some e)(s:(jmp js k).isNone=b)(i:Nat)(hi:Γ[i]?=some (Qd l L))(t:JS P n A w0 ops rest Q d ρ K)(h:JL P n A w0 ops rest Q ((d,.bool b)::ρ) (Γ.set i (Eu l L js k)) E): N q A w0 (QK P l K) e m Γ E:=by
 intro r hr a w hs o
 have hl:w.heap[l]?=some (.loop (L.AT .busy none)):=o.zn i hi
 have fin:∀j,jmp js k=j->∃v w',(Instr.endRound l j).run P w=.ok v w'/\∃u,Ending.returned v=.returned u/\K r u w':=by
  rintro j rfl
  have hq:K r (.bool (jmp js k).isNone) (w.putObj l (.loop { L.AT .busy none with state:=if (jmp js k).isNone then .ready else .done,pending:=jmp js k })):=by
   have p:=h
   rw[<- s]at p
   exact t _ _ E p r hr _ (o.Je i hi (λw' h=>h))
  exact⟨_,_,run_endRound _ hl,_,rfl,hq⟩
 cases f:jmp js k with
 |none=>
  rw[f]at he
  simp only[E9,Option.some.injEq]at he
  subst he
  exact fin none f
 |some c=>
  rw[f]at he
  cases c<;>simp only[E9,Option.some.injEq,reduceCtorEq]at he
  ·subst he;exact fin _ f
  ·subst he;exact fin _ f
theorem mX {fn:Func}{X:R->Ending->World->Prop}{k D:Nat}{ds:List Deferred}{e:Exit}(i:Nat)(he:e=.ret\/e=.normal)(hi:Γ[i]?=some (Gl D))(h:N ⟨k,ds,none⟩ A w0 (λr=>bodyPostM (Fx none) 0 P fn (X r)) e ρ (Γ.set i (.pr True)) E): N ⟨k,Ft D::ds,none⟩ A w0 (λr=>bodyPostM (Fx none) 0 P fn (X r)) e ρ Γ E:=by
 intro r hr a w hs c
 have hd:w.heap[D]?=some (.deferred (some [])):=c.zn i hi
 have b:Sat ⟨k,ds,none⟩ ρ { a with defers:=ds }:=⟨hs.size,rfl,hs.get⟩
 have hq:=h r hr _ _ b (c.JQ (o:=.deferred none) i hi)
 have f:a.defers=Ft D::ds:=hs.defers
 have key:LeavesInM (Fx none) 0 P fn a.tmps (X r) ds .returning (w.putObj D (.deferred none))->LeavesInM (Fx none) 0 P fn a.tmps (X r) a.defers .returning w:=by
  intro j
  rw[f]
  exact⟨by simp,.inl ⟨D,_,rfl,run_takeDeferred hd,j⟩⟩
 rcases he with rfl|rfl<;>exact key hq
theorem KP {α:Type}[ar α]{x hi o:Operand}{t e:TypeId}{q:Bool}{v:Value}{xs ys:List α}{lo:Option Operand}{l h:Int}(i:Nat)(r:P.underlying t=some (.slice e))(he:cg P e=some (ar.sz α,q))(s:ev ρ x=some v)(f:bound ρ lo 0=some l)(j:ev ρ hi=some (.int .i64 h))(k:ev ρ o=some (.int .i64 h))(m:Γ[i]?=some (.rd v xs))(u:jV xs l h=some ys): St P n A w0 ρ Γ ⟨d,.slice t x lo (some hi) (some o),ty,pos,after,g⟩ (λb:Value=>b) (λb=>.rd b ys::Γ) []:=by
 intro a w hs p
 obtain⟨b,c,hr⟩:=tG.slice3 (P:=P) r he (Rd.sl (p.get i m)) (kU hs f) u
 refine⟨b,w,?_,p.oa (.zT hr),Grow.refl w _,.plain rfl⟩
 simp only[execOp,hs.eval s,hs.eval j,hs.eval k,Option.map_some]
 simp[c]
theorem dH {p:Nat}{t e:TypeId}{b off:Nat}{cs:List Value}{v:Value}(i:Nat)(f:ρ.get p=some (.pointer (some ⟨b,off,none⟩)))(hi:Γ[i]?=some (.bx b e cs))(h:cg P t=some (1,false))(j:cs[off]?=some v): Rv P n A w0 ρ Γ (.cell p t) v:=λa w hs k=>by
 have l:=(hs.get p _ f).1
 have m:=k.get i hi
 have c:=pY m j
 simp only[Gb,l]
 simp[asAddr,loadVar,jX h,run_load,c]
def SP {α:Type}[ar α](o:Nat)(y:α)(st:Int->α): Prop:=
 ∀A w c,ar.lG A w c y->o<c.length/\∀k,ar.lG A w (c.set o (.int .i64 k)) (st k)
theorem dT.P2 {α:Type}[ar α]{A:Nat->Prop}{w:World}{o:Nat}{y:α}{st:Int->α}(f:SP o y st)(z:Int): ∀(xs:List α) (cs:List Value) (k:Nat),xs[k]?=some y->dT A w cs xs->
  k*ar.sz α+o<cs.length/\dT A w (cs.set (k*ar.sz α+o) (.int .i64 z)) (xs.set k (st z))
 |[],_,k,a,_=>by simp at a
 |x::r,_,0,a,⟨c1,c2,e,b,c⟩=>by
  simp at a
  subst a e
  obtain⟨hl,hs⟩:=f _ _ _ b
  refine⟨by simp;omega,c1.set o (.int .i64 z),c2,?_,hs z,c⟩
  rw[Nat.zero_mul,Nat.zero_add,List.set_append_left _ _ hl]
 |x::r,_,k+1,a,⟨c1,c2,e,b,c⟩=>by
  subst e
  have h:=ar.len b
  obtain⟨hl,hs⟩:=dT.P2 f z r c2 k (by simpa using a) c
  have e1:(k+1)*ar.sz α+o=c1.length+(k*ar.sz α+o):=by rw[Nat.add_mul,h];omega
  refine⟨by rw[e1];simp;omega,c1,_,?_,b,hs⟩
  rw[e1,List.set_append_right _ _ (by omega),Nat.add_sub_cancel_left]
theorem wW {α:Type}[ar α]{x y:Operand}{t e:TypeId}{b cap len o off:Nat}{xs:List α}{j:Int}{L:α}{st:Int->α}{z:Int}(i:Nat)(V:SP o L st)(W:cg P t=some (1,false))(X:ev ρ x=some (.pointer (some ⟨b,off,none⟩)))(m:off=j.toNat*ar.sz α+o)(Y:ev ρ y=some (.int .i64 z))(hi:Γ[i]?=some (.ow e (.slice (some ⟨b,0,none⟩) len cap) xs))(Z:idx xs j=some L):
  Sk P n A w0 ρ Γ ⟨d,.store t x y,ty,pos,after,g⟩ (Γ.set i (.ow e (.slice (some ⟨b,0,none⟩) len cap) (xs.set j.toNat (st z)))) [b]:=by
 intro a w hs M
 obtain⟨h0,h1,h2⟩:=idx_eq Z
 obtain⟨cells,⟨F,p⟩,hr⟩:=M.get i hi
 rcases p with⟨h,_⟩|⟨gg,N,cur,T,_,G,H,I,J,f⟩
 ·simp at h
 simp at T
 obtain⟨rfl,rfl,rfl⟩:=T
 subst m
 obtain⟨q,r⟩:=dT.P2 V z xs cells j.toNat h2 hr
 have s:j.toNat*ar.sz α+o<cur.size:=by
  rw[<- f,List.length_take]at q
  rw[<- Array.length_toList]
  omega
 have U:j.toNat*ar.sz α+o<xs.length*ar.sz α:=by
  rw[<- f,List.length_take]at q
  omega
 have l:=run_storeCells_at P b (j.toNat*ar.sz α+o) e [.int .i64 z] 0 cur w G (by simp;omega) (by simp[Value.oneCell'])
 simp only[Nat.add_zero]at l
 have u:(cur.toList.take (j.toNat*ar.sz α+o)++[.int .i64 z]++cur.toList.drop (j.toNat*ar.sz α+o+[(.int .i64 z:Value)].length))=cur.toList.set (j.toNat*ar.sz α+o) (.int .i64 z):=by
  rw[List.set_eq_take_append_cons_drop,if_pos (by simpa using s)]
  simp
 rw[u]at l
 refine⟨w.setRow b (cur.toList.set (j.toNat*ar.sz α+o) (.int .i64 z)).toArray,?_,?_,⟨rfl,rfl,rfl,by simp,λk _ C=>setRow_other w b k _ (λe=>C (by simp[e]))⟩,.set hi (λc D=>.inl D)⟩
 ·simp only[execOp,hs.eval X,hs.eval Y,Sem.run_bind,Instr.storeAt,Instr.sureAddr,storeVar,Sem.run_pure,Result.andThen_ok,dR W]
  simp[Value.cells,l]
 ·have hA:∀k,k<w.heap.size->¬(A k\/k∈Γ.ae)->(w.setRow b (cur.toList.set (j.toNat*ar.sz α+o) (.int .i64 z)).toArray).heap[k]?=w.heap[k]?/\¬(A k\/k∈Ctx.ae (Γ.set i (.ow e (.slice (some ⟨b,0,none⟩) xs.length cap) (xs.set j.toNat (st z))))):=by
   intro k C v
   obtain⟨l1,l2,e1,e2⟩:=nq (f':=.ow e (.slice (some ⟨b,0,none⟩) xs.length cap) (xs.set j.toNat (st z))) hi
   have e3:Ctx.ae (Γ.set i (.ow e (.slice (some ⟨b,0,none⟩) xs.length cap) (xs.set j.toNat (st z))))=Γ.ae:=by rw[e1,e2];rfl
   rw[e3]
   refine⟨setRow_other w b k _ ?_,v⟩
   intro K
   apply v
   right;rw[e1];simp[Fact.ae,Value.ownBlock,K]
  refine M.set hi ⟨rfl,rfl,rfl,by simp,λk _ C=>setRow_other w b k _ (λe=>C (by simp[Fact.ae,Value.ownBlock,e]))⟩ (by simp[Fact.ae,Value.ownBlock]) (λc D=>?_) ?_
  ·simp[Fact.ae,Value.ownBlock]at D
   subst D
   exact⟨.inl (by simp[Fact.ae,Value.ownBlock]),by simpa using mj G⟩
  ·refine⟨cells.set (j.toNat*ar.sz α+o) (.int .i64 z),?_,dT.frame hA _ _ r⟩
   refine⟨by simpa using F,.inr ⟨b,cap,_,?_,Nat.zero_le _,setRow_heap w b cur _ e _ G,?_,I,?_,?_⟩⟩
   ·simp
   ·simpa using H
   ·simpa using J
   ·rw[List.length_set,<- f,List.take_set]
end
end Go.Tc
namespace Go.Tc
open Go Go.RowKit
def Ox (s:ByteArray)(i:Int): Option Int:=if 0<=i then (s[i.toNat]?).map λb=>(b.toNat:Int)else none
def He (s:ByteArray)(lo hi:Int): Option ByteArray:=if 0<=lo/\lo<=hi/\hi<=s.size then some (s.extract lo.toNat hi.toNat)else none
section
variable {R:Type}{P:Program}{n:Fr}{A:Nat->Prop}{w0 w:World}{Q:R->Exit->Act->World->Prop}{ρ ρ':Env}{Γ Γ':Ctx}{E:Option R}
variable {d:Option Nat}{ty:TypeId}{pos:String}{after:Array Edge}{g:Option (Nat×Bool)}
theorem Gt {x h:Operand}{t:TypeId}{s:ByteArray}{k:IntKind}{j y:Int}(i:P.underlying t=some .string)(l:ev ρ x=some (.string s))(e:ev ρ h=some (.int k j))(c:Ox s j=some y):
  Ex P n A w0 ρ Γ ⟨d,.index t x h,ty,pos,after,g⟩ (.int .u8 y):=by
 intro a w hs o
 unfold Ox at c
 split at c
 ·rename_i m
  cases f:s[j.toNat]? with
  |none=>rw[f]at c;cases c
  |some b=>
   rw[f]at c
   simp only[Option.map_some,Option.some.injEq]at c
   subst c
   simp[execOp,hs.eval l,hs.eval e,Instr.index,asIntOf,run_underlying i,m,f]
 ·cases c
theorem ur {x:Operand}{t:TypeId}{s r:ByteArray}{lo hi:Option Operand}{l h:Int}(m:P.underlying t=some .string)(o:ev ρ x=some (.string s))(c:bound ρ lo 0=some l)(e:bound ρ hi (s.size:Int)=some h)(b:He s l h=some r):
  Ex P n A w0 ρ Γ ⟨d,.slice t x lo hi none,ty,pos,after,g⟩ (.string r):=by
 intro a w hs v
 unfold He at b
 split at b
 ·rename_i p
  obtain⟨k,y,q⟩:=p
  rw[<- Option.some.inj b]
  have f:0<=l/\l<=(h.toNat:Int):=⟨k,by omega⟩
  have i:0<=h/\h<=(s.size:Int):=⟨by omega,q⟩
  have j:0<=l/\l<=(s.size:Int):=⟨k,by omega⟩
  rcases kU hs c with⟨e1,rfl⟩|e1<;>rcases kU hs e with⟨e2,rfl⟩|e2 <;>
   simp[execOp,hs.eval o,e1,e2,Instr.sliceAt,Instr.slice,run_underlying m,Instr.sliceBounds,Instr.sliceBound,asIntOf,f,i,j]
  intro u
  exact absurd u (by omega)
 ·cases b
end
end Go.Tc
namespace Go.Tc
open Go Go.RowKit
section
variable {R:Type}{P:Program}{n:Fr}{A:Nat->Prop}{w0 w1:World}{Q:R->Exit->Act->World->Prop}{ρ ρ':Env}{Γ Γ' Γ1:Ctx}{E:Option R}{ops:Array Oper}{O:List Nat}{fuel:Nat}{listed:Array Bool}
theorem E3 {fn:Func}{n2:Fr}{b:Env}{i d:Nat}{c:List Nat}{C:Nat->Prop}{K:R->Value->World->Prop}{e f j k:ResultVar}{s t u v:Value}(G:Ci P n A w0 w1 Γ1 ops O fuel listed Q i d ρ c C K)(l:fn.results=#[e,f,j,k])(x:Rv P n2 A w0 b Γ e s)(y:Rv P n2 A w0 b Γ f t)(z:Rv P n2 A w0 b Γ j u)(D:Rv P n2 A w0 b Γ k v)(p:Nat)(m:List Nat)(H:Γ[p]?=some (.fz w1 C))(o:cj m Γ=cj c Γ1)(h:JD P n A w0 w1 Γ1 ops O fuel (listed.setIfInBounds i true) Q ((d,.tuple #[s,t,u,v])::ρ) Γ E)(F:n2.ds=[]:=by rfl): N n2 A w0 (vN P fn K) .ret b Γ E:=by
 intro r hr a w hs q
 refine nG (hs.defers.trans F) ⟨.tuple #[s,t,u,v],?_,_,rfl,G _ _ _ p m H o h r hr w q⟩
 rw[jv,l]
 simp[x a w hs q,y a w hs q,z a w hs q,D a w hs q]
end
end Go.Tc
namespace Go.Tc
open Go Go.RowKit
section
variable {R:Type}{P:Program}{n:Fr}{A:Nat->Prop}{w0 w w1 w':World}{Q:R->Exit->Act->World->Prop}{ρ ρ':Env}{Γ Γ':Ctx}{E:Option R}
variable {d:Option Nat}{ty:TypeId}{pos:String}{after:Array Edge}{g:Option (Nat×Bool)}
theorem IC {x:Operand}{t e:TypeId}{v:Value}(b:P.underlying t=some (.pointer e))(c:ev ρ x=some v): Ex P n A w0 ρ Γ ⟨d,.makeInterface t x,ty,pos,after,g⟩ (.iface t v):=by
 intro a w hs f
 simp[execOp,Instr.makeInterface,hs.eval c,run_underlying b]
theorem KX {a:Act}{d:Nat}{o:Operand}{f:FuncId}{t:TypeId}{m:String}{args:List Operand}{c:Array TypeId}{v u:Value}{vs:List Value}(hs:Sat n ρ a)(e:ev ρ o=some (.iface t v))(b:rp ρ args=some vs)(hm:∀w,(callMethod (.iface t v) m vs.toArray).run P w=.ok (.enter f (u::vs).toArray) w):
  (execOp a.eval ⟨some d,.call ⟨.invoke o m,args.toArray,c⟩,ty,pos,after,g⟩).run P w=.ok (.enter f (u::vs).toArray) w:=by
 simp[execOp,resolve,hs.eval e,invoke,hs.wv b,hm]
theorem Fv {ops:Array Oper}{rest:List Oper}{d:Nat}{o:Operand}{f:FuncId}{t:TypeId}{m:String}{args:List Operand}{c:Array TypeId}{j u:Value}{vs:List Value}{G:Type}{v:G->Value}{Γ':G->Ctx}{T:List Nat}(hw:iE n ρ ops ⟨some d,.call ⟨.invoke o m,args.toArray,c⟩,ty,pos,after,g⟩)(hd:Nat.blt d n.n=true)(k:ev ρ o=some (.iface t j))(b:rp ρ args=some vs)(hm:∀w,(callMethod (.iface t j) m vs.toArray).run P w=.ok (.enter f (u::vs).toArray) w)(l:Nf P A w0 Γ f (u::vs) v Γ' T)(h:∀x,JL P n A w0 ops rest Q ((d,v x)::ρ) (Γ' x) E): JL P n A w0 ops (⟨some d,.call ⟨.invoke o m,args.toArray,c⟩,ty,pos,after,g⟩::rest) Q ρ Γ E:=by
 intro r hr a w hs p
 refine wpList_step λK q=>?_
 rw[hw a hs]
 simp only[if_true]
 unfold Oper.wp
 rw[KX hs k b hm,Oper.upon_enter]
 refine(l w p).mono ?_
 rintro e w' ⟨x,rfl,i,_⟩
 exact q _ _ (h x r hr _ _ (hs.put (by simpa[Nat.blt_eq]using hd)) i)
end
end Go.Tc
namespace Go.Tc
open Go Go.RowKit
def Mb (a:Bool)(p:Addr): Value:=cond a (.pointer none) (.pointer (some p))
theorem Kt {a:Bool}{p:Addr}(h:a=false): Mb a p=.pointer (some p):=by rw[h];rfl
def SD (v x:Value): Prop:=(∃n c,v=.slice none n c/\x=.pointer none)\/(∃a n c,v=.slice (some a) n c/\∃q,x=.pointer (some q)/\(c≠0->q=a))
section
variable {R:Type}{P:Program}{n:Fr}{A:Nat->Prop}{w0 w w1 w':World}{Q:R->Exit->Act->World->Prop}{ρ ρ':Env}{Γ Γ':Ctx}{E:Option R}
variable {d:Option Nat}{ty:TypeId}{pos:String}{after:Array Edge}{g:Option (Nat×Bool)}
theorem D4 {tp te:TypeId}(b:P.underlying tp=some (.pointer te))(a:Option Addr)(w:World): (Op.equal tp (.pointer a) (.pointer none)).run P w=.ok a.isNone w:=by
 have h:∀d:Nat,(Op.equalIn (d+1) tp (.pointer a) (.pointer none)).run P w=.ok a.isNone w:=λd=>by
  cases a<;>simp[Op.equalIn,run_underlying b]
 simp[Op.equal,Op.maxDepth,h 9999]
theorem EW {x y:Operand}{t te u:TypeId}{a:Option Addr}(c:P.underlying t=some (.pointer te))(e:ev ρ x=some (.pointer a))(f:ev ρ y=some (.pointer none)): Ex P n A w0 ρ Γ ⟨d,.binOp .eql t x y u,ty,pos,after,g⟩ (.bool a.isNone):=by
 intro b w hs h
 simp[execOp,hs.eval e,hs.eval f,eqGuard,binOp,D4 c]
theorem K5 {x y:Operand}{t te u:TypeId}{a:Bool}{p:Addr}(b:P.underlying t=some (.pointer te))(c:ev ρ x=some (Mb a p))(e:ev ρ y=some (.pointer none)): Ex P n A w0 ρ Γ ⟨d,.binOp .eql t x y u,ty,pos,after,g⟩ (.bool a):=by
 cases a
 ·exact EW (a:=some p) b c e
 ·exact EW (a:=none) b c e
theorem Kv {x y:Operand}{t te u:TypeId}{z:Nat×Bool}{a:Bool}{p:Addr}(e:P.underlying t=some (.pointer te))(hi:cg P te=some z)(f:a=false)(c:ev ρ x=some (Mb a p))(i:ev ρ y=some (.pointer (some p))): Ex P n A w0 ρ Γ ⟨d,.binOp .neq t x y u,ty,pos,after,g⟩ (.bool false):=by
 intro b w hs l
 rw[Kt f]at c
 obtain⟨j,k⟩:∃j,P.info? te=some j:=by
  unfold cg at hi
  split at hi
  ·exact⟨_,by assumption⟩
  ·cases hi
 have h:=Lib.run_neq_ptr_same (P:=P) w p e k
 simp[execOp,hs.eval c,hs.eval i,eqGuard,h]
theorem G7 {b:Nat}{t:TypeId}{cs:List Value}{w:World}(h:w.heap[b]?=some (.cells cs.toArray t (0,0))): w.shape? b=some (t,cs.length):=by
 simp[World.shape?,h]
theorem Gp {x:Operand}{s t e l:TypeId}{b k:Nat}{m:Bool}{cs:List Value}(i:Nat)(c:P.underlying s=some (.pointer e))(o:P.underlying t=some .unsafePointer)(he:cg P e=some (k+1,m))(p:ev ρ x=some (.pointer (some ⟨b,0,none⟩)))(hi:Γ[i]?=some (.bx b l cs))(q:Nat.blt 0 cs.length=true):
  Ex P n A w0 ρ Γ ⟨d,.convert s t x,ty,pos,after,g⟩ (.pointer (some ⟨b,0,none⟩)):=by
 intro a w hs r
 obtain⟨j,v,f⟩:∃j,P.info? e=some j/\j.size≠0:=by
  unfold cg at he
  split at he
  ·rename_i j u y z
   simp only[Option.some.injEq,Prod.mk.injEq]at he
   exact⟨j,y,by omega⟩
  ·cases he
 have h:=Lib.run_to_unsafe (P:=P) w ⟨b,0,none⟩ c o v f (G7 (r.get i hi)) (by simpa[Nat.blt_eq]using q)
 simp[execOp,hs.eval p,h]
theorem Er {x:Operand}{s t e c:TypeId}{b:Nat}{z:Nat×Bool}{cs:List Value}(i:Nat)(f:P.underlying s=some .unsafePointer)(k:P.underlying t=some (.pointer e))(he:cg P e=some z)(l:ev ρ x=some (.pointer (some ⟨b,0,none⟩)))(hi:Γ[i]?=some (.bx b c cs))(hl:liesAt P P.depth c (cs.length / P.cellsOf c) 0 e 1=true):
  Ex P n A w0 ρ Γ ⟨d,.convert s t x,ty,pos,after,g⟩ (.pointer (some ⟨b,0,none⟩)):=by
 intro a w hs m
 obtain⟨j,o⟩:∃j,P.info? e=some j:=by
  unfold cg at he
  split at he
  ·exact⟨_,by assumption⟩
  ·cases he
 have h:=Lib.run_from_unsafe (P:=P) w ⟨b,0,none⟩ f k o (G7 (m.get i hi)) hl
 simp[execOp,hs.eval l,h]
theorem KS {f:FuncId}{args:List Operand}{c:Array TypeId}{vs:List Value}{u:Value}(e:∀w,(callFunc f vs.toArray).run P w=.ok (.value u) w)(b:rp ρ args=some vs): Ex P n A w0 ρ Γ ⟨d,.call ⟨.value (.func f),args.toArray,c⟩,ty,pos,after,g⟩ u:=by
 intro a w hs h
 simp[execOp,resolve,Act.eval,Deferred.ofValue,invoke,hs.wv b,e]
theorem Bf {α:Type}[ar α]{x:Operand}{t e j:TypeId}{v:Value}{xs:List α}(i:Nat)(m:P.underlying ty=some (.pointer e))(f:ev ρ x=some v)(hi:Γ[i]?=some (.ow j v xs)):
  St P n A w0 ρ Γ ⟨d,.call ⟨.builtin .unsafeSliceData,#[x],#[t]⟩,ty,pos,after,g⟩ (λu:Value=>u) (λu=>.pr (SD v u)::Γ) []:=by
 intro a w hs k
 obtain⟨cells,⟨_,h⟩,_⟩:=k.get i hi
 have c:∀ {u:Value} {w':World},Grow w w' []->SD v u->SH A w0 w' (.pr (SD v u)::Γ):=λo h=>k.cons o (by simp[Fact.ae]) (by simp[Fact.ae]) h
 rcases h with⟨rfl,q⟩|⟨b,cap,cur,rfl,_,p,r,hm,s,_⟩
 ·refine⟨.pointer none,w,?_,c (Grow.refl w _) (.inl ⟨_,_,rfl,rfl⟩),Grow.refl w _,.cons (by simp[Fact.ae])⟩
  simp[execOp,resolve,invoke,builtin,hs.eval f,Lib.run_unsafeSliceData_nil]
 ·by_cases l:cap=0
  ·subst l
   have h:=Lib.run_unsafeSliceData_zero (P:=P) w #[t] ty e m ⟨b,0,none⟩ xs.length (j,cur.size) (by simp[World.shape?,p])
   refine⟨.pointer (some ⟨w.heap.size,0,none⟩),w.alloc (.view ⟨b,0,none⟩ e),?_,c (Grow.alloc w _ _) (.inr ⟨_,_,_,rfl,_,rfl,λh=>absurd rfl h⟩),Grow.alloc w _ _,.cons (by simp[Fact.ae])⟩
   simp[execOp,resolve,invoke,builtin,hs.eval f,h]
  ·refine⟨.pointer (some ⟨b,0,none⟩),w,?_,c (Grow.refl w _) (.inr ⟨_,_,_,rfl,_,rfl,λ_=>rfl⟩),Grow.refl w _,.cons (by simp[Fact.ae])⟩
   simp[execOp,resolve,invoke,builtin,hs.eval f,Lib.run_unsafeSliceData_row w #[t] ty ⟨b,0,none⟩ xs.length cap l]
theorem EX (w:World): ∀(l:List Int) (a:Addr) (acc:ByteArray),(∀j x,l[j]?=some x->w.cell? (a.add j)=some (.int .u8 x))->
  (loadBytes a acc l.length).run P w=.ok ⟨acc.data++(l.map λx=>x.toNat.toUInt8).toArray⟩ w
 |[],a,acc,_=>by simp[loadBytes]
 |x::l,a,acc,h=>by
  have c:w.cell? a=some (.int .u8 x):=by
   have:=h 0 x rfl
   simpa[Addr.add]using this
  have f:=EX w l (a.add 1) (acc.push x.toNat.toUInt8) (λj y i=>by
   have:=h (j+1) y (by simpa using i)
   have e:(a.add 1).add j=a.add (j+1):=by
    unfold Addr.add
    by_cases b:j=0
    ·subst b;simp
    ·simp[b];omega
   rw[e];exact this)
  simp only[List.length_cons,loadBytes,Sem.run_bind,run_load,c,Result.andThen]
  rw[f]
  congr 1
  apply ByteArray.ext
  simp[ByteArray.push]
theorem HR {pt it t e:TypeId}(q:P.underlying pt=some (.pointer e))(p:P.cellsOf e=1)(b cells:Nat)(w:World)(m:w.shape? b=some (e,cells))(l:List Int)(r:l≠[])(u:l.length<=cells)(v:l.length<=9223372036854775807)(a:∀j x,l[j]?=some x->w.cell? ((⟨b,0,none⟩:Addr).add j)=some (.int .u8 x)):
  (Builtin.unsafeString_ #[pt,it] t #[.pointer (some ⟨b,0,none⟩),.int .i64 l.length]).run P w=.ok (.string ⟨(l.map λx=>x.toNat.toUInt8).toArray⟩) (w.freeze ⟨b,0,none⟩ l.length):=by
 have hl:l.length≠0:=by simpa using r
 have o:=EX (P:=P) w l ⟨b,0,none⟩ .empty a
 have c:=Lib.liesAt_bytes (P:=P) p (cells / P.cellsOf e) l.length (by rw[p];simpa using u)
 have f:¬(9223372036854775807:Int)<(l.length:Int):=by omega
 have h:Builtin.unsafeString_ #[pt,it] t #[.pointer (some ⟨b,0,none⟩),.int .i64 l.length] =
   (do
    let n <- asInt (.int .i64 l.length)
    if n<0 then runtimePanic (.error "unsafe.String: len out of range")
    if n>IntKind.i64.max then unsupported (.unsafePointer "String: a length above the largest int")
    if n=0 then pure (.string .empty)
    else if <- variablesAt ⟨b,0,none⟩ (<- elemOf pt) n.toNat then do
     let s <- loadBytes ⟨b,0,none⟩ .empty n.toNat
     freeze ⟨b,0,none⟩ n.toNat
     pure (.string s)
    else unsupported (.unsafePointer "String: not so many bytes at ptr")):=rfl
 rw[h]
 have i:IntKind.i64.max=9223372036854775807:=rfl
 have k:¬(l.length:Int)<0:=by omega
 simp[asInt,asIntOf,i,f,k,hl,variablesAt,m,elemOf,run_underlying q,c,o]
theorem B6 (w:World)(b m:Nat): Grow w (w.freeze ⟨b,0,none⟩ m) [b]:=by
 unfold World.freeze
 split
 ·exact Grow.refl w _
 ·exact⟨rfl,rfl,rfl,by simp,λk _ a=>by
   simp only[Array.getElem?_modify]
   rw[if_neg (by simp at a;omega)]⟩
theorem DH {x y:Operand}{pt it e:TypeId}{v u:Value}{xs:List (Ik .u8)}(i j:Nat)(Y:P.underlying pt=some (.pointer e))(m:P.cellsOf e=1)(H:ev ρ x=some u)(I:ev ρ y=some (.int .i64 (xs.length:Int)))(hi:Γ[i]?=some (.ow e v xs))(Z:Γ[j]?=some (.pr (SD v u))):
  St P n A w0 ρ Γ ⟨d,.call ⟨.builtin .unsafeString,#[x,y],#[pt,it]⟩,ty,pos,after,g⟩ (λ_:Unit=>.string (strOf xs)) (λ_=>Γ.set i (.pr True)) v.ownBlock.toList:=by
 intro a w hs J
 have o:SD v u:=J.get j Z
 obtain⟨cells,⟨aa,h⟩,K⟩:=J.get i hi
 have L:=L5 xs cells K
 have key:∀ {w':World},Grow w w' v.ownBlock.toList->SH A w0 w' (Γ.set i (.pr True)):=λhg=>J.set hi hg (by simp[Fact.ae]) (by simp[Fact.ae]) trivial
 rcases h with⟨rfl,hz⟩|⟨b,cap,cur,rfl,_,X,hn,hm,M,r⟩
 ·have s:xs=[]:=List.eq_nil_of_length_eq_zero hz
  subst s
  obtain⟨q,rfl⟩:∃q,u=.pointer q:=by
   rcases o with⟨_,_,_,h⟩|⟨_,_,_,h,_⟩
   ·exact⟨_,h⟩
   ·cases h
  have h:=Lib.run_unsafeString_none (P:=P) w pt it ty q
  refine⟨(),w,?_,key (Grow.refl w _),Grow.refl w _,.set hi (λc m=>by simp[Fact.ae]at m)⟩
  have f:a.eval y=.int .i64 0:=hs.eval I
  simp[execOp,resolve,invoke,builtin,hs.eval H,f,h]
  rfl
 ·by_cases N:xs=[]
  ·subst N
   obtain⟨q,rfl⟩:∃q,u=.pointer q:=by
    rcases o with⟨_,_,_,h⟩|⟨_,_,_,_,q,h,_⟩
    ·exact⟨_,h⟩
    ·exact⟨_,h⟩
   have h:=Lib.run_unsafeString_none (P:=P) w pt it ty q
   refine⟨(),w,?_,key (Grow.refl w _),Grow.refl w _,.set hi (λc m=>by simp[Fact.ae]at m)⟩
   have f:a.eval y=.int .i64 0:=hs.eval I
   simp[execOp,resolve,invoke,builtin,hs.eval H,f,h]
   rfl
  ·have ab:xs.length≠0:=by simpa using N
   have hu:u=.pointer (some ⟨b,0,none⟩):=by
    rcases o with⟨_,_,h,_⟩|⟨a',n',c',h,q,hq,T⟩
    ·cases h
    ·injection h with C h2 h3
     injection C with C
     subst C h3
     rw[hq,T (by omega)]
   subst hu
   have D:ar.sz (Ik .u8)=1:=rfl
   rw[D,Nat.mul_one]at M r
   have hl:(xs.map (·.val)).length=xs.length:=List.length_map ..
   have l:=HR (P:=P) (it:=it) (t:=ty) Y m b cur.size w (by simp[World.shape?,X]) (xs.map (·.val)) (by simpa using N) (by omega) (by unfold maxLen at hm;omega) (λk z p=>by
    have U:k<xs.length:=by
     have:=(List.getElem?_eq_some_iff.1 p).1
     omega
    have e:((⟨b,0,none⟩:Addr).add k)=⟨b,k,none⟩:=by
     unfold Addr.add
     by_cases F:k=0
     ·subst F;simp
     ·simp[F]
    have V:cur.toList[k]?=some (.int .u8 z):=by
     have C:(cur.toList.take xs.length)[k]?=cur.toList[k]?:=List.getElem?_take_of_lt U
     rw[<- C,r,L,List.getElem?_map]
     rw[List.getElem?_map]at p
     cases G:xs[k]? with
     |none=>rw[G]at p;cases p
     |some q=>rw[G]at p;simp only[Option.map_some,Option.some.injEq]at p;rw[<- p];rfl
    rw[e]
    simp[World.cell?,X]
    simpa using V)
   rw[hl]at l
   refine⟨(),w.freeze ⟨b,0,none⟩ xs.length,?_,key (B6 w b xs.length),B6 w b xs.length,.set hi (λc m=>by simp[Fact.ae]at m)⟩
   have W:(⟨((xs.map (·.val)).map λx=>x.toNat.toUInt8).toArray⟩:ByteArray)=strOf xs:=by
    unfold strOf
    rw[List.map_map]
    rfl
   rw[W]at l
   have f:a.eval y=.int .i64 (xs.length:Int):=hs.eval I
   simp[execOp,resolve,invoke,builtin,hs.eval H,f,l]
def NZ (P:Program)(f:FuncId): Prop:=
 (∀(a:Option Addr) (c:Nat) (sep:ByteArray) (w:World),Calls P f #[.slice a 0 c,.string sep] w λe w'=>e=.returned (.string ⟨#[]⟩)/\w'=w)/\
 ∀(bk o c:Nat) (xs:List ByteArray) (sep:ByteArray) (w:World),(∀(j:Nat) x,xs[j]?=some x->w.cell? ⟨bk,o+j,none⟩=some (.string x))->bk<w.heap.size->xs.length<=140737488355328->xs.length<=c->
  (Lib.join (xs.map (·.data.toList)) sep.data.toList).length<=140737488355328->
  Calls P f #[.slice (some ⟨bk,o,none⟩) xs.length c,.string sep] w λe w'=>e=.returned (.string ⟨(Lib.join (xs.map (·.data.toList)) sep.data.toList).toArray⟩)/\Below w.heap.size w w'
def x7 (xs:List ByteArray)(sep:ByteArray): Option ByteArray:=
 if xs.length<=140737488355328/\(Lib.join (xs.map (·.data.toList)) sep.data.toList).length<=140737488355328 then some ⟨(Lib.join (xs.map (·.data.toList)) sep.data.toList).toArray⟩else none
theorem IS {A:Nat->Prop}{w:World}: ∀(xs:List ByteArray) (cs:List Value),dT A w cs xs->cs=xs.map Value.string
 |[],_,h=>h
 |x::r,_,⟨c1,c2,e,a,b⟩=>by
  have a:c1=[.string x]:=a
  rw[e,a,IS r c2 b]
  rfl
theorem Mn {f:FuncId}(i:NZ P f)(A:Nat->Prop)(w:World)(l:∀k,A k->k<w.heap.size)(v:Value)(xs:List ByteArray)(o:Rd A w v xs)(sep r:ByteArray)(hr:x7 xs sep=some r):
  cy P f [v,.string sep] A w (λ_:Unit=>.string r) (λ_=>[]):=by
 unfold x7 at hr
 split at hr
 ·rename_i m
  obtain rfl:=Option.some.inj hr
  rcases o.sl with⟨rfl,ad,cap,rfl,_⟩|⟨b,off,cap,cells,rfl,_,p,hle,_,a,c⟩
  ·refine(i.1 ad cap sep w).mono ?_
   rintro e w' ⟨rfl,rfl⟩
   exact⟨(),rfl,SH.start l⟩
  ·have h:=IS xs cells c
   refine(i.2 b off cap xs sep w (λj x q=>a j _ (by rw[h,List.getElem?_map,q];rfl)) p m.1 hle m.2).mono ?_
   rintro e w' ⟨rfl,hw⟩
   exact⟨(),rfl,(SH.start l).grow (Grow.om hw [])⟩
 ·cases hr
end
end Go.Tc
namespace Go.Tc
open Go
theorem KM {f:Fn}{a c:Array Value}: CV (.func f a c) [.func f a c]:=⟨rfl,by simp[Value.oneCell']⟩
section
variable {R:Type}{P:Program}{n:Fr}{A:Nat->Prop}{w0 w w':World}{Q:R->Exit->Act->World->Prop}{ρ ρ':Env}{Γ Γ' Δ:Ctx}{E:Option R}{B:List Nat}
variable {d:Option Nat}{ty:TypeId}{pos:String}{after:Array Edge}{g:Option (Nat×Bool)}
theorem vV {ops:Array Oper}{rest:List Oper}{d:Nat}{o:Operand}{f:FuncId}{args:List Operand}{c:Array TypeId}{vs caps:List Value}{G:Type}{v:G->Value}{Γ':G->Ctx}{T:List Nat}(hw:iE n ρ ops ⟨some d,.call ⟨.value o,args.toArray,c⟩,ty,pos,after,g⟩)(hd:Nat.blt d n.n=true)(j:∀args w,(callFunc f args).run P w=.ok (.enter f args) w)(k:ev ρ o=some (.func (.func f) #[] caps.toArray))(b:rp ρ args=some vs)(l:Nf P A w0 Γ f (vs++caps) v Γ' T)(h:∀x,JL P n A w0 ops rest Q ((d,v x)::ρ) (Γ' x) E): JL P n A w0 ops (⟨some d,.call ⟨.value o,args.toArray,c⟩,ty,pos,after,g⟩::rest) Q ρ Γ E:=by
 intro r hr a w hs m
 refine wpList_step λK p=>?_
 rw[hw a hs]
 simp only[if_true]
 unfold Oper.wp
 rw[yG hs j k b,Oper.upon_enter]
 refine(l w m).mono ?_
 rintro e w' ⟨x,rfl,i,_⟩
 exact p _ _ (h x r hr _ _ (hs.put (by simpa[Nat.blt_eq]using hd)) i)
theorem Of {x y:Code}(h:J P n A w0 y Q ρ Γ E): J P n A w0 (.cond (.const (.bool false)) x y) Q ρ Γ E:=by
 intro r hr a w hs b
 exact wpIn_cond_false (hs.eval (x:=.const (.bool false)) rfl) (h r hr a w hs b)
end
end Go.Tc
namespace Go.Tc
open Go Go.RowKit
end Go.Tc
namespace Go.Tc
open Go Go.RowKit
inductive sI where
 |mk
instance:ar sI where
 sz:=1
 agg:=false
 lG _ _ cs _:=∃v,cs=[v]/\v.oneCell'=true
 len h:=by
  obtain⟨v,rfl,_⟩:=h
  rfl
 one h:=by
  obtain⟨v,rfl,h⟩:=h
  simpa using h
 pos:=by decide
 single _:=rfl
 frame h _:=h
 dc _ cs _ B:=(∃v,cs=[v]/\v.oneCell'=true)/\B=[]
 ub h _:=h
 sT h _:=h.1
 tj h b a:=by simp[h.2]at a
 flat:=true
 uX _ h:=⟨h,rfl⟩
theorem sI.rd {A:Nat->Prop}{w:World}{v:Value}(h:v.oneCell'=true): Rd A w v sI.mk:=⟨[v],rfl,v,rfl,h⟩
theorem Rd.Qz {A:Nat->Prop}{w:World}{v:Value}{x:sI}(h:Rd A w v x): v.oneCell'=true:=by
 obtain⟨cs,rfl,u,rfl,h⟩:=h
 exact h
structure Raw where
 v:Value
instance:ar Raw where
 sz:=1
 agg:=false
 lG _ _ cs x:=cs=[x.v]/\x.v.oneCell'=true
 len h:=by
  obtain⟨rfl,_⟩:=h
  rfl
 one h:=by
  obtain⟨rfl,h⟩:=h
  simpa using h
 pos:=by decide
 single _:=rfl
 frame h _:=h
 dc _ cs x B:=(cs=[x.v]/\x.v.oneCell'=true)/\B=[]
 ub h _:=h
 sT h _:=h.1
 tj h b a:=by simp[h.2]at a
 flat:=true
 uX _ h:=⟨h,rfl⟩
theorem Raw.rd {A:Nat->Prop}{w:World}{v:Value}(h:v.oneCell'=true): Rd A w v (Raw.mk v):=⟨[v],rfl,rfl,h⟩
theorem Raw.opens (u:Value): oQ (Raw.mk u) (λ_:Unit=>u) (λ_=>[]):=by
 intro A B w v h
 obtain⟨cs,rfl,rfl,_⟩:=h
 exact⟨(),rfl,by simp⟩
structure rG where
 id:Nat
instance:ar rG where
 sz:=1
 agg:=false
 lG _ _ cs x:=cs=[.func (.func x.id) #[] #[]]
 len h:=by subst h;rfl
 one h:=by subst h;simp[Value.oneCell']
 pos:=by decide
 single _:=rfl
 frame h _:=h
 dc _ cs x B:=cs=[.func (.func x.id) #[] #[]]/\B=[]
 ub h _:=h
 sT h _:=h.1
 tj h b a:=by simp[h.2]at a
 flat:=true
 uX _ h:=⟨h,rfl⟩
theorem Rd.HO (A:Nat->Prop)(w:World)(k:Nat): Rd A w (.func (.func k) #[] #[]) (rG.mk k):=⟨_,rfl,rfl⟩
theorem KJ (y:rG): oQ y (λ_:Unit=>.func (.func y.id) #[] #[]) (λ_=>[]):=by
 intro A B w v h
 obtain⟨cs,rfl,h⟩:=h
 subst h
 exact⟨(),rfl,by simp⟩
theorem rG.of {y:rG}{k:Nat}(h:decide (y.id=k)=true): y=⟨k⟩:=by
 cases y
 simp only[decide_eq_true_eq]at h
 subst h
 rfl
end Go.Tc
namespace Go.Tc
open Go Go.RowKit
end Go.Tc
namespace Go.Tc
open Go Go.RowKit
section
variable {P:Program}{n:Fr}{A:Nat->Prop}{w0:World}{ρ:Env}{Γ:Ctx}{d:Option Nat}{ty:TypeId}{pos:String}{after:Array Edge}{g:Option (Nat×Bool)}
def Dd (t:TypeId)(B:List Nat)(S:List Int)(w:World): Prop:=
 B.length=S.length/\∀(k b:Nat) (v:Int),B[k]?=some b->S[k]?=some v->w.heap[b]?=some (Obj.cells #[.int .i64 v] t (0,0))
def eX (t:TypeId)(B:List Nat)(S:List Int): Fact:=.inv B (Dd t B S)
theorem SH.eX {w:World}{t:TypeId}{B:List Nat}{S:List Int}(h:SH A w0 w Γ)(i:Nat)(hi:Γ[i]?=some (eX t B S)): Dd t B S w:=h.get i hi w λ_ _=>rfl
theorem wY {x:Operand}{t c:TypeId}{b k:Nat}{B:List Nat}{S:List Int}{v:Int}(i:Nat)(e:cg P t=some (1,false))(f:ev ρ x=some (.pointer (some ⟨b,0,none⟩)))(hi:Γ[i]?=some (eX c B S))(h:B[k]?=some b)(j:S[k]?=some v): Ex P n A w0 ρ Γ ⟨d,.load t x,ty,pos,after,g⟩ (.int .i64 v):=by
 intro a w hs l
 have m:=(l.eX i hi).2 k b v h j
 have o:w.cell? ⟨b,0,none⟩=some (.int .i64 v):=by simp[World.cell?,m]
 simp[execOp,hs.eval f,Instr.loadAt,Instr.sureAddr,loadVar,jX e,run_load,o]
theorem EI {x y:Operand}{t D:TypeId}{b k:Nat}{B:List Nat}{S:List Int}{v:Int}(i:Nat)(N:cg P t=some (1,false))(T:ev ρ x=some (.pointer (some ⟨b,0,none⟩)))(U:ev ρ y=some (.int .i64 v))(hi:Γ[i]?=some (eX D B S))(o:B[k]?=some b): Sk P n A w0 ρ Γ ⟨d,.store t x y,ty,pos,after,g⟩ (Γ.set i (eX D B (S.set k v))) [b]:=by
 intro a w hs F
 have h:=F.eX i hi
 have p:b∈B:=List.mem_of_getElem? o
 have K:k<S.length:=by rw[<- h.1];exact(List.getElem?_eq_some_iff.1 o).1
 have L:=h.2 k b S[k] o (List.getElem?_eq_getElem K)
 obtain⟨Z,l2,e1,_⟩:=nq (f':=eX D B S) hi
 have q:B.Nodup:=by
  have H:=F.nd
  rw[e1]at H
  simp only[Tc.eX,Fact.ae,List.append_assoc,List.nodup_append]at H
  exact H.2.1.1
 have r:=run_storeCells_at P b 0 D [.int .i64 v] 0 #[.int .i64 S[k]] w L (by simp) (λu hu=>by simp at hu;subst hu;rfl)
 simp only[Nat.add_zero,Nat.zero_add,List.take_zero,List.nil_append,List.length_singleton]at r
 have I:Grow w (w.setRow b #[.int .i64 v]) [b]:=⟨rfl,rfl,rfl,by simp,λc _ l=>setRow_other w b c _ (λe=>l (by simp[e]))⟩
 have s:Grow w (w.setRow b #[.int .i64 v]) B:=⟨rfl,rfl,rfl,by simp,λc _ l=>setRow_other w b c _ (λe=>l (by simpa[e]using p))⟩
 refine⟨w.setRow b #[.int .i64 v],?_,?_,I,.set hi (λc l=>.inl l)⟩
 ·have z:(storeCells ⟨b,0,none⟩ [Value.int .i64 v]).run P w=.ok () (w.setRow b #[.int .i64 v]):=by simpa using r
  simp[execOp,hs.eval T,hs.eval U,Instr.storeAt,Instr.sureAddr,storeVar,dR N,Value.cells,z]
 ·refine F.set hi s (by simpa[Tc.eX,Fact.ae]using q) (λc l=>?_) ?_
  ·have C:c∈B:=l
   refine⟨.inl C,?_⟩
   have:=(F.ge c (by rw[e1];simp[Tc.eX,Fact.ae,C])).2
   simpa using this
  ·intro w2 V
   refine⟨by simpa using h.1,λM G W f j=>?_⟩
   rw[V G (List.mem_of_getElem? f)]
   by_cases m:M=k
   ·subst m
    rw[o]at f
    obtain rfl:=Option.some.inj f
    rw[List.getElem?_set_self K]at j
    obtain rfl:=Option.some.inj j
    exact setRow_heap w b _ _ _ _ L
   ·rw[List.getElem?_set_ne (λe=>m e.symm)]at j
    have J:G≠b:=by
     intro e
     subst e
     obtain⟨q1,X⟩:=List.getElem?_eq_some_iff.1 o
     obtain⟨q3,Y⟩:=List.getElem?_eq_some_iff.1 f
     exact m ((List.getElem_inj q).1 (Y.trans X.symm))
    rw[setRow_other w b G _ J]
    exact h.2 M G W f j
theorem SH.Hj {w:World}{t:TypeId}{b:Nat}{v:Int}{B:List Nat}{S:List Int}(h:SH A w0 w (.bx b t [.int .i64 v]::Tc.eX t B S::Γ)): SH A w0 w (Tc.eX t (B++[b]) (S++[v])::Γ):=by
 have q:w.heap[b]?=some (Obj.cells #[.int .i64 v] t (0,0)):=h.get 0 rfl
 have c:=h.eX 1 rfl
 have m:∀k,k∈Ctx.ae (Tc.eX t (B++[b]) (S++[v])::Γ)↔k∈Ctx.ae (.bx b t [.int .i64 v]::Tc.eX t B S::Γ):=by
  intro k
  simp only[Ctx.ae,List.flatMap_cons,Tc.eX,Fact.ae,List.mem_append,List.mem_singleton]
  constructor
  ·rintro((a|a)|a)
   ·exact .inr (.inl a)
   ·exact .inl a
   ·exact .inr (.inr a)
  ·rintro(a|a|a)
   ·exact .inl (.inr a)
   ·exact .inl (.inl a)
   ·exact .inr a
 refine⟨h.below,h.av,?_,λk a=>h.ge k ((m k).1 a),h.tu,h.uS,λf j=>?_⟩
 ·have o:=h.nd
  simp only[Ctx.ae,List.flatMap_cons,Tc.eX,Fact.ae]at o ⊢
  refine(List.Perm.nodup_iff ?_).1 o
  rw[<- List.append_assoc]
  exact List.Perm.append_right _ List.perm_append_comm
 ·have r:(λk=>A k\/k∈Ctx.ae (Tc.eX t (B++[b]) (S++[v])::Γ))=λk=>A k\/k∈Ctx.ae (.bx b t [.int .i64 v]::Tc.eX t B S::Γ):=funext λk=>propext (by rw[m])
  rw[r]
  rcases List.mem_cons.1 j with rfl|j
  ·intro x s
   refine⟨by simp[c.1],λk p u e i=>?_⟩
   rw[s p (List.mem_of_getElem? e)]
   by_cases a:k<B.length
   ·rw[List.getElem?_append_left a]at e
    rw[List.getElem?_append_left (by rw[<- c.1];exact a)]at i
    exact c.2 k p u e i
   ·rw[List.getElem?_append_right (by omega)]at e
    rw[List.getElem?_append_right (by rw[<- c.1];omega),<- c.1]at i
    have l:k-B.length=0:=by
     have:=(List.getElem?_eq_some_iff.1 e).1
     simp at this
     omega
    rw[l]at e i
    simp at e i
    subst e i
    exact q
  ·exact h.all f (by simp[j])
end
end Go.Tc
namespace Go.Tc
open Go Go.RowKit
section
variable {P:Program}{n:Fr}{A:Nat->Prop}{w0:World}{ρ:Env}{Γ:Ctx}
def tt (B:List Nat): Option Nat->Value
 |none=>.pointer none
 |some k=>.pointer (some ⟨B.getD k 0,0,none⟩)
def Ct (f a:Nat)(ts b tk:TypeId)(B:List Nat)(C:List Nat)(v:Raw)(p:Nat×Option Nat×Option Nat)(w:World): Prop:=
 ∃b1 b2 b3 b4,v.v=.func (.func f) #[] #[.pointer (some ⟨b1,0,none⟩),.pointer (some ⟨b2,0,none⟩),.pointer (some ⟨b3,0,none⟩),.pointer (some ⟨b4,0,none⟩)]/\(b1∈C/\b2∈C/\b3∈C/\b4∈C)/\
  w.heap[b1]?=some (Obj.cells #[tt B p.2.1] ts (0,0))/\w.heap[b2]?=some (Obj.cells #[.pointer (some ⟨a,0,none⟩)] b (0,0))/\w.heap[b3]?=some (Obj.cells #[.int .i64 (p.1:Int)] tk (0,0))/\w.heap[b4]?=some (Obj.cells #[tt B p.2.2] ts (0,0))
theorem Ct.frame {f a:Nat}{ts j tk:TypeId}{B C k:List Nat}{v:Raw}{p:Nat×Option Nat×Option Nat}{w w':World}(h:Ct f a ts j tk B C v p w)(c:∀b∈C,b∈k)(i:∀b∈C,w'.heap[b]?=w.heap[b]?): Ct f a ts j tk B k v p w':=by
 obtain⟨b1,b2,b3,b4,e,⟨m1,m2,m3,m4⟩,l,m,o,q⟩:=h
 exact⟨b1,b2,b3,b4,e,⟨c _ m1,c _ m2,c _ m3,c _ m4⟩,(i _ m1).trans l,(i _ m2).trans m,(i _ m3).trans o,(i _ m4).trans q⟩
def sh (f a:Nat)(ts b tk:TypeId)(B:List Nat)(C:List Nat)(vs:List Raw)(ps:List (Nat×Option Nat×Option Nat))(w:World): Prop:=
 vs.length=ps.length/\∀(j:Nat) (v:Raw) (p:Nat×Option Nat×Option Nat),vs[j]?=some v->ps[j]?=some p->Ct f a ts b tk B C v p w
def jE (f a:Nat)(ts b tk:TypeId)(B:List Nat)(C:List Nat)(vs:List Raw)(ps:List (Nat×Option Nat×Option Nat)): Fact:=.inv C (sh f a ts b tk B C vs ps)
theorem IB {B a:List Nat}{o:Option Nat}(h:∀k,o=some k->k<B.length): tt (B++a) o=tt B o:=by
 cases o with
 |none=>rfl
 |some k=>simp[tt,List.getD_eq_getElem?_getD,List.getElem?_append_left (h k rfl)]
theorem SH.FW {f a:Nat}{ts l tk:TypeId}{w:World}{b1 b2 b3 b4 k:Nat}{B C:List Nat}{vs:List Raw}{ps:List (Nat×Option Nat×Option Nat)}{r s:Option Nat}(h:SH A w0 w (.bx b1 ts [tt B r]::.bx b2 l [.pointer (some ⟨a,0,none⟩)]::.bx b3 tk [.int .i64 (k:Int)]::.bx b4 ts [tt B s]::Tc.jE f a ts l tk B C vs ps::Γ)):
  SH A w0 w (Tc.jE f a ts l tk B (b1::b2::b3::b4::C) (vs++[⟨.func (.func f) #[] #[.pointer (some ⟨b1,0,none⟩),.pointer (some ⟨b2,0,none⟩),.pointer (some ⟨b3,0,none⟩),.pointer (some ⟨b4,0,none⟩)]⟩]) (ps++[(k,r,s)])::Γ):=by
 have D:w.heap[b1]?=some (Obj.cells #[tt B r] ts (0,0)):=h.get 0 rfl
 have F:w.heap[b2]?=some (Obj.cells #[.pointer (some ⟨a,0,none⟩)] l (0,0)):=h.get 1 rfl
 have G:w.heap[b3]?=some (Obj.cells #[.int .i64 (k:Int)] tk (0,0)):=h.get 2 rfl
 have H:w.heap[b4]?=some (Obj.cells #[tt B s] ts (0,0)):=h.get 3 rfl
 have I:∀t:World,(∀b∈C,t.heap[b]?=w.heap[b]?)->sh f a ts l tk B C vs ps t:=h.get 4 rfl
 have u:Ctx.ae (Tc.jE f a ts l tk B (b1::b2::b3::b4::C) (vs++[⟨.func (.func f) #[] #[.pointer (some ⟨b1,0,none⟩),.pointer (some ⟨b2,0,none⟩),.pointer (some ⟨b3,0,none⟩),.pointer (some ⟨b4,0,none⟩)]⟩]) (ps++[(k,r,s)])::Γ) =
   Ctx.ae (.bx b1 ts [tt B r]::.bx b2 l [.pointer (some ⟨a,0,none⟩)]::.bx b3 tk [.int .i64 (k:Int)]::.bx b4 ts [tt B s]::Tc.jE f a ts l tk B C vs ps::Γ):=by
  simp[Ctx.ae,Tc.jE,Fact.ae]
 refine⟨h.below,h.av,by rw[u];exact h.nd,λc m=>h.ge c (by rw[<- u];exact m),h.tu,h.uS,λq hq=>?_⟩
 rw[u]
 rcases List.mem_cons.1 hq with rfl|hq
 ·intro t i
  have m:=I t λb x=>i b (by simp[x])
  refine⟨by simp[m.1],λj v p o e=>?_⟩
  by_cases z:j<vs.length
  ·rw[List.getElem?_append_left z]at o
   rw[List.getElem?_append_left (by rw[<- m.1];exact z)]at e
   exact(m.2 j v p o e).frame (λb x=>by simp[x]) (λ_ _=>rfl)
  ·rw[List.getElem?_append_right (by omega)]at o
   rw[List.getElem?_append_right (by rw[<- m.1];omega),<- m.1]at e
   have y:j-vs.length=0:=by
    have:=(List.getElem?_eq_some_iff.1 o).1
    simp at this
    omega
   rw[y]at o e
   simp at o e
   subst o e
   exact⟨b1,b2,b3,b4,rfl,by simp,(i b1 (by simp)).trans D,(i b2 (by simp)).trans F,(i b3 (by simp)).trans G,(i b4 (by simp)).trans H⟩
 ·exact h.all q (by simp[hq])
theorem SH.K6 {f a:Nat}{ts o tk:TypeId}{w:World}{B C:List Nat}{vs:List Raw}{ps:List (Nat×Option Nat×Option Nat)}(t:List Nat)(hr:∀p∈ps,(∀k,p.2.1=some k->k<B.length)/\(∀k,p.2.2=some k->k<B.length))(h:SH A w0 w (Tc.jE f a ts o tk B C vs ps::Γ)): SH A w0 w (Tc.jE f a ts o tk (B++t) C vs ps::Γ):=by
 have u:∀l:World,(∀b∈C,l.heap[b]?=w.heap[b]?)->sh f a ts o tk B C vs ps l:=h.get 0 rfl
 refine⟨h.below,h.av,h.nd,h.ge,h.tu,h.uS,λq hq=>?_⟩
 rcases List.mem_cons.1 hq with rfl|hq
 ·intro l r
  have s:=u l r
  refine⟨s.1,λj v p x c=>?_⟩
  obtain⟨b1,b2,b3,b4,e,m,y,z,D,F⟩:=s.2 j v p x c
  have i:=hr p (List.mem_of_getElem? c)
  exact⟨b1,b2,b3,b4,e,m,by rw[IB i.1];exact y,z,D,by rw[IB i.2];exact F⟩
 ·exact h.all q (by simp[hq])
end
end Go.Tc
namespace Go.Tc
open Go Go.RowKit
theorem Ms {A:Nat->Prop}{w:World}: ∃a:List Value,Value.nilFunc.cells=a.toArray/\ar.lG A w a (Raw.mk .nilFunc):=⟨[.nilFunc],rfl,rfl,rfl⟩
theorem uF {α:Type}{xs:List α}{j:Int}{y z:α}(h:idx xs j=some y): idx (xs.set j.toNat z) j=some z:=by
 obtain⟨b,a,_⟩:=idx_eq h
 unfold idx
 rw[if_neg (by omega)]
 exact List.getElem?_set_self a
def Fact.tight:Fact->Bool
 |@Fact.ow α _ _ _ _=>ar.flat α
 |.bx _ _ _=>true
 |.pr _=>true
 |.inv _ _=>true
 |_=>false
theorem Fact.Cm {A k:Nat->Prop}{B l:Nat}{w w':World}{f:Fact}(a:f.tight=true)(h:f.holds A B w)(i:∀b∈f.ae,w'.heap[b]?=w.heap[b]?): f.holds k l w':=by
 cases f with
 |ow e v xs=>
  obtain⟨cells,m,j⟩:=h
  exact⟨cells,pS m (λb c=>i b (by simpa[Fact.ae]using c)),DL.rd _ _ _ (DL.frame _ _ _ (DL.flat a _ _ j) (by simp)) (by simp)⟩
 |bx b t cs=>exact(i b (by simp[Fact.ae])).trans h
 |pr p=>exact h
 |inv B I=>exact λo j=>h o λb c=>(j b c).trans (i b (by simpa[Fact.ae]using c))
 |od e v xs q=>simp[Fact.tight]at a
 |fL v x q=>simp[Fact.tight]at a
 |rd v x=>simp[Fact.tight]at a
 |pt v x=>simp[Fact.tight]at a
 |pa v x=>simp[Fact.tight]at a
 |fz w1 C=>simp[Fact.tight]at a
def Pk (Δ:Ctx)(w:World): Prop:=∀f∈Δ,f.holds (λ_=>False) 0 w
def pack (Δ:Ctx): Fact:=.inv Δ.ae (Pk Δ)
section
variable {R:Type}{P:Program}{n:Fr}{A:Nat->Prop}{w0 w:World}{ρ:Env}{Γ Δ:Ctx}{d:Option Nat}{ty:TypeId}{pos:String}{after:Array Edge}{g:Option (Nat×Bool)}{Q:R->Exit->Act->World->Prop}{E:Option R}
theorem zz:∀ {Δ:Ctx},Δ.all Fact.tight=true->Δ.cb=[]
 |[],_=>rfl
 |f::Δ,h=>by
  simp only[List.all_cons,Bool.and_eq_true]at h
  have a:f.cb=[]:=by
   cases f<;>first|rfl|(exfalso;simp[Fact.tight]at h)
  show f.cb++Ctx.cb Δ=[]
  rw[a,zz h.2]
  rfl
theorem SH.pack (j:Δ.all Fact.tight=true)(h:SH A w0 w (Δ++Γ)): SH A w0 w (Tc.pack Δ::Γ):=by
 have i:Ctx.ae (Tc.pack Δ::Γ)=Ctx.ae (Δ++Γ):=by simp[Ctx.ae,Tc.pack,Fact.ae]
 have c:Ctx.cb (Tc.pack Δ::Γ)=Ctx.cb (Δ++Γ):=by
  have e:Ctx.cb (Δ++Γ)=Δ.cb++Γ.cb:=by simp[Ctx.cb]
  rw[e,zz j]
  rfl
 refine⟨h.below,h.av,by rw[i];exact h.nd,by rw[i];exact h.ge,by rw[c];exact h.tu,by rw[c];exact h.uS,λf a=>?_⟩
 rw[i]
 rcases List.mem_cons.1 a with rfl|a
 ·exact λm k f a=>Fact.Cm (List.all_eq_true.1 j f a) (h.all f (by simp[a])) λb l=>k b (List.mem_flatMap.2 ⟨f,a,l⟩)
 ·exact h.all f (by simp[a])
theorem SH.unpack (i:Δ.all Fact.tight=true)(h:SH A w0 w (Tc.pack Δ::Γ)): SH A w0 w (Δ++Γ):=by
 have c:Ctx.ae (Tc.pack Δ::Γ)=Ctx.ae (Δ++Γ):=by simp[Ctx.ae,Tc.pack,Fact.ae]
 have b:Ctx.cb (Tc.pack Δ::Γ)=Ctx.cb (Δ++Γ):=by
  have e:Ctx.cb (Δ++Γ)=Δ.cb++Γ.cb:=by simp[Ctx.cb]
  rw[e,zz i]
  rfl
 refine⟨h.below,h.av,by rw[<- c];exact h.nd,by rw[<- c];exact h.ge,by rw[<- b];exact h.tu,by rw[<- b];exact h.uS,λf a=>?_⟩
 rw[<- c]
 rcases List.mem_append.1 a with a|a
 ·exact Fact.Cm (List.all_eq_true.1 i f a) (h.get 0 rfl w (λ_ _=>rfl) f a) λ_ _=>rfl
 ·exact h.all f (by simp[a])
theorem SH.qz {B:List Nat}{I I':World->Prop}(b:∀w,I w->I' w)(h:SH A w0 w (.inv B I::Γ)): SH A w0 w (.inv B I'::Γ):=
 ⟨h.below,h.av,h.nd,h.ge,h.tu,h.uS,λf a=>by
  rcases List.mem_cons.1 a with rfl|a
  ·exact λc e=>b _ (h.get 0 rfl c e)
  ·exact h.all f (by simp[a])⟩
theorem cm {x:Operand}{t c:TypeId}{b i:Nat}{B:List Nat}{I:World->Prop}{v:Value}(e:cg P t=some (1,false))(f:ev ρ x=some (.pointer (some ⟨b,0,none⟩)))(hi:Γ[i]?=some (.inv B I))(h:∀w,I w->w.heap[b]?=some (Obj.cells #[v] c (0,0))): Ex P n A w0 ρ Γ ⟨d,.load t x,ty,pos,after,g⟩ v:=by
 intro a w hs j
 have k:=h w (j.get i hi w λ_ _=>rfl)
 have l:w.cell? ⟨b,0,none⟩=some v:=by simp[World.cell?,k]
 simp[execOp,hs.eval f,Instr.loadAt,Instr.sureAddr,loadVar,jX e,run_load,l]
theorem pW {p:Prop}{c:Code}(e:∀w,SH A w0 w Γ->p)(h:p->J P n A w0 c Q ρ Γ E): J P n A w0 c Q ρ Γ E:=λr hr a w hs b=>h (e w b) r hr a w hs b
end
theorem iY.imp {P:Program}{f:FuncId}{vs:List Value}{w:World}{B:List Nat}{G G':Type}{v:G->Value}{fs:G->Ctx}{b:G'->Value}{a:G'->Ctx}(h:iY P f vs w B v fs)(c:∀x w',SH cw (bare w) w' (fs x++[outs w B,rest w B])->∃y,v x=b y/\SH cw (bare w) w' (a y++[outs w B,rest w B])): iY P f vs w B b a:=
 h.mono λe w' ⟨x,he,i⟩=>by
  obtain⟨y,j,k⟩:=c x w' i
  exact⟨y,he.trans (by rw[j]),k⟩
end Go.Tc
namespace Go.Tc
open Go Go.RowKit
section
variable {P:Program}
def Mq (P:Program)(w:World): Prop:=Lib.TabIs P w "internal/strconv.uint64pow10" .u64 Lib.pow10Tab
theorem Mq.of {A:Nat->Prop}{w0 w:World}{Γ:Ctx}(h:Mq P w0)(a:SH A w0 w Γ): Mq P w:=Lib.tabBelow_of_tabIs h w a.below
def PY (P:Program)(f:FuncId): Prop:=
 ∀(n:Int),-9223372036854775808<=n->n<=9223372036854775807->∀w:World,Lib.TabIs P w "internal/strconv.uint64pow10" .u64 Lib.pow10Tab->
  Calls P f #[.int .i64 n,.int .i64 10] w λe w'=>e=.returned (.string ⟨(Lib.itoa n).toArray⟩)/\∃k os,w'=Sort.grow (w.drewN k) os
def fmtG (n b:Int): Option ByteArray:=if b=10/\-9223372036854775808<=n/\n<=9223372036854775807 then some ⟨(Lib.itoa n).toArray⟩else none
theorem NL {f:FuncId}(a:PY P f)(A:Nat->Prop)(w:World)(c:∀k,A k->k<w.heap.size)(h:Mq P w)(n b:Int)(r:ByteArray)(hr:fmtG n b=some r):
  cy P f [.int .i64 n,.int .i64 b] A w (λ_:Unit=>.string r) (λ_=>[]):=by
 unfold fmtG at hr
 split at hr
 ·rename_i i
  obtain⟨rfl,j,l⟩:=i
  obtain rfl:=Option.some.inj hr
  refine(a n j l w h).mono ?_
  rintro e w' ⟨rfl,k,os,rfl⟩
  exact⟨(),rfl,(SH.start c).grow (Grow.om (Lib.below_grow _ w (Nat.le_refl _) k os) [])⟩
 ·cases hr
end
end Go.Tc
namespace Go.Tc
open Go Go.RowKit
section
variable {P:Program}
theorem F5 {w w':World}{a:Addr}{v:Value}(c:∀k,k<w.heap.size->w'.heap[k]?=w.heap[k]?)(h:w.cell? a=some v): w'.cell? a=some v:=by
 have b:=World.block_lt_of_cell? _ _ h
 have e:=c _ b
 unfold World.cell? at h ⊢
 rw[e]
 exact h
def Nk (P:Program)(w:World): Prop:=∃g,P.globalNamed "internal/bytealg.MaxLen"=some g/\∃m,w.cell? ⟨g,0,none⟩=some (.int .i64 m)
theorem Nk.of {A:Nat->Prop}{w0 w:World}{Γ:Ctx}(h:Nk P w0)(a:SH A w0 w Γ): Nk P w:=by
 obtain⟨g,b,m,hm⟩:=h
 exact⟨g,b,m,F5 (λk c=>a.below.block k c) hm⟩
def Pn (P:Program)(w:World): Prop:=Nk P w/\Mq P w
theorem Pn.of {A:Nat->Prop}{w0 w:World}{Γ:Ctx}(h:Pn P w0)(a:SH A w0 w Γ): Pn P w:=⟨h.1.of a,h.2.of a⟩
def No (P:Program)(f:FuncId)(g:Nat)(e:TypeId): Prop:=
 ∀(s sep:ByteArray) (m:Int) (w:World),s.size<4294967281->w.cell? ⟨g,0,none⟩=some (.int .i64 m)->1<=sep.size->
  Calls P f #[.string s,.string sep] w λr w'=>r=.returned (.slice (some ⟨w.heap.size,0,none⟩) (Lib.countB s sep+1) (Lib.countB s sep+1))/\w'=w.alloc (.cells ((Lib.splitB sep 0 (Lib.countB s sep) s).map Value.string).toArray e)
def uq (s sep:ByteArray): Option (List ByteArray):=if (s.size<4294967281/\1<=sep.size)/\Lib.countB s sep+1<=140737488355328 then some (Lib.splitB sep 0 (Lib.countB s sep) s)else none
theorem Hl {A:Nat->Prop}{w:World}: ∀(xs:List ByteArray),dT A w (xs.map Value.string) xs
 |[]=>rfl
 |x::r=>⟨[.string x],r.map Value.string,rfl,rfl,Hl r⟩
theorem Kz {f:FuncId}{g:Nat}{e:TypeId}(c:P.globalNamed "internal/bytealg.MaxLen"=some g)(h:No P f g e)(A:Nat->Prop)(w:World)(i:∀k,A k->k<w.heap.size)(j:Nk P w)(s sep:ByteArray)(r:List ByteArray)(hr:uq s sep=some r):
  cy P f [.string s,.string sep] A w (λx:Value=>x) (λx=>[.ow e x r]):=by
 unfold uq at hr
 split at hr
 ·rename_i a
  obtain rfl:=Option.some.inj hr
  obtain⟨g',b,m,hm⟩:=j
  obtain rfl:=Option.some.inj (c.symm.trans b)
  have hlen:=Lib.splitB_all sep a.1.2 0 _ s rfl
  refine(h s sep m w a.1.1 hm a.1.2).mono ?_
  rintro _ _ ⟨rfl,rfl⟩
  refine⟨_,rfl,(SH.start i).cons (Grow.alloc w _ []) (by simp[Fact.ae,Value.ownBlock]) (by simp[Fact.ae,Value.ownBlock]) ?_⟩
  refine⟨(Lib.splitB sep 0 (Lib.countB s sep) s).map Value.string,?_,Hl _⟩
  have:=World.ownsRow_lit (base:=0) (e:=e) (size:=1) w ((Lib.splitB sep 0 (Lib.countB s sep) s).map Value.string).toArray (Lib.countB s sep+1) (Nat.zero_le _) (by unfold maxLen;omega) (by simp[hlen])
  rw[hlen]
  exact this
 ·cases hr
end
end Go.Tc
namespace Go.Tc
open Go Go.RowKit
section
variable {P:Program}
def H9 (P:Program)(name:String)(w:World): Prop:=∃g,P.globalNamed name=some g/\∃tp p,w.cell? ⟨g,0,none⟩=some (.iface tp p)
theorem H9.of {name:String}{A:Nat->Prop}{w0 w:World}{Γ:Ctx}(h:H9 P name w0)(a:SH A w0 w Γ): H9 P name w:=by
 obtain⟨g,b,tp,p,hm⟩:=h
 exact⟨g,b,tp,p,F5 (λk c=>a.below.block k c) hm⟩
def kZ (P:Program)(w:World): Prop:=Pn P w/\H9 P "strconv.ErrSyntax" w/\H9 P "strconv.ErrRange" w
theorem kZ.of {A:Nat->Prop}{w0 w:World}{Γ:Ctx}(h:kZ P w0)(a:SH A w0 w Γ): kZ P w:=⟨h.1.of a,h.2.1.of a,h.2.2.of a⟩
def JA (T:TypeId)(ok:Bool)(b:Nat): Value:=cond ok .nilIface (.iface T (.pointer (some ⟨b,0,none⟩)))
def Lz (s:ByteArray): Int×Bool:=match Lib.parseIntB 64 s.data.toList with
 |.ok v=>(v,true)
 |.range=>(Lib.intSat 64 s.data.toList,false)
 |_=>(0,false)
def EG (s:ByteArray)(b z:Int): Option (Int×Bool):=if (b=10/\z=64)/\s.size<=281474976710656 then some (Lz s)else none
theorem K4 {f:FuncId}{T:TypeId}{gs gr:Nat}(o:P.globalNamed "strconv.ErrSyntax"=some gs)(p:P.globalNamed "strconv.ErrRange"=some gr)(t5:TypeId)(h:∀(s:ByteArray),s.size<=9223372036854775806->∀v:Int,Lib.parseIntB 64 s.data.toList=.ok v->∀w:World,Calls P f #[.string s,.int .i64 10,.int .i64 64] w λe w'=>e=.returned (.tuple #[.int .i64 v,.nilIface])/\(w'=w\/∃t,w'=Lib.bytesWorld w t5 t))(i:∀(s:ByteArray),s.size<=281474976710656->Lib.parseIntB 64 s.data.toList=Lib.parseIntB 64 []->∀(ev:Value) (w:World),w.cell? ⟨gs,0,none⟩=some ev->(ev=.nilIface\/∃te j,ev=.iface te j)->Calls P f #[.string s,.int .i64 10,.int .i64 64] w λe w'=>∃N,e=.returned (.tuple #[.int .i64 0,.iface T (.pointer (some ⟨N,0,none⟩))])/\Below w.heap.size w w')(l:∀(s:ByteArray),s.size<=281474976710656->Lib.parseIntB 64 s.data.toList=.range->∀(ev:Value) (w:World),w.cell? ⟨gr,0,none⟩=some ev->(ev=.nilIface\/∃te j,ev=.iface te j)->Calls P f #[.string s,.int .i64 10,.int .i64 64] w λe w'=>∃N,e=.returned (.tuple #[.int .i64 (Lib.intSat 64 s.data.toList),.iface T (.pointer (some ⟨N,0,none⟩))])/\Below w.heap.size w w')(A:Nat->Prop)(w:World)(c:∀k,A k->k<w.heap.size)(q:H9 P "strconv.ErrSyntax" w/\H9 P "strconv.ErrRange" w)(s:ByteArray)(b z:Int)(r:Int×Bool)(hr:EG s b z=some r):
  cy P f [.string s,.int .i64 b,.int .i64 z] A w (λx:Nat=>.tuple #[.int .i64 r.1,JA T r.2 x]) (λ_=>[]):=by
 unfold EG at hr
 split at hr
 ·rename_i u
  obtain⟨⟨rfl,rfl⟩,hs⟩:=u
  obtain rfl:=Option.some.inj hr
  obtain⟨⟨g1,e1,y,p1,c1⟩,⟨g2,e2,C,p2,c2⟩⟩:=q
  obtain rfl:=Option.some.inj (o.symm.trans e1)
  obtain rfl:=Option.some.inj (p.symm.trans e2)
  unfold Lz
  cases m:Lib.parseIntB 64 s.data.toList with
  |ok v=>
   refine(h s (by omega) v m w).mono ?_
   rintro _ w' ⟨rfl,rfl|⟨t,rfl⟩⟩
   ·exact⟨0,rfl,SH.start c⟩
   ·exact⟨0,rfl,(SH.start c).grow (Grow.om (Lib.bytesWorld_below w t5 t) [])⟩
  |range=>
   refine(l s hs m _ w c2 (.inr ⟨_,_,rfl⟩)).mono ?_
   rintro _ w' ⟨N,rfl,a⟩
   exact⟨N,rfl,(SH.start c).grow (Grow.om a [])⟩
  |_=>
   refine(i s hs m _ w c1 (.inr ⟨_,_,rfl⟩)).mono ?_
   rintro _ w' ⟨N,rfl,a⟩
   exact⟨N,rfl,(SH.start c).grow (Grow.om a [])⟩
 ·cases hr
variable {n:Fr}{A:Nat->Prop}{w0:World}{ρ:Env}{Γ:Ctx}{d:Option Nat}{ty:TypeId}{pos:String}{after:Array Edge}{g:Option (Nat×Bool)}
theorem Lc {x:Operand}{c:Value}{t u T:TypeId}{ok:Bool}{b:Nat}(f:P.underlying t=some (.interface (P.methodsAt t)))(h:ev ρ x=some (JA T ok b))(i:ev ρ (.const c)=some .nilIface): Ex P n A w0 ρ Γ ⟨d,.binOp .neq t x (.const c) u,ty,pos,after,g⟩ (.bool (!ok)):=by
 intro a w hs j
 cases ok
 ·have e:=hs.eval h
  simp only[JA,cond_false]at e
  simp[execOp,e,hs.eval i,eqGuard,Go.run_neq_held_nil w t T _ f]
 ·have e:=hs.eval h
  simp only[JA,cond_true]at e
  simp[execOp,e,hs.eval i,eqGuard,Go.run_neq_nil_nil w t f]
end
end Go.Tc
namespace Go.Tc
open Go Go.RowKit
section
variable {P:Program}
def Pv (P:Program)(f:FuncId): Prop:=
 ∀(s chars:ByteArray) (w:World),2<=chars.size->s.size<=8->(∀(j:Nat) b,s.data.toList[j]?=some b->b.toNat<128)->
  Calls P f #[.string s,.string chars] w λe w'=>e=.returned (.int .i64 (Lib.indexAny s.data.toList chars.data.toList))/\∃pos,w'=w.iter s pos
def LV (s chars:ByteArray): Option Int:=if (2<=chars.size/\s.size<=8)/\s.data.toList.all (λb=>decide (b.toNat<128))=true then some (Lib.indexAny s.data.toList chars.data.toList)else none
theorem NR {f:FuncId}(c:Pv P f)(A:Nat->Prop)(w:World)(e:∀k,A k->k<w.heap.size)(s chars:ByteArray)(r:Int)(hr:LV s chars=some r):
  cy P f [.string s,.string chars] A w (λ_:Unit=>.int .i64 r) (λ_=>[]):=by
 unfold LV at hr
 split at hr
 ·rename_i a
  obtain rfl:=Option.some.inj hr
  refine(c s chars w a.1.1 a.1.2 (λj b i=>?_)).mono ?_
  ·have h:=List.all_eq_true.1 a.2 b (List.mem_of_getElem? i)
   exact of_decide_eq_true h
  ·rintro _ _ ⟨rfl,pos,rfl⟩
   exact⟨(),rfl,(SH.start e).grow (Grow.alloc w _ [])⟩
 ·cases hr
end
end Go.Tc
