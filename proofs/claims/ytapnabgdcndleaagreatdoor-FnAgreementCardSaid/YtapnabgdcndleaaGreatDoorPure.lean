/-
  From the form's readings of arguments to the calculus's: what a law's statement asks is what its contract gives. No condition.
  Plain laws on the plain functions: loops, rows, copies. No program in sight. No condition.
  The closed facts of a row, one by one. No condition.
  A row turned round, as a plain loop. No condition.
  Elements struck out of a row, as plain loops. No condition.
-/
import Derived.Test.YtapnabgdcndleaaGreatDoorMost
import Derived.Deep.Slices
import Derived.Deep.Strs
import Derived.ProofKit
import Derived.Carry
import Derived.JoinedOf
namespace Go.Tc
open Go Go.RowKit
class Wf (α:Type) where
 wf:α->Prop
instance {α:Type}[Wf α]: Wf (List α):=⟨λxs=>xs.length<=maxLen/\∀x∈xs,Wf.wf x⟩
def Tr (P:Program)(t:TypeId)(α:Type)[ar α][Wf α]: Prop:=
 ∀(H:Type) (enc:TypeId×Value->H) (w:World) (base:Nat) (spare:Nat->Bool) (held:Bool) (fuel:Nat) (cs:List Value) (x:DataW H×List MemPlace),
  DataW.trod enc P w base spare held fuel t cs=some x->∃y:α,ar.lG cw w cs y/\Wf.wf y
variable {P:Program}
instance {k:IntKind}: Wf (Ik k):=⟨λx=>k.min<=x.val/\x.val<=k.max⟩
theorem Qe {k:IntKind}{t:TypeId}(a:P.underlying t=some (.int k)): Tr P t (Ik k):=by
 intro H enc w base spare held fuel cs x h
 cases fuel with
 |zero=>simp[DataW.trod]at h
 |succ n=>
  unfold DataW.trod at h
  rw[a]at h
  split at h<;>simp_all
  rename_i k1 b m e
  obtain⟨⟨rfl,hw⟩,_⟩:=h
  subst e
  refine⟨⟨m⟩,rfl,?_⟩
  simpa[Wf.wf,Lit.wf]using hw
theorem cells?_some {w:World}{base:Nat}{a:Addr}{n:Nat}{cs:List Value}(h:w.cells? base a n=some cs): cs.length=n/\∀j u,cs[j]?=some u->w.cell? (a.add j)=some u:=by
 obtain⟨_,b,d⟩:=World.cells?_some h
 refine⟨b,λj u c=>?_⟩
 have:j<n:=by rw[<- b];exact(List.getElem?_eq_some_iff.1 c).1
 rw[d j this,c]
theorem Mo {α:Type}[ar α][Wf α]{t e:TypeId}(K:P.underlying t=some (.slice e))(hs:P.cellsOf e=ar.sz α)(he:Tr P e α): Tr P t (List α):=by
 intro H enc w base spare held fuel cs x h
 rcases Go.Deep.open_slice K h with⟨rfl,_⟩|⟨a,len,cap,m,n,D,R,rfl,S,hl,hm,C,_,E⟩
 ·exact⟨[],⟨_,rfl,tG.nil⟩,by simp[Wf.wf]⟩
 have L:len<=m:=by rw[C];split<;>omega
 have key:∀k,k<=len->∃(ys:List α) (cells:List Value),ys.length=k/\dT cw w cells ys/\(∀y∈ys,Wf.wf y)/\∀j u,cells[j]?=some u->w.cell? (a.add j)=some u:=by
  intro k
  induction k with
  |zero=>intro _;exact⟨[],[],rfl,rfl,by simp,by simp⟩
  |succ k M=>
   intro T
   obtain⟨ys,cells,f,o,F,p⟩:=M (by omega)
   obtain⟨g,N,G⟩:=E k (by omega)
   obtain⟨q,I⟩:=cells?_some N
   obtain⟨y,O,hw⟩:=he H enc w base spare held n g _ G
   have hlen:=dT.length _ _ o
   refine⟨ys++[y],cells++g,by simp[f],dT.append _ _ _ _ o ⟨g,[],by simp,O,rfl⟩,?_,?_⟩
   ·intro z i
    rcases List.mem_append.1 i with i|i
    ·exact F z i
    ·simp at i;subst i;exact hw
   ·intro j u l
    by_cases r:j<cells.length
    ·rw[List.getElem?_append_left r]at l
     exact p j u l
    ·rw[List.getElem?_append_right (by omega)]at l
     have:=I _ _ l
     rw[Go.Deep.add_add,hs]at this
     rw[hlen,f]at this
     rw[hlen,f]at r
     rwa[show k*ar.sz α+(j-k*ar.sz α)=j by omega]at this
 obtain⟨ys,cells,f,o,F,p⟩:=key len (Nat.le_refl _)
 have s:len<=maxLen:=Nat.le_trans hl hm
 refine⟨ys,⟨_,rfl,?_⟩,by rw[f];exact s,F⟩
 by_cases Q:len=0
 ·subst Q
  have:ys=[]:=List.eq_nil_of_length_eq_zero f
  subst this
  exact .inl ⟨rfl,some a,cap,rfl,by simp,hm⟩
 ·have q:=dT.length _ _ o
  have v:0<cells.length:=by rw[q,f];exact Nat.mul_pos (by omega) ar.pos
  obtain⟨c0,A⟩:∃c,cells[0]?=some c:=⟨cells[0],by simp[v]⟩
  have d:=p 0 c0 A
  have B:a.spot=none:=by
   simp only[Addr.add,if_true]at d
   unfold World.cell? at d
   split at d
   ·split at d
    ·simp at d
    ·rename_i J;simpa using J
   ·simp at d
  obtain⟨b,off,sp⟩:=a
  simp only at B
  subst B
  refine .inr ⟨b,off,cap,cells,by rw[f],λh=>h.elim,?_,by rw[f];exact hl,hm,λj u l=>by have:=p j u l;rwa[Addr.add_lit]at this,o⟩
  have:=p 0 c0 A
  rw[Addr.add_lit]at this
  exact World.block_lt_of_cell? w _ this
def Qv (P:Program)(t:TypeId)(α:Type)[ar α]: Prop:=∀(W:World) (base:Nat) (v:Value),Value.okWide P W .any base t v->v=ar.val α v.cells.toList
open Go.WideShapes in
open Go.WideShapes in
open Go.WideShapes in
open Go.WideShapes in
open Go.WideShapes in
theorem Kd {α:Type}[ar α]{t e:TypeId}(b:P.underlying t=some (.slice e)): Qv P t (List α):=λW base v h=>by
 obtain⟨a,l,c,rfl⟩:=okWide_slice b h
 rfl
open Go.WideShapes in
theorem Qa {α:Type}[ar α][Wf α]{t:TypeId}{H:Type}{enc:TypeId×Value->H}{W:World}{base b:Nat}{spare:Nat->Bool}{held:Bool}{v:Value}{d:DataW H}{ps:List MemPlace}(hs:Qv P t α)(a:Tr P t α)(c:Value.okWide P W .any b t v)(h:DataW.Trod enc P W base spare held t v d ps): ∃y:α,Rd cw W v y/\Wf.wf y:=by
 obtain⟨fuel,e⟩:=h
 obtain⟨y,f,hw⟩:=a H enc W base spare held fuel _ _ e
 exact⟨y,⟨_,hs W b v c,f⟩,hw⟩
theorem OB {f:FuncId}{vs:List Value}{w:World}{b:Bool}(h:cy P f vs cw w (λ_:Unit=>.bool b) (λ_=>[]))(a:b=true):
  Calls P f vs.toArray w λe c=>e=.returned (.bool true)/\Below w.heap.size w c:=by
 subst a
 exact h.mono λ_ _ ⟨_,he,d⟩=>⟨he,d.below⟩
end Go.Tc
namespace Go.Tc
open Go
theorem Oy {S X:Type}{body:S->Option (S ⊕ X)}(I:S->Prop)(Q:X->Prop)(m:S->Nat)(h:∀s,I s->(∃s',body s=some (.inl s')/\I s'/\m s'<m s)\/(∃x,body s=some (.inr x)/\Q x)): ∀s,I s->∃x,run body s=some x/\Q x:=by
 have key:∀k s,m s<k->I s->∃x,run body s=some x/\Q x:=by
  intro k
  induction k with
  |zero=>intro s hs;omega
  |succ k d=>
   intro s hs a
   rcases h s a with⟨s',b,c,hm⟩|⟨x,b,hq⟩
   ·obtain⟨x,e,hq⟩:=d s' (by omega) c
    exact⟨x,by rw[nD,b];exact e,hq⟩
   ·exact⟨x,by rw[nD,b],hq⟩
 exact λs a=>key _ s (Nat.lt_succ_self _) a
theorem bZ {S X:Type}{body:S->Option (S ⊕ X)}{s s':S}(h:body s=some (.inl s')): run body s=run body s':=by
 rw[nD,h]
theorem aZ {S X:Type}{body:S->Option (S ⊕ X)}{s:S}{x:X}(h:body s=some (.inr x)): run body s=some x:=by
 rw[nD,h]
theorem eh {α:Type}{xs:List α}{i:Nat}(h:i<xs.length): idx xs (i:Int)=some xs[i]:=by
 unfold idx
 rw[if_neg (by omega)]
 simp[h]
theorem Nu {α:Type}{xs:List α}{i:Int}(a:0<=i)(h:i<xs.length): idx xs i=some (xs[i.toNat]'(by omega)):=by
 unfold idx
 rw[if_neg (by omega),List.getElem?_eq_getElem]
theorem dh {i:Nat}(h:i<4611686018427387904): ah ((i:Int)+1)=((i+1:Nat):Int):=by
 rw[bC (by omega) (by omega)]
 omega
theorem OU {α:Type}{n:Nat}{z:α}(h:n<=1048576): Fg (n:Int) z=some (List.replicate n z):=by
 unfold Fg
 rw[if_pos (by omega)]
 simp
theorem de {α:Type}{xs ys:List α}(h:xs.length+ys.length<=1099511627776): app xs ys=some (xs++ys):=by
 unfold app O0
 rw[if_pos h]
theorem AM {α:Type}{xs:List α}{lo hi:Nat}(a:lo<=hi)(b:hi<=xs.length): jV xs lo hi=some ((xs.take hi).drop lo):=by
 unfold jV
 rw[if_pos (by omega)]
 simp
theorem I4 {X:Type}{body:Int->Option (Int ⊕ X)}(n:Nat)(m:n<=4611686018427387904)(p:Nat->Bool)(x y:X)(c:∀i:Nat,i<n->p i=true->body i=some (.inl (ah (i+1))))(d:∀i:Nat,i<n->p i=false->body i=some (.inr x))(f:body n=some (.inr y)):
  run body 0=some (if ∀i,i<n->p i=true then y else x):=by
 have key:∀k i,i+k=n->(∀j,j<i->p j=true)->run body (i:Int)=some (if ∀i,i<n->p i=true then y else x):=by
  intro k
  induction k with
  |zero=>
   intro i hi b
   obtain rfl:i=n:=by omega
   rw[nD,f,if_pos b]
  |succ k g=>
   intro i hi b
   cases a:p i with
   |true=>
    rw[bZ (c i (by omega) a),dh (by omega)]
    refine g (i+1) (by omega) λj l=>?_
    by_cases e:j=i
    ·subst e;exact a
    ·exact b j (by omega)
   |false=>
    rw[aZ (d i (by omega) a),if_neg]
    intro h
    have:=h i (by omega)
    simp[a]at this
 exact key n 0 (by omega) (λj l=>by omega)
class AR (α:Type) where
 bd:Nat->α->Prop
 mono:∀ {k a:Nat} {x:α},k<=a->bd k x->bd a x
instance:AR Int:=⟨λ_ _=>True,λ_ h=>h⟩
instance {α:Type}[AR α]: AR (List α):=⟨λk xs=>xs.length<=k/\∀x∈xs,AR.bd k x,λh k=>⟨Nat.le_trans k.1 h,λx a=>AR.mono h (k.2 x a)⟩⟩
def Mu {α:Type}[AR α](x:α): Prop:=AR.bd 1048576 x
def mJ (x lo hi:Int): Bool:=decide (lo<=x)&&decide (x<=hi)
theorem Dj {α:Type}{body:Int->Option (Int ⊕ Out Int Int)}(xs:List α)(e:xs.length<=4611686018427387904)(p:α->Bool)(h:∀(i:Nat) (hi:i<xs.length),body i=some (cond (p xs[i]) (.inr (.ret (i:Int))) (.inl (ah (i+1)))))(c:body xs.length=some (.inr (.bf (xs.length:Int)))):
  Z (run body 0) (Out.elim (λ(_:Int)=>some (-1)) (λ(r:Int)=>some r))=some (match xs.findIdx? p with|none=>-1|some i=>(i:Int)):=by
 have key:∀k i,i+k=xs.length->Z (run body (i:Int)) (Out.elim (λ(_:Int)=>some (-1)) (λ(r:Int)=>some r))=some (match (xs.drop i).findIdx? p with|none=>-1|some j=>((i+j:Nat):Int)):=by
  intro k
  induction k with
  |zero=>
   intro i hi
   obtain rfl:i=xs.length:=by omega
   rw[aZ c,List.drop_length]
   rfl
  |succ k d=>
   intro i hi
   have a:i<xs.length:=by omega
   rw[List.drop_eq_getElem_cons a,List.findIdx?_cons]
   cases b:p xs[i]with
   |true=>
    rw[aZ (by rw[h i a,b];rfl)]
    rfl
   |false=>
    rw[bZ (by rw[h i a,b];rfl),dh (by omega),d (i+1) (by omega)]
    simp only[Bool.false_eq_true,if_false]
    cases (xs.drop (i+1)).findIdx? p with
    |none=>rfl
    |some j=>simp only[Option.map_some];congr 2;omega
 have:=key xs.length 0 (by omega)
 rw[List.drop_zero]at this
 rw[show((0:Nat):Int)=0 from rfl]at this
 rw[this]
 cases xs.findIdx? p with
 |none=>rfl
 |some j=>simp
theorem Mc {α:Type}(xs:List α)(p:α->Bool): decide (0<=(match xs.findIdx? p with|none=>(-1:Int)|some i=>(i:Int)))=xs.any p:=by
 cases h:xs.findIdx? p with
 |none=>
  rw[List.findIdx?_eq_none_iff]at h
  have:xs.any p=false:=by
   rw[List.any_eq_false]
   intro x a
   simp[h x a]
  rw[this];rfl
 |some i=>
  have:xs.any p=true:=by
   rw[List.findIdx?_eq_some_iff_getElem]at h
   obtain⟨hi,b,_⟩:=h
   exact List.any_eq_true.2 ⟨_,List.getElem_mem hi,b⟩
  rw[this]
  simp
end Go.Tc
namespace Go.Tc
open Go
def FD (P:Program)(fn:Func)(c:OpenClaim): Bool:=((c.kinds==(if c.domain.isEmpty then []else fn.params.toList.map λt=>match P.underlying t with|some (.int k)=>some k|_=>none))&&(c.pinned==c.pinnedBy))
theorem KG {P:Program}{f:FuncId}{fn:Func}{s:ChangeSpec}{c:OpenClaim}(n:c.wf (OpenSpec.ofChange s)=true)(o:laidOutB P=true)(g:(mapsRowed P&&fn.params.all (P.readableRec ·)&&namedTie P c.named s.vars)=true)(h:((c.stops==[])&&(P.stops==[])&&(c.knobs==[])&&(P.stopKnobs==[]))=true)(p:(c.inPlace==P.inPlace f)=true)(q:(c.unfollowed==P.unfollowed f)=true)(r:(c.recurses==P.recurses f)=true)(u:(c.named==P.varsNamed f)=true)(i:((c.maps==(fn.params.toList++s.plain.varTypes P).any (P.mapsRec ·))&&(c.ifaces==(fn.params.toList++s.plain.varTypes P).any (P.ifacesRec ·))&&(c.mapsOut==P.mapsAmong fn.resultTypes.toList))=true)(b:((c.loops==(fn.params.toList++s.plain.varTypes P).any (P.loopsFrom ·))&&(c.wideKeys==(fn.params.toList++s.plain.varTypes P++fn.resultTypes.toList).any (P.wideKeysFrom ·)))=true)(d:(s.vars.all (P.varReadable ·)&&fn.resultTypes.all (λt=>P.readableRec t&&decide (t<P.types.size))&&(c.ifacesOut==fn.resultTypes.toList.any (P.ifacesRec ·))&&(c.loopsOut==fn.resultTypes.toList.any (P.loopsFrom ·))&&(c.plainKeys==P.plainKeys)&&c.shortTexts.isNone)=true)(j:P.stopsHeard=true)(k:P.mayEnter=true)(l:(c.lifted==P.liftsFinal)=true)(m:(P.make==some c.make)=true)(a:FD P fn c=true)(e:((c.veiled==(fn.params.toList++s.plain.varTypes P++fn.resultTypes.toList).any (P.veiledRec ·))&&c.veiledFits P fn.params.toList (fn.params.toList++s.plain.varTypes P++fn.resultTypes.toList))=true):
  joinedFacts P f fn s c=true:=by
 unfold joinedFacts
 unfold FD at a
 rw[Bool.and_eq_true,Bool.and_eq_true]at g
 rw[Bool.and_eq_true,Bool.and_eq_true,Bool.and_eq_true]at h
 rw[Bool.and_eq_true,Bool.and_eq_true]at i
 rw[Bool.and_eq_true]at b a e
 rw[Bool.and_eq_true,Bool.and_eq_true,Bool.and_eq_true,Bool.and_eq_true,Bool.and_eq_true]at d
 obtain⟨⟨v,a2⟩,a3⟩:=g
 obtain⟨⟨⟨b1,b2⟩,b3⟩,b4⟩:=h
 obtain⟨⟨c1,c2⟩,c3⟩:=i
 obtain⟨d1,d2⟩:=b
 obtain⟨⟨⟨⟨⟨e1,e2⟩,e3⟩,w⟩,x⟩,y⟩:=d
 obtain⟨f1,f2⟩:=a
 obtain⟨g1,g2⟩:=e
 iterate 31 (refine Bool.and_eq_true_iff.2 ⟨?_,by assumption⟩)
 assumption
end Go.Tc
namespace Go.Tc
open Go Go.RowKit
end Go.Tc
namespace Go.Tc
open Go Go.RowKit
end Go.Tc
