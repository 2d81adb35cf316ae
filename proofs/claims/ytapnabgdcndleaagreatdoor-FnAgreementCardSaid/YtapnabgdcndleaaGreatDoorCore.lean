/-
  Readings of Go values as plain Lean data, with a set of blocks that the reading avoids; facts of a symbolic heap; their frame laws. No condition.
  A calculus of symbolic execution over the walk's weakest preconditions: partial frames, the symbolic heap's laws, the judgements J (code), JL (operations), N (an exit), and the rules of control. No condition.
  The operations of the walk, one law each, in the calculus of XCalc. No condition.
  The calculus, further: calls and contracts, slices of the call's own, returns. No condition.
  The calculus, further: slices of the call's own (literals, make, append, stores), sub-slices, struct values. No condition.
  The calculus, further: reading and writing a row of the call's own by index, sub-slices, struct values. No condition.
  The calculus, further: loops and cuts; 'run', the plain function that a loop computes. No condition.
  The calculus, further: the forms that the generated proofs use. No condition.
  The calculus, further: regions that draw the order of their operations. No condition.
-/
import Derived.WalkKit
import Derived.RangeFuncRecord
import Derived.OrdersIn
import Derived.TacticsIn
import Derived.Deep.LoopGhost
import Derived.OrdersHeld
namespace Go.Tc
open Go Go.RowKit
class ar (α:Type) where
 sz:Nat
 agg:Bool
 lG:(Nat->Prop)->World->List Value->α->Prop
 len:∀ {A w cs x},lG A w cs x->cs.length=sz
 one:∀ {A w cs x},lG A w cs x->∀c∈cs,c.oneCell'=true
 pos:0<sz
 single:agg=false->sz=1
 frame:∀ {A a w w' cs x},lG A w cs x->(∀k,k<w.heap.size->¬A k->w'.heap[k]?=w.heap[k]?/\¬a k)->lG a w' cs x
 dc:World->List Value->α->List Nat->Prop
 ub:∀ {w w' cs x B},dc w cs x B->(∀b∈B,w'.heap[b]?=w.heap[b]?)->dc w' cs x B
 sT:∀ {A w cs x B},dc w cs x B->(∀b∈B,¬A b)->lG A w cs x
 tj:∀ {w cs x B},dc w cs x B->∀b∈B,b<w.heap.size
 flat:Bool
 uX:∀ {A w cs x},flat=true->lG A w cs x->dc w cs x []
def ar.val (α:Type)[ar α](cs:List Value): Value:=if ar.agg α then .agg cs.toArray else cs.headD undef
def Rd {α:Type}[ar α](A:Nat->Prop)(w:World)(v:Value)(x:α): Prop:=∃cs,v=ar.val α cs/\ar.lG A w cs x
theorem Rd.frame {α:Type}[ar α]{A a:Nat->Prop}{w w':World}{v:Value}{x:α}(h:Rd A w v x)(b:∀k,k<w.heap.size->¬A k->w'.heap[k]?=w.heap[k]?/\¬a k): Rd a w' v x:=by
 obtain⟨cs,c,hr⟩:=h
 exact⟨cs,c,ar.frame hr b⟩
instance:ar Int where
 sz:=1
 agg:=false
 lG _ _ cs x:=cs=[.int .i64 x]
 len h:=by subst h;rfl
 one h:=by subst h;simp[Value.oneCell']
 pos:=by decide
 single _:=rfl
 frame h _:=h
 dc _ cs x B:=cs=[.int .i64 x]/\B=[]
 ub h _:=h
 sT h _:=h.1
 tj h b a:=by simp[h.2]at a
 flat:=true
 uX _ h:=⟨h,rfl⟩
instance:ar ByteArray where
 sz:=1
 agg:=false
 lG _ _ cs x:=cs=[.string x]
 len h:=by subst h;rfl
 one h:=by subst h;simp[Value.oneCell']
 pos:=by decide
 single _:=rfl
 frame h _:=h
 dc _ cs x B:=cs=[.string x]/\B=[]
 ub h _:=h
 sT h _:=h.1
 tj h b a:=by simp[h.2]at a
 flat:=true
 uX _ h:=⟨h,rfl⟩
def zr (w:World)(b off:Nat)(cs:List Value): Prop:=∀j u,cs[j]?=some u->w.cell? ⟨b,off+j,none⟩=some u
theorem zr.frame {w w':World}{b off:Nat}{cs:List Value}(h:zr w b off cs)(a:w'.heap[b]?=w.heap[b]?): zr w' b off cs:=by
 intro j u c
 have:=h j u c
 simpa[World.cell?,a]using this
def dT {α:Type}[ar α](A:Nat->Prop)(w:World): List Value->List α->Prop
 |cs,[]=>cs=[]
 |cs,x::r=>∃c1 c2,cs=c1++c2/\ar.lG A w c1 x/\dT A w c2 r
theorem dT.frame {α:Type}[ar α]{A a:Nat->Prop}{w w':World}(b:∀k,k<w.heap.size->¬A k->w'.heap[k]?=w.heap[k]?/\¬a k):
  ∀(xs:List α) (cs:List Value),dT A w cs xs->dT a w' cs xs
 |[],_,h=>h
 |_::r,_,⟨c1,c2,e,c,f⟩=>⟨c1,c2,e,ar.frame c b,dT.frame b r c2 f⟩
theorem dT.length {α:Type}[ar α]{A:Nat->Prop}{w:World}: ∀(xs:List α) (cs:List Value),dT A w cs xs->cs.length=xs.length*ar.sz α
 |[],_,h=>by simp[dT]at h;simp[h]
 |x::r,_,⟨c1,c2,e,c,f⟩=>by
  have a:=ar.len c
  have b:=dT.length r c2 f
  subst e
  simp[a,b,Nat.add_mul];omega
theorem dT.one {α:Type}[ar α]{A:Nat->Prop}{w:World}: ∀(xs:List α) (cs:List Value),dT A w cs xs->∀c∈cs,c.oneCell'=true
 |[],_,h=>by simp[dT]at h;simp[h]
 |x::r,_,⟨c1,c2,e,b,f⟩=>by
  subst e
  intro c a
  rcases List.mem_append.1 a with a|a
  ·exact ar.one b c a
  ·exact dT.one r c2 f c a
theorem dT.append {α:Type}[ar α]{A:Nat->Prop}{w:World}: ∀(xs ys:List α) (cs ds:List Value),dT A w cs xs->dT A w ds ys->dT A w (cs++ds) (xs++ys)
 |[],ys,cs,ds,h,k=>by simp[dT]at h;subst h;simpa using k
 |x::r,ys,_,ds,⟨c1,c2,e,a,b⟩,k=>by
  subst e
  exact⟨c1,c2++ds,by simp,a,dT.append r ys c2 ds b k⟩
theorem dT.get {α:Type}[ar α]{A:Nat->Prop}{w:World}: ∀(xs:List α) (cs:List Value) (i:Nat) (x:α),dT A w cs xs->xs[i]?=some x->
  ∃c,c.length=ar.sz α/\ar.lG A w c x/\∀j u,c[j]?=some u->cs[i*ar.sz α+j]?=some u
 |[],_,i,x,_,a=>by simp at a
 |y::r,_,0,x,⟨c1,c2,e,f,l⟩,a=>by
  simp at a
  subst a e
  refine⟨c1,ar.len f,f,λj u h=>?_⟩
  have k:j<c1.length:=(List.getElem?_eq_some_iff.1 h).1
  simp[List.getElem?_append_left k,h]
 |y::r,_,i+1,x,⟨c1,c2,e,f,l⟩,a=>by
  subst e
  obtain⟨c,hl,hr,m⟩:=dT.get r c2 i x l (by simpa using a)
  refine⟨c,hl,hr,λj u h=>?_⟩
  have:=m j u h
  have b:=ar.len f
  rw[List.getElem?_append_right (by rw[b,Nat.add_mul];omega),b]
  rw[<- this]
  congr 1
  rw[Nat.add_mul];omega
def tG {α:Type}[ar α](A:Nat->Prop)(w:World)(v:Value)(xs:List α): Prop:=
 (xs=[]/\∃ad cap,v=.slice ad 0 cap/\(ad=none->cap=0)/\cap<=maxLen)\/
 ∃b off cap cells,v=.slice (some ⟨b,off,none⟩) xs.length cap/\¬A b/\b<w.heap.size/\xs.length<=cap/\cap<=maxLen/\zr w b off cells/\dT A w cells xs
theorem tG.frame {α:Type}[ar α]{A a:Nat->Prop}{w w':World}{v:Value}{xs:List α}(h:tG A w v xs)(c:∀k,k<w.heap.size->¬A k->w'.heap[k]?=w.heap[k]?/\¬a k): tG a w' v xs:=by
 rcases h with h|⟨b,off,cap,cells,f,i,e,j,l,m,o⟩
 ·exact .inl h
 ·obtain⟨e1,e2⟩:=c b e i
  refine .inr ⟨b,off,cap,cells,f,e2,?_,j,l,m.frame e1,dT.frame c _ _ o⟩
  have:w'.heap[b]?≠none:=by rw[e1];simp[e]
  simpa using this
theorem tG.lU {α:Type}[ar α]{A:Nat->Prop}{w:World}{v:Value}{xs:List α}(h:tG A w v xs): v.oneCell'=true:=by
 rcases h with⟨_,ad,cap,rfl,_⟩|⟨b,off,cap,cells,rfl,_⟩<;>rfl
theorem tG.nil {α:Type}[ar α]{A:Nat->Prop}{w:World}: tG A w (.slice none 0 0) ([]:List α):=.inl ⟨rfl,none,0,rfl,λ_=>rfl,Nat.zero_le _⟩
def DL {α:Type}[ar α](w:World): List Value->List α->List Nat->Prop
 |cs,[],B=>cs=[]/\B=[]
 |cs,x::r,B=>∃c1 c2 a b,cs=c1++c2/\B=a++b/\ar.dc w c1 x a/\DL w c2 r b
theorem DL.frame {α:Type}[ar α]{w w':World}: ∀(xs:List α) (cs:List Value) (B:List Nat),DL w cs xs B->(∀b∈B,w'.heap[b]?=w.heap[b]?)->DL w' cs xs B
 |[],_,_,h,_=>h
 |_::r,_,_,⟨c1,c2,i,c,e,j,k,l⟩,f=>by
  subst j
  exact⟨c1,c2,i,c,e,rfl,ar.ub k λb a=>f b (by simp[a]),DL.frame r c2 c l λb a=>f b (by simp[a])⟩
theorem DL.rd {α:Type}[ar α]{A:Nat->Prop}{w:World}: ∀(xs:List α) (cs:List Value) (B:List Nat),DL w cs xs B->(∀b∈B,¬A b)->dT A w cs xs
 |[],_,_,h,_=>h.1
 |_::r,_,_,⟨c1,c2,l,f,e,i,j,k⟩,c=>by
  subst i
  exact⟨c1,c2,e,ar.sT j λb a=>c b (by simp[a]),DL.rd r c2 f k λb a=>c b (by simp[a])⟩
theorem DL.lt {α:Type}[ar α]{w:World}: ∀(xs:List α) (cs:List Value) (B:List Nat),DL w cs xs B->∀b∈B,b<w.heap.size
 |[],_,_,h,b,a=>by simp[h.2]at a
 |_::r,_,_,⟨c1,c2,k,c,e,f,i,j⟩,b,a=>by
  subst f
  rcases List.mem_append.1 a with a|a
  ·exact ar.tj i b a
  ·exact DL.lt r c2 c j b a
theorem DL.flat {α:Type}[ar α]{A:Nat->Prop}{w:World}(a:ar.flat α=true): ∀(xs:List α) (cs:List Value),dT A w cs xs->DL w cs xs []
 |[],_,h=>⟨h,rfl⟩
 |_::r,_,⟨c1,c2,e,b,c⟩=>⟨c1,c2,[],[],e,rfl,ar.uX a b,DL.flat a r c2 c⟩
def DS {α:Type}[ar α](w:World)(v:Value)(xs:List α)(B:List Nat): Prop:=
 (xs=[]/\B=[]/\∃ad,v=.slice ad 0 0)\/
 ∃b off cap cells a arr t,v=.slice (some ⟨b,off,none⟩) xs.length cap/\w.heap[b]?=some (.cells arr t (0,0))/\xs.length<=cap/\cap<=maxLen/\zr w b off cells/\DL w cells xs a/\off+cap*ar.sz α<=arr.size/\B=b::a
theorem DS.frame {α:Type}[ar α]{w w':World}{v:Value}{xs:List α}{B:List Nat}(h:DS w v xs B)(a:∀b∈B,w'.heap[b]?=w.heap[b]?): DS w' v xs B:=by
 rcases h with h|⟨b,off,cap,cells,e,arr,t,f,i,j,l,m,o,p,rfl⟩
 ·exact .inl h
 ·have c:=a b (by simp)
  exact .inr ⟨b,off,cap,cells,e,arr,t,f,by rw[c,i],j,l,m.frame c,DL.frame _ _ _ o λk q=>a k (by simp[q]),p,rfl⟩
theorem DS.rd {α:Type}[ar α]{A:Nat->Prop}{w:World}{v:Value}{xs:List α}{B:List Nat}(h:DS w v xs B)(e:∀b∈B,¬A b): tG A w v xs:=by
 rcases h with⟨a,_,ad,c⟩|⟨b,off,cap,cells,o,arr,t,a,c,f,i,j,l,p,rfl⟩
 ·exact .inl ⟨a,ad,0,c,λ_=>rfl,Nat.zero_le _⟩
 ·exact .inr ⟨b,off,cap,cells,a,e b (by simp),(Array.getElem?_eq_some_iff.1 c).1,f,i,j,DL.rd _ _ _ l λk m=>e k (by simp[m])⟩
theorem DS.lt {α:Type}[ar α]{w:World}{v:Value}{xs:List α}{B:List Nat}(h:DS w v xs B): ∀b∈B,b<w.heap.size:=by
 rcases h with⟨_,rfl,_⟩|⟨b,off,cap,cells,f,arr,t,i,c,j,l,m,e,o,rfl⟩
 ·simp
 ·intro k a
  rcases List.mem_cons.1 a with rfl|a
  ·exact(Array.getElem?_eq_some_iff.1 c).1
  ·exact DL.lt _ _ _ e k a
instance {α:Type}[ar α]: ar (List α) where
 sz:=1
 agg:=false
 lG A w cs xs:=∃v,cs=[v]/\tG A w v xs
 len h:=by obtain⟨v,rfl,_⟩:=h;rfl
 one h:=by
  obtain⟨v,rfl,h⟩:=h
  simpa using h.lU
 pos:=by decide
 single _:=rfl
 frame h a:=by
  obtain⟨v,e,h⟩:=h
  exact⟨v,e,h.frame a⟩
 dc w cs xs B:=∃v,cs=[v]/\DS w v xs B
 ub h a:=by
  obtain⟨v,e,h⟩:=h
  exact⟨v,e,h.frame a⟩
 sT h b:=by
  obtain⟨v,e,h⟩:=h
  exact⟨v,e,h.rd b⟩
 tj h:=by
  obtain⟨v,_,h⟩:=h
  exact h.lt
 flat:=false
 uX h:=by cases h
theorem Rd.int {A:Nat->Prop}{w:World}{v:Value}{x:Int}(h:Rd A w v x): v=.int .i64 x:=by
 obtain⟨cs,rfl,h⟩:=h
 simp only[ar.lG]at h
 subst h;rfl
theorem Rd.str {A:Nat->Prop}{w:World}{v:Value}{x:ByteArray}(h:Rd A w v x): v=.string x:=by
 obtain⟨cs,rfl,h⟩:=h
 simp only[ar.lG]at h
 subst h;rfl
theorem Rd.LB (A:Nat->Prop)(w:World)(x:Int): Rd A w (.int .i64 x) x:=⟨_,rfl,rfl⟩
theorem Rd.nZ (A:Nat->Prop)(w:World)(x:ByteArray): Rd A w (.string x) x:=⟨_,rfl,rfl⟩
theorem Rd.sl {α:Type}[ar α]{A:Nat->Prop}{w:World}{v:Value}{xs:List α}(h:Rd A w v xs): tG A w v xs:=by
 obtain⟨cs,rfl,u,rfl,h⟩:=h
 exact h
theorem Rd.zT {α:Type}[ar α]{A:Nat->Prop}{w:World}{v:Value}{xs:List α}(h:tG A w v xs): Rd A w v xs:=⟨[v],rfl,v,rfl,h⟩
theorem Rd.cell {α:Type}[ar α]{A:Nat->Prop}{w:World}{v:Value}{x:α}(h:Rd A w v x)(a:ar.agg α=false): ar.lG A w [v] x:=by
 obtain⟨cs,rfl,hr⟩:=h
 have hl:=ar.len hr
 rw[ar.single a]at hl
 match cs,hl with
 |[c],_=>simpa[ar.val,a]using hr
def Dc {α:Type}[ar α](w:World)(v:Value)(x:α)(B:List Nat): Prop:=∃cs,v=ar.val α cs/\ar.dc w cs x B
theorem Dc.frame {α:Type}[ar α]{w w':World}{v:Value}{x:α}{B:List Nat}(h:Dc w v x B)(a:∀b∈B,w'.heap[b]?=w.heap[b]?): Dc w' v x B:=by
 obtain⟨cs,c,e⟩:=h
 exact⟨cs,c,ar.ub e a⟩
theorem Dc.rd {α:Type}[ar α]{A:Nat->Prop}{w:World}{v:Value}{x:α}{B:List Nat}(h:Dc w v x B)(a:∀b∈B,¬A b): Rd A w v x:=by
 obtain⟨cs,c,e⟩:=h
 exact⟨cs,c,ar.sT e a⟩
theorem Dc.lt {α:Type}[ar α]{w:World}{v:Value}{x:α}{B:List Nat}(h:Dc w v x B): ∀b∈B,b<w.heap.size:=by
 obtain⟨cs,c,a⟩:=h
 exact ar.tj a
def Ow {α:Type}[ar α](A:Nat->Prop)(w:World)(e:TypeId)(v:Value)(xs:List α): Prop:=
 ∃cells,w.ownsRow 0 e (ar.sz α) v xs.length cells/\dT A w cells xs
def QP {α:Type}[ar α](A:Nat->Prop)(w:World)(p:Value)(x:α): Prop:=
 ∃b off cs,p=.pointer (some ⟨b,off,none⟩)/\¬A b/\b<w.heap.size/\zr w b off cs/\ar.lG A w cs x
def pF {α:Type}[ar α](A:Nat->Prop)(B:Nat)(w:World)(p:Value)(x:α): Prop:=
 ∃b off cs,p=.pointer (some ⟨b,off,none⟩)/\b<B/\zr w b off cs/\ar.lG A w cs x
inductive Fact:Type 1 where
 |rd {α:Type} [ar α] (v:Value) (x:α):Fact
 |pt {α:Type} [ar α] (p:Value) (x:α):Fact
 |pa {α:Type} [ar α] (p:Value) (x:α):Fact
 |bx (b:Nat) (t:TypeId) (cs:List Value):Fact
 |ow {α:Type} [ar α] (e:TypeId) (v:Value) (xs:List α):Fact
 |od {α:Type} [ar α] (e:TypeId) (v:Value) (xs:List α) (B:List Nat):Fact
 |fL {α:Type} [ar α] (v:Value) (x:α) (B:List Nat):Fact
 |inv (B:List Nat) (I:World->Prop):Fact
 |pr (p:Prop):Fact
 |fz (w1:World) (C:Nat->Prop):Fact
def Fact.ae:Fact->List Nat
 |@Fact.rd _ _ _ _=>[]
 |@Fact.pt _ _ _ _=>[]
 |@Fact.pa _ _ _ _=>[]
 |.bx b _ _=>[b]
 |@Fact.ow _ _ _ v _=>v.ownBlock.toList
 |@Fact.od _ _ _ v _ _=>v.ownBlock.toList
 |@Fact.fL _ _ _ _ _=>[]
 |.inv B _=>B
 |.pr _=>[]
 |.fz _ _=>[]
def Fact.cb:Fact->List Nat
 |@Fact.od _ _ _ _ _ B=>B
 |@Fact.fL _ _ _ _ B=>B
 |_=>[]
def Ql {α:Type}[ar α](w:World)(e:TypeId)(v:Value)(xs:List α)(B:List Nat): Prop:=
 ∃cells a,w.ownsRow 0 e (ar.sz α) v xs.length cells/\DL w cells xs a/\a.Nodup/\∀b∈a,b∈B
def Dn {α:Type}[ar α](w:World)(v:Value)(x:α)(B:List Nat): Prop:=∃a,Dc w v x a/\a.Nodup/\∀b∈a,b∈B
def Fact.holds (A:Nat->Prop)(B:Nat)(w:World): Fact->Prop
 |@Fact.rd _ _ v x=>Rd A w v x
 |@Fact.pt _ _ p x=>QP A w p x
 |@Fact.pa _ _ p x=>pF A B w p x
 |.bx b t cs=>w.heap[b]?=some (.cells cs.toArray t (0,0))
 |@Fact.ow _ _ e v xs=>Ow A w e v xs
 |@Fact.od _ _ e v xs a=>Ql w e v xs a/\∀b∈a,b<w.heap.size/\¬A b
 |@Fact.fL _ _ v x a=>Dn w v x a/\∀b∈a,b<w.heap.size/\¬A b
 |.inv B I=>∀w':World,(∀b∈B,w'.heap[b]?=w.heap[b]?)->I w'
 |.pr p=>p
 |.fz w1 C=>w1.heap.size<=w.heap.size/\∀k,C k->¬A k/\k<w.heap.size/\w.heap[k]?=w1.heap[k]?
abbrev Ctx:=List Fact
def Ctx.ae (Γ:Ctx): List Nat:=Γ.flatMap Fact.ae
def Ctx.cb (Γ:Ctx): List Nat:=Γ.flatMap Fact.cb
structure SH (A:Nat->Prop)(w0 w:World)(Γ:Ctx): Prop where
 below:Below w0.heap.size w0 w
 av:∀k,A k->k<w0.heap.size
 nd:Γ.ae.Nodup
 ge:∀b∈Γ.ae,w0.heap.size<=b/\b<w.heap.size
 tu:Γ.cb.Nodup
 uS:∀b∈Γ.cb,w0.heap.size<=b
 all:∀f∈Γ,f.holds (λk=>A k\/k∈Γ.ae) w0.heap.size w
theorem SH.get {A:Nat->Prop}{w0 w:World}{Γ:Ctx}(h:SH A w0 w Γ)(i:Nat){f:Fact}(hi:Γ[i]?=some f): f.holds (λk=>A k\/k∈Γ.ae) w0.heap.size w:=
 h.all f (List.mem_of_getElem? hi)
theorem lt_of_heap {w w':World}{b:Nat}(h:w'.heap[b]?=w.heap[b]?)(a:b<w.heap.size): b<w'.heap.size:=by
 have:w'.heap[b]?≠none:=by rw[h];simp[a]
 simpa using this
theorem pS {w w':World}{e:TypeId}{sz len:Nat}{v:Value}{cells:List Value}(f:w.ownsRow 0 e sz v len cells)(a:∀b∈v.ownBlock.toList,w'.heap[b]?=w.heap[b]?): w'.ownsRow 0 e sz v len cells:=by
 obtain⟨h,c⟩:=f
 refine⟨h,?_⟩
 rcases c with c|⟨g,cap,cur,rfl,i,j,rest⟩
 ·exact .inl c
 ·refine .inr ⟨g,cap,cur,rfl,i,?_,rest⟩
  rw[a g (by simp[Value.ownBlock])]
  exact j
theorem Fact.frame {A u:Nat->Prop}{B:Nat}{w w':World}{f:Fact}(r:w.heap.size<=w'.heap.size)(h:f.holds A B w)(j:∀b∈f.ae,w'.heap[b]?=w.heap[b]?)(y:∀k,k<B->w'.heap[k]?=w.heap[k]?)(m:∀k,k<w.heap.size->¬A k->w'.heap[k]?=w.heap[k]?/\¬u k): f.holds u B w':=by
 cases f with
 |rd v x=>exact Rd.frame h m
 |pt p x=>
  obtain⟨b,off,cs,o,i,a,q,l⟩:=h
  obtain⟨e1,e2⟩:=m b a i
  refine⟨b,off,cs,o,e2,?_,q.frame e1,ar.frame l m⟩
  have:w'.heap[b]?≠none:=by rw[e1];simp[a]
  simpa using this
 |pa p x=>
  obtain⟨b,off,cs,o,i,q,l⟩:=h
  exact⟨b,off,cs,o,i,q.frame (y b i),ar.frame l m⟩
 |bx b t cs=>
  have:=j b (by simp[Fact.ae])
  simp only[Fact.holds]at h ⊢
  rw[this,h]
 |ow e v xs=>
  obtain⟨cells,o,i⟩:=h
  exact⟨cells,pS o j,dT.frame m _ _ i⟩
 |od e v xs z=>
  obtain⟨⟨cells,s,o,i,q,l⟩,a⟩:=h
  refine⟨⟨cells,s,pS o j,DL.frame _ _ _ i λb c=>(m b (a b (l b c)).1 (a b (l b c)).2).1,q,l⟩,λb c=>?_⟩
  obtain⟨e1,e2⟩:=m b (a b c).1 (a b c).2
  exact⟨lt_of_heap e1 (a b c).1,e2⟩
 |fL v x z=>
  obtain⟨⟨s,i,q,l⟩,a⟩:=h
  refine⟨⟨s,i.frame λb c=>(m b (a b (l b c)).1 (a b (l b c)).2).1,q,l⟩,λb c=>?_⟩
  obtain⟨e1,e2⟩:=m b (a b c).1 (a b c).2
  exact⟨lt_of_heap e1 (a b c).1,e2⟩
 |inv B I=>exact λD i=>h D λb c=>(i b c).trans (j b c)
 |pr p=>exact h
 |fz w1 C=>
  refine⟨Nat.le_trans h.1 r,?_⟩
  intro k F
  obtain⟨o,i,a⟩:=h.2 k F
  obtain⟨e1,e2⟩:=m k i o
  refine⟨e2,?_,by rw[e1,a]⟩
  have:w'.heap[k]?≠none:=by rw[e1];simp[i]
  simpa using this
end Go.Tc
namespace Go.Tc
open Go Go.RowKit
abbrev Env:=List (Nat×Value)
def Env.get:Env->Nat->Option Value
 |[],_=>none
 |(u,v)::r,t=>bif Nat.beq u t then some v else Env.get r t
def ev (ρ:Env): Operand->Option Value
 |.tmp t=>ρ.get t
 |.const v=>some v
 |.global g=>some (.pointer (some ⟨g,0,none⟩))
 |.func f=>some (.func (.func f) #[] #[])
structure Fr where
 n:Nat
 ds:List Deferred
 o:Option Nat
def Fx (o:Option Nat): Fence:={ Fence.wide with round:=o }
structure Sat (n:Fr)(ρ:Env)(a:Act): Prop where
 size:a.tmps.size=n.n
 defers:a.defers=n.ds
 get:∀t v,ρ.get t=some v->a.tmps.getD t undef=v/\t<n.n
theorem Sat.eval {n:Fr}{ρ:Env}{a:Act}{x:Operand}{v:Value}(h:Sat n ρ a)(b:ev ρ x=some v): a.eval x=v:=by
 cases x with
 |tmp t=>exact(h.get t v b).1
 |const u=>simpa[ev,Act.eval]using b
 |global g=>simpa[ev,Act.eval]using b
 |func f=>simpa[ev,Act.eval]using b
theorem uh {a b:Nat}(h:a≠b): Nat.beq a b=false:=by
 cases c:Nat.beq a b with
 |false=>rfl
 |true=>exact absurd (Nat.eq_of_beq_eq_true c) h
theorem Sat.put {n:Fr}{ρ:Env}{a:Act}{d:Nat}{v:Value}(h:Sat n ρ a)(hd:d<n.n): Sat n ((d,v)::ρ) (a.put (some d) v):=by
 refine⟨by simp[Act.put,h.size],h.defers,?_⟩
 intro t u b
 simp only[Env.get]at b
 by_cases e:d=t
 ·subst e
  simp at b
  subst b
  exact⟨by simp[Act.put,h.size,hd],hd⟩
 ·have c:Nat.beq d t=false:=uh e
  rw[c]at b
  obtain⟨f,i⟩:=h.get t u (by simpa using b)
  refine⟨?_,i⟩
  simp[Act.put,Array.getD_eq_getD_getElem?,e]
  simpa[Array.getD_eq_getD_getElem?]using f
def xt:Env->Env->Prop
 |[],_=>True
 |(t,v)::r,ρ=>ρ.get t=some v/\xt r ρ
theorem xt.get {ρ' ρ:Env}(h:xt ρ' ρ): ∀t v,ρ'.get t=some v->ρ.get t=some v:=by
 induction ρ' with
 |nil=>intro t v a;simp[Env.get]at a
 |cons p r b=>
  obtain⟨u,x⟩:=p
  intro t v a
  simp only[Env.get]at a
  by_cases e:u=t
  ·subst e
   simp at a
   subst a
   exact h.1
  ·have c:Nat.beq u t=false:=uh e
   rw[c]at a
   exact b h.2 t v (by simpa using a)
theorem Sat.sub {n:Fr}{ρ ρ':Env}{a:Act}(h:Sat n ρ a)(hs:xt ρ' ρ): Sat n ρ' a:=
 ⟨h.size,h.defers,λt v b=>h.get t v (hs.get t v b)⟩
structure Grow (w w':World)(S:List Nat): Prop where
 os:w'.os=w.os
 tape:w'.tape=w.tape
 output:w'.output=w.output
 size:w.heap.size<=w'.heap.size
 block:∀k,k<w.heap.size->k∉S->w'.heap[k]?=w.heap[k]?
theorem Grow.refl (w:World)(S:List Nat): Grow w w S:=⟨rfl,rfl,rfl,Nat.le_refl _,λ_ _ _=>rfl⟩
theorem Grow.drew (w:World)(S:List Nat): Grow w w.drew S:=⟨rfl,rfl,rfl,Nat.le_refl _,λ_ _ _=>rfl⟩
theorem Grow.alloc (w:World)(o:Obj)(S:List Nat): Grow w (w.alloc o) S:=⟨rfl,rfl,rfl,by simp,λ_ a _=>heap_alloc_old w o a⟩
theorem Grow.trans {a b c:World}{S:List Nat}(h:Grow a b S)(k:Grow b c S): Grow a c S:=
 ⟨k.os.trans h.os,k.tape.trans h.tape,k.output.trans h.output,Nat.le_trans h.size k.size,λi hi hs=>(k.block i (Nat.lt_of_lt_of_le hi h.size) hs).trans (h.block i hi hs)⟩
theorem Grow.om {w w':World}(h:Below w.heap.size w w')(S:List Nat): Grow w w' S:=⟨h.os,h.tape,h.output,h.size,λk a _=>h.block k a⟩
section
variable {A:Nat->Prop}{w0 w w':World}{Γ Γ':Ctx}
theorem mj {α:Type}{a:Array α}{k:Nat}{x:α}(h:a[k]?=some x): k<a.size:=(Array.getElem?_eq_some_iff.1 h).1
theorem SH.lt (h:SH A w0 w Γ): w0.heap.size<=w.heap.size:=h.below.size
theorem SH.Ls (h:SH A w0 w Γ)(a:Grow w w' Γ.ae): Below w0.heap.size w0 w':=
 h.below.trans ⟨a.os,a.tape,a.output,a.size,λk b=>a.block k (Nat.lt_of_lt_of_le b h.lt) (λhm=>absurd (h.ge k hm).1 (by omega))⟩
theorem SH.grow (h:SH A w0 w Γ)(a:Grow w w' []): SH A w0 w' Γ:=by
 refine⟨h.below.trans ⟨a.os,a.tape,a.output,a.size,λk c=>a.block k (Nat.lt_of_lt_of_le c h.lt) (by simp)⟩,h.av,h.nd,
  λb e=>⟨(h.ge b e).1,Nat.lt_of_lt_of_le (h.ge b e).2 a.size⟩,h.tu,h.uS,λf i=>?_⟩
 refine Fact.frame a.size (h.all f i) (λb e=>a.block b (h.ge b (List.mem_flatMap.2 ⟨f,i,e⟩)).2 (by simp)) (λk c=>a.block k (Nat.lt_of_lt_of_le c h.lt) (by simp)) (λk c j=>⟨a.block k c (by simp),j⟩)
theorem SH.drew (h:SH A w0 w Γ): SH A w0 w.drew Γ:=h.grow (Grow.drew w [])
theorem SH.Oj {f:Fact}(h:SH A w0 w Γ)(l:Grow w w' [])(q:f.ae.Nodup)(j:∀b∈f.ae,w.heap.size<=b/\b<w'.heap.size)(u:f.holds (λk=>A k\/k∈Ctx.ae (f::Γ)) w0.heap.size w')(r:(f.cb++Γ.cb).Nodup)(s:∀b∈f.cb,w0.heap.size<=b): SH A w0 w' (f::Γ):=by
 have t:Ctx.ae (f::Γ)=f.ae++Γ.ae:=by simp[Ctx.ae]
 refine⟨h.below.trans ⟨l.os,l.tape,l.output,l.size,λk m=>l.block k (Nat.lt_of_lt_of_le m h.lt) (by simp)⟩,h.av,?_,?_,by simpa[Ctx.cb]using r,λb c=>?_,?_⟩
 rotate_left 2
 ·simp only[Ctx.cb,List.flatMap_cons,List.mem_append]at c
  rcases c with c|c
  ·exact s b c
  ·exact h.uS b c
 rotate_right 2
 ·rw[t,List.nodup_append]
  refine⟨q,h.nd,λa o b c e=>?_⟩
  subst e
  exact absurd (j a o).1 (by have:=(h.ge a c).2;omega)
 ·intro b c
  rw[t]at c
  rcases List.mem_append.1 c with c|c
  ·exact⟨Nat.le_trans h.lt (j b c).1,(j b c).2⟩
  ·exact⟨(h.ge b c).1,Nat.lt_of_lt_of_le (h.ge b c).2 l.size⟩
 ·intro x p
  rcases List.mem_cons.1 p with rfl|p
  ·exact u
  ·refine Fact.frame l.size (h.all x p) (λb c=>l.block b (h.ge b (List.mem_flatMap.2 ⟨x,p,c⟩)).2 (by simp)) (λk m=>l.block k (Nat.lt_of_lt_of_le m h.lt) (by simp)) (λk m o=>⟨l.block k m (by simp),?_⟩)
   rintro(i|i)
   ·exact o (.inl i)
   ·rw[t]at i
    rcases List.mem_append.1 i with i|i
    ·exact absurd (j k i).1 (by omega)
    ·exact o (.inr i)
theorem SH.cons {f:Fact}(h:SH A w0 w Γ)(i:Grow w w' [])(e:f.ae.Nodup)(a:∀b∈f.ae,w.heap.size<=b/\b<w'.heap.size)(j:f.holds (λk=>A k\/k∈Ctx.ae (f::Γ)) w0.heap.size w')(c:f.cb=[]:=by rfl): SH A w0 w' (f::Γ):=
 h.Oj i e a j (by rw[c];exact h.tu) (by rw[c];simp)
theorem SH.oa {α:Type}[ar α]{v:Value}{x:α}(h:SH A w0 w Γ)(a:Rd (λk=>A k\/k∈Γ.ae) w v x): SH A w0 w (.rd v x::Γ):=
 h.cons (Grow.refl w []) (by simp[Fact.ae]) (by simp[Fact.ae]) (by simpa[Fact.holds,Ctx.ae,Fact.ae]using a)
theorem SH.box {t:TypeId}{cs:List Value}(h:SH A w0 w Γ): SH A w0 (w.alloc (.cells cs.toArray t)) (.bx w.heap.size t cs::Γ):=
 h.cons (Grow.alloc w _ []) (by simp[Fact.ae]) (by simp[Fact.ae]) (by simp only[Fact.holds];exact heap_alloc_new w _)
theorem nq {f f':Fact}{i:Nat}(hi:Γ[i]?=some f): ∃a b,Γ.ae=a++f.ae++b/\Ctx.ae (Γ.set i f')=a++f'.ae++b:=by
 induction Γ generalizing i with
 |nil=>simp at hi
 |cons g Γ c=>
  cases i with
  |zero=>
   simp at hi
   subst hi
   exact⟨[],Ctx.ae Γ,by simp[Ctx.ae],by simp[Ctx.ae]⟩
  |succ i=>
   obtain⟨a,b,e1,e2⟩:=c (i:=i) (by simpa using hi)
   refine⟨g.ae++a,b,?_,?_⟩
   ·simp only[Ctx.ae,List.flatMap_cons]at e1 ⊢;rw[e1];simp
   ·simp only[Ctx.ae,List.flatMap_cons,List.set_cons_succ]at e2 ⊢;rw[e2];simp
theorem tR {f f':Fact}{i:Nat}(hi:Γ[i]?=some f): ∃a b,Γ.cb=a++f.cb++b/\Ctx.cb (Γ.set i f')=a++f'.cb++b:=by
 induction Γ generalizing i with
 |nil=>simp at hi
 |cons g Γ c=>
  cases i with
  |zero=>
   simp at hi
   subst hi
   exact⟨[],Ctx.cb Γ,by simp[Ctx.cb],by simp[Ctx.cb]⟩
  |succ i=>
   obtain⟨a,b,e1,e2⟩:=c (i:=i) (by simpa using hi)
   refine⟨g.cb++a,b,?_,?_⟩
   ·simp only[Ctx.cb,List.flatMap_cons]at e1 ⊢;rw[e1];simp
   ·simp only[Ctx.cb,List.flatMap_cons,List.set_cons_succ]at e2 ⊢;rw[e2];simp
theorem EK {a b m:List Nat}(h:(a++m++b).Nodup): (a++[]++b).Nodup:=by
 refine h.sublist ?_
 simp only[List.append_assoc]
 exact List.Sublist.append (List.Sublist.refl _) (List.Sublist.append (List.nil_sublist _) (List.Sublist.refl _))
theorem wb {f g:Fact}: ∀ {Γ:Ctx} {i j:Nat} {b:Nat},Γ.ae.Nodup->Γ[i]?=some f->Γ[j]?=some g->i≠j->b∈f.ae->b∈g.ae->False
 |[],_,_,_,_,hi,_,_,_,_=>by simp at hi
 |x::Γ,i,j,b,h,hi,e,k,a,c=>by
  simp only[Ctx.ae,List.flatMap_cons,List.nodup_append]at h
  cases i with
  |zero=>
   cases j with
   |zero=>exact k rfl
   |succ j=>
    simp at hi e
    subst hi
    exact h.2.2 b a b (List.mem_flatMap.2 ⟨g,List.mem_of_getElem? e,c⟩) rfl
  |succ i=>
   cases j with
   |zero=>
    simp at hi e
    subst e
    exact h.2.2 b c b (List.mem_flatMap.2 ⟨f,List.mem_of_getElem? hi,a⟩) rfl
   |succ j=>exact wb (Γ:=Γ) h.2.1 (by simpa using hi) (by simpa using e) (by omega) a c
theorem SH.P9 {f f':Fact}{i:Nat}(h:SH A w0 w Γ)(hi:Γ[i]?=some f)(s:Grow w w' f.ae)(C:f'.ae.Nodup)(q:∀b∈f'.ae,(b∈f.ae\/w.heap.size<=b)/\b<w'.heap.size)(H:f'.holds (λk=>A k\/k∈Ctx.ae (Γ.set i f')) w0.heap.size w')(D:(Ctx.cb (Γ.set i f')).Nodup)(F:∀b∈f'.cb,w0.heap.size<=b): SH A w0 w' (Γ.set i f'):=by
 obtain⟨I,J,e1,e2⟩:=nq (f':=f') hi
 have o:∀b∈f.ae,b∈Γ.ae:=λb c=>by rw[e1];simp[c]
 have j:=h.nd
 rw[e1]at j
 have hold:∀b,b∈Ctx.ae (Γ.set i f')->(b∈Γ.ae/\(b∈f.ae->b∈f'.ae))\/w.heap.size<=b:=by
  intro b c
  rw[e2]at c
  simp only[List.append_assoc,List.mem_append]at c
  rcases c with c|c|c
  ·refine .inl ⟨by rw[e1];simp[c],λr=>?_⟩
   simp only[List.append_assoc,List.nodup_append]at j
   exact absurd rfl (j.2.2 b c b (by simp[r]))
  ·rcases(q b c).1 with l|l
   ·exact .inl ⟨o b l,λ_=>c⟩
   ·exact .inr l
  ·refine .inl ⟨by rw[e1];simp[c],λr=>?_⟩
   simp only[List.append_assoc,List.nodup_append]at j
   exact absurd rfl (j.2.1.2.2 b r b c)
 have p:∀b∈Γ.ae,b<w.heap.size:=λb c=>(h.ge b c).2
 refine⟨h.Ls ⟨s.os,s.tape,s.output,s.size,λk y hs=>s.block k y (λhm=>hs (o k hm))⟩,h.av,?_,?_,D,λb c=>?_,?_⟩
 rotate_left 2
 ·obtain⟨m1,m2,t1,t2⟩:=tR (f':=f') hi
  rw[t2]at c
  simp only[List.append_assoc,List.mem_append]at c
  rcases c with c|c|c
  ·exact h.uS b (by rw[t1];simp[c])
  ·exact F b c
  ·exact h.uS b (by rw[t1];simp[c])
 rotate_right 2
 ·rw[e2]
  have z:∀b∈f'.ae,b∉I/\b∉J:=by
   intro b c
   simp only[List.append_assoc,List.nodup_append]at j
   rcases(q b c).1 with l|l
   ·exact⟨λhm=>absurd rfl (j.2.2 b hm b (by simp[l])),λhm=>absurd rfl (j.2.1.2.2 b l b hm)⟩
   ·exact⟨λhm=>by have:=p b (by rw[e1];simp[hm]);omega,λhm=>by have:=p b (by rw[e1];simp[hm]);omega⟩
  simp only[List.append_assoc,List.nodup_append]at j ⊢
  refine⟨j.1,⟨C,j.2.1.2.1,?_⟩,?_⟩
  ·rintro a t b c rfl
   exact(z a t).2 c
  ·rintro a t b c rfl
   rcases List.mem_append.1 c with c|c
   ·exact(z a c).1 t
   ·exact j.2.2 a t a (by simp[c]) rfl
 ·intro b c
  rcases hold b c with⟨l,_⟩|l
  ·exact⟨(h.ge b l).1,Nat.lt_of_lt_of_le (p b l) s.size⟩
  ·rw[e2]at c
   simp only[List.append_assoc,List.mem_append]at c
   rcases c with c|c|c
   ·have:=p b (by rw[e1];simp[c]);omega
   ·exact⟨Nat.le_trans h.lt l,(q b c).2⟩
   ·have:=p b (by rw[e1];simp[c]);omega
 ·intro x K
  obtain⟨m,hm⟩:=List.mem_iff_getElem?.1 K
  rw[List.getElem?_set]at hm
  by_cases e:i=m
  ·rw[if_pos e,if_pos (List.getElem?_eq_some_iff.1 hi).1]at hm
   cases hm
   exact H
  ·rw[if_neg e]at hm
   have B:x∈Γ:=List.mem_of_getElem? hm
   refine Fact.frame s.size (h.all x B) (λb c=>s.block b (p b (List.mem_flatMap.2 ⟨x,B,c⟩)) (λr=>wb h.nd hi hm e r c)) (λk y=>s.block k (Nat.lt_of_lt_of_le y h.lt) (λu=>absurd (h.ge k (o k u)).1 (by omega))) (λk y t=>⟨s.block k y (λu=>t (.inr (o k u))),?_⟩)
   rintro(v|v)
   ·exact t (.inl v)
   ·rcases hold k v with⟨l,_⟩|l
    ·exact t (.inr l)
    ·omega
theorem SH.set {f f':Fact}{i:Nat}(h:SH A w0 w Γ)(hi:Γ[i]?=some f)(j:Grow w w' f.ae)(e:f'.ae.Nodup)(a:∀b∈f'.ae,(b∈f.ae\/w.heap.size<=b)/\b<w'.heap.size)(l:f'.holds (λk=>A k\/k∈Ctx.ae (Γ.set i f')) w0.heap.size w')(c:f'.cb=[]:=by rfl): SH A w0 w' (Γ.set i f'):=by
 refine h.P9 hi j e a l ?_ (by rw[c];simp)
 obtain⟨m1,m2,t1,t2⟩:=tR (f':=f') hi
 have:=h.tu
 rw[t1]at this
 rw[t2,c]
 exact EK this
def Cq:List Bool->Ctx->Ctx
 |true::m,f::Γ=>f::Cq m Γ
 |false::m,_::Γ=>Cq m Γ
 |_,_=>[]
theorem xl {Γ' Γ:Ctx}(h:Γ'.Sublist Γ): Γ'.ae.Sublist Γ.ae:=by
 induction h with
 |slnil=>exact List.Sublist.refl _
 |cons a _ b=>simpa[Ctx.ae]using b.trans (List.sublist_append_right _ _)
 |cons_cons a _ b=>simpa[Ctx.ae]using List.Sublist.append (List.Sublist.refl a.ae) b
theorem Ba {Γ' Γ:Ctx}(h:Γ'.Sublist Γ): Γ'.cb.Sublist Γ.cb:=by
 induction h with
 |slnil=>exact List.Sublist.refl _
 |cons a _ b=>simpa[Ctx.cb]using b.trans (List.sublist_append_right _ _)
 |cons_cons a _ b=>simpa[Ctx.cb]using List.Sublist.append (List.Sublist.refl a.cb) b
theorem SH.sublist (h:SH A w0 w Γ)(hs:Γ'.Sublist Γ): SH A w0 w Γ':=by
 refine⟨h.below,h.av,h.nd.sublist (xl hs),λb a=>h.ge b ((xl hs).subset a),h.tu.sublist (Ba hs),λb a=>h.uS b ((Ba hs).subset a),λf i=>?_⟩
 refine Fact.frame (Nat.le_refl _) (h.all f (hs.subset i)) (λ_ _=>rfl) (λ_ _=>rfl) (λk _ e=>⟨rfl,?_⟩)
 rintro(c|c)
 ·exact e (.inl c)
 ·exact e (.inr ((xl hs).subset c))
end
def BF (Q:Exit->Act->World->Prop): Exit->Act->World->Prop
 |.panic _,_,_=>False
 |.outgrown,_,_=>False
 |e,a,w=>Q e a w
theorem xx (Q:Exit->Act->World->Prop): ¬LetsOut (BF Q):=λ⟨_,_,h⟩=>h
theorem Ey {Q:Exit->Act->World->Prop}{e:Exit}{a:Act}{w:World}(h:BF Q e a w): Q e a w:=by
 cases e<;>first|exact h|exact h.elim
def yS (o:Oper): Bool:=match o.op with
 |.defer _=>false
 |_=>true
theorem NN {o:Oper}(h:yS o=true): ∀c,o.op≠.defer c:=by
 intro c e
 simp[yS,e]at h
theorem Hs {P:Program}{f:FuncId}{args:Array Value}{w:World}{R:Ending->World->Prop}(o:Option Nat)(m:Nat)(h:Calls P f args w R): CallsIn (Fx o) m P f args w R:=
 callsIn_wide.2 h
theorem J4 {P:Program}{f:FuncId}{args:Array Value}{w:World}{R:Ending->World->Prop}{o:Option Nat}{m:Nat}(h:CallsIn (Fx o) m P f args w R): Calls P f args w R:=
 callsIn_wide.1 h
theorem Oi {P:Program}{row:String}{args:Array Value}{w:World}{R:Value->World->Prop}(o:Option Nat)(m:Nat)(h:Rows P row args w R): RowsIn (Fx o) m P row args w R:=by
 intro c cs _
 obtain⟨v,w',hr,hs⟩:=h c cs
 exact⟨v,w',hr,stepsIn_wide.2 hs⟩
theorem Jz {P:Program}{o:Oper}{r:Option Nat}{a:Act}{w:World}{K:Act->World->Prop}{Q:Exit->Act->World->Prop}(b:r=none\/yS o=true)(h:o.wp P a w K Q): o.wpIn (Fx r) 0 P a w K Q:=by
 refine⟨λ_ _=>trivial,?_⟩
 have e:o.semAt (Fx r).round a.eval=execOp a.eval o:=by
  rcases b with rfl|b
  ·rfl
  ·exact Oper.semAt_eq _ _ _ (NN b)
 rw[e]
 unfold Oper.wp at h
 generalize (execOp a.eval o).run P w=x at h
 cases x with
 |ok n w'=>
  cases n<;>first
   |exact h
   |exact⟨λc=>by simp[Fx,Fence.wide]at c,Hs _ _ h⟩
   |exact⟨λc=>by simp[Fx,Fence.wide]at c,Oi _ _ h⟩
   |exact h.elim
 |halt x w'=>cases x<;>first|exact h|exact h.elim
theorem xU {P:Program}{ops:Array Oper}{r:Option Nat}{Q:Exit->Act->World->Prop}(b:¬LetsOut Q): ∀ {l:List Oper} (_:r=none\/l.all yS=true) (a:Act) (w:World),wpList P ops Q l a w->wpListIn (Fx r) 0 P ops Q l a w
 |[],_,_,_,h=>h
 |o::l,c,a,w,h=>by
  have f:r=none\/yS o=true:=c.imp id (λh=>by simp at h;exact h.1)
  have e:r=none\/l.all yS=true:=c.imp id (λh=>by simp at h;simpa using h.2)
  unfold wpList at h
  unfold wpListIn
  split
  ·rename_i hw
   rw[if_pos hw]at h
   rcases h with h|⟨_,h⟩
   ·exact Oper.wpIn_mono (λa w h=>xU b e a w h) (Jz f h)
   ·exact absurd h b
  ·rename_i hw
   rw[if_neg hw]at h
   exact⟨λ_ _=>trivial,xU b e _ w h⟩
theorem td {P:Program}{F:Fence}{m:Nat}{ops:Array Oper}{Q Q':Exit->Act->World->Prop}(hq:∀e a w,Q e a w->Q' e a w): ∀(l:List Oper) (a:Act) (w:World),wpListIn F m P ops Q l a w->wpListIn F m P ops Q' l a w
 |[],_,_,h=>hq _ _ _ h
 |o::l,a,w,h=>by
  unfold wpListIn at h ⊢
  split
  ·rename_i hw
   rw[if_pos hw]at h
   have h:=Oper.wpIn_mono (λa w h=>td hq l a w h) h
   refine⟨h.1,?_⟩
   have h:=h.2
   generalize (o.semAt F.round a.eval).run P w=x at h
   cases x with
   |ok n w'=>
    cases n<;>simp only[Oper.uponIn]at h ⊢ <;>
     first
      |exact h
      |exact⟨h.1,CallsIn.mono h.2 (λe b he=>by cases e<;>first|exact he|exact hq _ _ _ he|(obtain⟨a,w,h⟩:=he;exact⟨a,w,hq _ _ _ h⟩))⟩
      |exact⟨h.1,RoundIn.mono h.2 (λe b he=>by cases e<;>first|exact he|exact hq _ _ _ he|(obtain⟨a,w,h⟩:=he;exact⟨a,w,hq _ _ _ h⟩))⟩
   |halt x w'=>cases x<;>simp only[Oper.uponIn]at h ⊢<;>first|exact h|exact hq _ _ _ h
  ·rename_i hw
   rw[if_neg hw]at h
   exact⟨h.1,td hq l _ w h.2⟩
theorem Qs {P:Program}{ops:Array Oper}{r:Option Nat}{Q:Exit->Act->World->Prop}(j:¬LetsOut Q)(k:r=none\/ops.all yS=true){i:Nat}{K f:Act->World->Prop}(c:∀a w,K a w->f a w){a:Act}{w:World}(h:wpOp P ops Q i K a w): wpOpIn (Fx r) 0 P ops Q i f a w:=by
 unfold wpOp at h
 unfold wpOpIn
 split
 ·rename_i b
  rw[b]at h
  exact c _ _ h
 ·rename_i o b
  rw[b]at h
  simp only at h
  have l:r=none\/yS o=true:=k.imp id (λh=>by
   simp only[Array.all_eq_true]at h
   obtain⟨hl,e⟩:=Array.getElem?_eq_some_iff.1 b
   rw[<- e]
   exact h i hl)
  split
  ·rename_i hw
   rw[if_pos hw]at h
   rcases h with h|⟨_,h⟩
   ·exact Oper.wpIn_mono c (Jz l h)
   ·exact absurd h j
  ·rename_i hw
   rw[if_neg hw]at h
   exact⟨λ_ _=>trivial,c _ _ h⟩
theorem LR {P:Program}{ops:Array Oper}{r:Option Nat}{Q:Exit->Act->World->Prop}{md:Region.Mode}(b:¬LetsOut Q)(c:r=none\/ops.all yS=true): ∀(fuel:Nat) (listed:Array Bool) (a:Act) (w:World),wpAny P md ops Q fuel listed a w->wpAnyIn (Fx r) 0 P md ops Q fuel listed a w
 |0,_,_,_,h=>h
 |fuel+1,_,_,_,h=>⟨h.1,λi hi=>Qs b c (LR b c fuel _) (h.2 i hi)⟩
theorem CU {F:Fence}{m:Nat}{P:Program}{Q:Exit->Act->World->Prop}{a:Act}{w:World}{c:Code}(I:Nat->Act->World->Prop)(b:Nat)(i:I b a w)(round:∀n a w,I n a w->c.wpIn F m P (Exit.then (λj w'=>∃h,h<n/\I h j w') Q) a w): (Code.loop c).wpIn F m P Q a w:=by
 refine wpIn_loop (λa w=>∃n,I n a w) (λa w=>leastOf (λn=>I n a w)) ⟨b,i⟩ ?_
 intro a w o
 refine Code.wpIn_mono ?_ (round _ a w (leastOf_spec o).1)
 intro e j w' hq
 cases e with
 |normal=>
  obtain⟨h,k,f⟩:=hq
  exact show(∃n,I n j w')/\leastOf (λn=>I n j w')<leastOf (λn=>I n a w)from⟨⟨h,f⟩,Nat.lt_of_le_of_lt ((leastOf_spec ⟨h,f⟩).2 h f) k⟩
 |exit id=>exact hq
 |goto l=>exact hq
 |ret=>exact hq
 |panic p=>exact hq
 |outgrown=>exact hq
theorem vJ {P:Program}{f:FuncId}{fn:Func}{c:Code}{args:Array Value}{w:World}{R:Ending->World->Prop}(a:P.funcs[f]?=some fn)(b:fn.body=some c)(h:c.wpIn (Fx none) 0 P (bodyPostM (Fx none) 0 P fn R) { tmps:=args++Array.replicate (fn.ntmps-args.size) undef,defers:=[] } w): Calls P f args w R:=
 J4 (o:=none) (m:=0) (callsIn_of_wp_marks a b trivial h)
theorem nG {P:Program}{fn:Func}{R:Ending->World->Prop}{a:Act}{w:World}(hd:a.defers=[])(h:∃v,(results fn a.tmps).run P w=.ok v w/\R (.returned v) w): LeavesInM (Fx none) 0 P fn a.tmps R a.defers .returning w:=by
 rw[hd]
 exact h
section
variable {R:Type}(P:Program)(n:Fr)(A:Nat->Prop)(w0:World)
def J (c:Code)(Q:R->Exit->Act->World->Prop)(ρ:Env)(Γ:Ctx)(E:Option R): Prop:=
 ∀r,E=some r->∀a w,Sat n ρ a->SH A w0 w Γ->c.wpIn (Fx n.o) 0 P (Q r) a w
def JL (ops:Array Oper)(l:List Oper)(Q:R->Exit->Act->World->Prop)(ρ:Env)(Γ:Ctx)(E:Option R): Prop:=
 ∀r,E=some r->∀a w,Sat n ρ a->SH A w0 w Γ->wpList P ops (BF (Q r)) l a w
def N (Q:R->Exit->Act->World->Prop)(e:Exit)(ρ:Env)(Γ:Ctx)(E:Option R): Prop:=
 ∀r,E=some r->∀a w,Sat n ρ a->SH A w0 w Γ->Q r e a w
def lP (c:Code)(Q:R->Exit->Act->World->Prop): R->Exit->Act->World->Prop:=λr=>Exit.then (c.wpIn (Fx n.o) 0 P (Q r)) (Q r)
def wK (id:Nat)(Q:R->Exit->Act->World->Prop): R->Exit->Act->World->Prop:=λr=>Exit.inBlock id (Q r)
def rO (fn:Func)(tA:R->Ending->World->Prop): R->Exit->Act->World->Prop:=λr=>bodyPostM (Fx none) 0 P fn (tA r)
end
def Z {α β:Type}(m:Option α)(f:α->Option β): Option β:=match m with|none=>none|some x=>f x
theorem xy {α β:Type}{m:Option α}{f:α->Option β}{r:β}(h:Z m f=some r): ∃x,m=some x/\f x=some r:=by
 cases m with
 |none=>simp[Z]at h
 |some x=>exact⟨x,rfl,h⟩
@[simp] theorem D {α β:Type}(x:α)(f:α->Option β): Z (some x) f=f x:=rfl
section
variable {R:Type}{P:Program}{n:Fr}{A:Nat->Prop}{w0:World}{Q:R->Exit->Act->World->Prop}{ρ ρ':Env}{Γ Γ':Ctx}{E:Option R}
theorem al {x y:Code}(h:J P n A w0 x (lP P n y Q) ρ Γ E): J P n A w0 (.seq x y) Q ρ Γ E:=
 λr hr a w hs b=>wpIn_seq (h r hr a w hs b)
theorem aN {id:Nat}{c:Code}(h:J P n A w0 c (wK id Q) ρ Γ E): J P n A w0 (.block id c) Q ρ Γ E:=
 λr hr a w hs b=>wpIn_block (h r hr a w hs b)
theorem aV (h:N n A w0 Q .normal ρ Γ E): J P n A w0 .skip Q ρ Γ E:=λr hr a w hs b=>wpIn_skip (h r hr a w hs b)
theorem bu {id:Nat}(h:N n A w0 Q (.exit id) ρ Γ E): J P n A w0 (.exit id) Q ρ Γ E:=λr hr a w hs b=>wpIn_exit (h r hr a w hs b)
theorem e9 (h:N n A w0 Q .ret ρ Γ E): J P n A w0 .ret Q ρ Γ E:=λr hr a w hs b=>wpIn_ret (h r hr a w hs b)
theorem W {id:Nat}{l:List Oper}(h:JL P n A w0 l.toArray l Q ρ Γ E)(b:n.o=none:=by rfl): J P n A w0 (.region id l.toArray false) Q ρ Γ E:=
 λr hr a w hs c=>wpIn_region_lit (td (λ_ _ _=>Ey) _ _ _ (xU (xx _) (.inl b) a w (h r hr a w hs c)))
theorem bL {id:Nat}{l:List Oper}(hl:l.all yS=true)(h:JL P n A w0 l.toArray l Q ρ Γ E): J P n A w0 (.region id l.toArray false) Q ρ Γ E:=
 λr hr a w hs b=>wpIn_region_lit (td (λ_ _ _=>Ey) _ _ _ (xU (xx _) (.inr hl) a w (h r hr a w hs b)))
theorem af {ops:Array Oper}(h:N n A w0 Q .normal ρ Γ E): JL P n A w0 ops [] Q ρ Γ E:=λr hr a w hs b=>wpList_nil (h r hr a w hs b)
theorem aH {t:Nat}{b:Bool}{x y:Code}{c e:Option R}(h:ρ.get t=some (.bool b))(i:b=true->J P n A w0 x Q ρ Γ c)(j:b=false->J P n A w0 y Q ρ Γ e): J P n A w0 (.cond (.tmp t) x y) Q ρ Γ (cond b c e):=by
 intro r hr a w hs f
 have he:=hs.eval (x:=.tmp t) h
 cases b with
 |true=>exact wpIn_cond_true he (i rfl r hr a w hs f)
 |false=>exact wpIn_cond_false he (j rfl r hr a w hs f)
theorem aL {t:Nat}{b:Bool}{x y:Code}(e:ρ.get t=some (.bool b))(c:b=true)(h:J P n A w0 x Q ρ Γ E): J P n A w0 (.cond (.tmp t) x y) Q ρ Γ E:=by
 intro r hr a w hs f
 subst c
 exact wpIn_cond_true (hs.eval (x:=.tmp t) e) (h r hr a w hs f)
theorem aU {t:Nat}{b:Bool}{x y:Code}(e:ρ.get t=some (.bool b))(c:b=false)(h:J P n A w0 y Q ρ Γ E): J P n A w0 (.cond (.tmp t) x y) Q ρ Γ E:=by
 intro r hr a w hs f
 subst c
 exact wpIn_cond_false (hs.eval (x:=.tmp t) e) (h r hr a w hs f)
theorem aq {ops:Array Oper}{l:List Oper}{α:Type}{m:Option α}{f:α->Option R}(h:∀x,m=some x->JL P n A w0 ops l Q ρ Γ (f x)): JL P n A w0 ops l Q ρ Γ (Z m f):=by
 intro r hr
 obtain⟨x,a,b⟩:=xy hr
 exact h x a r b
theorem aW {ops:Array Oper}{l:List Oper}{b:Bool}{a c:Option R}(e:b=true->JL P n A w0 ops l Q ρ Γ a)(f:b=false->JL P n A w0 ops l Q ρ Γ c): JL P n A w0 ops l Q ρ Γ (cond b a c):=by
 cases b with
 |true=>exact e rfl
 |false=>exact f rfl
theorem T {c:Code}(h:J P n A w0 c Q ρ Γ E): N n A w0 (lP P n c Q) .normal ρ Γ E:=h
theorem aA {c:Code}{i:Nat}(h:N n A w0 Q (.exit i) ρ Γ E): N n A w0 (lP P n c Q) (.exit i) ρ Γ E:=h
theorem s {c:Code}(h:N n A w0 Q .ret ρ Γ E): N n A w0 (lP P n c Q) .ret ρ Γ E:=h
theorem aw {i:Nat}(h:N n A w0 Q .normal ρ Γ E): N n A w0 (wK i Q) .normal ρ Γ E:=h
theorem az {i:Nat}(h:N n A w0 Q .ret ρ Γ E): N n A w0 (wK i Q) .ret ρ Γ E:=h
theorem Gj {i:Nat}(h:N n A w0 Q .normal ρ Γ E): N n A w0 (wK i Q) (.exit i) ρ Γ E:=by
 intro r hr a w hs b
 simpa[wK,Exit.inBlock]using h r hr a w hs b
theorem CE {i j:Nat}(b:Nat.beq j i=false)(h:N n A w0 Q (.exit j) ρ Γ E): N n A w0 (wK i Q) (.exit j) ρ Γ E:=by
 intro r hr a w hs c
 have:j≠i:=λe=>by subst e;simp at b
 simpa[wK,Exit.inBlock,this]using h r hr a w hs c
def Ex (P:Program)(n:Fr)(A:Nat->Prop)(w0:World)(ρ:Env)(Γ:Ctx)(o:Oper)(v:Value): Prop:=
 ∀a w,Sat n ρ a->SH A w0 w Γ->(execOp a.eval o).run P w=.ok (.value v) w
theorem yN {n:Fr}{ρ:Env}{a:Act}{o:Oper}{ops:Array Oper}{j c:Nat}{want b:Bool}(hs:Sat n ρ a)(f:o.guard=some (j,want))(h:(ops[j]?).bind (·.dst)=some c)(i:ρ.get c=some (.bool b)):
  Region.wanted o (yielded ops a.tmps)=(b==want):=by
 obtain⟨k,l⟩:=hs.get c _ i
 have m:a.tmps[c]?=some (.bool b):=by
  have e:c<a.tmps.size:=by rw[hs.size];exact l
  rw[Array.getElem?_eq_getElem e]
  simpa[Array.getD_eq_getD_getElem?,Array.getElem?_eq_getElem e]using k
 simp only[Region.wanted,f,yielded,h,Option.bind_some,m]
 cases b<;>cases want<;>rfl
theorem K7 {ops:Array Oper}{rest:List Oper}{d:Nat}{op:Op}{ty:TypeId}{pos:String}{after:Array Edge}{j e:Nat}{want b:Bool}(hd:Nat.blt d n.n=true)(f:(ops[j]?).bind (·.dst)=some e)(i:ρ.get e=some (.bool b))(c:b=!want)(h:JL P n A w0 ops rest Q ((d,undef)::ρ) Γ E): JL P n A w0 ops (⟨some d,op,ty,pos,after,some (j,want)⟩::rest) Q ρ Γ E:=by
 intro r hr a w hs k
 refine wpList_step λK l=>?_
 rw[yN hs rfl f i,c]
 cases want<;>simp<;>exact l _ _ (h r hr _ _ (hs.put (by simpa[Nat.blt_eq]using hd)) k)
theorem CD {ops:Array Oper}{rest:List Oper}{d:Nat}{op:Op}{ty:TypeId}{pos:String}{after:Array Edge}{j b:Nat}{want:Bool}(hd:Nat.blt d n.n=true)(e:(ops[j]?).bind (·.dst)=some b)(f:ρ.get b=some undef)(h:JL P n A w0 ops rest Q ((d,undef)::ρ) Γ E): JL P n A w0 ops (⟨some d,op,ty,pos,after,some (j,want)⟩::rest) Q ρ Γ E:=by
 intro r hr a w hs i
 refine wpList_step λK k=>?_
 have hw:Region.wanted (⟨some d,op,ty,pos,after,some (j,want)⟩:Oper) (yielded ops a.tmps)=false:=by
  obtain⟨l,m⟩:=hs.get b _ f
  have o:a.tmps[b]?=some undef:=by
   have c:b<a.tmps.size:=by rw[hs.size];exact m
   rw[Array.getElem?_eq_getElem c]
   simpa[Array.getD_eq_getD_getElem?,Array.getElem?_eq_getElem c]using l
  simp only[Region.wanted,yielded,e,Option.bind_some,o,undef]
  cases want<;>rfl
 rw[hw]
 simp only[Bool.false_eq_true,if_false]
 exact k _ _ (h r hr _ _ (hs.put (by simpa[Nat.blt_eq]using hd)) i)
end
end Go.Tc
namespace Go.Tc
open Go Go.RowKit
def ah (n:Int): Int:=IntKind.i64.wrap n
theorem bC {n:Int}(a:-9223372036854775808<=n)(b:n<=9223372036854775807): ah n=n:=by
 exact IntWalk.i64_in n ⟨a,b⟩
section
variable {R:Type}{P:Program}{n:Fr}{A:Nat->Prop}{w0:World}{Q:R->Exit->Act->World->Prop}{ρ ρ':Env}{Γ Γ':Ctx}{E:Option R}
variable {d:Option Nat}{ty:TypeId}{pos:String}{after:Array Edge}{g:Option (Nat×Bool)}
theorem Oo {x:Operand}{v:Value}(b:ev ρ x=some v): Ex P n A w0 ρ Γ ⟨d,.move x,ty,pos,after,g⟩ v:=by
 intro a w hs c
 simp[execOp,hs.eval b]
theorem J5 {x:Operand}{v:Value}(b:ev ρ x=some v): Ex P n A w0 ρ Γ ⟨d,.assign x,ty,pos,after,g⟩ v:=by
 intro a w hs c
 simp[execOp,hs.eval b]
theorem Gg {c x y:Operand}{v:Value}{b:Bool}(e:ev ρ c=some (.bool b))(f:b=true)(h:ev ρ x=some v): Ex P n A w0 ρ Γ ⟨d,.pick c x y,ty,pos,after,g⟩ v:=by
 intro a w hs i
 subst f
 simp[execOp,hs.eval e,hs.eval h,asBool]
theorem F3 {c x y:Operand}{v:Value}{b:Bool}(e:ev ρ c=some (.bool b))(f:b=false)(h:ev ρ y=some v): Ex P n A w0 ρ Γ ⟨d,.pick c x y,ty,pos,after,g⟩ v:=by
 intro a w hs i
 subst f
 simp[execOp,hs.eval e,hs.eval h,asBool]
theorem O5 {x y:Operand}{t u:TypeId}{m l:Int}(b:ev ρ x=some (.int .i64 m))(c:ev ρ y=some (.int .i64 l)): Ex P n A w0 ρ Γ ⟨d,.binOp .add t x y u,ty,pos,after,g⟩ (.int .i64 (ah (m+l))):=by
 intro a w hs e
 simp[execOp,hs.eval b,hs.eval c,eqGuard,binOp,Op.intArith,ah]
theorem OX {x y:Operand}{t u:TypeId}{m l:Int}(b:ev ρ x=some (.int .i64 m))(c:ev ρ y=some (.int .i64 l)): Ex P n A w0 ρ Γ ⟨d,.binOp .sub t x y u,ty,pos,after,g⟩ (.int .i64 (ah (m-l))):=by
 intro a w hs e
 simp[execOp,hs.eval b,hs.eval c,eqGuard,binOp,Op.intArith,ah]
theorem PA {x y:Operand}{t u:TypeId}{m l:Int}(b:ev ρ x=some (.int .i64 m))(c:ev ρ y=some (.int .i64 l)): Ex P n A w0 ρ Γ ⟨d,.binOp .mul t x y u,ty,pos,after,g⟩ (.int .i64 (ah (m*l))):=by
 intro a w hs e
 simp[execOp,hs.eval b,hs.eval c,eqGuard,binOp,Op.intArith,ah]
theorem wP {x y:Operand}{t u:TypeId}{m l:Int}(b:ev ρ x=some (.int .i64 m))(c:ev ρ y=some (.int .i64 l))(hl:l≠0): Ex P n A w0 ρ Γ ⟨d,.binOp .quo t x y u,ty,pos,after,g⟩ (.int .i64 (ah (m.tdiv l))):=by
 intro a w hs e
 simp[execOp,hs.eval b,hs.eval c,eqGuard,binOp,Op.intDiv,ah,hl]
theorem uk {x y:Operand}{t u:TypeId}{m l:Int}(b:ev ρ x=some (.int .i64 m))(c:ev ρ y=some (.int .i64 l))(hl:l≠0): Ex P n A w0 ρ Γ ⟨d,.binOp .rem t x y u,ty,pos,after,g⟩ (.int .i64 (m.tmod l)):=by
 intro a w hs e
 simp[execOp,hs.eval b,hs.eval c,eqGuard,binOp,Op.intDiv,hl]
theorem O1 {k:IntKind}{x y:Operand}{t u:TypeId}{m l:Int}(b:ev ρ x=some (.int k m))(c:ev ρ y=some (.int k l)): Ex P n A w0 ρ Γ ⟨d,.binOp .lss t x y u,ty,pos,after,g⟩ (.bool (decide (m<l))):=by
 intro a w hs e
 simp[execOp,hs.eval b,hs.eval c,eqGuard,binOp,Op.intCmp]
theorem PR {k:IntKind}{x y:Operand}{t u:TypeId}{m l:Int}(b:ev ρ x=some (.int k m))(c:ev ρ y=some (.int k l)): Ex P n A w0 ρ Γ ⟨d,.binOp .leq t x y u,ty,pos,after,g⟩ (.bool (decide (m<=l))):=by
 intro a w hs e
 simp[execOp,hs.eval b,hs.eval c,eqGuard,binOp,Op.intCmp]
theorem PB {k:IntKind}{x y:Operand}{t u:TypeId}{m l:Int}(b:ev ρ x=some (.int k m))(c:ev ρ y=some (.int k l)): Ex P n A w0 ρ Γ ⟨d,.binOp .gtr t x y u,ty,pos,after,g⟩ (.bool (decide (l<m))):=by
 intro a w hs e
 simp[execOp,hs.eval b,hs.eval c,eqGuard,binOp,Op.intCmp]
theorem Po {k:IntKind}{x y:Operand}{t u:TypeId}{m l:Int}(b:ev ρ x=some (.int k m))(c:ev ρ y=some (.int k l)): Ex P n A w0 ρ Γ ⟨d,.binOp .geq t x y u,ty,pos,after,g⟩ (.bool (decide (l<=m))):=by
 intro a w hs e
 simp[execOp,hs.eval b,hs.eval c,eqGuard,binOp,Op.intCmp]
theorem Px {k:IntKind}{x y:Operand}{t u:TypeId}{m l:Int}(b:ev ρ x=some (.int k m))(c:ev ρ y=some (.int k l)): Ex P n A w0 ρ Γ ⟨d,.binOp .eql t x y u,ty,pos,after,g⟩ (.bool (decide (m=l))):=by
 intro a w hs f
 simp[execOp,hs.eval b,hs.eval c,eqGuard,binOp,Op.intCmp]
 by_cases e:m=l<;>simp[e]
theorem PX {k:IntKind}{x y:Operand}{t u:TypeId}{m l:Int}(b:ev ρ x=some (.int k m))(c:ev ρ y=some (.int k l)): Ex P n A w0 ρ Γ ⟨d,.binOp .neq t x y u,ty,pos,after,g⟩ (.bool (decide (m≠l))):=by
 intro a w hs f
 simp[execOp,hs.eval b,hs.eval c,eqGuard,binOp,Op.intCmp]
 by_cases e:m=l<;>simp[e]
theorem Ie {x y:Operand}{t u:TypeId}{m l:Bool}(b:P.underlying t=some .bool)(c:ev ρ x=some (.bool m))(e:ev ρ y=some (.bool l)): Ex P n A w0 ρ Γ ⟨d,.binOp .eql t x y u,ty,pos,after,g⟩ (.bool (m==l)):=by
 intro a w hs f
 simp only[execOp,hs.eval c,hs.eval e,eqGuard,Sem.run_bind]
 simp[run_eql_bool w t m l b]
theorem zl {x y:Operand}{t u:TypeId}{m l:ByteArray}(b:ev ρ x=some (.string m))(c:ev ρ y=some (.string l)): Ex P n A w0 ρ Γ ⟨d,.binOp .eql t x y u,ty,pos,after,g⟩ (.bool (m.toList==l.toList)):=by
 intro a w hs e
 simp[execOp,hs.eval b,hs.eval c,eqGuard,binOp,Op.stringOp]
theorem zQ {x y:Operand}{t u:TypeId}{m l:ByteArray}(b:ev ρ x=some (.string m))(c:ev ρ y=some (.string l)): Ex P n A w0 ρ Γ ⟨d,.binOp .neq t x y u,ty,pos,after,g⟩ (.bool (!(m.toList==l.toList))):=by
 intro a w hs e
 simp[execOp,hs.eval b,hs.eval c,eqGuard,binOp,Op.stringOp]
theorem Pe {x:Operand}{t:TypeId}{b:Bool}(c:ev ρ x=some (.bool b)): Ex P n A w0 ρ Γ ⟨d,.unOp .not t x,ty,pos,after,g⟩ (.bool (!b)):=by
 intro a w hs e
 simp[execOp,hs.eval c,Op.unary]
theorem PF {x:Operand}{t:TypeId}{m:Int}(b:ev ρ x=some (.int .i64 m)): Ex P n A w0 ρ Γ ⟨d,.unOp .neg t x,ty,pos,after,g⟩ (.int .i64 (ah (0-m))):=by
 intro a w hs c
 simp[execOp,hs.eval b,Op.unary,Op.intArith,ah]
theorem Cr {x:Operand}{s t:TypeId}{ds:TypeDesc}{k c:IntKind}{m:Int}(b:P.underlying s=some ds)(e:P.underlying t=some (.int k))(f:ev ρ x=some (.int c m)): Ex P n A w0 ρ Γ ⟨d,.convert s t x,ty,pos,after,g⟩ (.int k (k.wrap m)):=by
 intro a w hs h
 simp[execOp,hs.eval f,convert,run_underlying b,run_underlying e,Conv.intToInt]
theorem zo {x:Operand}{i:Nat}{vs:Array Value}{v:Value}(b:ev ρ x=some (.tuple vs))(c:vs[i]?=some v): Ex P n A w0 ρ Γ ⟨d,.extract x i,ty,pos,after,g⟩ v:=by
 intro a w hs e
 simp[execOp,hs.eval b,Instr.extract,c]
theorem sC {x:Operand}{p:Addr}(b:ev ρ x=some (.pointer (some p))): Ex P n A w0 ρ Γ ⟨d,.nilCheck x,ty,pos,after,g⟩ (.pointer (some p)):=by
 intro a w hs c
 simp[execOp,hs.eval b]
theorem uA {x:Operand}{t:TypeId}{s:ByteArray}(b:P.underlying t=some .string)(c:ev ρ x=some (.string s)): Ex P n A w0 ρ Γ ⟨d,.call ⟨.builtin .len,#[x],#[t]⟩,ty,pos,after,g⟩ (.int .i64 (s.size:Int)):=by
 intro a w hs e
 simp[execOp,resolve,invoke,builtin,hs.eval c,Builtin.len_,run_underlying b,goInt]
theorem zN {x:Operand}{t e:TypeId}{m c:Nat}{ad:Option Addr}(b:P.underlying t=some (.slice e))(f:ev ρ x=some (.slice ad m c)): Ex P n A w0 ρ Γ ⟨d,.call ⟨.builtin .len,#[x],#[t]⟩,ty,pos,after,g⟩ (.int .i64 (m:Int)):=by
 intro a w hs h
 simp[execOp,resolve,invoke,builtin,hs.eval f,Builtin.len_,run_underlying b,goInt]
theorem J9 {α:Type}[ar α]{x:Operand}{t e:TypeId}{v:Value}{xs:List α}(i:Nat)(c:P.underlying t=some (.slice e))(f:ev ρ x=some v)(hi:Γ[i]?=some (.rd v xs)): Ex P n A w0 ρ Γ ⟨d,.call ⟨.builtin .len,#[x],#[t]⟩,ty,pos,after,g⟩ (.int .i64 (xs.length:Int)):=by
 intro a w hs j
 have h:=Rd.sl (j.get i hi)
 rcases h with⟨rfl,ad,cap,rfl,_⟩|⟨b,off,cap,cells,rfl,_⟩ <;>
 simp[execOp,resolve,invoke,builtin,hs.eval f,Builtin.len_,run_underlying c,goInt]
theorem KR {α:Type}[ar α]{x:Operand}{t e f:TypeId}{v:Value}{xs:List α}(i:Nat)(b:P.underlying t=some (.slice e))(c:ev ρ x=some v)(hi:Γ[i]?=some (.ow f v xs)): Ex P n A w0 ρ Γ ⟨d,.call ⟨.builtin .len,#[x],#[t]⟩,ty,pos,after,g⟩ (.int .i64 (xs.length:Int)):=by
 intro a w hs j
 obtain⟨cells,⟨_,h⟩,_⟩:=j.get i hi
 rcases h with⟨rfl,k⟩|⟨l,cap,cur,rfl,_⟩
 ·simp[execOp,resolve,invoke,builtin,hs.eval c,Builtin.len_,run_underlying b,goInt,k]
 ·simp[execOp,resolve,invoke,builtin,hs.eval c,Builtin.len_,run_underlying b,goInt]
def cg (P:Program)(t:TypeId): Option (Nat×Bool):=
 match P.info? t,P.underlying t with
 |some i,some u=>some (i.size,match u with|.struct _|.array _ _=>true|_=>false)
 |_,_=>none
theorem dR {t:TypeId}{s:Nat}{b:Bool}(h:cg P t=some (s,b))(w:World): (sizeOf t).run P w=.ok s w:=by
 unfold cg at h
 split at h
 ·rename_i i u hi hu
  simp at h
  simp[sizeOf,typeInfo,hi,h.1]
 ·simp at h
theorem jX {t:TypeId}{s:Nat}{b:Bool}(h:cg P t=some (s,b))(w:World): (isAgg t).run P w=.ok b w:=by
 unfold cg at h
 split at h
 ·rename_i i u hi hu
  simp at h
  obtain⟨_,rfl⟩:=h
  simp[isAgg,run_underlying hu]
  cases u<;>rfl
 ·simp at h
def eD (P:Program)(t:TypeId)(f:Nat): Option (Nat×Nat):=
 match P.underlying t with
 |some (.struct fields)=>match fields[f]? with
  |some a=>match cg P a.type with
   |some (s,_)=>some (a.offset,s)
   |none=>none
  |none=>none
 |_=>none
theorem yE {t:TypeId}{f o s:Nat}{b off:Nat}(h:eD P t f=some (o,s))(hs:Nat.blt 0 s=true)(w:World):
  (Instr.fieldAt t (.pointer (some ⟨b,off,none⟩)) f).run P w=.ok (.pointer (some ⟨b,off+o,none⟩)) w:=by
 unfold eD at h
 split at h
 ·rename_i fields hu
  split at h
  ·rename_i i c
   split at h
   ·rename_i s' j e
    simp at h
    obtain⟨rfl,rfl⟩:=h
    have a:¬s'=0:=by simp[Nat.blt_eq]at hs;omega
    simp[Instr.fieldAt,run_underlying hu,c,Instr.sureAddr,fieldPlace,dR e,a,Addr.add_lit]
   ·simp at h
  ·simp at h
 ·simp at h
theorem nS {x:Operand}{t:TypeId}{f o s b off:Nat}(e:eD P t f=some (o,s))(c:Nat.blt 0 s=true)(h:ev ρ x=some (.pointer (some ⟨b,off,none⟩))):
  Ex P n A w0 ρ Γ ⟨d,.fieldAddr t x f,ty,pos,after,g⟩ (.pointer (some ⟨b,off+o,none⟩)):=by
 intro a w hs i
 simp[execOp,hs.eval h,yE e c]
theorem pY {w:World}{b t off:Nat}{cs:List Value}{v:Value}(h:w.heap[b]?=some (.cells cs.toArray t (0,0)))(a:cs[off]?=some v): w.cell? ⟨b,off,none⟩=some v:=by
 simp[World.cell?,h,a]
theorem zh {x:Operand}{t c:TypeId}{b off:Nat}{cs:List Value}{v:Value}(i:Nat)(e:cg P t=some (1,false))(f:ev ρ x=some (.pointer (some ⟨b,off,none⟩)))(hi:Γ[i]?=some (.bx b c cs))(h:cs[off]?=some v):
  Ex P n A w0 ρ Γ ⟨d,.load t x,ty,pos,after,g⟩ v:=by
 intro a w hs j
 have k:=j.get i hi
 have l:=pY k h
 simp[execOp,hs.eval f,Instr.loadAt,Instr.sureAddr,loadVar,jX e,run_load,l]
theorem Ep {x:Operand}{t k:TypeId}{b off s:Nat}{cs c:List Value}(i:Nat)(f:cg P t=some (s,true))(l:ev ρ x=some (.pointer (some ⟨b,off,none⟩)))(hi:Γ[i]?=some (.bx b k cs))(m:(cs.drop off).take s=c)(hl:c.length=s):
  Ex P n A w0 ρ Γ ⟨d,.load t x,ty,pos,after,g⟩ (.agg c.toArray):=by
 intro a w hs o
 have p:=o.get i hi
 have h:=run_loadCells_list (P:=P) w ⟨b,off,none⟩ c (λj v e=>by
  rw[Addr.add_lit]
  refine pY p ?_
  rw[<- m]at e
  rw[List.getElem?_take]at e
  split at e
  ·simpa using e
  ·simp at e)
 rw[hl]at h
 simp[execOp,hs.eval l,Instr.loadAt,Instr.sureAddr,loadVar,jX f,dR f,h]
def iE (n:Fr)(ρ:Env)(ops:Array Oper)(o:Oper): Prop:=∀a,Sat n ρ a->Region.wanted o (yielded ops a.tmps)=true
theorem X {ops:Array Oper}{o:Oper}(h:o.guard=none): iE n ρ ops o:=λa _=>by simp[Region.wanted,h]
theorem D5 {ops:Array Oper}{o:Oper}{j e:Nat}{want b:Bool}(f:o.guard=some (j,want))(h:(ops[j]?).bind (·.dst)=some e)(i:ρ.get e=some (.bool b))(c:b=want): iE n ρ ops o:=λa hs=>by
 rw[yN hs f h i,c]
 simp
def gR (Γ Γ':Ctx)(w:World): Prop:=∀b∈Γ'.ae,b∈Γ.ae\/w.heap.size<=b
theorem gR.refl (Γ:Ctx)(w:World): gR Γ Γ w:=λ_ a=>.inl a
theorem gR.cons {f:Fact}{w:World}(h:∀b∈f.ae,w.heap.size<=b): gR Γ (f::Γ) w:=λb a=>by
 simp only[Ctx.ae,List.flatMap_cons,List.mem_append]at a
 rcases a with a|a
 ·exact .inr (h b a)
 ·exact .inl a
theorem gR.set {f f':Fact}{i:Nat}{w:World}(hi:Γ[i]?=some f)(h:∀b∈f'.ae,b∈f.ae\/w.heap.size<=b): gR Γ (Γ.set i f') w:=λb a=>by
 obtain⟨e,j,e1,e2⟩:=nq (f':=f') hi
 rw[e2]at a
 rw[e1]
 simp only[List.append_assoc,List.mem_append]at a ⊢
 rcases a with a|a|a
 ·exact .inl (.inl a)
 ·rcases h b a with c|c
  ·exact .inl (.inr (.inl c))
  ·exact .inr c
 ·exact .inl (.inr (.inr a))
theorem gR.plain {f:Fact}{w:World}(h:f.ae=[]): gR Γ (f::Γ) w:=.cons (by simp[h])
def St (P:Program)(n:Fr)(A:Nat->Prop)(w0:World)(ρ:Env)(Γ:Ctx)(o:Oper){G:Type}(v:G->Value)(Γ':G->Ctx)(T:List Nat): Prop:=
 ∀a w,Sat n ρ a->SH A w0 w Γ->∃x w',(execOp a.eval o).run P w=.ok (.value (v x)) w'/\SH A w0 w' (Γ' x)/\Grow w w' T/\gR Γ (Γ' x) w
theorem nT {ops:Array Oper}{rest:List Oper}{d:Nat}{op:Op}{G:Type}{v:G->Value}{Γ':G->Ctx}(hw:iE n ρ ops ⟨some d,op,ty,pos,after,g⟩)(hd:Nat.blt d n.n=true){T:List Nat}(e:St P n A w0 ρ Γ ⟨some d,op,ty,pos,after,g⟩ v Γ' T)(h:∀x,JL P n A w0 ops rest Q ((d,v x)::ρ) (Γ' x) E): JL P n A w0 ops (⟨some d,op,ty,pos,after,g⟩::rest) Q ρ Γ E:=by
 intro r hr a w hs f
 refine wpList_step λK i=>?_
 rw[hw a hs]
 simp only[if_true]
 obtain⟨x,w',b,c,_⟩:=e a w hs f
 unfold Oper.wp
 rw[b,Oper.upon_value]
 exact i _ _ (h x r hr _ _ (hs.put (by simpa[Nat.blt_eq]using hd)) c)
def Sk (P:Program)(n:Fr)(A:Nat->Prop)(w0:World)(ρ:Env)(Γ:Ctx)(o:Oper)(Γ':Ctx)(T:List Nat): Prop:=
 ∀a w,Sat n ρ a->SH A w0 w Γ->∃w',(execOp a.eval o).run P w=.ok .skip w'/\SH A w0 w' Γ'/\Grow w w' T/\gR Γ Γ' w
theorem Qm {ops:Array Oper}{rest:List Oper}{op:Op}(hw:iE n ρ ops ⟨none,op,ty,pos,after,g⟩){T:List Nat}(e:Sk P n A w0 ρ Γ ⟨none,op,ty,pos,after,g⟩ Γ' T)(h:JL P n A w0 ops rest Q ρ Γ' E): JL P n A w0 ops (⟨none,op,ty,pos,after,g⟩::rest) Q ρ Γ E:=by
 intro r hr a w hs f
 refine wpList_step λK i=>?_
 rw[hw a hs]
 simp only[if_true]
 obtain⟨w',b,c,_⟩:=e a w hs f
 unfold Oper.wp
 rw[b,Oper.upon_skip]
 exact i _ _ (h r hr _ _ hs c)
def idx {α:Type}(xs:List α)(i:Int): Option α:=if i<0 then none else xs[i.toNat]?
theorem cU {α:Type}[ar α]{x q:Operand}{t e:TypeId}{k:IntKind}{b:Bool}{v:Value}{xs:List α}{j:Int}{y:α}(i:Nat)(z:P.underlying t=some (.slice e))(he:cg P e=some (ar.sz α,b))(B:ev ρ x=some v)(h:ev ρ q=some (.int k j))(hi:Γ[i]?=some (.rd v xs))(f:idx xs j=some y):
  St P n A w0 ρ Γ ⟨d,.indexAddr t x q,ty,pos,after,g⟩ (λp:Value=>p) (λp=>.pt p y::Γ) []:=by
 intro a w hs r
 have hr:=Rd.sl (r.get i hi)
 unfold idx at f
 split at f
 ·simp at f
 rename_i L
 have l:j.toNat<xs.length:=(List.getElem?_eq_some_iff.1 f).1
 rcases hr with⟨rfl,_⟩|⟨s,off,cap,cells,rfl,C,D,M,N,F,H⟩
 ·simp at l
 obtain⟨c,I,m,o⟩:=dT.get xs cells j.toNat y H f
 refine⟨.pointer (some ⟨s,off+j.toNat*ar.sz α,none⟩),w,?_,?_,Grow.refl w _,.plain rfl⟩
 ·have J:0<=j/\j<(xs.length:Int):=⟨by omega,by omega⟩
  simp[execOp,hs.eval B,hs.eval h,Instr.indexAt,asIntOf,run_underlying z,J,dR he,Addr.add_lit]
 ·refine r.cons (Grow.refl w []) (by simp[Fact.ae]) (by simp[Fact.ae]) ?_
  refine⟨s,_,c,rfl,by simpa[Ctx.ae,Fact.ae]using C,D,λK u hu=>?_,by simpa[Ctx.ae,Fact.ae]using m⟩
  rw[Nat.add_assoc]
  exact F _ _ (o K u hu)
theorem JX {α:Type}[ar α]{x:Operand}{t:TypeId}{p:Value}{y:α}(i:Nat)(f:cg P t=some (ar.sz α,ar.agg α))(k:ev ρ x=some p)(hi:Γ[i]?=some (.pt p y)):
  St P n A w0 ρ Γ ⟨d,.load t x,ty,pos,after,g⟩ (λv:Value=>v) (λv=>.rd v y::Γ) []:=by
 intro a w hs l
 obtain⟨b,off,cs,rfl,r,s,m,o⟩:=l.get i hi
 have hl:=ar.len o
 refine⟨ar.val α cs,w,?_,l.oa ⟨cs,rfl,o⟩,Grow.refl w _,.plain rfl⟩
 cases e:ar.agg α with
 |true=>
  rw[e]at f
  have h:=run_loadCells_list (P:=P) w ⟨b,off,none⟩ cs (λj v q=>by rw[Addr.add_lit];exact m j v q)
  rw[hl]at h
  simp[execOp,hs.eval k,Instr.loadAt,Instr.sureAddr,loadVar,jX f,dR f,h,ar.val,e]
 |false=>
  rw[e,ar.single e]at f
  rw[ar.single e]at hl
  match cs,hl with
  |[c],_=>
   have h:=m 0 c rfl
   simp at h
   simp[execOp,hs.eval k,Instr.loadAt,Instr.sureAddr,loadVar,jX f,run_load,h,ar.val,e]
theorem B8 (P:Program)(w:World)(t:TypeId)(v:Value): (newVar t v).run P w=.ok ⟨w.heap.size,0,none⟩ (w.alloc (.cells v.cells t)):=rfl
theorem Pg {x:Operand}{t:TypeId}{v:Value}{cs:List Value}(c:ev ρ x=some v)(e:v.cells=cs.toArray):
  St P n A w0 ρ Γ ⟨d,.box t x,ty,pos,after,g⟩ (λb:Nat=>.pointer (some ⟨b,0,none⟩)) (λb=>.bx b t cs::Γ) []:=by
 intro a w hs f
 refine⟨w.heap.size,w.alloc (.cells cs.toArray t),?_,f.box,Grow.alloc w _ _,.cons (by simp[Fact.ae])⟩
 simp[execOp,hs.eval c,Instr.box,B8,e]
theorem rU {t:TypeId}{z:Value}{cs:List Value}(c:((P.info? t).bind (·.zero))=some z)(e:z.cells=cs.toArray):
  St P n A w0 ρ Γ ⟨d,.alloc t,ty,pos,after,g⟩ (λb:Nat=>.pointer (some ⟨b,0,none⟩)) (λb=>.bx b t cs::Γ) []:=by
 intro a w hs f
 refine⟨w.heap.size,w.alloc (.cells cs.toArray t),?_,f.box,Grow.alloc w _ _,.cons (by simp[Fact.ae])⟩
 obtain⟨i,hi,c⟩:=Option.bind_eq_some_iff.1 c
 simp[execOp,Instr.alloc,zeroValue,typeInfo,hi,c,B8,e]
theorem HF {x y:Operand}{t o:TypeId}{b off s:Nat}{D:Bool}{cs j:List Value}{v:Value}{vs:List Value}(i:Nat)(F:cg P t=some (s,D))(H:ev ρ x=some (.pointer (some ⟨b,off,none⟩)))(I:ev ρ y=some v)(q:v.cells=vs.toArray)(hlen:vs.length=s)(f:vs.all (·.oneCell')=true)(hi:Γ[i]?=some (.bx b o cs))(h:Nat.ble (off+vs.length) cs.length=true)(r:cs.take off++vs++cs.drop (off+vs.length)=j)(l:Γ.set i (.bx b o j)=Γ'):
  Sk P n A w0 ρ Γ ⟨d,.store t x y,ty,pos,after,g⟩ Γ' [b]:=by
 intro a w hs C
 have z:w.heap[b]?=some (.cells cs.toArray o (0,0)):=C.get i hi
 have m:=run_storeCells_at P b off o vs 0 cs.toArray w z (by simp[Nat.ble_eq]at h;simpa using h) (λu hu=>by simp at f;exact f u hu)
 simp only[Nat.add_zero,r]at m
 refine⟨w.setRow b j.toArray,?_,?_,⟨rfl,rfl,rfl,by simp,λk _ B=>setRow_other w b k _ (λe=>B (by simp[e]))⟩,l▸.set hi (λc p=>.inl p)⟩
 ·simp[execOp,hs.eval H,hs.eval I,Instr.storeAt,Instr.sureAddr,storeVar,dR F,q,hlen,m]
 ·subst l
  refine C.set hi ⟨rfl,rfl,rfl,by simp,λk _ B=>setRow_other w b k _ (λe=>B (by simp[Fact.ae,e]))⟩ (by simp[Fact.ae]) (λc p=>?_) ?_
  ·simp[Fact.ae]at p
   subst p
   exact⟨.inl (by simp[Fact.ae]),by simpa using mj z⟩
  ·exact setRow_heap w b _ _ _ _ z
end
end Go.Tc
namespace Go.Tc
open Go Go.RowKit
section
variable {A:Nat->Prop}{w0 w w':World}{Γ Γ' Δ:Ctx}
theorem SH.rd {α:Type}[ar α]{v:Value}{x:α}(h:SH A w0 w Γ)(i:Nat)(hi:Γ[i]?=some (.rd v x)): Rd (λk=>A k\/k∈Γ.ae) w v x:=h.get i hi
theorem Rd.D7 {α:Type}[ar α]{A a:Nat->Prop}{w:World}{v:Value}{x:α}(h:Rd A w v x)(b:∀k,a k->A k): Rd a w v x:=h.frame λk _ c=>⟨rfl,λe=>c (b k e)⟩
def cw:Nat->Prop:=λ_=>False
theorem SH.a7 {α:Type}[ar α]{v:Value}{x:α}(h:SH A w0 w Γ)(i:Nat)(hi:Γ[i]?=some (.rd v x)): Rd cw w v x:=(h.rd i hi).D7 λ_ a=>a.elim
theorem dT.D7 {α:Type}[ar α]{A a:Nat->Prop}{w:World}{cs:List Value}{xs:List α}(h:dT A w cs xs)(b:∀k,a k->A k): dT a w cs xs:=dT.frame (λk _ c=>⟨rfl,λe=>c (b k e)⟩) xs cs h
theorem Ow.QF {α:Type}[ar α]{A i:Nat->Prop}{e:TypeId}{v:Value}{xs:List α}(h:Ow A w e v xs)(p:∀k,i k->A k)(q:∀b,v.ownBlock=some b->¬i b): tG i w v xs:=by
 obtain⟨cells,⟨hl,c⟩,hr⟩:=h
 rcases c with⟨rfl,r⟩|⟨g,cap,cur,rfl,_,o,l,m,s,a⟩
 ·have t:xs=[]:=List.eq_nil_of_length_eq_zero r
  subst t
  exact tG.nil
 ·refine .inr ⟨g,0,cap,cells,rfl,q g rfl,mj o,l,m,λj u f=>?_,hr.D7 p⟩
  rw[<- a,List.getElem?_take]at f
  split at f
  ·simpa[World.cell?,o]using f
  ·simp at f
theorem SH.bV {α:Type}[ar α]{e:TypeId}{v:Value}{xs:List α}(h:SH A w0 w Γ)(i:Nat)(hi:Γ[i]?=some (.ow e v xs)): Rd cw w v xs:=
 .zT (Ow.QF (h.get i hi) (λ_ a=>a.elim) (λ_ _ a=>a.elim))
theorem SH.freeze {α:Type}[ar α]{e:TypeId}{v:Value}{xs:List α}(h:SH A w0 w Γ)(i:Nat)(hi:Γ[i]?=some (.ow e v xs)): SH A w0 w (Γ.set i (.rd v xs)):=by
 refine h.set hi (Grow.refl w _) (by simp[Fact.ae]) (by simp[Fact.ae]) ?_
 obtain⟨j,l,e1,e2⟩:=nq (f':=.rd v xs) hi
 have c:=h.nd
 rw[e1]at c
 simp only[Fact.ae,List.append_nil]at e1 e2 c
 refine .zT (Ow.QF (h.get i hi) ?_ ?_)
 ·rintro k (a|a)
  ·exact .inl a
  ·right;rw[e2]at a;rw[e1]
   rcases List.mem_append.1 a with a|a<;>simp[a]
 ·rintro b f (a|a)
  ·have m:=h.av b a
   have o:=(h.ge b (by rw[e1];simp[f])).1
   omega
  ·rw[e2]at a
   simp only[List.append_assoc,List.nodup_append]at c
   rcases List.mem_append.1 a with a|a
   ·exact c.2.2 b a b (by simp[f]) rfl
   ·exact c.2.1.2.2 b (by simp[f]) b a rfl
theorem SH.iV {α:Type}[ar α](e:TypeId)(h:SH A w0 w Γ): SH A w0 w (.ow e (.slice none 0 0) ([]:List α)::Γ):=
 h.cons (Grow.refl w []) (by simp[Fact.ae,Value.ownBlock]) (by simp[Fact.ae,Value.ownBlock]) ⟨[],World.ownsRow_nil w 0 e _,rfl⟩
theorem Fact.PL {A:Nat->Prop}{B:Nat}{w:World}{f:Fact}(h:f.holds A B w): ∀b∈f.cb,b<w.heap.size/\¬A b:=by
 cases f with
 |od e v xs a=>
  exact h.2
 |fL v x a=>
  exact h.2
 |_=>intro b c;simp[Fact.cb]at c
theorem SH.ER (h:SH A w0 w Γ): ∀b∈Γ.cb,b<w.heap.size/\b∉Γ.ae:=by
 intro b c
 obtain⟨f,e,a⟩:=List.mem_flatMap.1 c
 obtain⟨i,j⟩:=Fact.PL (h.all f e) b a
 exact⟨i,λk=>j (.inr k)⟩
def Fact.plain:Fact->Bool
 |@Fact.pa _ _ _ _=>false
 |_=>true
theorem SH.join (h:SH A w0 w Γ)(k:SH (λk=>A k\/k∈Γ.ae) w w' Δ)(y:Δ.all Fact.plain=true): SH A w0 w' (Δ++Γ):=by
 have r:Ctx.ae (Δ++Γ)=Δ.ae++Γ.ae:=by simp[Ctx.ae]
 have z:w.heap.size<=w'.heap.size:=k.below.size
 have q:Grow w w' []:=Grow.om k.below []
 have u:=h.grow q
 have v:Ctx.cb (Δ++Γ)=Δ.cb++Γ.cb:=by simp[Ctx.cb]
 refine⟨u.below,h.av,?_,?_,?_,?_,?_⟩
 rotate_left 2
 ·rw[v,List.nodup_append]
  refine⟨k.tu,h.tu,λa m b c e=>?_⟩
  subst e
  have B:=k.uS a m
  have C:=(h.ER a c).1
  omega
 ·intro b c
  rw[v]at c
  rcases List.mem_append.1 c with c|c
  ·exact Nat.le_trans h.lt (k.uS b c)
  ·exact h.uS b c
 rotate_right 2
 ·rw[r,List.nodup_append]
  refine⟨k.nd,h.nd,λa m b c e=>?_⟩
  subst e
  have B:=(k.ge a m).1
  have C:=(h.ge a c).2
  omega
 ·intro b c
  rw[r]at c
  rcases List.mem_append.1 c with c|c
  ·exact⟨Nat.le_trans h.lt (k.ge b c).1,(k.ge b c).2⟩
  ·exact u.ge b c
 ·intro f o
  rcases List.mem_append.1 o with o|o
  ·have D:=k.all f o
   have s:=List.all_eq_true.1 y f o
   have t:f.holds (λk=>A k\/k∈Ctx.ae (Δ++Γ)) w.heap.size w':=by
    refine Fact.frame (Nat.le_refl _) D (λ_ _=>rfl) (λ_ _=>rfl) (λj _ m=>⟨rfl,?_⟩)
    rintro(l|l)
    ·exact m (.inl (.inl l))
    ·rw[r]at l
     rcases List.mem_append.1 l with l|l
     ·exact m (.inr l)
     ·exact m (.inl (.inr l))
   cases f with
   |pa p x=>simp[Fact.plain]at s
   |_=>exact t
  ·refine Fact.frame q.size (h.all f o) (λb c=>q.block b (h.ge b (List.mem_flatMap.2 ⟨f,o,c⟩)).2 (by simp)) (λj l=>q.block j (Nat.lt_of_lt_of_le l h.lt) (by simp)) (λj l m=>⟨q.block j l (by simp),?_⟩)
   rintro(i|i)
   ·exact m (.inl i)
   ·rw[r]at i
    rcases List.mem_append.1 i with i|i
    ·have:=(k.ge j i).1;omega
    ·exact m (.inr i)
theorem SH.Qw (h:SH A w0 w Γ)(k:SH cw w w' []): SH A w0 w' Γ:=h.grow (Grow.om k.below [])
theorem SH.QR (h:SH A w0 w Γ): ∀k,(A k\/k∈Γ.ae)->k<w.heap.size:=by
 rintro k (a|a)
 ·exact Nat.lt_of_lt_of_le (h.av k a) h.lt
 ·exact(h.ge k a).2
theorem SH.start (a:∀k,A k->k<w.heap.size): SH A w w []:=⟨Below.refl _ _,a,by simp[Ctx.ae],by simp[Ctx.ae],by simp[Ctx.cb],by simp[Ctx.cb],by simp⟩
theorem SH.Mf {α:Type}[ar α]{p:Value}{x:α}(h:SH A w w Γ)(a:pF (λk=>A k\/k∈Γ.ae) w.heap.size w p x): SH A w w (.pa p x::Γ):=
 h.cons (Grow.refl w []) (by simp[Fact.ae]) (by simp[Fact.ae]) (by simpa[Fact.holds,Ctx.ae,Fact.ae]using a)
end
section
variable {R:Type}{P:Program}{n:Fr}{A:Nat->Prop}{w0:World}{Q:R->Exit->Act->World->Prop}{ρ ρ':Env}{Γ Γ':Ctx}{E:Option R}
variable {d:Option Nat}{ty:TypeId}{pos:String}{after:Array Edge}{g:Option (Nat×Bool)}
def rp (ρ:Env): List Operand->Option (List Value)
 |[]=>some []
 |x::r=>match ev ρ x,rp ρ r with
  |some v,some vs=>some (v::vs)
  |_,_=>none
theorem Sat.wv {a:Act}(h:Sat n ρ a): ∀ {l:List Operand} {vs:List Value},rp ρ l=some vs->l.map a.eval=vs
 |[],vs,b=>by simp[rp]at b;simp[b]
 |x::r,vs,b=>by
  simp only[rp]at b
  split at b
  ·rename_i v us c e
   simp at b
   subst b
   simp[h.eval c,Sat.wv h e]
  ·simp at b
def cy (P:Program)(f:FuncId)(vs:List Value)(A:Nat->Prop)(w:World){G:Type}(v:G->Value)(fs:G->Ctx): Prop:=
 Calls P f vs.toArray w λe w'=>∃x,e=.returned (v x)/\SH A w w' (fs x)
def Ca (P:Program)(A:Nat->Prop)(w0:World)(Γ:Ctx)(f:FuncId)(vs:List Value){G:Type}(v:G->Value)(Γ':G->Ctx): Prop:=
 ∀w,SH A w0 w Γ->Calls P f vs.toArray w λe w'=>∃x,e=.returned (v x)/\SH A w0 w' (Γ' x)/\Grow w w' []/\gR Γ (Γ' x) w
theorem Qc {f:FuncId}{vs:List Value}{G:Type}{v:G->Value}{fs:G->Ctx}(i:∀x,(fs x).all Fact.plain=true)(h:∀w,SH A w0 w Γ->cy P f vs (λk=>A k\/k∈Γ.ae) w v fs): Ca P A w0 Γ f vs v (λx=>fs x++Γ):=
 λw e=>(h w e).mono λ_ _ ⟨x,he,c⟩=>⟨x,he,e.join c (i x),Grow.om c.below [],λb a=>by
  simp only[Ctx.ae,List.flatMap_append,List.mem_append]at a
  rcases a with a|a
  ·exact .inr (c.ge b a).1
  ·exact .inl a⟩
theorem aX {f:FuncId}{vs:List Value}{G:Type}{v:G->Value}(h:∀w,SH A w0 w Γ->cy P f vs cw w v (λ_=>[])): Ca P A w0 Γ f vs v (λ_=>Γ):=
 λw a=>(h w a).mono λ_ _ ⟨x,he,b⟩=>⟨x,he,a.Qw b,Grow.om b.below [],.refl _ _⟩
theorem dx {ops:Array Oper}{rest:List Oper}{d:Nat}{f:FuncId}{args:List Operand}{b:Array TypeId}{vs:List Value}{G:Type}{v:G->Value}{Γ':G->Ctx}(hw:iE n ρ ops ⟨some d,.call ⟨.value (.func f),args.toArray,b⟩,ty,pos,after,g⟩)(hd:Nat.blt d n.n=true)(k:∀args w,(callFunc f args).run P w=.ok (.enter f args) w)(c:rp ρ args=some vs)(l:Ca P A w0 Γ f vs v Γ')(h:∀x,JL P n A w0 ops rest Q ((d,v x)::ρ) (Γ' x) E): JL P n A w0 ops (⟨some d,.call ⟨.value (.func f),args.toArray,b⟩,ty,pos,after,g⟩::rest) Q ρ Γ E:=by
 intro r hr a w hs m
 refine wpList_step λK o=>?_
 rw[hw a hs]
 simp only[if_true]
 have i:(execOp a.eval ⟨some d,.call ⟨.value (.func f),args.toArray,b⟩,ty,pos,after,g⟩).run P w=.ok (.enter f vs.toArray) w:=by
  simp[execOp,resolve,Act.eval,Deferred.ofValue,invoke,hs.wv c,k]
 unfold Oper.wp
 rw[i,Oper.upon_enter]
 refine(l w m).mono ?_
 rintro e w' ⟨x,rfl,j,_⟩
 exact o _ _ (h x r hr _ _ (hs.put (by simpa[Nat.blt_eq]using hd)) j)
def tA {R:Type}(A:Nat->Prop)(w0:World){G:Type}(v:R->G->Value)(fs:R->G->Ctx): R->Ending->World->Prop:=
 λr e w'=>∃x,e=.returned (v r x)/\SH A w0 w' (fs r x)
def enum:Nat->List Value->Env
 |_,[]=>[]
 |k,v::r=>(k,v)::enum (k+1) r
theorem tX:∀(vs:List Value) (k t:Nat) (v:Value),(enum k vs).get t=some v->k<=t/\vs[t-k]?=some v
 |[],k,t,v,h=>by simp[enum,Env.get]at h
 |u::r,k,t,v,h=>by
  simp only[enum,Env.get]at h
  by_cases e:k=t
  ·subst e
   simp at h
   simp[h]
  ·rw[uh e]at h
   obtain⟨b,a⟩:=tX r (k+1) t v (by simpa using h)
   refine⟨by omega,?_⟩
   rw[show t-k=(t-(k+1))+1 by omega]
   simpa using a
theorem LD {k:Nat}{f:FuncId}{fn:Func}{body:Code}{vs:List Value}{G:Type}{v:R->G->Value}{fs:R->G->Ctx}{r:R}{w:World}(j:P.funcs[f]?=some fn)(l:fn.body=some body)(m:fn.ntmps=k)(hl:Nat.ble vs.length k=true)(a:SH A w w Γ)(b:enum 0 vs=ρ)(h:J P ⟨k,[],none⟩ A w body (rO P fn (tA A w v fs)) ρ Γ E)(o:E=some r): cy P f vs A w (v r) (fs r):=by
 refine vJ j l ?_
 refine h r o _ w ⟨?_,rfl,?_⟩ a
 ·simp[Nat.ble_eq]at hl
  simp[m];omega
 ·intro t u i
  rw[<- b]at i
  obtain⟨_,c⟩:=tX vs 0 t u i
  simp at c
  have e:t<vs.length:=(List.getElem?_eq_some_iff.1 c).1
  simp[Nat.ble_eq]at hl
  refine⟨?_,show t<k by omega⟩
  simp[Array.getD_eq_getD_getElem?,Array.getElem?_append_left (show t<vs.toArray.size by simpa using e),c]
def Gb (tmps:Array Value): ResultVar->Sem Value
 |.tmp t=>pure (tmps.getD t undef)
 |.cell a t=>do loadVar t (<- asAddr (tmps.getD a undef))
theorem jv (fn:Func)(tmps:Array Value): results fn tmps=(do let vs <- fn.results.mapM (Gb tmps);pure (if h:vs.size=1 then vs[0]else .tuple vs)):=by
 unfold results
 congr 1
def Rv (P:Program)(n:Fr)(A:Nat->Prop)(w0:World)(ρ:Env)(Γ:Ctx)(b:ResultVar)(u:Value): Prop:=
 ∀a w,Sat n ρ a->SH A w0 w Γ->(Gb a.tmps b).run P w=.ok u w
theorem f {t:Nat}{u:Value}(h:ρ.get t=some u): Rv P n A w0 ρ Γ (.tmp t) u:=λa w hs _=>by
 have:=(hs.get t u h).1
 simp only[Gb,this]
 rfl
theorem aD {p:Nat}{t f:TypeId}{b s:Nat}{cs:List Value}(i:Nat)(h:ρ.get p=some (.pointer (some ⟨b,0,none⟩)))(hi:Γ[i]?=some (.bx b f cs))(c:cg P t=some (s,true))(hl:cs.length=s): Rv P n A w0 ρ Γ (.cell p t) (.agg cs.toArray):=λa w hs k=>by
 have l:=(hs.get p _ h).1
 have m:=k.get i hi
 have e:=run_loadCells_list (P:=P) w ⟨b,0,none⟩ cs (λj v o=>by rw[Addr.add_lit];exact pY m (by simpa using o))
 rw[hl]at e
 simp only[Gb,l]
 simp[asAddr,loadVar,jX c,dR c,e]
theorem Lk {fn:Func}{e:ResultVar}{u:Value}{G:Type}{v:R->G->Value}{fs:R->G->Ctx}{r:R}(b:fn.results=#[e])(hu:Rv P n A w0 ρ Γ e u)(h:∀w,SH A w0 w Γ->∃x,u=v r x/\SH A w0 w (fs r x))(c:n.ds=[]:=by rfl): N n A w0 (rO P fn (tA A w0 v fs)) .ret ρ Γ (some r):=by
 rintro j hr a w hs f
 cases hr
 refine nG (hs.defers.trans c) ⟨u,?_,?_⟩
 ·rw[jv,b]
  simp[hu a w hs f]
 ·obtain⟨x,rfl,i⟩:=h w f
  exact⟨x,rfl,i⟩
theorem Lq {fn:Func}{b c:ResultVar}{f i:Value}{G:Type}{v:R->G->Value}{fs:R->G->Ctx}{r:R}(e:fn.results=#[b,c])(j:Rv P n A w0 ρ Γ b f)(k:Rv P n A w0 ρ Γ c i)(h:∀w,SH A w0 w Γ->∃x,.tuple #[f,i]=v r x/\SH A w0 w (fs r x))(l:n.ds=[]:=by rfl): N n A w0 (rO P fn (tA A w0 v fs)) .ret ρ Γ (some r):=by
 rintro q hr a w hs m
 cases hr
 refine nG (hs.defers.trans l) ⟨.tuple #[f,i],?_,?_⟩
 ·rw[jv,e]
  simp[j a w hs m,k a w hs m]
 ·obtain⟨x,o,p⟩:=h w m
  exact⟨x,by rw[o],p⟩
theorem Ph {fn:Func}{b c e:ResultVar}{j k l:Value}{G:Type}{v:R->G->Value}{fs:R->G->Ctx}{r:R}(f:fn.results=#[b,c,e])(m:Rv P n A w0 ρ Γ b j)(o:Rv P n A w0 ρ Γ c k)(p:Rv P n A w0 ρ Γ e l)(h:∀w,SH A w0 w Γ->∃x,.tuple #[j,k,l]=v r x/\SH A w0 w (fs r x))(q:n.ds=[]:=by rfl): N n A w0 (rO P fn (tA A w0 v fs)) .ret ρ Γ (some r):=by
 rintro u hr a w hs i
 cases hr
 refine nG (hs.defers.trans q) ⟨.tuple #[j,k,l],?_,?_⟩
 ·rw[jv,f]
  simp[m a w hs i,o a w hs i,p a w hs i]
 ·obtain⟨x,s,t⟩:=h w i
  exact⟨x,by rw[s],t⟩
end
end Go.Tc
namespace Go.Tc
open Go Go.RowKit
section
variable {R:Type}{P:Program}{n:Fr}{A:Nat->Prop}{w0:World}{Q:R->Exit->Act->World->Prop}{ρ ρ':Env}{Γ Γ':Ctx}{E:Option R}
variable {d:Option Nat}{ty:TypeId}{pos:String}{after:Array Edge}{g:Option (Nat×Bool)}
def Ek {α:Type}[ar α](A:Nat->Prop)(w:World): List Value->List α->Prop
 |[],[]=>True
 |v::vs,x::xs=>Rd A w v x/\Ek A w vs xs
 |_,_=>False
theorem Rd.cells {α:Type}[ar α]{A:Nat->Prop}{w:World}{v:Value}{x:α}(h:Rd A w v x): ∃cs,v.cells=cs.toArray/\ar.lG A w cs x:=by
 obtain⟨cs,rfl,hr⟩:=h
 refine⟨cs,?_,hr⟩
 cases a:ar.agg α with
 |true=>simp[ar.val,a,Value.cells]
 |false=>
  have hl:=ar.len hr
  rw[ar.single a]at hl
  match cs,hl with
  |[c],_=>
   have b:=ar.one hr c (by simp)
   simp[ar.val,a]
   cases c<;>simp_all[Value.cells,Value.oneCell']
theorem Ek.flat {α:Type}[ar α]{A:Nat->Prop}{w:World}: ∀(vs:List Value) (xs:List α),Ek A w vs xs->vs.length=xs.length/\(∀v∈vs,v.cells.size=ar.sz α)/\dT A w (vs.flatMap (·.cells.toList)) xs
 |[],[],_=>by simp[dT]
 |v::vs,x::xs,⟨b,c⟩=>by
  obtain⟨cs,a,hr⟩:=b.cells
  obtain⟨e1,e2,e3⟩:=Ek.flat vs xs c
  refine⟨by simp[e1],?_,cs,vs.flatMap (·.cells.toList),by simp[a],hr,e3⟩
  intro u hu
  rcases List.mem_cons.1 hu with rfl|hu
  ·simp[a,ar.len hr]
  ·exact e2 u hu
 |[],_::_,h=>h.elim
 |_::_,[],h=>h.elim
def wj:Nat->List Value->List (Nat×Value)
 |_,[]=>[]
 |k,v::r=>(k,v)::wj (k+1) r
theorem F7 (cs:List Value): ∀(pre post:List Value) (k:Nat),k=pre.length->cs.length<=post.length->
  (cs.toArray.zipIdx.foldl (λa (c,j)=>a.setIfInBounds (k+j) c) (pre++post).toArray)=(pre++cs++post.drop cs.length).toArray:=by
 have key:∀(cs pre post:List Value) (m k:Nat),k+m=pre.length->cs.length<=post.length->
   ((cs.zipIdx m).foldl (λ(a:Array Value) (p:Value×Nat)=>a.setIfInBounds (k+p.2) p.1) (pre++post).toArray)=(pre++cs++post.drop cs.length).toArray:=by
  intro cs
  induction cs with
  |nil=>intro pre post m k _ _;simp
  |cons c r e=>
   intro pre post m k b hl
   match post,hl with
   |q::post,hl=>
    simp only[List.zipIdx_cons,List.foldl_cons]
    have f:(pre++q::post).toArray.setIfInBounds (k+m) c=((pre++[c])++post).toArray:=by
     rw[b]
     simp
    rw[f,e (pre++[c]) post (m+1) k (by simp;omega) (by simpa using hl)]
    simp
 intro pre post k b hl
 have:=key cs pre post 0 k (by omega) hl
 rw[<- this]
 simp
theorem GK (size:Nat)(c:0<size): ∀(vs:List Value) (k:Nat) (pre post:List Value),pre.length=k*size->post.length=vs.length*size->(∀v∈vs,v.cells.size=size)->
  Instr.fill (λi=>some (i*size,size)) (pre++post).toArray (wj k vs)=some (pre++vs.flatMap (·.cells.toList)).toArray
 |[],k,pre,post,_,a,_=>by
  have:post=[]:=List.eq_nil_of_length_eq_zero (by simpa using a)
  simp[wj,Instr.fill,this]
 |v::vs,k,pre,post,e,a,f=>by
  have b:=f v (by simp)
  simp only[wj,Instr.fill]
  have hlen:size<=post.length:=by rw[a];simp only[List.length_cons,Nat.add_mul];omega
  rw[if_neg (by simp[b];omega)]
  have h:=F7 v.cells.toList pre post (k*size) e.symm (by simpa[b]using hlen)
  simp only[Array.toArray_toList]at h
  rw[h]
  have:=GK size c vs (k+1) (pre++v.cells.toList) (post.drop v.cells.toList.length) (by simp[e,b,Nat.add_mul]) (by simp[a,b,Nat.add_mul]) (λu hu=>f u (by simp[hu]))
  rw[this]
  simp
def Gq (ρ:Env): List (Nat×Operand)->Option (List (Nat×Value))
 |[]=>some []
 |(i,x)::r=>match ev ρ x,Gq ρ r with
  |some v,some vs=>some ((i,v)::vs)
  |_,_=>none
theorem Sat.HN {a:Act}(h:Sat n ρ a): ∀ {l:List (Nat×Operand)} {vs:List (Nat×Value)},Gq ρ l=some vs->l.map (λp=>(p.1,a.eval p.2))=vs
 |[],vs,b=>by simp[Gq]at b;simp[b]
 |(i,x)::r,vs,b=>by
  simp only[Gq]at b
  split at b
  ·rename_i v us c e
   simp at b
   subst b
   simp[h.eval c,Sat.HN h e]
  ·simp at b
def fu (P:Program)(t:TypeId): Option Value:=(P.info? t).bind (·.zero)
theorem xJ {t:TypeId}{z:Value}(h:fu P t=some z)(w:World): (zeroValue t).run P w=.ok z w:=by
 obtain⟨i,hi,a⟩:=Option.bind_eq_some_iff.1 h
 simp[zeroValue,typeInfo,hi,a]
theorem Et {t e:TypeId}{size len:Nat}{o:Bool}{z:Value}{vs:List Value}(w:World)(j:P.underlying t=some (.slice e))(he:cg P e=some (size,o))(p:fu P e=some z)(b:0<size)(hlen:vs.length=len)(q:∀v∈vs,v.cells.size=size)(k:len*size<=16777216):
  (Instr.buildSlice t len (wj 0 vs).toArray).run P w=.ok (.slice (some ⟨w.heap.size,0,none⟩) len len) (w.alloc (.cells (vs.flatMap (·.cells.toList)).toArray e)):=by
 have l:=GK size b vs 0 [] ((List.range (len*size)).map λi=>z.cells[i%z.cells.size]!) (by simp) (by simp[hlen]) q
 simp only[List.nil_append]at l
 have a:¬len*size>2^24:=by omega
 by_cases m:len*size=0
 ·have c:len=0:=by
   rcases Nat.mul_eq_zero.1 m with h|h
   ·exact h
   ·omega
  subst c
  have f:vs=[]:=List.eq_nil_of_length_eq_zero hlen
  subst f
  simp[Instr.buildSlice,run_underlying j,dR he,wj,Instr.fill,newRow,go_sem]
 ·have hr:((Array.range (len*size)).map (z.cells[·%z.cells.size]!))=((List.range (len*size)).map λi=>z.cells[i%z.cells.size]!).toArray:=by
   apply Array.ext'
   simp
  simp only[Instr.buildSlice,Sem.run_bind,run_underlying j,Result.andThen_ok,dR he,a,if_false,m,xJ p,Sem.run_pure,hr,l]
  rfl
theorem zB {α:Type}[ar α]{t e:TypeId}{len:Nat}{m:Bool}{z:Value}{parts:List (Nat×Operand)}{vs:List Value}(xs:List α)(o:P.underlying t=some (.slice e))(he:cg P e=some (ar.sz α,m))(q:fu P e=some z)(f:Gq ρ parts=some (wj 0 vs))(hlen:xs.length=len)(h:Nat.ble (len*ar.sz α) 16777216=true){w:World}(r:Ek (λk=>A k\/k∈Γ.ae) w vs xs)(a:Act)(hs:Sat n ρ a)(s:SH A w0 w Γ):
  ∃(b:Nat) (w':World),(execOp a.eval ⟨d,.buildSlice t len parts.toArray,ty,pos,after,g⟩).run P w=.ok (.value (.slice (some ⟨b,0,none⟩) len len)) w'/\SH A w0 w' (.ow e (.slice (some ⟨b,0,none⟩) len len) xs::Γ)/\Grow w w' []/\gR Γ (.ow e (.slice (some ⟨b,0,none⟩) len len) xs::Γ) w:=by
 obtain⟨u,v,j⟩:=Ek.flat vs xs r
 simp only[Nat.ble_eq]at h
 have i:len<=maxLen:=by
  have:=Nat.le_mul_of_pos_right len (ar.pos (α:=α))
  unfold maxLen;omega
 refine⟨w.heap.size,w.alloc (.cells (vs.flatMap (·.cells.toList)).toArray e),?_,?_,Grow.alloc w _ _,.cons (by simp[Fact.ae,Value.ownBlock])⟩
 ·have x:parts.toArray.map (λp=>(p.1,a.eval p.2))=(wj 0 vs).toArray:=by
   apply Array.ext'
   simp[hs.HN f]
  simp only[execOp,Sem.run_bind]
  have:=Et (P:=P) w o he q ar.pos (by rw[u,hlen]) v h
  rw[x,this]
  rfl
 ·refine s.cons (Grow.alloc w _ []) (by simp[Fact.ae,Value.ownBlock]) (by simp[Fact.ae,Value.ownBlock]) ?_
  refine⟨vs.flatMap (·.cells.toList),?_,?_⟩
  ·have hl:=dT.length _ _ j
   have:=World.ownsRow_lit (base:=0) (e:=e) (size:=ar.sz α) w (vs.flatMap (·.cells.toList)).toArray len (Nat.zero_le _) i (by simp only[List.size_toArray];rw[hl,hlen])
   rw[hlen]
   simpa using this
  ·refine dT.frame ?_ _ _ j
   intro k y l
   refine⟨heap_alloc_old w _ y,?_⟩
   rintro(c|c)
   ·exact l (.inl c)
   ·simp only[Ctx.ae,List.flatMap_cons,Fact.ae,Value.ownBlock,Option.toList_some,List.cons_append,List.nil_append,List.mem_cons]at c
    rcases c with c|c
    ·omega
    ·exact l (.inr c)
theorem Fh {α:Type}[ar α]{t e:TypeId}{len:Nat}{i:Bool}{z:Value}{parts:List (Nat×Operand)}{vs:List Value}(xs:List α)(j:P.underlying t=some (.slice e))(he:cg P e=some (ar.sz α,i))(l:fu P e=some z)(c:Gq ρ parts=some (wj 0 vs))(hlen:xs.length=len)(f:Nat.ble (len*ar.sz α) 16777216=true)(m:∀w,SH A w0 w Γ->Ek (λk=>A k\/k∈Γ.ae) w vs xs):
  St P n A w0 ρ Γ ⟨d,.buildSlice t len parts.toArray,ty,pos,after,g⟩ (λb:Nat=>.slice (some ⟨b,0,none⟩) len len) (λb=>.ow e (.slice (some ⟨b,0,none⟩) len len) xs::Γ) []:=
 λa w hs h=>zB xs j he l c hlen f (m w h) a hs h
def O0:Nat:=1099511627776
def app {α:Type}(xs ys:List α): Option (List α):=if xs.length+ys.length<=O0 then some (xs++ys)else none
theorem Lm {α:Type}{xs ys a:List α}(h:app xs ys=some a): a=xs++ys/\xs.length+ys.length<=O0:=by
 unfold app at h
 split at h
 ·simp at h;exact⟨h.symm,by assumption⟩
 ·simp at h
def rk (P:Program)(t:TypeId): Option Nat:=(P.info? t).map (·.bytes)
def Src {α:Type}[ar α](A:Nat->Prop)(w:World)(u:Value)(ys:List α): Prop:=
 (u=.slice none 0 0/\ys=[])\/∃ad cap cells,u=.slice (some ad) ys.length cap/\(∀j u,cells[j]?=some u->w.cell? (ad.add j)=some u)/\dT A w cells ys
theorem tG.src {α:Type}[ar α]{A:Nat->Prop}{w:World}{u:Value}{ys:List α}(h:tG A w u ys): Src A w u ys:=by
 rcases h with⟨rfl,ad,cap,rfl,a,_⟩|⟨b,off,cap,cells,c,_,_,_,_,e,f⟩
 ·cases ad with
  |none=>exact .inl ⟨by rw[a rfl],rfl⟩
  |some ad=>exact .inr ⟨ad,cap,[],rfl,by simp,rfl⟩
 ·exact .inr ⟨⟨b,off,none⟩,cap,cells,c,λj u i=>by rw[Addr.add_lit];exact e j u i,f⟩
theorem Ow.src {α:Type}[ar α]{A:Nat->Prop}{w:World}{e:TypeId}{u:Value}{ys:List α}(h:Ow A w e u ys): Src A w u ys:=by
 obtain⟨cells,⟨hl,b⟩,hr⟩:=h
 rcases b with⟨rfl,f⟩|⟨g,cap,cur,rfl,_,i,k,l,m,a⟩
 ·exact .inl ⟨rfl,List.eq_nil_of_length_eq_zero f⟩
 ·refine .inr ⟨⟨g,0,none⟩,cap,cells,rfl,λj u c=>?_,hr⟩
  rw[Addr.add_lit,Nat.zero_add]
  rw[<- a,List.getElem?_take]at c
  split at c
  ·simpa[World.cell?,i]using c
  ·simp at c
theorem Gm {w w':World}{t e ty:TypeId}{inf:TypeInfo}{z:Value}{v D:Value}{k:Nat}{cells news:List Value}{ad:Addr}{m c:Nat}(s:P.underlying t=some (.slice e))(h:P.info? e=some inf)(F:inf.zero=some z)(l:w.ownsRow 0 e inf.size v k cells)(o:news.length=m*inf.size)(f:∀j u,news[j]?=some u->w.cell? (ad.add j)=some u)(H:∀u∈news,u.oneCell'=true)(y:k+m<=maxLen)(i:(k+m)*inf.bytes<=140737488355328)(a:(Builtin.append_ #[t,t] ty #[v,.slice (some ad) m c]).run P w=.ok D w'):
  ∀b,D.ownBlock=some b->v.ownBlock=some b\/w.heap.size<=b:=by
 have x:k+m<=9223372036854775807:=by simp only[maxLen]at y;omega
 intro b q
 rcases l.2 with⟨rfl,rfl⟩|⟨g,cap,cur,rfl,I,J,K,L,B,C⟩
 ·by_cases hm:m=0
  ·subst hm
   have M:news=[]:=List.eq_nil_of_length_eq_zero (by simpa using o)
   subst M
   simp[Builtin.append_,run_underlying s,sizeOf,typeInfo,h,Builtin.lenOf,Builtin.firstCells,loadCells,loadCellsFrom]at a
   rw[<- a.1]at q
   simp[Value.ownBlock]at q
  ·have hr:=run_append_nil (P:=P) w t ty e inf z s h F ad m c news o f (by omega) (by omega) (by have q:=i;simp only[Nat.zero_add]at q;omega)
   rw[hr]at a
   cases a
   simp[Value.ownBlock]at q
   omega
 ·by_cases p:k+m<=cap
  ·have r:k*inf.size+news.length<=cur.size:=by rw[o,B,<- Nat.add_mul];exact Nat.mul_le_mul_right _ p
   have hr:=run_append_room (P:=P) w t ty e inf s h g k cap cur J ad m c news o f H p r
   rw[hr]at a
   cases a
   exact .inl q
  ·have holds:∀j u,cells[j]?=some u->w.cell? ((⟨g,0,none⟩:Addr).add j)=some u:=l.cells (g:=g) rfl
   have hr:=run_append_grow (P:=P) w t ty e inf z s h F ⟨g,0,none⟩ k cap cells l.1 holds ad m c news o f (by omega) (by omega) (growslice_fits (by omega) i)
   rw[hr]at a
   cases a
   simp[Value.ownBlock]at q
   omega
theorem SH.append {α:Type}[ar α]{w:World}{t e ty:TypeId}{ag:Bool}{z:Value}{bytes:Nat}{v u:Value}{xs ys U:List α}(i:Nat)(Z:SH A w0 w Γ)(hi:Γ[i]?=some (.ow e v xs))(hy:Src (λk=>A k\/k∈Γ.ae) w u ys)(V:P.underlying t=some (.slice e))(he:cg P e=some (ar.sz α,ag))(hz:fu P e=some z)(W:z.cells.size=ar.sz α)(s:rk P e=some bytes)(D:Nat.ble bytes 128=true)(ha:app xs ys=some U):
  ∃m w',(Builtin.append_ #[t,t] ty #[v,u]).run P w=.ok m w'/\SH A w0 w' (Γ.set i (.ow e m U))/\Grow w w' v.ownBlock.toList/\gR Γ (Γ.set i (.ow e m U)) w:=by
 obtain⟨rfl,x⟩:=Lm ha
 obtain⟨cells,o,hr⟩:=Z.get i hi
 obtain⟨inf,l,F⟩:=Option.bind_eq_some_iff.1 hz
 have y:inf.size=ar.sz α:=by
  have C:=he
  unfold cg at C
  rw[l]at C
  split at C
  ·rename_i i' u' e1 e2
   simp at e1 C
   rw[e1];exact C.1
  ·simp at C
 have H:inf.bytes=bytes:=by simpa[rk,l]using s
 simp only[Nat.ble_eq]at D
 unfold O0 at x
 have p:(xs.length+ys.length)*bytes<=140737488355328:=by have:=Nat.mul_le_mul x D;omega
 have key:∀(news:List Value) (m:Value) (w':World),dT (λk=>A k\/k∈Γ.ae) w news ys->w'.ownsRow 0 e (ar.sz α) m (xs.length+ys.length) (cells++news)->w.grownBy w' v.ownBlock->(∀b,m.ownBlock=some b->v.ownBlock=some b\/w.heap.size<=b)->SH A w0 w' (Γ.set i (.ow e m (xs++ys))):=by
  intro news m w' c j f I
  have J:∀b,m.ownBlock=some b->b<w'.heap.size:=λb s=>(j.lt b s).2
  have K:∀k,k<w.heap.size->¬(A k\/k∈Γ.ae)->w'.heap[k]?=w.heap[k]?/\¬(A k\/k∈Ctx.ae (Γ.set i (.ow e m (xs++ys)))):=by
   intro k L r
   obtain⟨l1,l2,e1,e2⟩:=nq (f':=.ow e m (xs++ys)) hi
   refine⟨f.block k L ?_,?_⟩
   ·intro X
    apply r
    right;rw[e1];simp[Fact.ae,<- X]
   ·rintro(a|a)
    ·exact r (.inl a)
    ·rw[e2]at a
     simp only[Fact.ae,List.append_assoc,List.mem_append,Option.mem_toList]at a
     rcases a with a|a|a
     ·exact r (.inr (by rw[e1];simp[a]))
     ·rcases I k a with h|h
      ·exact r (.inr (by rw[e1];simp[Fact.ae,h]))
      ·omega
     ·exact r (.inr (by rw[e1];simp[a]))
  refine Z.set hi ⟨f.os,f.tape,f.output,f.size,λk L a=>f.block k L (λY=>a (by simp[Fact.ae,<- Y]))⟩ (by cases hv:m.ownBlock<;>simp[Fact.ae,hv]) ?_ ?_
  ·intro b B
   simp only[Fact.ae,Option.mem_toList]at B
   refine⟨?_,J b B⟩
   rcases I b B with h|h
   ·exact .inl (by simp[Fact.ae,h])
   ·exact .inr h
  ·refine⟨cells++news,by rw[List.length_append];exact j,dT.append _ _ _ _ (dT.frame K _ _ hr) (dT.frame K _ _ c)⟩
 rcases hy with⟨rfl,rfl⟩|⟨ad,cap,news,rfl,M,c⟩
 ·have q:=run_append_owned_none (P:=P) (w:=w) 0 t ty e inf (ar.sz α) V l v xs.length cells o
  exact⟨v,w,q,key [] v w rfl (by simpa using o) ⟨rfl,rfl,rfl,Nat.le_refl _,λ_ _ _=>rfl⟩ (λb s=>.inl s),Grow.refl w _,.set hi (λb s=>.inl s)⟩
 ·have N:=dT.length _ _ c
  obtain⟨m,w',q,j,f,_⟩:=run_append_own (P:=P) w 0 t ty e inf z (ar.sz α) bytes V l F y H W ar.pos v xs.length cells o ad ys.length cap news N
   M (dT.one _ _ c) (by unfold maxLen;omega) p (Nat.zero_le _)
  have T:=Gm V l F (by rw[y];exact o) (by rw[y];exact N) M (dT.one _ _ c) (by unfold maxLen;omega) (by rw[H];exact p) q
  exact⟨m,w',q,key news m w' c j f T,⟨f.os,f.tape,f.output,f.size,λk L a=>f.block k L (λY=>a (by simp[<- Y]))⟩,.set hi (λb s=>by
   simp only[Fact.ae,Option.mem_toList]at s ⊢
   exact T b s)⟩
theorem Kr {α:Type}[ar α]{x y:Operand}{t e:TypeId}{r:Bool}{z:Value}{bytes:Nat}{v u:Value}{xs ys p:List α}(i:Nat)(s:P.underlying t=some (.slice e))(he:cg P e=some (ar.sz α,r))(B:fu P e=some z)(f:z.cells.size=ar.sz α)(C:rk P e=some bytes)(h:Nat.ble bytes 128=true)(D:ev ρ x=some v)(F:ev ρ y=some u)(hi:Γ[i]?=some (.ow e v xs))(j:∀w,SH A w0 w Γ->Src (λk=>A k\/k∈Γ.ae) w u ys)(H:app xs ys=some p):
  St P n A w0 ρ Γ ⟨d,.call ⟨.builtin .append,#[x,y],#[t,t]⟩,ty,pos,after,g⟩ (λb:Value=>b) (λb=>Γ.set i (.ow e b p)) v.ownBlock.toList:=by
 intro a w hs q
 obtain⟨b,w',c,l,m,o⟩:=SH.append (P:=P) (ty:=ty) i q hi (j w q) s he B f C h H
 refine⟨b,w',?_,l,m,o⟩
 simp[execOp,resolve,invoke,builtin,hs.eval D,hs.eval F,c]
theorem SH.Cu {α:Type}[ar α]{w:World}{u:Value}{ys:List α}(h:SH A w0 w Γ)(j:Nat)(a:Γ[j]?=some (.rd u ys)): Src (λk=>A k\/k∈Γ.ae) w u ys:=(Rd.sl (h.get j a)).src
theorem SH.bg {α:Type}[ar α]{w:World}{e:TypeId}{u:Value}{ys:List α}(h:SH A w0 w Γ)(j:Nat)(a:Γ[j]?=some (.ow e u ys)): Src (λk=>A k\/k∈Γ.ae) w u ys:=Ow.src (h.get j a)
def Fg {α:Type}(k:Int)(z:α): Option (List α):=if 0<=k/\k<=1099511627776 then some (List.replicate k.toNat z)else none
theorem L9 {α:Type}{k:Int}{z:α}{xs:List α}(h:Fg k z=some xs): 0<=k/\k<=1099511627776/\xs=List.replicate k.toNat z:=by
 unfold Fg at h
 split at h
 ·rename_i a;simp at h;exact⟨a.1,a.2,h.symm⟩
 ·simp at h
theorem zy {α:Type}[ar α]{A:Nat->Prop}{w:World}{b:List Value}{z:α}(e:ar.lG A w b z): ∀k,dT A w (madeCells b.toArray (k*ar.sz α)).toList (List.replicate k z):=by
 have hl:=ar.len e
 have key:∀k,(madeCells b.toArray (k*ar.sz α)).toList=(List.replicate k b).flatten:=by
  intro k
  apply List.ext_getElem?
  intro j
  have h:=ar.pos (α:=α)
  induction k generalizing j with
  |zero=>simp[madeCells]
  |succ k c=>
   rw[List.replicate_succ,List.flatten_cons]
   by_cases f:j<ar.sz α
   ·rw[List.getElem?_append_left (by omega)]
    have:j<(k+1)*ar.sz α:=by rw[Nat.add_mul];omega
    simp[madeCells,this,hl,Nat.mod_eq_of_lt f,f]
   ·rw[List.getElem?_append_right (by omega),<- c]
    by_cases a:j<(k+1)*ar.sz α
    ·have:j-ar.sz α<k*ar.sz α:=by rw[Nat.add_mul]at a;omega
     have hm:j%ar.sz α=(j-ar.sz α)%ar.sz α:=by
      conv=>lhs;rw[show j=(j-ar.sz α)+ar.sz α by omega]
      simp
     simp[madeCells,a,hl,this,hm]
    ·have:¬j-ar.sz α<k*ar.sz α:=by rw[Nat.add_mul]at a;omega
     simp[madeCells,a,hl,this]
 intro k
 rw[key]
 induction k with
 |zero=>simp[dT]
 |succ k c=>exact⟨b,(List.replicate k b).flatten,by simp[List.replicate_succ],e,c⟩
theorem FU {α:Type}[ar α]{x:Operand}{t e:TypeId}{H:Bool}{bytes:Nat}{s:Value}{z:α}{k:Int}{xs:List α}(I:P.underlying t=some (.slice e))(he:cg P e=some (ar.sz α,H))(J:fu P e=some s)(K:rk P e=some bytes)(p:Nat.ble bytes 128=true)(l:∀A w,∃u:List Value,s.cells=u.toArray/\ar.lG A w u z)(D:ev ρ x=some (.int .i64 k))(o:Fg k z=some xs):
  St P n A w0 ρ Γ ⟨d,.makeSlice t x x,ty,pos,after,g⟩ (λb:Nat=>.slice (some ⟨b,0,none⟩) xs.length xs.length) (λb=>.ow e (.slice (some ⟨b,0,none⟩) xs.length xs.length) xs::Γ) []:=by
 intro a w hs L
 obtain⟨M,j,rfl⟩:=L9 o
 obtain⟨inf,f,v⟩:=Option.bind_eq_some_iff.1 J
 have y:inf.size=ar.sz α:=by
  have j:=he
  unfold cg at j
  rw[f]at j
  split at j
  ·rename_i N T e1 e2
   simp at e1 j
   rw[e1];exact j.1
  ·simp at j
 have B:inf.bytes=bytes:=by simpa[rk,f]using K
 simp only[Nat.ble_eq]at p
 obtain⟨m,rfl⟩:=Int.eq_ofNat_of_zero_le M
 simp only[Int.toNat_natCast]at o j D ⊢
 have i:inf.bytes*m<=281474976710656:=by
  rw[B]
  have:=Nat.mul_le_mul p (show m<=1099511627776 by omega)
  omega
 obtain⟨w',q,h,c⟩:=run_make_full (P:=P) w 0 t e inf s (ar.sz α) I f v y .i64 .i64 m i (by unfold maxLen;omega) (Nat.zero_le _)
 refine⟨w.heap.size,w',?_,?_,⟨c.os,c.tape,c.output,c.size,λk o _=>c.block k o (by simp)⟩,.cons (by simp[Fact.ae,Value.ownBlock])⟩
 ·simp only[execOp,hs.eval D,Sem.run_bind,q]
  simp
 ·obtain⟨u,C,l⟩:=l (λF=>A F\/F∈Ctx.ae (.ow e (.slice (some ⟨w.heap.size,0,none⟩) (List.replicate m z).length (List.replicate m z).length) (List.replicate m z)::Γ)) w'
  rw[C]at h
  refine L.cons ⟨c.os,c.tape,c.output,c.size,λk o _=>c.block k o (by simp)⟩ (by simp[Fact.ae,Value.ownBlock]) ?_ ?_
  ·intro b r
   have:=h.lt w.heap.size rfl
   simp[Fact.ae,Value.ownBlock]at r
   subst r
   exact⟨Nat.le_refl _,this.2⟩
  ·exact⟨_,by simpa using h,zy l m⟩
end
end Go.Tc
namespace Go.Tc
open Go Go.RowKit
section
variable {R:Type}{P:Program}{n:Fr}{A:Nat->Prop}{w0:World}{Q:R->Exit->Act->World->Prop}{ρ ρ':Env}{Γ Γ':Ctx}{E:Option R}
variable {d:Option Nat}{ty:TypeId}{pos:String}{after:Array Edge}{g:Option (Nat×Bool)}
theorem idx_eq {α:Type}{xs:List α}{j:Int}{y:α}(h:idx xs j=some y): 0<=j/\j.toNat<xs.length/\xs[j.toNat]?=some y:=by
 unfold idx at h
 split at h
 ·simp at h
 ·exact⟨by omega,(List.getElem?_eq_some_iff.1 h).1,h⟩
theorem j0 {α:Type}[ar α]{ops:Array Oper}{l:List Oper}{e:TypeId}{v:Value}{xs:List α}{j:Int}{y:α}(i:Nat)(hi:Γ[i]?=some (.ow e v xs))(k:idx xs j=some y)(h:∀b cap,v=.slice (some ⟨b,0,none⟩) xs.length cap->JL P n A w0 ops l Q ρ Γ E): JL P n A w0 ops l Q ρ Γ E:=by
 intro r hr a w hs f
 obtain⟨cells,⟨_,c⟩,_⟩:=f.get i hi
 rcases c with⟨rfl,p⟩|⟨m,cap,cur,o,_⟩
 ·have:=(idx_eq k).2.1
  omega
 ·exact h m cap o r hr a w hs f
theorem rK {α:Type}[ar α]{c:Code}{e:TypeId}{v:Value}{xs:List α}{j:Int}{y:α}(i:Nat)(hi:Γ[i]?=some (.ow e v xs))(l:idx xs j=some y)(h:∀b cap,v=.slice (some ⟨b,0,none⟩) xs.length cap->J P n A w0 c Q ρ Γ E): J P n A w0 c Q ρ Γ E:=by
 intro r hr a w hs k
 obtain⟨cells,⟨_,f⟩,_⟩:=k.get i hi
 rcases f with⟨rfl,p⟩|⟨m,cap,cur,o,_⟩
 ·have:=(idx_eq l).2.1
  omega
 ·exact h m cap o r hr a w hs k
theorem dy {α:Type}[ar α]{x l:Operand}{t e:TypeId}{k:IntKind}{p:Bool}{b cap len:Nat}{xs:List α}{j:Int}{y:α}(i:Nat)(q:P.underlying t=some (.slice e))(he:cg P e=some (ar.sz α,p))(r:ev ρ x=some (.slice (some ⟨b,0,none⟩) len cap))(f:ev ρ l=some (.int k j))(hi:Γ[i]?=some (.ow e (.slice (some ⟨b,0,none⟩) len cap) xs))(s:idx xs j=some y):
  Ex P n A w0 ρ Γ ⟨d,.indexAddr t x l,ty,pos,after,g⟩ (.pointer (some ⟨b,j.toNat*ar.sz α,none⟩)):=by
 intro a w hs u
 obtain⟨z,B,C⟩:=idx_eq s
 obtain⟨cells,⟨_,c⟩,_⟩:=u.get i hi
 have hl:len=xs.length:=by
  rcases c with⟨h,_⟩|⟨D,m,cur,o,_⟩
  ·simp at h
  ·simp at o;exact o.2.1
 have v:0<=j/\j<(len:Int):=⟨by omega,by omega⟩
 simp[execOp,hs.eval r,hs.eval f,Instr.indexAt,asIntOf,run_underlying q,v,dR he,Addr.add_lit]
theorem Dr {α:Type}[ar α]{x:Operand}{t e:TypeId}{b cap len:Nat}{xs:List α}{j:Int}{y:α}(i:Nat)(o:cg P t=some (ar.sz α,ar.agg α))(C:ev ρ x=some (.pointer (some ⟨b,j.toNat*ar.sz α,none⟩)))(hi:Γ[i]?=some (.ow e (.slice (some ⟨b,0,none⟩) len cap) xs))(I:idx xs j=some y):
  St P n A w0 ρ Γ ⟨d,.load t x,ty,pos,after,g⟩ (λv:Value=>v) (λv=>.rd v y::Γ) []:=by
 intro a w hs D
 obtain⟨V,W,J⟩:=idx_eq I
 obtain⟨cells,⟨K,p⟩,hr⟩:=D.get i hi
 rcases p with⟨h,_⟩|⟨X,F,cur,H,_,L,M,N,T,l⟩
 ·simp at h
 simp at H
 obtain⟨rfl,rfl,rfl⟩:=H
 obtain⟨c,q,z,B⟩:=dT.get xs cells j.toNat y hr J
 have f:∀s u,c[s]?=some u->w.cell? ⟨b,j.toNat*ar.sz α+s,none⟩=some u:=by
  intro s u hu
  have:=B s u hu
  rw[<- l,List.getElem?_take]at this
  split at this
  ·simpa[World.cell?,L]using this
  ·simp at this
 refine⟨ar.val α c,w,?_,D.oa ⟨c,rfl,z⟩,Grow.refl w _,.plain rfl⟩
 cases m:ar.agg α with
 |true=>
  rw[m]at o
  have r:=run_loadCells_list (P:=P) w ⟨b,j.toNat*ar.sz α,none⟩ c (λj v U=>by rw[Addr.add_lit];exact f j v U)
  rw[q]at r
  simp[execOp,hs.eval C,Instr.loadAt,Instr.sureAddr,loadVar,jX o,dR o,r,ar.val,m]
 |false=>
  rw[m,ar.single m]at o
  have k:=q
  rw[ar.single m]at k
  match c,k with
  |[c0],_=>
   have r:=f 0 c0 rfl
   simp at r
   simp[execOp,hs.eval C,Instr.loadAt,Instr.sureAddr,loadVar,jX o,run_load,r,ar.val,m]
theorem aP {x:Operand}{t e:TypeId}{b cap len:Nat}{xs:List Int}{j:Int}{y:Int}(i:Nat)(q:cg P t=some (1,false))(r:ev ρ x=some (.pointer (some ⟨b,j.toNat*ar.sz Int,none⟩)))(hi:Γ[i]?=some (.ow e (.slice (some ⟨b,0,none⟩) len cap) xs))(s:idx xs j=some y):
  Ex P n A w0 ρ Γ ⟨d,.load t x,ty,pos,after,g⟩ (.int .i64 y):=by
 intro a w hs u
 obtain⟨v,w',m,D,_⟩:=Dr (α:=Int) (d:=d) (ty:=ty) (pos:=pos) (after:=after) (g:=g) i q r hi s a w hs u
 have F:=D.get 0 rfl
 have:=Rd.int F
 subst this
 have hw:w'=w:=by
  have z:=m
  obtain⟨U,H,o⟩:=idx_eq s
  obtain⟨cells,⟨I,k⟩,hr⟩:=u.get i hi
  rcases k with⟨h,_⟩|⟨V,B,cur,C,_,J,K,L,M,f⟩
  ·simp at h
  simp at C
  obtain⟨rfl,rfl,rfl⟩:=C
  obtain⟨c,N,l,p⟩:=dT.get xs cells j.toNat y hr o
  simp only[ar.lG]at l
  subst l
  have T:w.cell? ⟨b,j.toNat*ar.sz Int,none⟩=some (.int .i64 y):=by
   have:=p 0 _ rfl
   rw[<- f,List.getElem?_take]at this
   split at this
   ·simpa[World.cell?,J]using this
   ·simp at this
  simp[execOp,hs.eval r,Instr.loadAt,Instr.sureAddr,loadVar,jX q,run_load,T]at z
  exact z.symm
 rw[hw]at m
 exact m
theorem dT.set {α:Type}[ar α]{A:Nat->Prop}{w:World}{y:α}{vs:List Value}(b:ar.lG A w vs y): ∀(xs:List α) (cs:List Value) (k:Nat),k<xs.length->dT A w cs xs->
  dT A w (cs.take (k*ar.sz α)++vs++cs.drop (k*ar.sz α+vs.length)) (xs.set k y)
 |[],_,k,c,_=>by simp at c
 |x::r,_,0,_,⟨c1,c2,e,a,f⟩=>by
  subst e
  have h:=ar.len a
  have i:=ar.len b
  refine⟨vs,c2,?_,b,f⟩
  simp[i,<- h]
 |x::r,_,k+1,c,⟨c1,c2,e,a,f⟩=>by
  subst e
  have h:=ar.len a
  refine⟨c1,_,?_,a,dT.set b r c2 k (by simpa using c) f⟩
  have e1:(k+1)*ar.sz α=c1.length+k*ar.sz α:=by rw[Nat.add_mul,h];omega
  rw[e1,List.take_length_add_append,Nat.add_assoc,List.drop_length_add_append]
  simp
theorem HS {β:Type}(l vs:List β)(a N:Nat)(b:a+vs.length<=N)(c:N<=l.length):
  (l.take a++vs++l.drop (a+vs.length)).take N=(l.take N).take a++vs++(l.take N).drop (a+vs.length):=by
 have e1:(l.take a++vs).length=a+vs.length:=by simp;omega
 rw[List.take_append,e1,List.take_of_length_le (by omega),List.take_take,Nat.min_eq_left (by omega),List.drop_take]
theorem HX {α:Type}[ar α]{x y:Operand}{t e:TypeId}{U:Bool}{b cap len:Nat}{xs:List α}{j:Int}{o q:α}{u:Value}(i:Nat)(V:cg P t=some (ar.sz α,U))(W:ev ρ x=some (.pointer (some ⟨b,j.toNat*ar.sz α,none⟩)))(X:ev ρ y=some u)(hi:Γ[i]?=some (.ow e (.slice (some ⟨b,0,none⟩) len cap) xs))(Y:idx xs j=some o){w:World}(hu:Rd (λk=>A k\/k∈Γ.ae) w u q)(a:Act)(hs:Sat n ρ a)(M:SH A w0 w Γ):
  ∃w',(execOp a.eval ⟨d,.store t x y,ty,pos,after,g⟩).run P w=.ok .skip w'/\SH A w0 w' (Γ.set i (.ow e (.slice (some ⟨b,0,none⟩) len cap) (xs.set j.toNat q)))/\Grow w w' [b]/\gR Γ (Γ.set i (.ow e (.slice (some ⟨b,0,none⟩) len cap) (xs.set j.toNat q))) w:=by
 obtain⟨h0,Z,h2⟩:=idx_eq Y
 obtain⟨cells,⟨H,r⟩,hr⟩:=M.get i hi
 obtain⟨vs,I,f⟩:=hu.cells
 have l:=ar.len f
 rcases r with⟨h,_⟩|⟨gg,N,cur,T,_,J,s,K,v,m⟩
 ·simp at h
 simp at T
 obtain⟨rfl,rfl,rfl⟩:=T
 have hle:j.toNat*ar.sz α+vs.length<=xs.length*ar.sz α:=by
  rw[l]
  have:=Nat.mul_le_mul_right (ar.sz α) (show j.toNat+1<=xs.length by omega)
  rw[Nat.add_mul]at this;omega
 have z:xs.length*ar.sz α<=cur.size:=by rw[v];exact Nat.mul_le_mul_right _ s
 have B:=run_storeCells_at P b (j.toNat*ar.sz α) e vs 0 cur w J (by simpa using(by omega:j.toNat*ar.sz α+vs.length<=cur.size)) (ar.one f)
 simp only[Nat.add_zero]at B
 refine⟨w.setRow b (cur.toList.take (j.toNat*ar.sz α)++vs++cur.toList.drop (j.toNat*ar.sz α+vs.length)).toArray,?_,?_,⟨rfl,rfl,rfl,by simp,λk _ D=>setRow_other w b k _ (λe=>D (by simp[e]))⟩,.set hi (λc F=>.inl F)⟩
 ·simp only[execOp,hs.eval W,hs.eval X,Sem.run_bind,Instr.storeAt,Instr.sureAddr,storeVar,Sem.run_pure,Result.andThen_ok,dR V,I,List.size_toArray,l]
  simp only[ne_eq,not_true_eq_false,if_false]
  simp[B]
  rw[l]
 ·have p:((cur.toList.take (j.toNat*ar.sz α)++vs++cur.toList.drop (j.toNat*ar.sz α+vs.length)).toArray).size=cur.size:=by
   simp only[List.size_toArray,List.length_append,List.length_take,List.length_drop,Array.length_toList]
   omega
  have hA:∀k,k<w.heap.size->¬(A k\/k∈Γ.ae)->(w.setRow b (cur.toList.take (j.toNat*ar.sz α)++vs++cur.toList.drop (j.toNat*ar.sz α+vs.length)).toArray).heap[k]?=w.heap[k]?/\¬(A k\/k∈Ctx.ae (Γ.set i (.ow e (.slice (some ⟨b,0,none⟩) xs.length cap) (xs.set j.toNat q)))):=by
   intro k D C
   obtain⟨l1,l2,e1,e2⟩:=nq (f':=.ow e (.slice (some ⟨b,0,none⟩) xs.length cap) (xs.set j.toNat q)) hi
   have e3:Ctx.ae (Γ.set i (.ow e (.slice (some ⟨b,0,none⟩) xs.length cap) (xs.set j.toNat q)))=Γ.ae:=by rw[e1,e2];rfl
   rw[e3]
   refine⟨setRow_other w b k _ ?_,C⟩
   intro L
   apply C
   right;rw[e1];simp[Fact.ae,Value.ownBlock,L]
  refine M.set hi ⟨rfl,rfl,rfl,by simp,λk _ D=>setRow_other w b k _ (λe=>D (by simp[Fact.ae,Value.ownBlock,e]))⟩ (by simp[Fact.ae,Value.ownBlock]) (λc F=>?_) ?_
  ·simp[Fact.ae,Value.ownBlock]at F
   subst F
   exact⟨.inl (by simp[Fact.ae,Value.ownBlock]),by simpa using mj J⟩
  ·refine⟨cells.take (j.toNat*ar.sz α)++vs++cells.drop (j.toNat*ar.sz α+vs.length),?_,?_⟩
   ·refine⟨?_,.inr ⟨b,cap,_,?_,Nat.zero_le _,setRow_heap w b cur _ e _ J,?_,K,?_,?_⟩⟩
    ·simp only[List.length_append,List.length_take,List.length_drop,List.length_set,H];omega
    ·simp
    ·simpa using s
    ·rw[p,v]
    ·rw[List.length_set,<- m]
     exact HS _ _ _ _ hle (by simpa using z)
   ·exact dT.frame hA _ _ (dT.set f xs cells j.toNat Z hr)
theorem fE {α:Type}[ar α]{x y:Operand}{t e:TypeId}{h:Bool}{b cap len:Nat}{xs:List α}{j:Int}{o c:α}{u:Value}(i:Nat)(l:cg P t=some (ar.sz α,h))(m:ev ρ x=some (.pointer (some ⟨b,j.toNat*ar.sz α,none⟩)))(p:ev ρ y=some u)(hi:Γ[i]?=some (.ow e (.slice (some ⟨b,0,none⟩) len cap) xs))(q:idx xs j=some o)(hu:∀w,SH A w0 w Γ->Rd (λk=>A k\/k∈Γ.ae) w u c):
  Sk P n A w0 ρ Γ ⟨d,.store t x y,ty,pos,after,g⟩ (Γ.set i (.ow e (.slice (some ⟨b,0,none⟩) len cap) (xs.set j.toNat c))) [b]:=
 λa w hs f=>HX i l m p hi q (hu w f) a hs f
def jV {α:Type}(xs:List α)(lo hi:Int): Option (List α):=if 0<=lo/\lo<=hi/\hi<=xs.length then some ((xs.take hi.toNat).drop lo.toNat)else none
theorem ug {α:Type}{xs ys:List α}{lo hi:Int}(h:jV xs lo hi=some ys): 0<=lo/\lo<=hi/\hi<=xs.length/\ys=(xs.take hi.toNat).drop lo.toNat:=by
 unfold jV at h
 split at h
 ·rename_i a;simp at h;exact⟨a.1,a.2.1,a.2.2,h.symm⟩
 ·simp at h
theorem dT.take {α:Type}[ar α]{A:Nat->Prop}{w:World}: ∀(xs:List α) (cs:List Value) (k:Nat),dT A w cs xs->dT A w (cs.take (k*ar.sz α)) (xs.take k)
 |[],cs,k,h=>by simp[dT]at h;simp[dT,h]
 |x::r,cs,0,h=>by simp[dT]
 |x::r,cs,k+1,⟨c1,c2,e,a,b⟩=>by
  subst e
  have c:=ar.len a
  refine⟨c1,c2.take (k*ar.sz α),?_,a,dT.take r c2 k b⟩
  rw[show(k+1)*ar.sz α=c1.length+k*ar.sz α by rw[Nat.add_mul,c];omega,List.take_length_add_append]
theorem dT.drop {α:Type}[ar α]{A:Nat->Prop}{w:World}: ∀(xs:List α) (cs:List Value) (k:Nat),dT A w cs xs->dT A w (cs.drop (k*ar.sz α)) (xs.drop k)
 |[],cs,k,h=>by simp[dT]at h;simp[dT,h]
 |x::r,cs,0,h=>by simpa using h
 |x::r,cs,k+1,⟨c1,c2,e,a,b⟩=>by
  subst e
  have c:=ar.len a
  rw[show(k+1)*ar.sz α=c1.length+k*ar.sz α by rw[Nat.add_mul,c];omega,List.drop_length_add_append]
  exact dT.drop r c2 k b
def bound (ρ:Env): Option Operand->Int->Option Int
 |none,a=>some a
 |some x,_=>match ev ρ x with|some (.int .i64 j)=>some j|_=>none
theorem tG.slice {α:Type}[ar α]{w:World}{A:Nat->Prop}{t e:TypeId}{C:Bool}{v:Value}{xs ys:List α}{lo hi:Option Value}{l h:Int}(y:P.underlying t=some (.slice e))(he:cg P e=some (ar.sz α,C))(hr:tG A w v xs)(c:lo=none/\l=0\/lo=some (.int .i64 l))(f:hi=none/\h=xs.length\/hi=some (.int .i64 h))(D:jV xs l h=some ys):
  ∃z,(Instr.sliceAt t v lo hi none).run P w=.ok z w/\tG A w z ys:=by
 obtain⟨B,K,F,rfl⟩:=ug D
 rcases hr with⟨rfl,ad,cap,rfl,H,o⟩|⟨b,off,cap,cells,rfl,g1,g2,g3,g4,g5,g6⟩
 ·simp at F
  have hl:l=0:=by omega
  have I:h=0:=by omega
  subst hl I
  refine⟨.slice (if cap=0 then ad else ad.map (·.add 0)) 0 cap,?_,.inl ⟨by simp,_,cap,rfl,λe=>?_,o⟩⟩
  case refine_2=>
   by_cases m:cap=0
   ·exact m
   ·rw[if_neg m]at e
    cases ad with
    |none=>exact H rfl
    |some a=>simp at e
  rcases c with⟨rfl,_⟩|rfl<;>rcases f with⟨rfl,_⟩|rfl <;>
   simp[Instr.sliceAt,Instr.slice,run_underlying y,Instr.sliceBounds,Instr.sliceBound,asIntOf,dR he]
 ·have i:(Instr.sliceAt t (.slice (some ⟨b,off,none⟩) xs.length cap) lo hi none).run P w=.ok (.slice (if cap=l.toNat then some ⟨b,off,none⟩else some ⟨b,off+l.toNat*ar.sz α,none⟩) (h.toNat-l.toNat) (cap-l.toNat)) w:=by
   have J:0<=l/\l<=(h.toNat:Int):=⟨B,by omega⟩
   have p:0<=h/\h<=(cap:Int):=⟨by omega,by omega⟩
   have q:0<=l/\l<=(xs.length:Int):=⟨B,by omega⟩
   have r:¬max h 0<l:=by omega
   rcases c with⟨rfl,rfl⟩|rfl<;>rcases f with⟨rfl,rfl⟩|rfl <;>
    simp[Instr.sliceAt,Instr.slice,run_underlying y,Instr.sliceBounds,Instr.sliceBound,asIntOf,dR he,Addr.add_lit,p,q]
   intro s
   exact absurd s r
  refine⟨_,i,?_⟩
  have hlen:((xs.take h.toNat).drop l.toNat).length=h.toNat-l.toNat:=by simp;omega
  refine .inr ⟨b,if cap=l.toNat then off else off+l.toNat*ar.sz α,cap-l.toNat,(cells.take (h.toNat*ar.sz α)).drop (l.toNat*ar.sz α),?_,g1,g2,?_,?_,?_,dT.drop _ _ _ (dT.take _ _ _ g6)⟩
  ·rw[hlen];split<;>rfl
  ·rw[hlen];omega
  ·omega
  ·intro j u k
   have x:=(List.getElem?_eq_some_iff.1 k).1
   simp at x
   by_cases m:cap=l.toNat
   ·exfalso
    have:h.toNat<=l.toNat:=by omega
    have:=Nat.mul_le_mul_right (ar.sz α) this
    omega
   ·rw[if_neg m,Nat.add_assoc]
    refine g5 _ _ ?_
    rw[List.getElem?_drop,List.getElem?_take]at k
    split at k
    ·exact k
    ·simp at k
theorem kU {a:Act}{o:Option Operand}{b j:Int}(hs:Sat n ρ a)(h:bound ρ o b=some j): o.map a.eval=none/\j=b\/o.map a.eval=some (.int .i64 j):=by
 cases o with
 |none=>simp[bound]at h;exact .inl ⟨rfl,h.symm⟩
 |some x=>
  simp only[bound]at h
  split at h
  ·rename_i c e
   simp at h
   subst h
   right
   simp[hs.eval e]
  ·simp at h
theorem xo {α:Type}[ar α]{x:Operand}{t e:TypeId}{o:Bool}{v:Value}{xs ys:List α}{lo hi:Option Operand}{l h:Int}(i:Nat)(p:P.underlying t=some (.slice e))(he:cg P e=some (ar.sz α,o))(q:ev ρ x=some v)(f:bound ρ lo 0=some l)(j:bound ρ hi xs.length=some h)(k:Γ[i]?=some (.rd v xs))(r:jV xs l h=some ys): St P n A w0 ρ Γ ⟨d,.slice t x lo hi none,ty,pos,after,g⟩ (λb:Value=>b) (λb=>.rd b ys::Γ) []:=by
 intro a w hs m
 obtain⟨b,c,hr⟩:=tG.slice (P:=P) p he (Rd.sl (m.get i k)) (kU hs f) (kU hs j) r
 refine⟨b,w,?_,m.oa (.zT hr),Grow.refl w _,.plain rfl⟩
 simp only[execOp,hs.eval q,Option.map_none]
 simp[c]
def CV (v:Value)(vs:List Value): Prop:=v.cells=vs.toArray/\∀u∈vs,u.oneCell'=true
theorem aa {k:IntKind}{m:Int}: CV (.int k m) [.int k m]:=⟨rfl,by simp[Value.oneCell']⟩
theorem eQ {b:Bool}: CV (.bool b) [.bool b]:=⟨rfl,by simp[Value.oneCell']⟩
theorem LZ {p:Option Addr}: CV (.pointer p) [.pointer p]:=⟨rfl,by simp[Value.oneCell']⟩
theorem lM {p:Option Addr}{m c:Nat}: CV (.slice p m c) [.slice p m c]:=⟨rfl,by simp[Value.oneCell']⟩
theorem O2 {v:Value}(h:v.oneCell'=true): CV v [v]:=⟨by cases v<;>simp_all[Value.cells,Value.oneCell'],by simpa using h⟩
theorem SH.cv {α:Type}[ar α]{w:World}{v:Value}{xs:List α}(h:SH A w0 w Γ)(i:Nat)(hi:Γ[i]?=some (.rd v xs)): CV v [v]:=O2 (Rd.sl (h.get i hi)).lU
theorem SH.hY {α:Type}[ar α]{w:World}{e:TypeId}{v:Value}{xs:List α}(h:SH A w0 w Γ)(i:Nat)(hi:Γ[i]?=some (.ow e v xs)): CV v [v]:=by
 obtain⟨cells,⟨_,a⟩,_⟩:=h.get i hi
 rcases a with⟨rfl,_⟩|⟨g,cap,cur,rfl,_⟩<;>exact lM
theorem Pd {cs:List Value}(h:∀u∈cs,u.oneCell'=true): CV (.agg cs.toArray) cs:=⟨rfl,h⟩
theorem CV.one {v:Value}(h:CV v [v]): v.oneCell'=true:=h.2 v (by simp)
inductive IN (P:Program)(t:TypeId): List Value->List (Nat×Value)->List Value->Prop
 |nil {cs:List Value}:IN P t cs [] cs
 |cons {cs b a:List Value} {i off:Nat} {v:Value} {r:List (Nat×Value)} (e:eD P t i=some (off,1)) (c:Nat.blt off cs.length=true) (hs:cs.set off v=a) (h:IN P t a r b):IN P t cs ((i,v)::r) b
theorem IN.fill {t:TypeId}{places:Array (Nat×Nat)}(k:∀i off s,eD P t i=some (off,s)->places[i]?=some (off,s)):
  ∀ {cs:List Value} {parts:List (Nat×Value)} {a:List Value},IN P t cs parts a->(∀p∈parts,p.2.cells=#[p.2])->Instr.fill (places[·]?) cs.toArray parts=some a.toArray:=by
 intro cs parts a h
 induction h with
 |nil=>intro _;simp[Instr.fill]
 |cons l b hs h m=>
  rename_i cs a e i off v r
  intro f
  have j:=f (i,v) (by simp)
  simp only at j
  simp only[Nat.blt_eq]at b
  simp only[Instr.fill,k _ _ _ l,j]
  rw[if_neg (by simp;omega)]
  rw[<- m (λp c=>f p (by simp[c])),<- hs]
  simp
def placeOf (P:Program)(f:Field): Nat×Nat:=(f.offset,((cg P f.type).map (·.1)).getD 0)
theorem run_places (w:World): ∀(fs:List Field),(∀f∈fs,(cg P f.type).isSome)->(fs.mapM (λf=>do pure (f.offset,<- sizeOf f.type):Field->Sem (Nat×Nat))).run P w=.ok (fs.map (placeOf P)) w
 |[],_=>rfl
 |f::fs,h=>by
  obtain⟨⟨s,b⟩,a⟩:=Option.isSome_iff_exists.1 (h f (by simp))
  have c:=run_places w fs (λx e=>h x (by simp[e]))
  rw[List.mapM_cons]
  simp only[Sem.run_bind,dR a,Result.andThen_ok,Sem.run_pure,c,List.map_cons]
  simp[placeOf,a]
theorem run_build {t:TypeId}{fields:Array Field}{z:Value}{l e:List Value}{parts:List (Nat×Value)}(w:World)(hu:P.underlying t=some (.struct fields))(m:fu P t=some z)(j:z.cells=l.toArray)(o:IN P t l parts e)(q:∀p∈parts,p.2.cells=#[p.2])(h:fields.toList.all (λf=>(cg P f.type).isSome)=true): (Instr.build t parts.toArray).run P w=.ok (.agg e.toArray) w:=by
 have a:∀i off s,eD P t i=some (off,s)->((fields.toList.map (placeOf P)).toArray)[i]?=some (off,s):=by
  intro i off s b
  unfold eD at b
  rw[hu]at b
  simp only at b
  split at b
  ·rename_i u k
   split at b
   ·rename_i s' v r
    simp at b
    obtain⟨rfl,rfl⟩:=b
    simp[k,r,placeOf]
   ·simp at b
  ·simp at b
 have c:=IN.fill a o q
 have hm:=run_places (P:=P) w fields.toList (List.all_eq_true.1 h)
 simp only[Instr.build,Sem.run_bind,xJ m,Result.andThen_ok,run_underlying hu,j,Array.mapM_eq_mapM_toList,map_eq_pure_bind,hm,Sem.run_pure]
 simp only[c,Sem.run_pure]
def Ji:List (Nat×Value)->Prop
 |[]=>True
 |(_,v)::r=>CV v [v]/\Ji r
theorem Ji.out:∀ {l:List (Nat×Value)},Ji l->∀p∈l,p.2.cells=#[p.2]
 |[],_,p,a=>by simp at a
 |(i,v)::r,⟨b,c⟩,p,a=>by
  rcases List.mem_cons.1 a with rfl|a
  ·exact b.1
  ·exact Ji.out c p a
structure qX (P:Program)(t:TypeId)(a:List Value): Prop where
 ex:∃fields z,P.underlying t=some (.struct fields)/\fu P t=some z/\z.cells=a.toArray/\fields.toList.all (λf=>(cg P f.type).isSome)=true
theorem aC {t:TypeId}{e c:List Value}{parts:List (Nat×Operand)}{vs:List (Nat×Value)}(f:qX P t e)(b:Gq ρ parts=some vs)(h:IN P t e vs c)(i:∀w,SH A w0 w Γ->Ji vs):
  Ex P n A w0 ρ Γ ⟨d,.build t parts.toArray,ty,pos,after,g⟩ (.agg c.toArray):=by
 intro a w hs j
 obtain⟨fields,z,k,l,m,o⟩:=f.ex
 have q:parts.toArray.map (λp=>(p.1,a.eval p.2))=vs.toArray:=by
  apply Array.ext'
  simp[hs.HN b]
 have:=run_build (P:=P) w k l m h (i w j).out o
 simp only[execOp,Sem.run_bind]
 rw[q,this]
 rfl
theorem JN {x:Operand}{t:TypeId}{v:Value}{cs:List Value}(e:ev ρ x=some v)(f:∀w,SH A w0 w Γ->CV v cs):
  St P n A w0 ρ Γ ⟨d,.box t x,ty,pos,after,g⟩ (λb:Nat=>.pointer (some ⟨b,0,none⟩)) (λb=>.bx b t cs::Γ) []:=by
 intro a w hs c
 exact Pg (P:=P) e (f w c).1 a w hs c
theorem Gi {x y:Operand}{t k:TypeId}{b off s:Nat}{l:Bool}{cs c:List Value}{v:Value}{vs:List Value}(i:Nat)(m:cg P t=some (s,l))(o:ev ρ x=some (.pointer (some ⟨b,off,none⟩)))(p:ev ρ y=some v)(e:∀w,SH A w0 w Γ->CV v vs)(hlen:vs.length=s)(hi:Γ[i]?=some (.bx b k cs))(f:Nat.ble (off+vs.length) cs.length=true)(h:cs.take off++vs++cs.drop (off+vs.length)=c):
  Sk P n A w0 ρ Γ ⟨d,.store t x y,ty,pos,after,g⟩ (Γ.set i (.bx b k c)) [b]:=by
 intro a w hs j
 exact HF (P:=P) i m o p (e w j).1 hlen (by simpa using(e w j).2) hi f h rfl a w hs j
end
end Go.Tc
namespace Go.Tc
open Go Go.RowKit
inductive Out (S R:Type) where
 |bf (s:S)
 |ret (r:R)
def qP {S X:Type}(body:S->Option (S ⊕ X)): Nat->S->Option X
 |0,_=>none
 |k+1,s=>match body s with
  |none=>none
  |some (.inl s')=>qP body k s'
  |some (.inr x)=>some x
theorem zP {S X:Type}{body:S->Option (S ⊕ X)}: ∀ {k m:Nat} {s:S} {x:X},k<=m->qP body k s=some x->qP body m s=some x
 |0,_,_,_,_,h=>by simp[qP]at h
 |k+1,0,_,_,b,_=>by omega
 |k+1,m+1,s,x,b,h=>by
  simp only[qP]at h ⊢
  split
  ·rename_i a;simp[a]at h
  ·rename_i s' a
   simp only[a]at h
   exact zP (by omega) h
  ·rename_i y a
   simpa[a]using h
open Classical in
noncomputable def run {S X:Type}(body:S->Option (S ⊕ X))(s:S): Option X:=
 if h:∃x k,qP body k s=some x then some h.choose else none
theorem vT {S X:Type}{body:S->Option (S ⊕ X)}{s:S}{x:X}: run body s=some x↔∃k,qP body k s=some x:=by
 constructor
 ·intro h
  unfold run at h
  split at h
  ·rename_i c
   simp at h
   rw[<- h]
   exact c.choose_spec
  ·simp at h
 ·rintro⟨k,a⟩
  unfold run
  rw[dif_pos ⟨x,k,a⟩]
  have hex:∃x k,qP body k s=some x:=⟨x,k,a⟩
  obtain⟨m,hm⟩:=hex.choose_spec
  have e:=zP (Nat.le_max_left k m) a
  have b:=zP (Nat.le_max_right k m) hm
  rw[e]at b
  exact b.symm
theorem nD {S X:Type}(body:S->Option (S ⊕ X))(s:S): run body s=match body s with|none=>none|some (.inl s')=>run body s' | some (.inr x)=>some x:=by
 cases b:body s with
 |none=>
  cases hr:run body s with
  |none=>rfl
  |some x=>
   obtain⟨k,a⟩:=vT.1 hr
   cases k<;>simp[qP,b]at a
 |some y=>
  cases y with
  |inl s'=>
   simp only
   cases hr:run body s' with
   |none=>
    cases c:run body s with
    |none=>rfl
    |some x=>
     obtain⟨k,a⟩:=vT.1 c
     cases k with
     |zero=>simp[qP]at a
     |succ k=>
      simp only[qP,b]at a
      rw[vT.2 ⟨k,a⟩]at hr
      simp at hr
   |some x=>
    obtain⟨k,a⟩:=vT.1 hr
    exact vT.2 ⟨k+1,by simpa[qP,b]using a⟩
  |inr x=>exact vT.2 ⟨1,by simp[qP,b]⟩
section
variable {R R0 S S' G G':Type}{P:Program}{n:Fr}{A:Nat->Prop}{w0:World}{Q:R->Exit->Act->World->Prop}{ρ ρ':Env}{Γ Γ':Ctx}{E:Option R}
def vC (n:Fr)(A:Nat->Prop)(w0:World)(id:Nat)(Q:R->Exit->Act->World->Prop)(b:S->G->Env)(c:S->G->Ctx)(f:S'->G'->Env)(h:S'->G'->Ctx)(K:Out S' R0->Option R): S ⊕ Out S' R0->Exit->Act->World->Prop
 |.inl s,e,a,w=>e=.normal/\∃g,Sat n (b s g) a/\SH A w0 w (c s g)
 |.inr (.bf s),e,a,w=>e=.exit id/\∃g,Sat n (f s g) a/\SH A w0 w (h s g)
 |.inr (.ret r),e,a,w=>∃e2,(e=.ret/\e2=.ret\/e=.exit id/\e2=.normal)/\∀i,K (.ret r)=some i->Q i e2 a w
theorem O7 {c:Code}{id:Nat}(body:S->Option (S ⊕ Out S' R0))(b:S->G->Env)(f:S->G->Ctx)(l:S'->G'->Env)(o:S'->G'->Ctx)(K:Out S' R0->Option R)(p:S)(g0:G)(h:∀s g,J P n A w0 c (vC n A w0 id Q b f l o K) (b s g) (f s g) (body s))(i:∀s g,N n A w0 Q .normal (l s g) (o s g) (K (.bf s))):
  J P n A w0 (.block id (.loop c)) Q (b p g0) (f p g0) (Z (run body p) K):=by
 intro r hr a w hs C
 obtain⟨x,D,t⟩:=xy hr
 obtain⟨k,F⟩:=vT.1 D
 refine wpIn_block ?_
 refine CU (λm u w'=>∃s g,qP body m s=some x/\Sat n (b s g) u/\SH A w0 w' (f s g)) k ⟨p,g0,F,hs,C⟩ ?_
 rintro m u w' ⟨s,g,hm,v,z⟩
 cases m with
 |zero=>simp[qP]at hm
 |succ m=>
  simp only[qP]at hm
  cases q:body s with
  |none=>simp[q]at hm
  |some y=>
   refine Code.wpIn_mono ?_ (h s g y q u w' v z)
   intro e a2 H hq
   cases y with
   |inl s2=>
    obtain⟨rfl,g2,j,B⟩:=hq
    simp only[q]at hm
    exact⟨m,Nat.lt_succ_self _,s2,g2,hm,j,B⟩
   |inr y=>
    simp only[q,Option.some.injEq]at hm
    subst hm
    cases y with
    |bf s2=>
     obtain⟨rfl,g2,j,B⟩:=hq
     have:=i s2 g2 r t a2 H j B
     simpa[Exit.then,Exit.inBlock]using this
    |ret r0=>
     obtain⟨e2,⟨rfl,rfl⟩|⟨rfl,rfl⟩,j⟩:=hq
     ·exact j r t
     ·have:=j r t
      simpa[Exit.then,Exit.inBlock]using this
theorem eA {id:Nat}{b:S->G->Env}{c:S->G->Ctx}{e:S'->G'->Env}{f:S'->G'->Ctx}{K:Out S' R0->Option R}{r0:R0}(h:N n A w0 Q .ret ρ Γ (K (.ret r0))):
  N n A w0 (vC n A w0 id Q b c e f K) .ret ρ Γ (some (.inr (.ret r0))):=by
 intro x j a w hs k
 cases j
 exact⟨.ret,.inl ⟨rfl,rfl⟩,λl i=>h l i a w hs k⟩
def G6 (n:Fr)(A:Nat->Prop)(w0:World)(Q:R->Exit->Act->World->Prop)(b:S'->G'->Env)(c:S'->G'->Ctx)(K:Out S' R0->Option R): Out S' R0->Exit->Act->World->Prop
 |.bf s,e,a,w=>e=.normal/\∃g,Sat n (b s g) a/\SH A w0 w (c s g)
 |.ret r,e,a,w=>e=.ret/\∀f,K (.ret r)=some f->Q f e a w
theorem Qk {c:Code}{Ex:Option (Out S' R0)}(f:S'->G'->Env)(i:S'->G'->Ctx)(K:Out S' R0->Option R)(h:J P n A w0 c (G6 n A w0 Q f i K) ρ Γ Ex)(b:∀s g,N n A w0 Q .normal (f s g) (i s g) (K (.bf s))): J P n A w0 c Q ρ Γ (Z Ex K):=by
 intro r hr a w hs l
 obtain⟨x,m,k⟩:=xy hr
 refine Code.wpIn_mono ?_ (h x m a w hs l)
 intro e a2 o hq
 cases x with
 |bf s2=>
  obtain⟨rfl,g2,j,p⟩:=hq
  exact b s2 g2 r k a2 o j p
 |ret r0=>
  obtain⟨rfl,j⟩:=hq
  exact j r k
theorem aY {b:S'->G'->Env}{c:S'->G'->Ctx}{K:Out S' R0->Option R}{r0:R0}(h:N n A w0 Q .ret ρ Γ (K (.ret r0))):
  N n A w0 (G6 n A w0 Q b c K) .ret ρ Γ (some (.ret r0)):=by
 intro x f a w hs i
 cases f
 exact⟨rfl,λj e=>h j e a w hs i⟩
end
end Go.Tc
namespace Go.Tc
open Go Go.RowKit
section
variable {A:Nat->Prop}{w0 w w':World}{Γ Γ' Δ:Ctx}
def cj:List Nat->Ctx->Ctx
 |[],_=>[]
 |i::is,Γ=>match Γ[i]? with
  |some f=>f::cj is Γ
  |none=>cj is Γ
def gM:List Nat->Bool
 |[]=>true
 |i::is=>!(is.any (Nat.beq i))&&gM is
theorem BQ {g:Fact->List Nat}{f:Fact}: ∀ {Γ:Ctx},f∈Γ->(g f).Sublist (Γ.flatMap g)
 |x::Γ,h=>by
  rw[List.flatMap_cons]
  rcases List.mem_cons.1 h with rfl|h
  ·exact List.sublist_append_left _ _
  ·exact(BQ h).trans (List.sublist_append_right _ _)
theorem G4 {g:Fact->List Nat}{f:Fact}{Γ:Ctx}{i:Nat}(h:(Γ.flatMap g).Nodup)(hi:Γ[i]?=some f): (g f).Nodup:=by
 refine h.sublist ?_
 exact BQ (List.mem_of_getElem? hi)
theorem zW {g:Fact->List Nat}{f f':Fact}: ∀ {Γ:Ctx} {i j:Nat} {b:Nat},(Γ.flatMap g).Nodup->Γ[i]?=some f->Γ[j]?=some f'->i≠j->b∈g f->b∈g f'->False
 |[],_,_,_,_,hi,_,_,_,_=>by simp at hi
 |x::Γ,i,j,b,h,hi,e,k,a,c=>by
  simp only[List.flatMap_cons,List.nodup_append]at h
  cases i with
  |zero=>
   cases j with
   |zero=>exact k rfl
   |succ j=>
    simp at hi e
    subst hi
    exact h.2.2 b a b (List.mem_flatMap.2 ⟨f',List.mem_of_getElem? e,c⟩) rfl
  |succ i=>
   cases j with
   |zero=>
    simp at hi e
    subst e
    exact h.2.2 b c b (List.mem_flatMap.2 ⟨f,List.mem_of_getElem? hi,a⟩) rfl
   |succ j=>exact zW (Γ:=Γ) h.2.1 (by simpa using hi) (by simpa using e) (by omega) a c
theorem pV:∀(is:List Nat) (Γ:Ctx) (f:Fact),f∈cj is Γ->∃i∈is,Γ[i]?=some f
 |[],_,_,h=>by simp[cj]at h
 |i::is,Γ,f,h=>by
  simp only[cj]at h
  split at h
  ·rename_i g b
   rcases List.mem_cons.1 h with rfl|h
   ·exact⟨i,by simp,b⟩
   ·obtain⟨j,a,e⟩:=pV is Γ f h
    exact⟨j,by simp[a],e⟩
  ·obtain⟨j,a,e⟩:=pV is Γ f h
   exact⟨j,by simp[a],e⟩
theorem kD:∀(is:List Nat) (Γ:Ctx) (b:Nat),b∈(cj is Γ).ae->∃i∈is,∃f,Γ[i]?=some f/\b∈f.ae:=by
 intro is Γ b c
 obtain⟨f,h,a⟩:=List.mem_flatMap.1 c
 obtain⟨i,hi,e⟩:=pV is Γ f h
 exact⟨i,hi,f,e,a⟩
theorem uu {r:Fact->List Nat}: ∀(is:List Nat) (Γ:Ctx),gM is=true->(Γ.flatMap r).Nodup->((cj is Γ).flatMap r).Nodup
 |[],_,_,_=>by simp[cj]
 |i::is,Γ,c,h=>by
  simp only[gM,Bool.and_eq_true,Bool.not_eq_true',List.any_eq_false]at c
  simp only[cj]
  split
  ·rename_i f l
   simp only[List.flatMap_cons,List.nodup_append]
   refine⟨G4 h l,uu is Γ c.2 h,?_⟩
   rintro a m b o rfl
   obtain⟨f',e,k⟩:=List.mem_flatMap.1 o
   obtain⟨j,p,q⟩:=pV is Γ f' e
   refine zW h l q ?_ m k
   rintro rfl
   exact c.1 i p (Nat.beq_refl i)
  ·exact uu is Γ c.2 h
theorem Bk (is:List Nat)(Γ:Ctx)(a:gM is=true)(h:Γ.ae.Nodup): (cj is Γ).ae.Nodup:=uu is Γ a h
theorem AK (is:List Nat)(Γ:Ctx)(b:Nat)(c:b∈(cj is Γ).cb): b∈Γ.cb:=by
 obtain⟨f,h,a⟩:=List.mem_flatMap.1 c
 obtain⟨i,hi,e⟩:=pV is Γ f h
 exact List.mem_flatMap.2 ⟨f,List.mem_of_getElem? e,a⟩
theorem SH.cj (h:SH A w0 w Γ)(is:List Nat)(m:gM is=true): SH A w0 w (cj is Γ):=by
 have a:∀b∈(Tc.cj is Γ).ae,b∈Γ.ae:=λb c=>by
  obtain⟨i,_,f,e,j⟩:=kD is Γ b c
  exact List.mem_flatMap.2 ⟨f,List.mem_of_getElem? e,j⟩
 refine⟨h.below,h.av,Bk is Γ m h.nd,λb c=>h.ge b (a b c),uu is Γ m h.tu,λb c=>h.uS b (AK is Γ b c),λf e=>?_⟩
 obtain⟨i,_,hi⟩:=pV is Γ f e
 refine Fact.frame (Nat.le_refl _) (h.all f (List.mem_of_getElem? hi)) (λ_ _=>rfl) (λ_ _=>rfl) (λk _ o=>⟨rfl,?_⟩)
 rintro(l|l)
 ·exact o (.inl l)
 ·exact o (.inr (a k l))
theorem SH.LP:∀ {Δ:Ctx},SH A w0 w Γ->(∀f∈Δ,(f.ae=[]/\f.cb=[])/\f.holds (λk=>A k\/k∈Γ.ae) w0.heap.size w)->SH A w0 w (Δ++Γ)
 |[],h,_=>h
 |f::Δ,h,hd=>by
  have c:=SH.LP (Δ:=Δ) h (λg a=>hd g (by simp[a]))
  have i:Ctx.ae (Δ++Γ)=Γ.ae:=by
   have:Ctx.ae Δ=[]:=by
    simp only[Ctx.ae,List.flatMap_eq_nil_iff]
    exact λg a=>(hd g (by simp[a])).1.1
   simp[Ctx.ae]at this ⊢
   intro x j
   exact this x j
  obtain⟨⟨b,l⟩,m⟩:=hd f (by simp)
  refine c.cons (Grow.refl w []) (by simp[b]) (by simp[b]) ?_ l
  have e:Ctx.ae (f::(Δ++Γ))=Γ.ae:=by
   simp only[Ctx.ae,List.flatMap_cons,b,List.nil_append]
   exact i
  rw[e]
  exact m
theorem SH.pa {α:Type}[ar α]{p:Value}{x:α}(h:SH A w0 w Γ)(i:Nat)(hi:Γ[i]?=some (.pa p x)): pF (λk=>A k\/k∈Γ.ae) w.heap.size w p x:=by
 obtain⟨b,off,cs,a,c,e,f⟩:=h.get i hi
 exact⟨b,off,cs,a,Nat.lt_of_lt_of_le c h.lt,e,f⟩
theorem pF.D7 {α:Type}[ar α]{A a:Nat->Prop}{B:Nat}{w:World}{p:Value}{x:α}(h:pF A B w p x)(c:∀k,a k->A k): pF a B w p x:=by
 obtain⟨b,off,cs,e,f,i,j⟩:=h
 exact⟨b,off,cs,e,f,i,ar.frame j λk _ l=>⟨rfl,λm=>l (c k m)⟩⟩
theorem SH.MW {α:Type}[ar α]{p:Value}{x:α}(h:SH A w0 w Γ)(i:Nat)(hi:Γ[i]?=some (.pa p x)): pF cw w.heap.size w p x:=(h.pa i hi).D7 λ_ a=>a.elim
theorem SH.ao {α:Type}[ar α]{v:Value}{x:α}(h:SH A w w Γ)(a:Γ.ae=[])(b:Rd A w v x): SH A w w (.rd v x::Γ):=h.oa (by rw[a];simpa using b)
theorem SH.fo {α:Type}[ar α]{p:Value}{x:α}(h:SH A w w Γ)(a:Γ.ae=[])(b:pF A w.heap.size w p x): SH A w w (.pa p x::Γ):=h.Mf (by rw[a];simpa using b)
def Jn:List Value->Prop
 |[]=>True
 |v::r=>CV v [v]/\Jn r
theorem Jn.out:∀ {l:List Value},Jn l->∀u∈l,u.oneCell'=true
 |[],_,_,hu=>by simp at hu
 |v::r,⟨a,b⟩,u,hu=>by
  rcases List.mem_cons.1 hu with rfl|hu
  ·exact a.one
  ·exact Jn.out b u hu
theorem ck {cs:List Value}(h:Jn cs): CV (.agg cs.toArray) cs:=Pd h.out
theorem SH.ea {α:Type}[ar α]{a:Nat->Prop}{b:Nat}{t:TypeId}{cs:List Value}{x:α}(h:SH A w0 w Γ)(i:Nat)(hi:Γ[i]?=some (.bx b t cs))(f:Rd a w (.agg cs.toArray) x)(k:ar.agg α=true): pF a w.heap.size w (.pointer (some ⟨b,0,none⟩)) x:=by
 have c:w.heap[b]?=some (.cells cs.toArray t (0,0)):=h.get i hi
 obtain⟨l,e,hr⟩:=f
 simp only[ar.val,k,if_true,Value.agg.injEq]at e
 have e2:=congrArg Array.toList e
 simp only at e2
 subst e2
 exact⟨b,0,cs,rfl,mj c,λj u m=>by simpa using pY c (by simpa using m),hr⟩
end
theorem CI {A:Nat->Prop}{w:World}: ∃a:List Value,(Value.int .i64 0).cells=a.toArray/\ar.lG A w a (0:Int):=⟨_,rfl,rfl⟩
def Out.elim {S R β:Type}(f:S->β)(g:R->β): Out S R->β
 |.bf s=>f s
 |.ret r=>g r
section
variable {R R0 S S' G G':Type}{P:Program}{n:Fr}{A:Nat->Prop}{w0:World}{Q:R->Exit->Act->World->Prop}{ρ ρ':Env}{Γ Γ':Ctx}{E:Option R}
variable {d:Option Nat}{ty:TypeId}{pos:String}{after:Array Edge}{g:Option (Nat×Bool)}
theorem nP {ops:Array Oper}{rest:List Oper}{d:Nat}{op:Op}{v:Value}(hw:iE n ρ ops ⟨some d,op,ty,pos,after,g⟩)(hd:Nat.blt d n.n=true)(c:Ex P n A w0 ρ Γ ⟨some d,op,ty,pos,after,g⟩ v)(h:JL P n A w0 ops rest Q ((d,v)::ρ) Γ E): JL P n A w0 ops (⟨some d,op,ty,pos,after,g⟩::rest) Q ρ Γ E:=by
 intro r hr a w hs b
 refine wpList_step λK e=>?_
 rw[hw a hs]
 simp only[if_true]
 unfold Oper.wp
 rw[c a w hs b,Oper.upon_value]
 exact e _ _ (h r hr _ _ (hs.put (by simpa[Nat.blt_eq]using hd)) b)
theorem vq {x:Operand}{s t:TypeId}{ds:TypeDesc}{b:IntKind}{m:Int}(a:P.underlying s=some ds)(c:P.underlying t=some (.int .i64))(e:ev ρ x=some (.int b m)): Ex P n A w0 ρ Γ ⟨d,.convert s t x,ty,pos,after,g⟩ (.int .i64 (ah m)):=Cr a c e
theorem dG {α:Type}[ar α]{x:Operand}{p:Value}{y:α}(i:Nat)(c:ev ρ x=some p)(hi:Γ[i]?=some (.pa p y)): Ex P n A w0 ρ Γ ⟨d,.nilCheck x,ty,pos,after,g⟩ p:=by
 intro a w hs e
 obtain⟨b,off,cs,rfl,_⟩:=e.get i hi
 simp[execOp,hs.eval c]
def oQ {α:Type}[ar α](y:α){G:Type}(val:G->Value)(fs:G->Ctx): Prop:=
 ∀A B w v,Rd A w v y->∃x,v=val x/\∀f∈fs x,(f.ae=[]/\f.cb=[])/\f.holds A B w
theorem bT (y:Int): oQ y (λ_:Unit=>.int .i64 y) (λ_=>[]):=λ_ _ _ _ h=>⟨(),h.int,by simp⟩
theorem rP (y:ByteArray): oQ y (λ_:Unit=>.string y) (λ_=>[]):=λ_ _ _ _ h=>⟨(),h.str,by simp⟩
theorem iT {α:Type}[ar α](y:List α): oQ y (λv:Value=>v) (λv=>[.rd v y]):=λ_ _ _ v h=>⟨v,rfl,by simpa[Fact.ae,Fact.cb,Fact.holds]using h⟩
theorem Dl {α:Type}[ar α]{o:Oper}{y:α}{G:Type}{val:G->Value}{fs:G->Ctx}(m:oQ y val fs){T:List Nat}(h:St P n A w0 ρ Γ o (λv:Value=>v) (λv=>.rd v y::Γ) T): St P n A w0 ρ Γ o val (λx=>fs x++Γ) T:=by
 intro a w hs p
 obtain⟨v,w',c,e,i,q⟩:=h a w hs p
 obtain⟨x,rfl,k⟩:=m _ w0.heap.size w' v (e.get 0 rfl)
 refine⟨x,w',c,?_,i,λb l=>?_⟩
 case refine_2=>
  have he:Ctx.ae (fs x++Γ)=Γ.ae:=by
   have:Ctx.ae (fs x)=[]:=by
    simp only[Ctx.ae,List.flatMap_eq_nil_iff]
    exact λf j=>(k f j).1.1
   simp only[Ctx.ae,List.flatMap_append]at this ⊢
   rw[this,List.nil_append]
  rw[he]at l
  exact .inl l
 have r:SH A w0 w' Γ:=e.sublist (List.sublist_cons_self _ _)
 exact r.LP λf j=>by
  obtain⟨e1,e2⟩:=k f j
  exact⟨e1,by simpa[Ctx.ae,Fact.ae]using e2⟩
theorem bM {α:Type}[ar α]{x:Operand}{t:TypeId}{p:Value}{y:α}{G:Type}{val:G->Value}{fs:G->Ctx}(i:Nat)(a:oQ y val fs)(b:cg P t=some (ar.sz α,ar.agg α))(c:ev ρ x=some p)(hi:Γ[i]?=some (.pt p y)):
  St P n A w0 ρ Γ ⟨d,.load t x,ty,pos,after,g⟩ val (λx=>fs x++Γ) []:=Dl a (JX i b c hi)
theorem eS {α:Type}[ar α]{x:Operand}{t e:TypeId}{b cap len:Nat}{xs:List α}{j:Int}{y:α}{G:Type}{val:G->Value}{fs:G->Ctx}(i:Nat)(a:oQ y val fs)(c:cg P t=some (ar.sz α,ar.agg α))(f:ev ρ x=some (.pointer (some ⟨b,j.toNat*ar.sz α,none⟩)))(hi:Γ[i]?=some (.ow e (.slice (some ⟨b,0,none⟩) len cap) xs))(h:idx xs j=some y):
  St P n A w0 ρ Γ ⟨d,.load t x,ty,pos,after,g⟩ val (λx=>fs x++Γ) []:=Dl a (Dr i c f hi h)
theorem IV {α:Type}[ar α]{x:Operand}{t:TypeId}{p:Value}{y:α}(i:Nat)(f:cg P t=some (ar.sz α,ar.agg α))(k:ev ρ x=some p)(hi:Γ[i]?=some (.pa p y)):
  St P n A w0 ρ Γ ⟨d,.load t x,ty,pos,after,g⟩ (λv:Value=>v) (λv=>.rd v y::Γ) []:=by
 intro a w hs l
 obtain⟨b,off,cs,rfl,r,m,o⟩:=l.get i hi
 have hl:=ar.len o
 refine⟨ar.val α cs,w,?_,l.oa ⟨cs,rfl,o⟩,Grow.refl w _,.plain rfl⟩
 cases e:ar.agg α with
 |true=>
  rw[e]at f
  have h:=run_loadCells_list (P:=P) w ⟨b,off,none⟩ cs (λj v q=>by rw[Addr.add_lit];exact m j v q)
  rw[hl]at h
  simp[execOp,hs.eval k,Instr.loadAt,Instr.sureAddr,loadVar,jX f,dR f,h,ar.val,e]
 |false=>
  rw[e,ar.single e]at f
  rw[ar.single e]at hl
  match cs,hl with
  |[c],_=>
   have h:=m 0 c rfl
   simp at h
   simp[execOp,hs.eval k,Instr.loadAt,Instr.sureAddr,loadVar,jX f,run_load,h,ar.val,e]
theorem eC {α:Type}[ar α]{x:Operand}{t:TypeId}{p:Value}{y:α}{G:Type}{val:G->Value}{fs:G->Ctx}(i:Nat)(a:oQ y val fs)(b:cg P t=some (ar.sz α,ar.agg α))(c:ev ρ x=some p)(hi:Γ[i]?=some (.pa p y)):
  St P n A w0 ρ Γ ⟨d,.load t x,ty,pos,after,g⟩ val (λx=>fs x++Γ) []:=Dl a (IV i b c hi)
def Part {α β:Type}[ar α][ar β](o:Nat)(x:α)(y:β): Prop:=
 ∀A w cs,ar.lG A w cs x->∃c,(∀j u,c[j]?=some u->cs[o+j]?=some u)/\ar.lG A w c y
theorem mh {α β:Type}[ar α][ar β]{x:Operand}{t:TypeId}{p:Value}{y:α}{z:β}{f o s:Nat}(i:Nat)(m:Part o y z)(r:eD P t f=some (o,s))(e:Nat.blt 0 s=true)(v:ev ρ x=some p)(hi:Γ[i]?=some (.pa p y)):
  St P n A w0 ρ Γ ⟨d,.fieldAddr t x f,ty,pos,after,g⟩ (λq:Value=>q) (λq=>.pa q z::Γ) []:=by
 intro a w hs l
 obtain⟨b,off,cs,rfl,B,C,D⟩:=l.get i hi
 obtain⟨c,h,k⟩:=m _ _ _ D
 refine⟨.pointer (some ⟨b,off+o,none⟩),w,by simp[execOp,hs.eval v,yE r e],?_,Grow.refl w _,.plain rfl⟩
 refine l.cons (Grow.refl w []) (by simp[Fact.ae]) (by simp[Fact.ae]) ?_
 refine⟨b,off+o,c,rfl,B,λj u F=>?_,by simpa[Ctx.ae,Fact.ae]using k⟩
 rw[Nat.add_assoc]
 exact C _ _ (h j u F)
theorem bH {ops:Array Oper}{l:List Oper}(b:∀w,SH A w0 w Γ->SH A w0 w Γ')(h:JL P n A w0 ops l Q ρ Γ' E): JL P n A w0 ops l Q ρ Γ E:=λr hr a w hs c=>h r hr a w hs (b w c)
theorem lE {c:Code}(b:∀w,SH A w0 w Γ->SH A w0 w Γ')(h:J P n A w0 c Q ρ Γ' E): J P n A w0 c Q ρ Γ E:=λr hr a w hs e=>h r hr a w hs (b w e)
theorem eI {e:Exit}(b:∀w,SH A w0 w Γ->SH A w0 w Γ')(h:N n A w0 Q e ρ Γ' E): N n A w0 Q e ρ Γ E:=λr hr a w hs c=>h r hr a w hs (b w c)
theorem Qr {c:Code}(ρ':Env)(b:xt ρ' ρ)(is:List Nat)(f:gM is=true)(e:cj is Γ=Γ')(h:J P n A w0 c Q ρ' Γ' E): J P n A w0 c Q ρ Γ E:=
 λr hr a w hs i=>h r hr a w (hs.sub b) (e▸i.cj is f)
theorem OE {c:Code}{id:Nat}(body:S->Option (S ⊕ Out S R0))(a:S->G->Env)(b:S->G->Ctx){h:S->Option R}{j:R0->Option R}(i:S)(g0:G)(k:xt (a i g0) ρ)(is:List Nat)(m:gM is=true)(l:cj is Γ=b i g0)(e:∀s g,J P n A w0 c (vC n A w0 id Q a b a b (Out.elim h j)) (a s g) (b s g) (body s))(f:∀s g,N n A w0 Q .normal (a s g) (b s g) (h s)):
  J P n A w0 (.block id (.loop c)) Q ρ Γ (Z (run body i) (Out.elim h j)):=
 Qr _ k is m l (O7 body a b a b (Out.elim h j) i g0 e f)
theorem Ov {id:Nat}{b:S->G->Env}{c:S->G->Ctx}{e:S'->G'->Env}{f:S'->G'->Ctx}{K:Out S' R0->Option R}{s:S}(g:G)(h:xt (b s g) ρ)(is:List Nat)(j:gM is=true)(i:cj is Γ=c s g):
  N n A w0 (vC n A w0 id Q b c e f K) .normal ρ Γ (some (.inl s)):=by
 intro x k a w hs l
 cases k
 exact⟨rfl,g,hs.sub h,i▸l.cj is j⟩
theorem ML {id:Nat}{e:S->G->Env}{f:S->G->Ctx}{b:S'->G'->Env}{c:S'->G'->Ctx}{K:Out S' R0->Option R}{s:S'}(g:G')(h:xt (b s g) ρ)(is:List Nat)(j:gM is=true)(i:cj is Γ=c s g):
  N n A w0 (vC n A w0 id Q e f b c K) (.exit id) ρ Γ (some (.inr (.bf s))):=by
 intro x k a w hs l
 cases k
 exact⟨rfl,g,hs.sub h,i▸l.cj is j⟩
theorem oL {c:Code}{Ex:Option (Out S' R0)}(b:S'->G'->Env)(e:S'->G'->Ctx){f:S'->Option R}{i:R0->Option R}(h:J P n A w0 c (G6 n A w0 Q b e (Out.elim f i)) ρ Γ Ex)(a:∀s g,N n A w0 Q .normal (b s g) (e s g) (f s)): J P n A w0 c Q ρ Γ (Z Ex (Out.elim f i)):=
 Qk b e (Out.elim f i) h a
theorem Gf {b:S'->G'->Env}{c:S'->G'->Ctx}{K:Out S' R0->Option R}{s:S'}(g:G')(e:xt (b s g) ρ)(is:List Nat)(h:gM is=true)(f:cj is Γ=c s g):
  N n A w0 (G6 n A w0 Q b c K) .normal ρ Γ (some (.bf s)):=by
 intro x i a w hs j
 cases i
 exact⟨rfl,g,hs.sub e,f▸j.cj is h⟩
def nz (b:Int): Option Unit:=if b=0 then none else some ()
theorem sM {b:Int}{u:Unit}(h:nz b=some u): b≠0:=by
 intro e
 simp[nz,e]at h
theorem F6 {α:Type}[ar α]{A:Nat->Prop}{w:World}: Rd A w (.slice none 0 0) ([]:List α):=.zT tG.nil
end
end Go.Tc
namespace Go.Tc
open Go Go.RowKit
section
variable {A:Nat->Prop}{w0 w w':World}{Γ Γ' Δ:Ctx}
theorem yx:∀(is js:List Nat),gM (is++js)=true->gM is=true/\∀i∈is,∀j∈js,i≠j
 |[],_,_=>⟨rfl,by simp⟩
 |i::is,js,h=>by
  simp only[List.cons_append,gM,Bool.and_eq_true,Bool.not_eq_true',List.any_append,Bool.or_eq_false_iff]at h
  obtain⟨⟨e,b⟩,f⟩:=h
  obtain⟨l,m⟩:=yx is js f
  refine⟨by simp[gM,e,l],λk a j c=>?_⟩
  rcases List.mem_cons.1 a with rfl|a
  ·rintro rfl
   rw[List.any_eq_false]at b
   exact b k c (Nat.beq_refl k)
  ·exact m k a j c
theorem SH.Fa {O:List Nat}(h:SH A w0 w Γ)(is js:List Nat)(C:gM (is++js)=true)(B:(Tc.cj js Γ).ae=O)(m:Grow w w' O): SH A w0 w' (Tc.cj is Γ):=by
 obtain⟨q,v⟩:=yx is js C
 have a:∀b∈O,b∈Γ.ae:=λb c=>by
  rw[<- B]at c
  obtain⟨i,_,f,o,e⟩:=kD js Γ b c
  exact List.mem_flatMap.2 ⟨f,List.mem_of_getElem? o,e⟩
 have l:∀b∈(Tc.cj is Γ).ae,b∈Γ.ae:=λb c=>by
  obtain⟨i,_,f,o,e⟩:=kD is Γ b c
  exact List.mem_flatMap.2 ⟨f,List.mem_of_getElem? o,e⟩
 have x:∀b∈(Tc.cj is Γ).ae,b∉O:=λb c r=>by
  rw[<- B]at r
  obtain⟨i,hi,f,o,e⟩:=kD is Γ b c
  obtain⟨j,D,f',y,s⟩:=kD js Γ b r
  exact wb h.nd o y (v i hi j D) e s
 refine⟨h.Ls ⟨m.os,m.tape,m.output,m.size,λk t hs=>m.block k t (λhm=>hs (a k hm))⟩,h.av,Bk is Γ q h.nd,λb c=>⟨(h.ge b (l b c)).1,Nat.lt_of_lt_of_le (h.ge b (l b c)).2 m.size⟩,uu is Γ q h.tu,λb c=>h.uS b (AK is Γ b c),λf o=>?_⟩
 obtain⟨i,hi,u⟩:=pV is Γ f o
 refine Fact.frame m.size (h.all f (List.mem_of_getElem? u)) (λb c=>m.block b (h.ge b (List.mem_flatMap.2 ⟨f,List.mem_of_getElem? u,c⟩)).2 (x b (List.mem_flatMap.2 ⟨f,o,c⟩))) (λk t=>m.block k (Nat.lt_of_lt_of_le t h.lt) (λhm=>absurd (h.ge k (a k hm)).1 (by omega))) (λk t z=>⟨m.block k t (λhm=>z (.inr (a k hm))),?_⟩)
 rintro(p|p)
 ·exact z (.inl p)
 ·exact z (.inr (l k p))
theorem xG {js:List Nat}{f:Fact}(m:Nat)(hm:(cj js Γ)[m]?=some f): ∀k∈f.ae,k∈(cj js Γ).ae:=λ_ a=>List.mem_flatMap.2 ⟨f,List.mem_of_getElem? hm,a⟩
theorem dN {α:Type}[ar α]{js:List Nat}{e:TypeId}{v:Value}{xs:List α}(m:Nat)(hm:(cj js Γ)[m]?=some (.ow e v xs)): ∀k∈v.ownBlock.toList,k∈(cj js Γ).ae:=xG m hm
theorem bc {js:List Nat}{b:Nat}{t:TypeId}{cs:List Value}(m:Nat)(hm:(cj js Γ)[m]?=some (.bx b t cs)): ∀k∈[b],k∈(cj js Γ).ae:=xG m hm
end
section
variable {R:Type}{P:Program}{n:Fr}{A:Nat->Prop}{w0 w1:World}{Q:R->Exit->Act->World->Prop}{ρ ρ':Env}{Γ Γ' Γp Γ1:Ctx}{E:Option R}{O:List Nat}{ops:Array Oper}{fuel:Nat}{listed:Array Bool}
variable {ty:TypeId}{pos:String}{after:Array Edge}{g:Option (Nat×Bool)}
def JP (P:Program)(n:Fr)(A:Nat->Prop)(w0:World)(ops:Array Oper)(O:List Nat)(fuel:Nat)(listed:Array Bool)(Q:R->Exit->Act->World->Prop)(ρ:Env)(Γ:Ctx)(E:Option R): Prop:=
 ∀r,E=some r->∀a w,Sat n ρ a->SH A w0 w Γ->wpAnyH P .any ops (BF (Q r)) (λw'=>Grow w w' O) fuel listed a w
def JD (P:Program)(n:Fr)(A:Nat->Prop)(w0 w1:World)(Γ1:Ctx)(ops:Array Oper)(O:List Nat)(fuel:Nat)(listed:Array Bool)(Q:R->Exit->Act->World->Prop)(ρ:Env)(Γ:Ctx)(E:Option R): Prop:=
 ∀r,E=some r->∀a w,Sat n ρ a->SH A w0 w Γ->Grow w1 w O->gR Γ1 Γ w1->wpAnyH P .any ops (BF (Q r)) (λw'=>Grow w1 w' O) fuel listed a w
def JO (P:Program)(n:Fr)(A:Nat->Prop)(w0 w1:World)(Γ1:Ctx)(ops:Array Oper)(O:List Nat)(fuel:Nat)(listed:Array Bool)(Q:R->Exit->Act->World->Prop)(i:Nat)(ρ:Env)(Γ:Ctx)(E:Option R): Prop:=
 ∀r,E=some r->∀a w,Sat n ρ a->SH A w0 w Γ->Grow w1 w O->gR Γ1 Γ w1->wpOp P ops (BF (Q r)) i (λb w'=>Grow w1 w' O/\wpAnyH P .any ops (BF (Q r)) (λw'=>Grow w1 w' O) fuel (listed.setIfInBounds i true) b w') a w
theorem Fl {ops:Array Oper}{O:List Nat}{fuel:Nat}{listed:Array Bool}: JP P n A w0 ops O fuel listed Q ρ Γ none:=λ_ hr=>by cases hr
theorem IA {id:Nat}{l:List Oper}(js:List Nat)(hm:P.follows .mixedOrders=true)(b:n.o=none\/l.toArray.all yS=true)(h:JP P n A w0 l.toArray (cj js Γ).ae l.length (Array.replicate l.length false) Q ρ Γ E): J P n A w0 (.region id l.toArray true) Q ρ Γ E:=by
 intro r hr a w hs c
 refine Code.wpIn_mono (λ_ _ _=>Ey) (wpIn_region_any hm (LR (xx _) b _ _ _ _ (wpAny_of_held (S:=λw'=>Grow w.drew w' (cj js Γ).ae) _ _ _ _ ?_)))
 have:=h r hr a w.drew hs c.drew
 simpa using this
theorem Ew {id:Nat}{l:List Oper}(js:List Nat)(hm:P.follows .mixedOrders=true)(h:JP P n A w0 l.toArray (cj js Γ).ae l.length (Array.replicate l.length false) Q ρ Γ E)(a:n.o=none:=by rfl): J P n A w0 (.region id l.toArray true) Q ρ Γ E:=IA js hm (.inl a) h
theorem B9 {id:Nat}{l:List Oper}(js:List Nat)(hm:P.follows .mixedOrders=true)(hl:l.toArray.all yS=true)(h:JP P n A w0 l.toArray (cj js Γ).ae l.length (Array.replicate l.length false) Q ρ Γ E): J P n A w0 (.region id l.toArray true) Q ρ Γ E:=IA js hm (.inr hl) h
theorem cK {α:Type}{m:Option α}{f:α->Option R}(h:∀x,m=some x->JP P n A w0 ops O fuel listed Q ρ Γ (f x)): JP P n A w0 ops O fuel listed Q ρ Γ (Z m f):=by
 intro r hr
 obtain⟨x,a,b⟩:=xy hr
 exact h x a r b
theorem aF {α:Type}{m:Option α}{f:α->Option R}(h:∀x,m=some x->JD P n A w0 w1 Γ1 ops O fuel listed Q ρ Γ (f x)): JD P n A w0 w1 Γ1 ops O fuel listed Q ρ Γ (Z m f):=by
 intro r hr
 obtain⟨x,a,b⟩:=xy hr
 exact h x a r b
theorem nR {b:Bool}{a c:Option R}(e:b=true->JP P n A w0 ops O fuel listed Q ρ Γ a)(f:b=false->JP P n A w0 ops O fuel listed Q ρ Γ c): JP P n A w0 ops O fuel listed Q ρ Γ (cond b a c):=by
 cases b with
 |true=>exact e rfl
 |false=>exact f rfl
theorem mE {b:Bool}{a c:Option R}(e:b=true->JD P n A w0 w1 Γ1 ops O fuel listed Q ρ Γ a)(f:b=false->JD P n A w0 w1 Γ1 ops O fuel listed Q ρ Γ c): JD P n A w0 w1 Γ1 ops O fuel listed Q ρ Γ (cond b a c):=by
 cases b with
 |true=>exact e rfl
 |false=>exact f rfl
theorem PG (b:∀w,SH A w0 w Γ->SH A w0 w Γ')(h:JP P n A w0 ops O fuel listed Q ρ Γ' E): JP P n A w0 ops O fuel listed Q ρ Γ E:=λr hr a w hs c=>h r hr a w hs (b w c)
theorem mf (c:∀w,SH A w0 w Γ->SH A w0 w Γ')(e:∀b∈Γ'.ae,b∈Γ.ae)(h:JD P n A w0 w1 Γ1 ops O fuel listed Q ρ Γ' E): JD P n A w0 w1 Γ1 ops O fuel listed Q ρ Γ E:=λr hr a w hs f i j=>h r hr a w hs (c w f) i (λb k=>j b (e b k))
theorem gP {i d:Nat}{op:Op}{v:Value}(is js:List Nat)(hi:ops[i]?=some ⟨some d,op,ty,pos,after,g⟩)(hs:Region.noSelect ops=true)(f:Region.free .any ops listed i=true)(hr:(Region.ready .any ops listed).contains i=true)(j:gM (is++js)=true)(k:(cj js Γ).ae=O)(hw:iE n ρ ops ⟨some d,op,ty,pos,after,g⟩)(hd:Nat.blt d n.n=true)(l:Ex P n A w0 ρ (cj is Γ) ⟨some d,op,ty,pos,after,g⟩ v)(h:JP P n A w0 ops O fuel (listed.setIfInBounds i true) Q ((d,v)::ρ) Γ E): JP P n A w0 ops O (fuel+1) listed Q ρ Γ E:=by
 intro r c a w b e
 refine wpAnyH_take hi hs f hr (λ_ _ _ hq=>hq) (.inl ⟨hw a b,λw' m=>l a w' b (e.Fa is js j k m)⟩) (Grow.refl w O) ?_
 exact h r c _ w (b.put (by simpa[Nat.blt_eq]using hd)) e
theorem OQ {i d:Nat}{op:Op}{j k:Nat}{want b:Bool}(hi:ops[i]?=some ⟨some d,op,ty,pos,after,some (j,want)⟩)(hs:Region.noSelect ops=true)(l:Region.free .any ops listed i=true)(hr:(Region.ready .any ops listed).contains i=true)(m:(ops[j]?).bind (·.dst)=some k)(o:ρ.get k=some (.bool b))(e:b=!want)(hd:Nat.blt d n.n=true)(h:JP P n A w0 ops O fuel (listed.setIfInBounds i true) Q ((d,undef)::ρ) Γ E): JP P n A w0 ops O (fuel+1) listed Q ρ Γ E:=by
 intro r f a w c p
 refine wpAnyH_take hi hs l hr (λ_ _ _ hq=>hq) (.inr ⟨?_,rfl⟩) (Grow.refl w O) ?_
 ·rw[yN c rfl m o,e];cases want<;>rfl
 ·exact h r f _ w (c.put (by simpa[Nat.blt_eq]using hd)) p
theorem Bh {n:Fr}{ρ:Env}{a:Act}{o:Oper}{ops:Array Oper}{j b:Nat}{want:Bool}(hs:Sat n ρ a)(e:o.guard=some (j,want))(f:(ops[j]?).bind (·.dst)=some b)(h:ρ.get b=some undef):
  Region.wanted o (yielded ops a.tmps)=false:=by
 obtain⟨i,k⟩:=hs.get b _ h
 have l:a.tmps[b]?=some undef:=by
  have c:b<a.tmps.size:=by rw[hs.size];exact k
  rw[Array.getElem?_eq_getElem c]
  simpa[Array.getD_eq_getD_getElem?,Array.getElem?_eq_getElem c]using i
 simp only[Region.wanted,e,yielded,f,Option.bind_some,l,undef]
 cases want<;>rfl
theorem jD {i d:Nat}{op:Op}{j e:Nat}{want:Bool}(hi:ops[i]?=some ⟨some d,op,ty,pos,after,some (j,want)⟩)(hs:Region.noSelect ops=true)(f:Region.free .any ops listed i=true)(hr:(Region.ready .any ops listed).contains i=true)(k:(ops[j]?).bind (·.dst)=some e)(l:ρ.get e=some undef)(hd:Nat.blt d n.n=true)(h:JP P n A w0 ops O fuel (listed.setIfInBounds i true) Q ((d,undef)::ρ) Γ E): JP P n A w0 ops O (fuel+1) listed Q ρ Γ E:=by
 intro r c a w b m
 refine wpAnyH_take hi hs f hr (λ_ _ _ hq=>hq) (.inr ⟨Bh b rfl k l,rfl⟩) (Grow.refl w O) ?_
 exact h r c _ w (b.put (by simpa[Nat.blt_eq]using hd)) m
def Sq (P:Program)(n:Fr)(A:Nat->Prop)(w0:World)(ρ:Env)(Γ:Ctx)(o:Oper){G:Type}(v:G->Value)(Γ':G->Ctx): Prop:=
 ∀a w,Sat n ρ a->SH A w0 w Γ->∃x,(∀w',(∀k,k<w.heap.size->k∉Γ.ae->w'.heap[k]?=w.heap[k]?)->(execOp a.eval o).run P w'=.ok (.value (v x)) w')/\SH A w0 w (Γ' x)
theorem Og {i d:Nat}{op:Op}{G:Type}{v:G->Value}{Γ':G->Ctx}(js:List Nat)(hi:ops[i]?=some ⟨some d,op,ty,pos,after,g⟩)(hs:Region.noSelect ops=true)(p:Region.free .any ops listed i=true)(hr:(Region.ready .any ops listed).contains i=true)(q:(cj js Γ).ae=O)(hw:iE n ρ ops ⟨some d,op,ty,pos,after,g⟩)(hd:Nat.blt d n.n=true)(s:Sq P n A w0 ρ Γ ⟨some d,op,ty,pos,after,g⟩ v Γ')(h:∀x,JP P n A w0 ops O fuel (listed.setIfInBounds i true) Q ((d,v x)::ρ) (Γ' x) E): JP P n A w0 ops O (fuel+1) listed Q ρ Γ E:=by
 intro r e a w b t
 obtain⟨x,c,j⟩:=s a w b t
 refine wpAnyH_take hi hs p hr (λ_ _ _ hq=>hq) (.inl ⟨hw a b,λw' u=>c w' (λk y l=>u.block k y (λhm=>l ?_))⟩) (Grow.refl w O) ?_
 ·rw[<- q]at hm
  obtain⟨z,_,f,m,o⟩:=kD js Γ k hm
  exact List.mem_flatMap.2 ⟨f,List.mem_of_getElem? m,o⟩
 ·exact h x r e _ w (b.put (by simpa[Nat.blt_eq]using hd)) j
theorem eP {d:Option Nat}{α:Type}[ar α]{x q:Operand}{t e:TypeId}{k:IntKind}{b:Bool}{v:Value}{xs:List α}{j:Int}{y:α}(i:Nat)(z:P.underlying t=some (.slice e))(he:cg P e=some (ar.sz α,b))(B:ev ρ x=some v)(f:ev ρ q=some (.int k j))(hi:Γ[i]?=some (.rd v xs))(C:idx xs j=some y):
  Sq P n A w0 ρ Γ ⟨d,.indexAddr t x q,ty,pos,after,g⟩ (λp:Value=>p) (λp=>.pt p y::Γ):=by
 intro a w hs r
 have hr:=Rd.sl (r.get i hi)
 obtain⟨M,h,l⟩:=idx_eq C
 rcases hr with⟨rfl,_⟩|⟨s,off,cap,cells,rfl,D,F,N,T,H,I⟩
 ·simp at h
 obtain⟨c,J,m,o⟩:=dT.get xs cells j.toNat y I l
 refine⟨.pointer (some ⟨s,off+j.toNat*ar.sz α,none⟩),λw' _=>?_,?_⟩
 ·have K:0<=j/\j<(xs.length:Int):=⟨by omega,by omega⟩
  simp[execOp,hs.eval B,hs.eval f,Instr.indexAt,asIntOf,run_underlying z,K,dR he,Addr.add_lit]
 ·refine r.cons (Grow.refl w []) (by simp[Fact.ae]) (by simp[Fact.ae]) ?_
  refine⟨s,_,c,rfl,by simpa[Ctx.ae,Fact.ae]using D,F,λL u hu=>?_,by simpa[Ctx.ae,Fact.ae]using m⟩
  rw[Nat.add_assoc]
  exact H _ _ (o L u hu)
theorem Bi {α:Type}[ar α]{d:Option Nat}{x:Operand}{t:TypeId}{b off:Nat}{cs:List Value}{a:Act}{w':World}(h:cg P t=some (ar.sz α,ar.agg α))(he:a.eval x=.pointer (some ⟨b,off,none⟩))(hl:cs.length=ar.sz α)(e:zr w' b off cs):
  (execOp a.eval ⟨d,.load t x,ty,pos,after,g⟩).run P w'=.ok (.value (ar.val α cs)) w':=by
 cases f:ar.agg α with
 |true=>
  rw[f]at h
  have i:=run_loadCells_list (P:=P) w' ⟨b,off,none⟩ cs (λj v k=>by rw[Addr.add_lit];exact e j v k)
  rw[hl]at i
  simp[execOp,he,Instr.loadAt,Instr.sureAddr,loadVar,jX h,dR h,i,ar.val,f]
 |false=>
  rw[f,ar.single f]at h
  rw[ar.single f]at hl
  match cs,hl with
  |[c],_=>
   have i:=e 0 c rfl
   simp at i
   simp[execOp,he,Instr.loadAt,Instr.sureAddr,loadVar,jX h,run_load,i,ar.val,f]
theorem Ix {d:Option Nat}{α:Type}[ar α]{x:Operand}{t:TypeId}{p:Value}{y:α}(i:Nat)(h:cg P t=some (ar.sz α,ar.agg α))(j:ev ρ x=some p)(hi:Γ[i]?=some (.pt p y)):
  Sq P n A w0 ρ Γ ⟨d,.load t x,ty,pos,after,g⟩ (λv:Value=>v) (λv=>.rd v y::Γ):=by
 intro a w hs e
 obtain⟨b,off,cs,rfl,k,l,m,f⟩:=e.get i hi
 exact⟨ar.val α cs,λw' c=>Bi h (hs.eval j) (ar.len f) (m.frame (c b l (λhm=>k (.inr hm)))),e.oa ⟨cs,rfl,f⟩⟩
theorem Jf {d:Option Nat}{α:Type}[ar α]{x:Operand}{t:TypeId}{p:Value}{y:α}(i:Nat)(h:cg P t=some (ar.sz α,ar.agg α))(j:ev ρ x=some p)(hi:Γ[i]?=some (.pa p y)):
  Sq P n A w0 ρ Γ ⟨d,.load t x,ty,pos,after,g⟩ (λv:Value=>v) (λv=>.rd v y::Γ):=by
 intro a w hs c
 obtain⟨b,off,cs,rfl,k,l,f⟩:=c.get i hi
 exact⟨ar.val α cs,λw' e=>Bi h (hs.eval j) (ar.len f) (l.frame (e b (Nat.lt_of_lt_of_le k c.lt) (λhm=>absurd (c.ge b hm).1 (by omega)))),c.oa ⟨cs,rfl,f⟩⟩
theorem GO {o:Oper}{α:Type}[ar α]{y:α}{G:Type}{val:G->Value}{fs:G->Ctx}(e:oQ y val fs)(h:Sq P n A w0 ρ Γ o (λv:Value=>v) (λv=>.rd v y::Γ)): Sq P n A w0 ρ Γ o val (λx=>fs x++Γ):=by
 intro a w hs i
 obtain⟨v,b,c⟩:=h a w hs i
 obtain⟨x,rfl,j⟩:=e _ w0.heap.size w v (c.get 0 rfl)
 refine⟨x,b,?_⟩
 have k:SH A w0 w Γ:=c.sublist (List.sublist_cons_self _ _)
 exact k.LP λf l=>by
  obtain⟨e1,e2⟩:=j f l
  exact⟨e1,by simpa[Ctx.ae,Fact.ae]using e2⟩
theorem cr {d:Option Nat}{α:Type}[ar α]{x:Operand}{t:TypeId}{p:Value}{y:α}{G:Type}{val:G->Value}{fs:G->Ctx}(i:Nat)(a:oQ y val fs)(b:cg P t=some (ar.sz α,ar.agg α))(c:ev ρ x=some p)(hi:Γ[i]?=some (.pt p y)):
  Sq P n A w0 ρ Γ ⟨d,.load t x,ty,pos,after,g⟩ val (λx=>fs x++Γ):=GO a (Ix i b c hi)
theorem eT {d:Option Nat}{α:Type}[ar α]{x:Operand}{t:TypeId}{p:Value}{y:α}{G:Type}{val:G->Value}{fs:G->Ctx}(i:Nat)(a:oQ y val fs)(b:cg P t=some (ar.sz α,ar.agg α))(c:ev ρ x=some p)(hi:Γ[i]?=some (.pa p y)):
  Sq P n A w0 ρ Γ ⟨d,.load t x,ty,pos,after,g⟩ val (λx=>fs x++Γ):=GO a (Jf i b c hi)
theorem fh {d:Option Nat}{α β:Type}[ar α][ar β]{x:Operand}{t:TypeId}{p:Value}{y:α}{z:β}{f o s:Nat}(i:Nat)(m:Part o y z)(j:eD P t f=some (o,s))(e:Nat.blt 0 s=true)(k:ev ρ x=some p)(hi:Γ[i]?=some (.pa p y)):
  Sq P n A w0 ρ Γ ⟨d,.fieldAddr t x f,ty,pos,after,g⟩ (λq:Value=>q) (λq=>.pa q z::Γ):=by
 intro a w hs l
 obtain⟨q,w',c,h,_,_⟩:=mh (d:=d) (ty:=ty) (pos:=pos) (after:=after) (g:=g) i m j e k hi a w hs l
 obtain⟨b,off,cs,rfl,r,u,v⟩:=l.get i hi
 have he:∀w',(execOp a.eval ⟨d,.fieldAddr t x f,ty,pos,after,g⟩).run P w'=.ok (.value (.pointer (some ⟨b,off+o,none⟩))) w':=λw'=>by simp[execOp,hs.eval k,yE j e]
 rw[he w]at c
 cases c
 exact⟨_,λw' _=>he w',h⟩
theorem np {d:Option Nat}{α:Type}[ar α]{x:Operand}{t e:TypeId}{D:Bool}{v:Value}{xs ys:List α}{lo hi:Option Operand}{l h:Int}(i:Nat)(p:P.underlying t=some (.slice e))(he:cg P e=some (ar.sz α,D))(F:ev ρ x=some v)(f:bound ρ lo 0=some l)(j:bound ρ hi xs.length=some h)(q:Γ[i]?=some (.rd v xs))(B:jV xs l h=some ys): Sq P n A w0 ρ Γ ⟨d,.slice t x lo hi none,ty,pos,after,g⟩ (λo:Value=>o) (λo=>.rd o ys::Γ):=by
 intro a w hs C
 have hr:=Rd.sl (C.get i q)
 obtain⟨o,c,r⟩:=tG.slice (P:=P) p he hr (kU hs f) (kU hs j) B
 refine⟨o,λw' _=>?_,C.oa (.zT r)⟩
 have s:tG (λk=>A k\/k∈Γ.ae) w v xs:=hr
 have key:(Instr.sliceAt t v (lo.map a.eval) (hi.map a.eval) none).run P w'=.ok o w':=by
  obtain⟨H,M,I,_⟩:=ug B
  have m:∀cap:Nat,xs.length<=cap->0<=h/\h<=(cap:Int):=λcap N=>⟨by omega,by omega⟩
  have u:0<=l/\l<=(xs.length:Int):=⟨H,by omega⟩
  have y:l<=max h 0:=by omega
  rcases s with⟨rfl,ad,cap,rfl,T,J⟩|⟨b,off,cap,cells,rfl,g1,g2,g3,g4,g5,g6⟩
  ·simp at I
   have hl:l=0:=by omega
   have z:h=0:=by omega
   subst hl z
   rcases kU hs f with⟨e1,_⟩|e1<;>rcases kU hs j with⟨e2,_⟩|e2<;>rw[e1,e2]at c ⊢ <;>
    simp[Instr.sliceAt,Instr.slice,run_underlying p,Instr.sliceBounds,Instr.sliceBound,asIntOf,dR he]at c ⊢<;>exact c
  ·have m:=m cap g3
   rcases kU hs f with⟨e1,K⟩|e1<;>rcases kU hs j with⟨e2,L⟩|e2<;>rw[e1,e2]at c ⊢ <;>
    simp[Instr.sliceAt,Instr.slice,run_underlying p,Instr.sliceBounds,Instr.sliceBound,asIntOf,dR he,Addr.add_lit,m,u,y]at c ⊢<;>exact c
 simp only[execOp,hs.eval F,Option.map_none]
 simp[key]
theorem bP (is js:List Nat)(c:gM (is++js)=true)(e:(cj js Γ).ae=O)(f:cj is Γ=Γp)(h:∀w1,SH A w0 w1 Γ->(∀w',Grow w1 w' O->SH A w0 w' Γp)->JD P n A w0 w1 Γ ops O fuel listed Q ρ Γ E): JP P n A w0 ops O fuel listed Q ρ Γ E:=by
 intro r hr a w hs b
 exact h w b (λw' i=>f▸b.Fa is js c e i) r hr a w hs b (Grow.refl w O) (.refl _ _)
theorem I7 {i d:Nat}{op:Op}{v:Value}(k:∀w',Grow w1 w' O->SH A w0 w' Γp)(hi:ops[i]?=some ⟨some d,op,ty,pos,after,g⟩)(hs:Region.noSelect ops=true)(l:Region.free .any ops listed i=true)(hr:(Region.ready .any ops listed).contains i=true)(hw:iE n ρ ops ⟨some d,op,ty,pos,after,g⟩)(hd:Nat.blt d n.n=true)(m:Ex P n A w0 ρ Γp ⟨some d,op,ty,pos,after,g⟩ v)(h:JD P n A w0 w1 Γ1 ops O fuel (listed.setIfInBounds i true) Q ((d,v)::ρ) Γ E): JD P n A w0 w1 Γ1 ops O (fuel+1) listed Q ρ Γ E:=by
 intro r c a w b o j e
 refine wpAnyH_take hi hs l hr (λ_ _ _ hq=>hq) (.inl ⟨hw a b,λw' f=>m a w' b (k w' f)⟩) j ?_
 exact h r c _ w (b.put (by simpa[Nat.blt_eq]using hd)) o j e
theorem NQ {i d:Nat}{op:Op}{j l:Nat}{want b:Bool}(hi:ops[i]?=some ⟨some d,op,ty,pos,after,some (j,want)⟩)(hs:Region.noSelect ops=true)(o:Region.free .any ops listed i=true)(hr:(Region.ready .any ops listed).contains i=true)(p:(ops[j]?).bind (·.dst)=some l)(q:ρ.get l=some (.bool b))(e:b=!want)(hd:Nat.blt d n.n=true)(h:JD P n A w0 w1 Γ1 ops O fuel (listed.setIfInBounds i true) Q ((d,undef)::ρ) Γ E): JD P n A w0 w1 Γ1 ops O (fuel+1) listed Q ρ Γ E:=by
 intro r f a w c s m k
 refine wpAnyH_take hi hs o hr (λ_ _ _ hq=>hq) (.inr ⟨?_,rfl⟩) m ?_
 ·rw[yN c rfl p q,e];cases want<;>rfl
 ·exact h r f _ w (c.put (by simpa[Nat.blt_eq]using hd)) s m k
theorem cF {i d:Nat}{op:Op}{j f:Nat}{want:Bool}(hi:ops[i]?=some ⟨some d,op,ty,pos,after,some (j,want)⟩)(hs:Region.noSelect ops=true)(l:Region.free .any ops listed i=true)(hr:(Region.ready .any ops listed).contains i=true)(m:(ops[j]?).bind (·.dst)=some f)(o:ρ.get f=some undef)(hd:Nat.blt d n.n=true)(h:JD P n A w0 w1 Γ1 ops O fuel (listed.setIfInBounds i true) Q ((d,undef)::ρ) Γ E): JD P n A w0 w1 Γ1 ops O (fuel+1) listed Q ρ Γ E:=by
 intro r c a w b p k e
 refine wpAnyH_take hi hs l hr (λ_ _ _ hq=>hq) (.inr ⟨Bh b rfl m o,rfl⟩) k ?_
 exact h r c _ w (b.put (by simpa[Nat.blt_eq]using hd)) p k e
theorem Cf {α:Type}[ar α]{e:TypeId}{v:Value}{xs:List α}{i:Nat}(hi:Γ[i]?=some (.ow e v xs)): ∀b∈Ctx.ae (Γ.set i (.rd v xs)),b∈Γ.ae:=λb a=>by
 obtain⟨c,f,e1,e2⟩:=nq (f':=.rd v xs) hi
 rw[e2]at a
 rw[e1]
 simp only[Fact.ae,List.append_nil,List.mem_append]at a ⊢
 rcases a with a|a
 ·exact .inl (.inl a)
 ·exact .inr a
theorem Im {i:Nat}(hr:Region.ready .any ops listed=[i])(h:JO P n A w0 w1 Γ1 ops O fuel listed Q i ρ Γ E): JD P n A w0 w1 Γ1 ops O (fuel+1) listed Q ρ Γ E:=by
 intro r b a w c k l e
 refine wpAnyH_all hr (by simp) ?_
 intro j f
 simp at f
 subst f
 exact h r b a w c k l e
theorem dP {i j:Nat}(hr:Region.ready .any ops listed=[i,j])(m:JO P n A w0 w1 Γ1 ops O fuel listed Q i ρ Γ E)(o:JO P n A w0 w1 Γ1 ops O fuel listed Q j ρ Γ E): JD P n A w0 w1 Γ1 ops O (fuel+1) listed Q ρ Γ E:=by
 intro r b a w c f h e
 refine wpAnyH_all hr (by simp) ?_
 intro k l
 simp at l
 rcases l with rfl|rfl
 ·exact m r b a w c f h e
 ·exact o r b a w c f h e
theorem EU (hr:Region.ready .any ops listed=[])(h:N n A w0 Q .normal ρ Γ E): JD P n A w0 w1 Γ1 ops O fuel listed Q ρ Γ E:=by
 intro r b a w c e i f
 exact wpAnyH_done (Q:=BF (Q r)) hr (h r b a w c e) fuel
theorem gR.trans {w:World}(a:gR Γ1 Γ w1)(c:Grow w1 w O)(e:gR Γ Γ' w): gR Γ1 Γ' w1:=λb f=>by
 rcases e b f with h|h
 ·exact a b h
 ·exact .inr (Nat.le_trans c.size h)
theorem Grow.more {w w':World}{T:List Nat}(c:Grow w1 w O)(a:Grow w w' T)(e:∀k∈T,k∈O): Grow w1 w' O:=
 c.trans ⟨a.os,a.tape,a.output,a.size,λk f b=>a.block k f (λhm=>b (e k hm))⟩
theorem OL {i d:Nat}{op:Op}{G:Type}{v:G->Value}{fs:G->Ctx}(js:List Nat)(B:SH A w0 w1 Γ1)(M:(cj js Γ1).ae=O)(hi:ops[i]?=some ⟨some d,op,ty,pos,after,g⟩)(hs:Region.noSelect ops=true)(N:Region.free .any ops listed i=true)(hr:(Region.ready .any ops listed).contains i=true)(hw:iE n ρ ops ⟨some d,op,ty,pos,after,g⟩)(hd:Nat.blt d n.n=true)(T:Sq P n A w0 ρ Γ1 ⟨some d,op,ty,pos,after,g⟩ v (λx=>fs x++Γ1))(C:∀x,(fs x).all (λf=>f.ae.isEmpty&&f.cb.isEmpty)=true)(h:∀x,SH A w0 w1 (fs x++Γ1)->JD P n A w0 w1 (fs x++Γ1) ops O fuel (listed.setIfInBounds i true) Q ((d,v x)::ρ) (fs x++Γ) E): JD P n A w0 w1 Γ1 ops O (fuel+1) listed Q ρ Γ E:=by
 intro r D a w m U p q
 obtain⟨x,s,t⟩:=T a w1 m B
 have e:∀b∈O,b∈Γ1.ae:=λb u=>by
  rw[<- M]at u
  obtain⟨V,_,f,c,F⟩:=kD js Γ1 b u
  exact List.mem_flatMap.2 ⟨f,List.mem_of_getElem? c,F⟩
 have l:∀f∈fs x,f.ae=[]/\f.cb=[]:=λf c=>by
  have:=List.all_eq_true.1 (C x) f c
  simpa using this
 have o:∀f∈fs x,f.ae=[]:=λf c=>(l f c).1
 have y:Ctx.ae (fs x++Γ1)=Γ1.ae:=by
  have:Ctx.ae (fs x)=[]:=by
   simp only[Ctx.ae,List.flatMap_eq_nil_iff]
   exact o
  simp only[Ctx.ae,List.flatMap_append]at this ⊢
  rw[this,List.nil_append]
 have H:Ctx.ae (fs x++Γ)=Γ.ae:=by
  have:Ctx.ae (fs x)=[]:=by
   simp only[Ctx.ae,List.flatMap_eq_nil_iff]
   exact o
  simp only[Ctx.ae,List.flatMap_append]at this ⊢
  rw[this,List.nil_append]
 refine wpAnyH_take hi hs N hr (λ_ _ _ hq=>hq) (.inl ⟨hw a m,λw' I=>s w' (λk z j=>I.block k z (λhm=>j (e k hm)))⟩) p ?_
 refine h x t r D _ w (m.put (by simpa[Nat.blt_eq]using hd)) ?_ p (by unfold gR;rw[y,H];exact q)
 refine U.LP λf c=>⟨l f c,?_⟩
 have K:=t.all f (List.mem_append_left _ c)
 rw[y]at K
 refine Fact.frame p.size K (λb u=>by rw[o f c]at u;simp at u) (λk z=>p.block k (Nat.lt_of_lt_of_le z B.lt) (λhm=>absurd (B.ge k (e k hm)).1 (by omega))) (λk z J=>⟨p.block k z (λhm=>J (.inr (e k hm))),?_⟩)
 rintro(j|j)
 ·exact J (.inl j)
 ·rcases q k j with L|L
  ·exact J (.inr L)
  ·omega
theorem oY {i d:Nat}{op:Op}{v:Value}(hi:ops[i]?=some ⟨some d,op,ty,pos,after,g⟩)(hw:iE n ρ ops ⟨some d,op,ty,pos,after,g⟩)(hd:Nat.blt d n.n=true)(k:Ex P n A w0 ρ Γ ⟨some d,op,ty,pos,after,g⟩ v)(h:JD P n A w0 w1 Γ1 ops O fuel (listed.setIfInBounds i true) Q ((d,v)::ρ) Γ E): JO P n A w0 w1 Γ1 ops O fuel listed Q i ρ Γ E:=by
 intro r c a w b f j e
 unfold wpOp
 simp only[hi,hw a b,if_true]
 refine .inl ?_
 unfold Oper.wp
 rw[k a w b f,Oper.upon_value]
 exact⟨j,h r c _ _ (b.put (by simpa[Nat.blt_eq]using hd)) f j e⟩
theorem Qu {i d:Nat}{op:Op}{G:Type}{v:G->Value}{Γ':G->Ctx}{T:List Nat}(hi:ops[i]?=some ⟨some d,op,ty,pos,after,g⟩)(hw:iE n ρ ops ⟨some d,op,ty,pos,after,g⟩)(hd:Nat.blt d n.n=true)(q:St P n A w0 ρ Γ ⟨some d,op,ty,pos,after,g⟩ v Γ' T)(p:∀k∈T,k∈O)(h:∀x,JD P n A w0 w1 Γ1 ops O fuel (listed.setIfInBounds i true) Q ((d,v x)::ρ) (Γ' x) E): JO P n A w0 w1 Γ1 ops O fuel listed Q i ρ Γ E:=by
 intro r f a w b s j l
 obtain⟨x,w',c,m,e,o⟩:=q a w b s
 unfold wpOp
 simp only[hi,hw a b,if_true]
 refine .inl ?_
 unfold Oper.wp
 rw[c,Oper.upon_value]
 exact⟨j.more e p,h x r f _ _ (b.put (by simpa[Nat.blt_eq]using hd)) m (j.more e p) (l.trans j o)⟩
theorem J8 {i:Nat}{op:Op}{T:List Nat}(hi:ops[i]?=some ⟨none,op,ty,pos,after,g⟩)(hw:iE n ρ ops ⟨none,op,ty,pos,after,g⟩)(q:Sk P n A w0 ρ Γ ⟨none,op,ty,pos,after,g⟩ Γ' T)(p:∀k∈T,k∈O)(h:JD P n A w0 w1 Γ1 ops O fuel (listed.setIfInBounds i true) Q ρ Γ' E): JO P n A w0 w1 Γ1 ops O fuel listed Q i ρ Γ E:=by
 intro r f a w b s j l
 obtain⟨w',c,m,e,o⟩:=q a w b s
 unfold wpOp
 simp only[hi,hw a b,if_true]
 refine .inl ?_
 unfold Oper.wp
 rw[c,Oper.upon_skip]
 exact⟨j.more e p,h r f _ _ b m (j.more e p) (l.trans j o)⟩
theorem sw {i d:Nat}{f:FuncId}{args:List Operand}{b:Array TypeId}{vs:List Value}{G:Type}{v:G->Value}{Γ':G->Ctx}(hi:ops[i]?=some ⟨some d,.call ⟨.value (.func f),args.toArray,b⟩,ty,pos,after,g⟩)(hw:iE n ρ ops ⟨some d,.call ⟨.value (.func f),args.toArray,b⟩,ty,pos,after,g⟩)(hd:Nat.blt d n.n=true)(t:∀args w,(callFunc f args).run P w=.ok (.enter f args) w)(c:rp ρ args=some vs)(u:Ca P A w0 Γ f vs v Γ')(h:∀x,JD P n A w0 w1 Γ1 ops O fuel (listed.setIfInBounds i true) Q ((d,v x)::ρ) (Γ' x) E): JO P n A w0 w1 Γ1 ops O fuel listed Q i ρ Γ E:=by
 intro r m a w j y o p
 unfold wpOp
 simp only[hi,hw a j,if_true]
 refine .inl ?_
 have k:(execOp a.eval ⟨some d,.call ⟨.value (.func f),args.toArray,b⟩,ty,pos,after,g⟩).run P w=.ok (.enter f vs.toArray) w:=by
  simp[execOp,resolve,Act.eval,Deferred.ofValue,invoke,j.wv c,t]
 unfold Oper.wp
 rw[k,Oper.upon_enter]
 refine(u w y).mono ?_
 rintro e w' ⟨x,rfl,q,l,s⟩
 exact⟨o.more l (by simp),h x r m _ _ (j.put (by simpa[Nat.blt_eq]using hd)) q (o.more l (by simp)) (p.trans o s)⟩
end
end Go.Tc
