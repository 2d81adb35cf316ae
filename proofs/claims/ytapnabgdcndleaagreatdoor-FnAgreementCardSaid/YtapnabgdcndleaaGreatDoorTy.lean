/-
  The structures of the program, as plain Lean data, and how they are laid in memory. No condition.
-/
import Derived.Test.YtapnabgdcndleaaGreatDoorPure
namespace Go.Fn
open Go Go.Tc
structure ai where
 Write:Int
 Move:Int
 Next:Int
instance:DecidableEq ai:=λa b=>
 if h:a.Write=b.Write/\a.Move=b.Move/\a.Next=b.Next then isTrue (by cases a;cases b;simp_all)else isFalse (by rintro rfl;simp at h)
instance:ar ai where
 sz:=3
 agg:=true
 lG A w cs t:=cs=[.int .i64 t.Write,.int .i64 t.Move,.int .i64 t.Next]
 len:=by
  intro A w cs t h
  obtain rfl:=h
  rfl
 one:=by
  intro A w cs t h c a
  obtain rfl:=h
  simp only[List.mem_cons,List.not_mem_nil,or_false]at a
  rcases a with rfl|rfl|rfl
  ·rfl
  ·rfl
  ·rfl
 pos:=by decide
 single h:=by cases h
 frame:=by
  intro A e w f cs t h g
  obtain rfl:=h
  exact rfl
 dc _ cs t B:=cs=[.int .i64 t.Write,.int .i64 t.Move,.int .i64 t.Next]/\B=[]
 ub h _:=h
 sT h _:=h.1
 tj h b d:=by simp[h.2]at d
 flat:=true
 uX _ h:=⟨h,rfl⟩
theorem ai.aG {A:Nat->Prop}{w:World}{v0:Value}{a:Int}{v1:Value}{b:Int}{v2:Value}{c:Int}(d:Rd A w v0 a)(e:Rd A w v1 b)(f:Rd A w v2 c): Rd A w (.agg #[v0,v1,v2]) (⟨a,b,c⟩:ai):=by
 have g:=Rd.int d
 subst g
 have e1:=Rd.int e
 subst e1
 have e2:=Rd.int f
 subst e2
 exact⟨[_,_,_],rfl,rfl⟩
theorem ai.open {A:Nat->Prop}{w:World}{v:Value}{t:ai}(h:Rd A w v t): v=.agg #[.int .i64 t.Write,.int .i64 t.Move,.int .i64 t.Next]:=by
 obtain⟨cs,e,h⟩:=h
 subst h
 exact e
theorem ai.opens (t:ai): oQ t (λ_:Unit=>.agg #[.int .i64 t.Write,.int .i64 t.Move,.int .i64 t.Next]) (λ_=>[]):=by
 intro A B w v h
 exact⟨(),ai.open h,by simp⟩
structure O where
 I:Int
 N:Int
 aB:(List ai)
instance:ar O where
 sz:=3
 agg:=true
 lG A w cs t:=∃v2,cs=[.int .i64 t.I,.int .i64 t.N,v2]/\Rd A w v2 t.aB
 len:=by
  intro A w cs t h
  obtain⟨v2,rfl,a⟩:=h
  rfl
 one:=by
  intro A w cs t h c g
  obtain⟨v2,rfl,a⟩:=h
  simp only[List.mem_cons,List.not_mem_nil,or_false]at g
  rcases g with rfl|rfl|rfl
  ·rfl
  ·rfl
  ·exact(Rd.sl a).lU
 pos:=by decide
 single h:=by cases h
 frame:=by
  intro A k w i cs t h f
  obtain⟨v2,rfl,a⟩:=h
  exact⟨v2,rfl,a.frame f⟩
 dc w cs t B:=∃v2 d,cs=[.int .i64 t.I,.int .i64 t.N,v2]/\B=d/\Dc w v2 t.aB d
 ub:=by
  intro w i cs t B h f
  obtain⟨v2,d,rfl,rfl,a⟩:=h
  exact⟨v2,_,rfl,rfl,a.frame (λb e=>f b (by simp[e]))⟩
 sT:=by
  intro A w cs t B h j
  obtain⟨v2,d,rfl,rfl,a⟩:=h
  exact⟨v2,rfl,a.rd (λb e=>j b (by simp[e]))⟩
 tj:=by
  intro w cs t B h b e
  obtain⟨v2,d,rfl,rfl,a⟩:=h
  exact a.lt b e
 flat:=false
 uX h:=by cases h
theorem O.aG {A:Nat->Prop}{w:World}{v0:Value}{a:Int}{v1:Value}{b:Int}{v2:Value}{c:(List ai)}(d:Rd A w v0 a)(e:Rd A w v1 b)(f:Rd A w v2 c): Rd A w (.agg #[v0,v1,v2]) (⟨a,b,c⟩:O):=by
 have g:=Rd.int d
 subst g
 have e1:=Rd.int e
 subst e1
 exact⟨[_,_,_],rfl,v2,rfl,f⟩
theorem O.open {A:Nat->Prop}{w:World}{v:Value}{t:O}(h:Rd A w v t): ∃v2,v=.agg #[.int .i64 t.I,.int .i64 t.N,v2]/\Rd A w v2 t.aB:=by
 obtain⟨cs,e,h⟩:=h
 obtain⟨v2,rfl,a⟩:=h
 exact⟨v2,e,a⟩
theorem O.opens (t:O): oQ t (λx:Value=>.agg #[.int .i64 t.I,.int .i64 t.N,x]) (λx=>[.rd x t.aB]):=by
 intro A B w v h
 obtain⟨v2,e,b⟩:=O.open h
 refine⟨v2,e,?_⟩
 intro f a
 simp only[List.mem_cons,List.not_mem_nil,or_false]at a
 rcases a with rfl
 ·exact⟨⟨rfl,rfl⟩,b⟩
theorem O.ze (t:O): Part 0 t t.I:=by
 intro A w cs h
 obtain⟨v2,rfl,b⟩:=h
 refine⟨[.int .i64 t.I],?_,rfl⟩
 intro j u a
 match j,a with
 |0,a=>simpa using a
theorem O.Fc (t:O): Part 1 t t.N:=by
 intro A w cs h
 obtain⟨v2,rfl,b⟩:=h
 refine⟨[.int .i64 t.N],?_,rfl⟩
 intro j u a
 match j,a with
 |0,a=>simpa using a
theorem O.sa (t:O): Part 2 t t.aB:=by
 intro A w cs h
 obtain⟨v2,rfl,b⟩:=h
 refine⟨[v2],?_,b.cell rfl⟩
 intro j u a
 match j,a with
 |0,a=>simpa using a
structure U where
 State:Int
 Left:(List Int)
 ak:(List Int)
instance:ar U where
 sz:=3
 agg:=true
 lG A w cs t:=∃v1 v2,cs=[.int .i64 t.State,v1,v2]/\Rd A w v1 t.Left/\Rd A w v2 t.ak
 len:=by
  intro A w cs t h
  obtain⟨v1,v2,rfl,d,e⟩:=h
  rfl
 one:=by
  intro A w cs t h c j
  obtain⟨v1,v2,rfl,d,e⟩:=h
  simp only[List.mem_cons,List.not_mem_nil,or_false]at j
  rcases j with rfl|rfl|rfl
  ·rfl
  ·exact(Rd.sl d).lU
  ·exact(Rd.sl e).lU
 pos:=by decide
 single h:=by cases h
 frame:=by
  intro A m w l cs t h f
  obtain⟨v1,v2,rfl,d,e⟩:=h
  exact⟨v1,v2,rfl,d.frame f,e.frame f⟩
 dc w cs t B:=∃v1 v2 g i,cs=[.int .i64 t.State,v1,v2]/\B=g++i/\Dc w v1 t.Left g/\Dc w v2 t.ak i
 ub:=by
  intro w l cs t B h f
  obtain⟨v1,v2,g,i,rfl,rfl,d,e⟩:=h
  exact⟨v1,v2,_,_,rfl,rfl,d.frame (λb a=>f b (by simp[a])),e.frame (λb a=>f b (by simp[a]))⟩
 sT:=by
  intro A w cs t B h k
  obtain⟨v1,v2,g,i,rfl,rfl,d,e⟩:=h
  exact⟨v1,v2,rfl,d.rd (λb a=>k b (by simp[a])),e.rd (λb a=>k b (by simp[a]))⟩
 tj:=by
  intro w cs t B h b a
  obtain⟨v1,v2,g,i,rfl,rfl,d,e⟩:=h
  simp only[List.append_assoc,List.mem_append]at a
  rcases a with a|a
  ·exact d.lt b a
  ·exact e.lt b a
 flat:=false
 uX h:=by cases h
theorem U.aG {A:Nat->Prop}{w:World}{v0:Value}{a:Int}{v1:Value}{b:(List Int)}{v2:Value}{c:(List Int)}(d:Rd A w v0 a)(e:Rd A w v1 b)(f:Rd A w v2 c): Rd A w (.agg #[v0,v1,v2]) (⟨a,b,c⟩:U):=by
 have g:=Rd.int d
 subst g
 exact⟨[_,_,_],rfl,v1,v2,rfl,e,f⟩
theorem U.open {A:Nat->Prop}{w:World}{v:Value}{t:U}(h:Rd A w v t): ∃v1 v2,v=.agg #[.int .i64 t.State,v1,v2]/\Rd A w v1 t.Left/\Rd A w v2 t.ak:=by
 obtain⟨cs,e,h⟩:=h
 obtain⟨v1,v2,rfl,a,b⟩:=h
 exact⟨v1,v2,e,a,b⟩
structure qc where
 sum:Int
 full:Bool
instance:ar qc where
 sz:=2
 agg:=true
 lG A w cs t:=cs=[.int .i64 t.sum,.bool t.full]
 len:=by
  intro A w cs t h
  obtain rfl:=h
  rfl
 one:=by
  intro A w cs t h c a
  obtain rfl:=h
  simp only[List.mem_cons,List.not_mem_nil,or_false]at a
  rcases a with rfl|rfl
  ·rfl
  ·rfl
 pos:=by decide
 single h:=by cases h
 frame:=by
  intro A e w f cs t h g
  obtain rfl:=h
  exact rfl
 dc _ cs t B:=cs=[.int .i64 t.sum,.bool t.full]/\B=[]
 ub h _:=h
 sT h _:=h.1
 tj h b d:=by simp[h.2]at d
 flat:=true
 uX _ h:=⟨h,rfl⟩
structure bo where
 state:Int
 bE:Int
instance:ar bo where
 sz:=2
 agg:=true
 lG A w cs t:=cs=[.int .i64 t.state,.int .i64 t.bE]
 len:=by
  intro A w cs t h
  obtain rfl:=h
  rfl
 one:=by
  intro A w cs t h c a
  obtain rfl:=h
  simp only[List.mem_cons,List.not_mem_nil,or_false]at a
  rcases a with rfl|rfl
  ·rfl
  ·rfl
 pos:=by decide
 single h:=by cases h
 frame:=by
  intro A e w f cs t h g
  obtain rfl:=h
  exact rfl
 dc _ cs t B:=cs=[.int .i64 t.state,.int .i64 t.bE]/\B=[]
 ub h _:=h
 sT h _:=h.1
 tj h b d:=by simp[h.2]at d
 flat:=true
 uX _ h:=⟨h,rfl⟩
theorem bo.aG {A:Nat->Prop}{w:World}{v0:Value}{a:Int}{v1:Value}{b:Int}(c:Rd A w v0 a)(d:Rd A w v1 b): Rd A w (.agg #[v0,v1]) (⟨a,b⟩:bo):=by
 have e:=Rd.int c
 subst e
 have e1:=Rd.int d
 subst e1
 exact⟨[_,_],rfl,rfl⟩
theorem bo.open {A:Nat->Prop}{w:World}{v:Value}{t:bo}(h:Rd A w v t): v=.agg #[.int .i64 t.state,.int .i64 t.bE]:=by
 obtain⟨cs,e,h⟩:=h
 subst h
 exact e
theorem bo.xA (t:bo): Part 0 t t.state:=by
 intro A w cs h
 obtain rfl:=h
 refine⟨[.int .i64 t.state],?_,rfl⟩
 intro j u a
 match j,a with
 |0,a=>simpa using a
theorem bo.La (t:bo): Part 1 t t.bE:=by
 intro A w cs h
 obtain rfl:=h
 refine⟨[.int .i64 t.bE],?_,rfl⟩
 intro j u a
 match j,a with
 |0,a=>simpa using a
structure iN where
 im:Int
 at_:Int
 word:(List Int)
instance:ar iN where
 sz:=3
 agg:=true
 lG A w cs t:=∃v2,cs=[.int .i64 t.im,.int .i64 t.at_,v2]/\Rd A w v2 t.word
 len:=by
  intro A w cs t h
  obtain⟨v2,rfl,a⟩:=h
  rfl
 one:=by
  intro A w cs t h c g
  obtain⟨v2,rfl,a⟩:=h
  simp only[List.mem_cons,List.not_mem_nil,or_false]at g
  rcases g with rfl|rfl|rfl
  ·rfl
  ·rfl
  ·exact(Rd.sl a).lU
 pos:=by decide
 single h:=by cases h
 frame:=by
  intro A k w i cs t h f
  obtain⟨v2,rfl,a⟩:=h
  exact⟨v2,rfl,a.frame f⟩
 dc w cs t B:=∃v2 d,cs=[.int .i64 t.im,.int .i64 t.at_,v2]/\B=d/\Dc w v2 t.word d
 ub:=by
  intro w i cs t B h f
  obtain⟨v2,d,rfl,rfl,a⟩:=h
  exact⟨v2,_,rfl,rfl,a.frame (λb e=>f b (by simp[e]))⟩
 sT:=by
  intro A w cs t B h j
  obtain⟨v2,d,rfl,rfl,a⟩:=h
  exact⟨v2,rfl,a.rd (λb e=>j b (by simp[e]))⟩
 tj:=by
  intro w cs t B h b e
  obtain⟨v2,d,rfl,rfl,a⟩:=h
  exact a.lt b e
 flat:=false
 uX h:=by cases h
theorem iN.aG {A:Nat->Prop}{w:World}{v0:Value}{a:Int}{v1:Value}{b:Int}{v2:Value}{c:(List Int)}(d:Rd A w v0 a)(e:Rd A w v1 b)(f:Rd A w v2 c): Rd A w (.agg #[v0,v1,v2]) (⟨a,b,c⟩:iN):=by
 have g:=Rd.int d
 subst g
 have e1:=Rd.int e
 subst e1
 exact⟨[_,_,_],rfl,v2,rfl,f⟩
theorem iN.open {A:Nat->Prop}{w:World}{v:Value}{t:iN}(h:Rd A w v t): ∃v2,v=.agg #[.int .i64 t.im,.int .i64 t.at_,v2]/\Rd A w v2 t.word:=by
 obtain⟨cs,e,h⟩:=h
 obtain⟨v2,rfl,a⟩:=h
 exact⟨v2,e,a⟩
structure C where
 kind:Int
 q:Int
 half:Int
instance:DecidableEq C:=λa b=>
 if h:a.kind=b.kind/\a.q=b.q/\a.half=b.half then isTrue (by cases a;cases b;simp_all)else isFalse (by rintro rfl;simp at h)
instance:ar C where
 sz:=3
 agg:=true
 lG A w cs t:=cs=[.int .i64 t.kind,.int .i64 t.q,.int .i64 t.half]
 len:=by
  intro A w cs t h
  obtain rfl:=h
  rfl
 one:=by
  intro A w cs t h c a
  obtain rfl:=h
  simp only[List.mem_cons,List.not_mem_nil,or_false]at a
  rcases a with rfl|rfl|rfl
  ·rfl
  ·rfl
  ·rfl
 pos:=by decide
 single h:=by cases h
 frame:=by
  intro A e w f cs t h g
  obtain rfl:=h
  exact rfl
 dc _ cs t B:=cs=[.int .i64 t.kind,.int .i64 t.q,.int .i64 t.half]/\B=[]
 ub h _:=h
 sT h _:=h.1
 tj h b d:=by simp[h.2]at d
 flat:=true
 uX _ h:=⟨h,rfl⟩
theorem C.aG {A:Nat->Prop}{w:World}{v0:Value}{a:Int}{v1:Value}{b:Int}{v2:Value}{c:Int}(d:Rd A w v0 a)(e:Rd A w v1 b)(f:Rd A w v2 c): Rd A w (.agg #[v0,v1,v2]) (⟨a,b,c⟩:C):=by
 have g:=Rd.int d
 subst g
 have e1:=Rd.int e
 subst e1
 have e2:=Rd.int f
 subst e2
 exact⟨[_,_,_],rfl,rfl⟩
theorem C.open {A:Nat->Prop}{w:World}{v:Value}{t:C}(h:Rd A w v t): v=.agg #[.int .i64 t.kind,.int .i64 t.q,.int .i64 t.half]:=by
 obtain⟨cs,e,h⟩:=h
 subst h
 exact e
theorem C.opens (t:C): oQ t (λ_:Unit=>.agg #[.int .i64 t.kind,.int .i64 t.q,.int .i64 t.half]) (λ_=>[]):=by
 intro A B w v h
 exact⟨(),C.open h,by simp⟩
theorem C.QG (t:C): Part 1 t t.q:=by
 intro A w cs h
 obtain rfl:=h
 refine⟨[.int .i64 t.q],?_,rfl⟩
 intro j u a
 match j,a with
 |0,a=>simpa using a
def C.enc (t:C): Value:=.agg #[.int .i64 t.kind,.int .i64 t.q,.int .i64 t.half]
structure dm where
 oq:Int
 o5:Int
 pU:(List ai)
 places:(List C)
 numbers:sI
instance:ar dm where
 sz:=5
 agg:=true
 lG A w cs t:=∃v2 v3 v4,cs=[.int .i64 t.oq,.int .i64 t.o5,v2,v3,v4]/\Rd A w v2 t.pU/\Rd A w v3 t.places/\Rd A w v4 t.numbers
 len:=by
  intro A w cs t h
  obtain⟨v2,v3,v4,rfl,d,e,f⟩:=h
  rfl
 one:=by
  intro A w cs t h c m
  obtain⟨v2,v3,v4,rfl,d,e,f⟩:=h
  simp only[List.mem_cons,List.not_mem_nil,or_false]at m
  rcases m with rfl|rfl|rfl|rfl|rfl
  ·rfl
  ·rfl
  ·exact(Rd.sl d).lU
  ·exact(Rd.sl e).lU
  ·exact f.Qz
 pos:=by decide
 single h:=by cases h
 frame:=by
  intro A o w n cs t h g
  obtain⟨v2,v3,v4,rfl,d,e,f⟩:=h
  exact⟨v2,v3,v4,rfl,d.frame g,e.frame g,f.frame g⟩
 dc w cs t B:=∃v2 v3 v4 i j k,cs=[.int .i64 t.oq,.int .i64 t.o5,v2,v3,v4]/\B=i++j++k/\Dc w v2 t.pU i/\Dc w v3 t.places j/\Dc w v4 t.numbers k
 ub:=by
  intro w n cs t B h g
  obtain⟨v2,v3,v4,i,j,k,rfl,rfl,d,e,f⟩:=h
  exact⟨v2,v3,v4,_,_,_,rfl,rfl,d.frame (λb a=>g b (by simp[a])),e.frame (λb a=>g b (by simp[a])),f.frame (λb a=>g b (by simp[a]))⟩
 sT:=by
  intro A w cs t B h l
  obtain⟨v2,v3,v4,i,j,k,rfl,rfl,d,e,f⟩:=h
  exact⟨v2,v3,v4,rfl,d.rd (λb a=>l b (by simp[a])),e.rd (λb a=>l b (by simp[a])),f.rd (λb a=>l b (by simp[a]))⟩
 tj:=by
  intro w cs t B h b a
  obtain⟨v2,v3,v4,i,j,k,rfl,rfl,d,e,f⟩:=h
  simp only[List.append_assoc,List.mem_append]at a
  rcases a with a|a|a
  ·exact d.lt b a
  ·exact e.lt b a
  ·exact f.lt b a
 flat:=false
 uX h:=by cases h
theorem dm.aG {A:Nat->Prop}{w:World}{v0:Value}{a:Int}{v1:Value}{b:Int}{v2:Value}{c:(List ai)}{v3:Value}{d:(List C)}{v4:Value}{e:sI}(f:Rd A w v0 a)(g:Rd A w v1 b)(h:Rd A w v2 c)(i:Rd A w v3 d)(j:Rd A w v4 e): Rd A w (.agg #[v0,v1,v2,v3,v4]) (⟨a,b,c,d,e⟩:dm):=by
 have k:=Rd.int f
 subst k
 have e1:=Rd.int g
 subst e1
 exact⟨[_,_,_,_,_],rfl,v2,v3,v4,rfl,h,i,j⟩
theorem dm.xY (t:dm): Part 3 t t.places:=by
 intro A w cs h
 obtain⟨v2,v3,v4,rfl,c,b,d⟩:=h
 refine⟨[v3],?_,b.cell rfl⟩
 intro j u a
 match j,a with
 |0,a=>simpa using a
structure L where
 kind:Int
 a:Int
 b:Int
 c:Int
instance:DecidableEq L:=λa b=>
 if h:a.kind=b.kind/\a.a=b.a/\a.b=b.b/\a.c=b.c then isTrue (by cases a;cases b;simp_all)else isFalse (by rintro rfl;simp at h)
instance:ar L where
 sz:=4
 agg:=true
 lG A w cs t:=cs=[.int .i64 t.kind,.int .i64 t.a,.int .i64 t.b,.int .i64 t.c]
 len:=by
  intro A w cs t h
  obtain rfl:=h
  rfl
 one:=by
  intro A w cs t h c d
  obtain rfl:=h
  simp only[List.mem_cons,List.not_mem_nil,or_false]at d
  rcases d with rfl|rfl|rfl|rfl
  ·rfl
  ·rfl
  ·rfl
  ·rfl
 pos:=by decide
 single h:=by cases h
 frame:=by
  intro A f w g cs t h i
  obtain rfl:=h
  exact rfl
 dc _ cs t B:=cs=[.int .i64 t.kind,.int .i64 t.a,.int .i64 t.b,.int .i64 t.c]/\B=[]
 ub h _:=h
 sT h _:=h.1
 tj h b e:=by simp[h.2]at e
 flat:=true
 uX _ h:=⟨h,rfl⟩
theorem L.aG {A:Nat->Prop}{w:World}{v0:Value}{a:Int}{v1:Value}{b:Int}{v2:Value}{c:Int}{v3:Value}{d:Int}(e:Rd A w v0 a)(f:Rd A w v1 b)(g:Rd A w v2 c)(h:Rd A w v3 d): Rd A w (.agg #[v0,v1,v2,v3]) (⟨a,b,c,d⟩:L):=by
 have i:=Rd.int e
 subst i
 have e1:=Rd.int f
 subst e1
 have e2:=Rd.int g
 subst e2
 have e3:=Rd.int h
 subst e3
 exact⟨[_,_,_,_],rfl,rfl⟩
theorem L.open {A:Nat->Prop}{w:World}{v:Value}{t:L}(h:Rd A w v t): v=.agg #[.int .i64 t.kind,.int .i64 t.a,.int .i64 t.b,.int .i64 t.c]:=by
 obtain⟨cs,e,h⟩:=h
 subst h
 exact e
theorem L.opens (t:L): oQ t (λ_:Unit=>.agg #[.int .i64 t.kind,.int .i64 t.a,.int .i64 t.b,.int .i64 t.c]) (λ_=>[]):=by
 intro A B w v h
 exact⟨(),L.open h,by simp⟩
def L.enc (t:L): Value:=.agg #[.int .i64 t.kind,.int .i64 t.a,.int .i64 t.b,.int .i64 t.c]
structure dV where
 oq:Int
 o5:Int
 pU:(List ai)
 places:(List L)
 numbers:sI
instance:ar dV where
 sz:=5
 agg:=true
 lG A w cs t:=∃v2 v3 v4,cs=[.int .i64 t.oq,.int .i64 t.o5,v2,v3,v4]/\Rd A w v2 t.pU/\Rd A w v3 t.places/\Rd A w v4 t.numbers
 len:=by
  intro A w cs t h
  obtain⟨v2,v3,v4,rfl,d,e,f⟩:=h
  rfl
 one:=by
  intro A w cs t h c m
  obtain⟨v2,v3,v4,rfl,d,e,f⟩:=h
  simp only[List.mem_cons,List.not_mem_nil,or_false]at m
  rcases m with rfl|rfl|rfl|rfl|rfl
  ·rfl
  ·rfl
  ·exact(Rd.sl d).lU
  ·exact(Rd.sl e).lU
  ·exact f.Qz
 pos:=by decide
 single h:=by cases h
 frame:=by
  intro A o w n cs t h g
  obtain⟨v2,v3,v4,rfl,d,e,f⟩:=h
  exact⟨v2,v3,v4,rfl,d.frame g,e.frame g,f.frame g⟩
 dc w cs t B:=∃v2 v3 v4 i j k,cs=[.int .i64 t.oq,.int .i64 t.o5,v2,v3,v4]/\B=i++j++k/\Dc w v2 t.pU i/\Dc w v3 t.places j/\Dc w v4 t.numbers k
 ub:=by
  intro w n cs t B h g
  obtain⟨v2,v3,v4,i,j,k,rfl,rfl,d,e,f⟩:=h
  exact⟨v2,v3,v4,_,_,_,rfl,rfl,d.frame (λb a=>g b (by simp[a])),e.frame (λb a=>g b (by simp[a])),f.frame (λb a=>g b (by simp[a]))⟩
 sT:=by
  intro A w cs t B h l
  obtain⟨v2,v3,v4,i,j,k,rfl,rfl,d,e,f⟩:=h
  exact⟨v2,v3,v4,rfl,d.rd (λb a=>l b (by simp[a])),e.rd (λb a=>l b (by simp[a])),f.rd (λb a=>l b (by simp[a]))⟩
 tj:=by
  intro w cs t B h b a
  obtain⟨v2,v3,v4,i,j,k,rfl,rfl,d,e,f⟩:=h
  simp only[List.append_assoc,List.mem_append]at a
  rcases a with a|a|a
  ·exact d.lt b a
  ·exact e.lt b a
  ·exact f.lt b a
 flat:=false
 uX h:=by cases h
theorem dV.aG {A:Nat->Prop}{w:World}{v0:Value}{a:Int}{v1:Value}{b:Int}{v2:Value}{c:(List ai)}{v3:Value}{d:(List L)}{v4:Value}{e:sI}(f:Rd A w v0 a)(g:Rd A w v1 b)(h:Rd A w v2 c)(i:Rd A w v3 d)(j:Rd A w v4 e): Rd A w (.agg #[v0,v1,v2,v3,v4]) (⟨a,b,c,d,e⟩:dV):=by
 have k:=Rd.int f
 subst k
 have e1:=Rd.int g
 subst e1
 exact⟨[_,_,_,_,_],rfl,v2,v3,v4,rfl,h,i,j⟩
theorem dV.xY (t:dV): Part 3 t t.places:=by
 intro A w cs h
 obtain⟨v2,v3,v4,rfl,c,b,d⟩:=h
 refine⟨[v3],?_,b.cell rfl⟩
 intro j u a
 match j,a with
 |0,a=>simpa using a
structure aQ where
 cp:Int
 cL:Int
 gY:(List ai)
 state:Int
 left:(List Int)
 right:(List Int)
instance:ar aQ where
 sz:=6
 agg:=true
 lG A w cs t:=∃v2 v4 v5,cs=[.int .i64 t.cp,.int .i64 t.cL,v2,.int .i64 t.state,v4,v5]/\Rd A w v2 t.gY/\Rd A w v4 t.left/\Rd A w v5 t.right
 len:=by
  intro A w cs t h
  obtain⟨v2,v4,v5,rfl,d,e,f⟩:=h
  rfl
 one:=by
  intro A w cs t h c m
  obtain⟨v2,v4,v5,rfl,d,e,f⟩:=h
  simp only[List.mem_cons,List.not_mem_nil,or_false]at m
  rcases m with rfl|rfl|rfl|rfl|rfl|rfl
  ·rfl
  ·rfl
  ·exact(Rd.sl d).lU
  ·rfl
  ·exact(Rd.sl e).lU
  ·exact(Rd.sl f).lU
 pos:=by decide
 single h:=by cases h
 frame:=by
  intro A o w n cs t h g
  obtain⟨v2,v4,v5,rfl,d,e,f⟩:=h
  exact⟨v2,v4,v5,rfl,d.frame g,e.frame g,f.frame g⟩
 dc w cs t B:=∃v2 v4 v5 i j k,cs=[.int .i64 t.cp,.int .i64 t.cL,v2,.int .i64 t.state,v4,v5]/\B=i++j++k/\Dc w v2 t.gY i/\Dc w v4 t.left j/\Dc w v5 t.right k
 ub:=by
  intro w n cs t B h g
  obtain⟨v2,v4,v5,i,j,k,rfl,rfl,d,e,f⟩:=h
  exact⟨v2,v4,v5,_,_,_,rfl,rfl,d.frame (λb a=>g b (by simp[a])),e.frame (λb a=>g b (by simp[a])),f.frame (λb a=>g b (by simp[a]))⟩
 sT:=by
  intro A w cs t B h l
  obtain⟨v2,v4,v5,i,j,k,rfl,rfl,d,e,f⟩:=h
  exact⟨v2,v4,v5,rfl,d.rd (λb a=>l b (by simp[a])),e.rd (λb a=>l b (by simp[a])),f.rd (λb a=>l b (by simp[a]))⟩
 tj:=by
  intro w cs t B h b a
  obtain⟨v2,v4,v5,i,j,k,rfl,rfl,d,e,f⟩:=h
  simp only[List.append_assoc,List.mem_append]at a
  rcases a with a|a|a
  ·exact d.lt b a
  ·exact e.lt b a
  ·exact f.lt b a
 flat:=false
 uX h:=by cases h
theorem aQ.aG {A:Nat->Prop}{w:World}{v0:Value}{a:Int}{v1:Value}{b:Int}{v2:Value}{c:(List ai)}{v3:Value}{d:Int}{v4:Value}{e:(List Int)}{v5:Value}{f:(List Int)}(g:Rd A w v0 a)(h:Rd A w v1 b)(i:Rd A w v2 c)(j:Rd A w v3 d)(k:Rd A w v4 e)(l:Rd A w v5 f): Rd A w (.agg #[v0,v1,v2,v3,v4,v5]) (⟨a,b,c,d,e,f⟩:aQ):=by
 have m:=Rd.int g
 subst m
 have e1:=Rd.int h
 subst e1
 have e3:=Rd.int j
 subst e3
 exact⟨[_,_,_,_,_,_],rfl,v2,v4,v5,rfl,i,k,l⟩
theorem aQ.xA (t:aQ): Part 3 t t.state:=by
 intro A w cs h
 obtain⟨v2,v4,v5,rfl,b,c,d⟩:=h
 refine⟨[.int .i64 t.state],?_,rfl⟩
 intro j u a
 match j,a with
 |0,a=>simpa using a
theorem aQ.N4 (t:aQ): Part 4 t t.left:=by
 intro A w cs h
 obtain⟨v2,v4,v5,rfl,c,b,d⟩:=h
 refine⟨[v4],?_,b.cell rfl⟩
 intro j u a
 match j,a with
 |0,a=>simpa using a
theorem aQ.Hf (t:aQ): Part 5 t t.right:=by
 intro A w cs h
 obtain⟨v2,v4,v5,rfl,c,d,b⟩:=h
 refine⟨[v5],?_,b.cell rfl⟩
 intro j u a
 match j,a with
 |0,a=>simpa using a
theorem aQ.P5 (t:aQ): Part 0 t (⟨t.cp,t.cL,t.gY⟩:O):=by
 intro A w cs h
 obtain⟨v2,v4,v5,rfl,b,c,d⟩:=h
 refine⟨[.int .i64 t.cp,.int .i64 t.cL,v2],?_,⟨v2,rfl,b⟩⟩
 intro j u a
 match j,a with
 |0,a=>simpa using a
 |1,a=>simpa using a
 |2,a=>simpa using a
structure eK where
 At:Int
 pd:(List Int)
instance:ar eK where
 sz:=2
 agg:=true
 lG A w cs t:=∃v1,cs=[.int .i64 t.At,v1]/\Rd A w v1 t.pd
 len:=by
  intro A w cs t h
  obtain⟨v1,rfl,a⟩:=h
  rfl
 one:=by
  intro A w cs t h c g
  obtain⟨v1,rfl,a⟩:=h
  simp only[List.mem_cons,List.not_mem_nil,or_false]at g
  rcases g with rfl|rfl
  ·rfl
  ·exact(Rd.sl a).lU
 pos:=by decide
 single h:=by cases h
 frame:=by
  intro A k w i cs t h f
  obtain⟨v1,rfl,a⟩:=h
  exact⟨v1,rfl,a.frame f⟩
 dc w cs t B:=∃v1 d,cs=[.int .i64 t.At,v1]/\B=d/\Dc w v1 t.pd d
 ub:=by
  intro w i cs t B h f
  obtain⟨v1,d,rfl,rfl,a⟩:=h
  exact⟨v1,_,rfl,rfl,a.frame (λb e=>f b (by simp[e]))⟩
 sT:=by
  intro A w cs t B h j
  obtain⟨v1,d,rfl,rfl,a⟩:=h
  exact⟨v1,rfl,a.rd (λb e=>j b (by simp[e]))⟩
 tj:=by
  intro w cs t B h b e
  obtain⟨v1,d,rfl,rfl,a⟩:=h
  exact a.lt b e
 flat:=false
 uX h:=by cases h
theorem eK.aG {A:Nat->Prop}{w:World}{v0:Value}{a:Int}{v1:Value}{b:(List Int)}(c:Rd A w v0 a)(d:Rd A w v1 b): Rd A w (.agg #[v0,v1]) (⟨a,b⟩:eK):=by
 have e:=Rd.int c
 subst e
 exact⟨[_,_],rfl,v1,rfl,d⟩
theorem eK.open {A:Nat->Prop}{w:World}{v:Value}{t:eK}(h:Rd A w v t): ∃v1,v=.agg #[.int .i64 t.At,v1]/\Rd A w v1 t.pd:=by
 obtain⟨cs,e,h⟩:=h
 obtain⟨v1,rfl,a⟩:=h
 exact⟨v1,e,a⟩
structure V where
 dS:(List Int)
 To:(List Int)
instance:DecidableEq V:=λa b=>
 if h:a.dS=b.dS/\a.To=b.To then isTrue (by cases a;cases b;simp_all)else isFalse (by rintro rfl;simp at h)
instance:ar V where
 sz:=2
 agg:=true
 lG A w cs t:=∃v0 v1,cs=[v0,v1]/\Rd A w v0 t.dS/\Rd A w v1 t.To
 len:=by
  intro A w cs t h
  obtain⟨v0,v1,rfl,d,e⟩:=h
  rfl
 one:=by
  intro A w cs t h c j
  obtain⟨v0,v1,rfl,d,e⟩:=h
  simp only[List.mem_cons,List.not_mem_nil,or_false]at j
  rcases j with rfl|rfl
  ·exact(Rd.sl d).lU
  ·exact(Rd.sl e).lU
 pos:=by decide
 single h:=by cases h
 frame:=by
  intro A m w l cs t h f
  obtain⟨v0,v1,rfl,d,e⟩:=h
  exact⟨v0,v1,rfl,d.frame f,e.frame f⟩
 dc w cs t B:=∃v0 v1 g i,cs=[v0,v1]/\B=g++i/\Dc w v0 t.dS g/\Dc w v1 t.To i
 ub:=by
  intro w l cs t B h f
  obtain⟨v0,v1,g,i,rfl,rfl,d,e⟩:=h
  exact⟨v0,v1,_,_,rfl,rfl,d.frame (λb a=>f b (by simp[a])),e.frame (λb a=>f b (by simp[a]))⟩
 sT:=by
  intro A w cs t B h k
  obtain⟨v0,v1,g,i,rfl,rfl,d,e⟩:=h
  exact⟨v0,v1,rfl,d.rd (λb a=>k b (by simp[a])),e.rd (λb a=>k b (by simp[a]))⟩
 tj:=by
  intro w cs t B h b a
  obtain⟨v0,v1,g,i,rfl,rfl,d,e⟩:=h
  simp only[List.append_assoc,List.mem_append]at a
  rcases a with a|a
  ·exact d.lt b a
  ·exact e.lt b a
 flat:=false
 uX h:=by cases h
theorem V.open {A:Nat->Prop}{w:World}{v:Value}{t:V}(h:Rd A w v t): ∃v0 v1,v=.agg #[v0,v1]/\Rd A w v0 t.dS/\Rd A w v1 t.To:=by
 obtain⟨cs,e,h⟩:=h
 obtain⟨v0,v1,rfl,a,b⟩:=h
 exact⟨v0,v1,e,a,b⟩
theorem V.opens (t:V): oQ t (λx:Value×Value=>.agg #[x.1,x.2]) (λx=>[.rd x.1 t.dS,.rd x.2 t.To]):=by
 intro A B w v h
 obtain⟨v0,v1,e,b,c⟩:=V.open h
 refine⟨(v0,v1),e,?_⟩
 intro f a
 simp only[List.mem_cons,List.not_mem_nil,or_false]at a
 rcases a with rfl|rfl
 ·exact⟨⟨rfl,rfl⟩,b⟩
 ·exact⟨⟨rfl,rfl⟩,c⟩
theorem V.dw {w:World}{a:(List Int)}{b:(List Int)}{v0:Value}{v1:Value}{c d e:List Nat}(f:Dw w v0 a c d)(g:Dw w v1 b d e): Dw w (.agg #[v0,v1]) (⟨a,b⟩:V) c e:=by
 intro h
 obtain⟨i,j,a0,k,nd,mem,sub⟩:=f.two g h
 exact⟨_,⟨[v0,v1],rfl,v0,v1,i,j,rfl,rfl,a0,k⟩,nd,mem,sub⟩
structure bK where
 write:Int
 move:Int
 bS:Int
 iJ:Int
 ef:Int
 none:Bool
structure dY where
 write:Int
 move:Int
 bS:Int
 jH:Int
 jL:Int
 jM:Int
 none:Bool
structure bX where
 Kind:Int
 cd:Int
 qa:Int
 uQ:Int
instance:ar bX where
 sz:=4
 agg:=true
 lG A w cs t:=cs=[.int .i64 t.Kind,.int .i64 t.cd,.int .i64 t.qa,.int .i64 t.uQ]
 len:=by
  intro A w cs t h
  obtain rfl:=h
  rfl
 one:=by
  intro A w cs t h c a
  obtain rfl:=h
  simp only[List.mem_cons,List.not_mem_nil,or_false]at a
  rcases a with rfl|rfl|rfl|rfl
  ·rfl
  ·rfl
  ·rfl
  ·rfl
 pos:=by decide
 single h:=by cases h
 frame:=by
  intro A e w f cs t h g
  obtain rfl:=h
  exact rfl
 dc _ cs t B:=cs=[.int .i64 t.Kind,.int .i64 t.cd,.int .i64 t.qa,.int .i64 t.uQ]/\B=[]
 ub h _:=h
 sT h _:=h.1
 tj h b d:=by simp[h.2]at d
 flat:=true
 uX _ h:=⟨h,rfl⟩
theorem bX.aG {A:Nat->Prop}{w:World}{v0:Value}{a:Int}{v1:Value}{b:Int}{v2:Value}{c:Int}{v3:Value}{d:Int}(e:Rd A w v0 a)(f:Rd A w v1 b)(g:Rd A w v2 c)(h:Rd A w v3 d): Rd A w (.agg #[v0,v1,v2,v3]) (⟨a,b,c,d⟩:bX):=by
 have i:=Rd.int e
 subst i
 have e1:=Rd.int f
 subst e1
 have e2:=Rd.int g
 subst e2
 have e3:=Rd.int h
 subst e3
 exact⟨[_,_,_,_],rfl,rfl⟩
theorem bX.open {A:Nat->Prop}{w:World}{v:Value}{t:bX}(h:Rd A w v t): v=.agg #[.int .i64 t.Kind,.int .i64 t.cd,.int .i64 t.qa,.int .i64 t.uQ]:=by
 obtain⟨cs,e,h⟩:=h
 subst h
 exact e
theorem bX.opens (t:bX): oQ t (λ_:Unit=>.agg #[.int .i64 t.Kind,.int .i64 t.cd,.int .i64 t.qa,.int .i64 t.uQ]) (λ_=>[]):=by
 intro A B w v h
 exact⟨(),bX.open h,by simp⟩
theorem bX.NT (y:bX): SP 2 y (λz=>(⟨y.Kind,y.cd,z,y.uQ⟩:bX)):=by
 intro A w c h
 obtain rfl:=h
 exact⟨by simp,λk=>rfl⟩
theorem bX.N2 (y:bX): SP 3 y (λz=>(⟨y.Kind,y.cd,y.qa,z⟩:bX)):=by
 intro A w c h
 obtain rfl:=h
 exact⟨by simp,λk=>rfl⟩
structure dI where
 code:(List (Ik .u8))
 at_:Int
 ra:(Ik .u64)
end Go.Fn
