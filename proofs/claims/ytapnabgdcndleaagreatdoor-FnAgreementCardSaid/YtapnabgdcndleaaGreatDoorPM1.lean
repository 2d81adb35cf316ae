/-
  Plain laws, part 1. No condition.
-/
import Derived.Test.YtapnabgdcndleaaGreatDoorHelp
import Derived.Test.YtapnabgdcndleaaGreatDoorLaw
import Derived.Test.YtapnabgdcndleaaGreatDoorFn
import Derived.Test.YtapnabgdcndleaaGreatDoorPure
import Derived.Test.YtapnabgdcndleaaGreatDoorWf
import Derived.Lib.ParseIntBTie
import Derived.KernelRfl
import Derived.Test.YtapnabgdcndleaaGreatDoorTy
namespace Go.Fn
open Go Go.Tc
set_option linter.unusedVariables false
theorem rh (x lo hi:Int): dM x lo hi=some (mJ x lo hi):=by
 unfold dM mJ
 cases decide (lo<=x)<;>rfl
theorem oZ (xs:List Int)(lo hi:Int)(h:xs.length<=1048576): iB xs lo hi=some (xs.all λx=>mJ x lo hi):=by
 unfold iB
 rw[I4 xs.length (by omega) (λi=>mJ (xs.getD i 0) lo hi) (.ret false) (.bf (xs.length:Int)) ?_ ?_ ?_]
 ·have:(∀i,i<xs.length->mJ (xs.getD i 0) lo hi=true)↔(xs.all λx=>mJ x lo hi)=true:=by
   rw[List.all_eq_true]
   constructor
   ·intro h x b
    obtain⟨i,hi,rfl⟩:=List.getElem_of_mem b
    simpa[hi]using h i hi
   ·intro h i hi
    simpa[hi]using h _ (List.getElem_mem hi)
  by_cases e:(xs.all λx=>mJ x lo hi)=true
  ·rw[if_pos (this.2 e),e];rfl
  ·rw[if_neg (λk=>e (this.1 k))]
   simp only[Bool.not_eq_true]at e
   rw[e];rfl
 ·intro i hi a
  simp only[List.getD_eq_getElem?_getD,List.getElem?_eq_getElem hi,Option.getD_some]at a
  simp[lA,hi,eh hi,rh,a]
 ·intro i hi a
  simp only[List.getD_eq_getElem?_getD,List.getElem?_eq_getElem hi,Option.getD_some]at a
  simp[lA,hi,eh hi,rh,a]
 ·simp[lA]
theorem M0 {xs:List Int}(a:xs.length≠0)(h:xs.length<=1048576): idx xs (ah ((xs.length:Int)-1))=some (xs.getLastD 0):=by
 rw[bC (by omega) (by omega),show(xs.length:Int)-1=((xs.length-1:Nat):Int)by omega,eh (by omega)]
 congr 1
 rw[List.getLastD_eq_getLast?,List.getLast?_eq_getElem?,List.getElem?_eq_getElem (by omega)]
 rfl
theorem OT {α:Type}(xs:List α)(p:α->Bool): (!(xs.any λx=>!p x))=xs.all p:=by
 rw[List.not_any_eq_all_not]
 simp
theorem DV (a b:List Int)(h:a.length<=1048576): gZ a b=some (decide (a=b)):=by
 unfold gZ
 by_cases hl:a.length=b.length
 ·rw[decide_eq_false (by omega),cond_false,I4 a.length (by omega) (λi=>decide (a[i]?=b[i]?)) (.ret false) (.bf (a.length:Int)) ?_ ?_ ?_]
  ·by_cases e:a=b
   ·subst e
    simp[Out.elim]
   ·rw[if_neg,decide_eq_false e]
    ·rfl
    ·intro k
     refine e (List.ext_getElem? λi=>?_)
     by_cases hi:i<a.length
     ·simpa using k i hi
     ·rw[List.getElem?_eq_none (by omega),List.getElem?_eq_none (by omega)]
  ·intro i hi c
   have d:i<b.length:=by omega
   simp[List.getElem?_eq_getElem hi,List.getElem?_eq_getElem d]at c
   simp[gl,hi,eh hi,eh d,c]
  ·intro i hi c
   have d:i<b.length:=by omega
   simp[List.getElem?_eq_getElem hi,List.getElem?_eq_getElem d]at c
   simp[gl,hi,eh hi,eh d,c]
  ·simp[gl]
 ·rw[decide_eq_true (by omega),decide_eq_false (λe=>hl (by rw[e]))];rfl
end Go.Fn
namespace Go.Tc
open Go
theorem tJ {α b S X:Type}{body:S->Option (S ⊕ X)}(xs:List α)(m:xs.length<=4611686018427387903)(st:b->Int->S)(f:b->α->b)(I:Nat->b->Prop)(h:∀(i:Nat) (hi:i<xs.length) (a:b),I i a->body (st a (i:Int))=some (.inl (st (f a xs[i]) (ah ((i:Int)+1))))/\I (i+1) (f a xs[i]))(a0:b)(j:I 0 a0):
  run body (st a0 0)=run body (st (xs.foldl f a0) (xs.length:Int))/\I xs.length (xs.foldl f a0):=by
 have key:∀k i a,i+k=xs.length->I i a->run body (st a (i:Int))=run body (st ((xs.drop i).foldl f a) (xs.length:Int))/\I xs.length ((xs.drop i).foldl f a):=by
  intro k
  induction k with
  |zero=>
   intro i a hi d
   obtain rfl:i=xs.length:=by omega
   rw[List.drop_length]
   exact⟨rfl,d⟩
  |succ k l=>
   intro i a hi d
   have c:i<xs.length:=by omega
   obtain⟨e,g⟩:=h i c a d
   rw[bZ e,dh (by omega),List.drop_eq_getElem_cons c,List.foldl_cons]
   exact l (i+1) _ (by omega) g
 have:=key xs.length 0 a0 (by omega) j
 rwa[List.drop_zero,show((0:Nat):Int)=0 from rfl]at this
theorem FP {n m:Nat}(h:n+m<=4611686018427387904): ah ((n:Int)+(m:Int))=((n+m:Nat):Int):=by
 rw[bC (by omega) (by omega)]
 omega
theorem Dh {α:Type}{xs:List α}{i:Int}(d:α)(a:0<=i)(h:i<xs.length): idx xs i=some (xs.getD i.toNat d):=by
 rw[Nu a h,List.getD_eq_getElem?_getD,List.getElem?_eq_getElem (by omega)]
 rfl
theorem wD {α β:Type}(f:α->List β): ∀(xs:List α) (a:List β),xs.foldl (λs x=>s++f x) a=a++xs.flatMap f
 |[],a=>by simp
 |x::xs,a=>by rw[List.foldl_cons,wD f xs];simp
theorem mG {α β:Type}(f:α->List β){n:Nat}: ∀(xs:List α),(∀x∈xs,(f x).length<=n)->(xs.flatMap f).length<=xs.length*n
 |[],_=>by simp
 |x::xs,h=>by
  have b:=h x (by simp)
  have c:=mG f xs (λy a=>h y (by simp[a]))
  simp only[List.flatMap_cons,List.length_append,List.length_cons,Nat.add_mul]
  omega
end Go.Tc
namespace Go.Tc
open Go
theorem uP {β S X:Type}{body:S->Option (S ⊕ X)}(n:Nat)(b:n<=4611686018427387903)(st:List β->Int->S)(g:Nat->List β)(m:Nat)(c:∀k,k<n->(g k).length<=m)(a0:List β)(B:Nat)(d:a0.length<=B)(h:∀(i:Nat) (a:List β),i<n->a.length<=B+i*m->body (st a (i:Int))=some (.inl (st (a++g i) (ah ((i:Int)+1))))):
  run body (st a0 0)=run body (st (a0++(List.range n).flatMap g) (n:Int)):=by
 have:=(tJ (body:=body) (List.range n) (by simpa using b) st (λa k=>a++g k) (λi a=>a.length<=B+i*m) (by
  intro i hi a k
  simp only[List.length_range]at hi
  simp only[List.getElem_range]
  refine⟨h i a hi k,?_⟩
  have:=c i hi
  rw[List.length_append,Nat.succ_mul]
  omega) a0 (by omega)).1
 rw[wD,List.length_range]at this
 exact this
theorem N1 {n:Nat}(h:n<=4611686018427387904): ah (n:Int)=n:=bC (by omega) (by omega)
theorem IZ {n m:Nat}(h:n*m<=4611686018427387904): ah ((n:Int)*(m:Int))=((n*m:Nat):Int):=by
 rw[<- Int.natCast_mul]
 exact bC (by omega) (by omega)
end Go.Tc
namespace Go.Fn
open Go Go.Tc
def cn:ai:=⟨0,0,-1⟩
def jF (s q:Int)(r:ai): Bool:=decide (r=cn) || (mJ r.Write 0 (s-1)&&((decide (r.Move=1) || decide (r.Move=-1))&&mJ r.Next 0 (q-1)))
def kG (m:O): Bool:=mJ m.I 2 6&&mJ m.N 1 1000&&decide ((m.aB.length:Int)=m.I*m.N)&&m.aB.all (jF m.I m.N)
theorem ei {x lo hi:Int}: mJ x lo hi=true↔lo<=x/\x<=hi:=by
 unfold mJ
 simp only[Bool.and_eq_true,decide_eq_true_eq]
theorem K0 (m:O)(r:ai)(hs:0<=m.I/\m.I<=1000000)(hq:0<=m.N/\m.N<=1000000): pJ m r=some (jF m.I m.N r):=by
 unfold pJ fw gV jF cn
 rw[bC (by omega) (by omega),bC (by omega) (by omega)]
 simp only[D,rh]
 cases decide (r=⟨0,0,-1⟩)
 ·cases mJ r.Write 0 (m.I-1)
  ·rfl
  cases decide (r.Move=1)
  ·cases decide (r.Move=-1)<;>rfl
  ·cases decide (r.Move=-1)<;>rfl
 ·rfl
theorem NP {s q:Int}(hs:2<=s/\s<=6)(hq:1<=q/\q<=1000): 0<=s*q/\s*q<=6000:=by
 refine⟨Int.mul_nonneg (by omega) (by omega),?_⟩
 have a:s*q<=6*q:=Int.mul_le_mul_of_nonneg_right hs.2 (by omega)
 omega
theorem EJ (m:O)(h:Mu m): eF m=some (kG m):=by
 have c:m.aB.length<=1048576:=h.1
 unfold eF oS kG gL iq
 simp only[D,rh]
 cases a:mJ m.I 2 6
 ·rfl
 cases b:mJ m.N 1 1000
 ·rfl
 rw[ei]at a b
 have hm:=NP a b
 rw[Int.mul_comm m.N m.I,bC (by omega) (by omega)]
 by_cases hl:(m.aB.length:Int)=m.I*m.N
 ·rw[decide_eq_true hl,decide_eq_false (by omega:¬(m.aB.length:Int)≠m.I*m.N)]
  simp only[Bool.not_true,cond_false,D,Bool.true_and]
  rw[Dj m.aB (by omega) (λx=>!jF m.I m.N x) (λi hi=>by
   simp only[eZ,oG,Int.ofNat_lt,hi,decide_true,cond_true,eh hi,D,K0 m _ (by omega:0<=m.I/\m.I<=1000000) (by omega:0<=m.N/\m.N<=1000000)]
   cases jF m.I m.N m.aB[i]<;>rfl) (by simp[eZ])]
  simp only[D]
  rw[Mc,OT]
 ·rw[decide_eq_false hl,decide_eq_true (show(m.aB.length:Int)≠m.I*m.N from hl)]
  rfl
theorem BJ {m:O}(h:kG m=true): ∃s q:Nat,m.I=s/\m.N=q/\2<=s/\s<=6/\1<=q/\q<=1000/\m.aB.length=q*s/\q*s<=6000/\∀r∈m.aB,jF m.I m.N r=true:=by
 unfold kG at h
 simp only[Bool.and_eq_true,decide_eq_true_eq,ei]at h
 obtain⟨⟨⟨hs,hq⟩,hl⟩,a⟩:=h
 have hm:=NP hs hq
 refine⟨m.I.toNat,m.N.toNat,by omega,by omega,by omega,by omega,by omega,by omega,?_,?_,List.all_eq_true.1 a⟩
 ·have:((m.N.toNat*m.I.toNat:Nat):Int)=m.I*m.N:=by
   rw[Int.natCast_mul,Int.toNat_of_nonneg (by omega),Int.toNat_of_nonneg (by omega),Int.mul_comm]
  omega
 ·have:((m.N.toNat*m.I.toNat:Nat):Int)=m.I*m.N:=by
   rw[Int.natCast_mul,Int.toNat_of_nonneg (by omega),Int.toNat_of_nonneg (by omega),Int.mul_comm]
  omega
theorem wJ {β:Type}(g:Nat->List β)(c:Nat)(h:∀k,(g k).length=c): ∀n,((List.range n).flatMap g).length=n*c
 |0=>by simp
 |n+1=>by rw[List.range_succ,List.flatMap_append,List.length_append,wJ g c h n,Nat.succ_mul];simp[h]
theorem HB {p a s q:Nat}(b:p<q)(c:a<s): p*s+a<q*s:=by
 have:(p+1)*s<=q*s:=Nat.mul_le_mul_right s b
 rw[Nat.succ_mul]at this
 omega
end Go.Fn
namespace Go.Fn
open Go Go.Tc
set_option linter.unusedVariables false
def bR (xs:List Int): List Int:=(xs.reverse.dropWhile λx=>decide (x=0)).reverse
theorem KF:bR []=[]:=rfl
theorem jr (ys:List Int)(y:Int): bR (ys++[y])=if y=0 then bR ys else ys++[y]:=by
 unfold bR
 rw[List.reverse_append,List.reverse_singleton,List.singleton_append,List.dropWhile_cons]
 by_cases h:y=0
 ·rw[if_pos h,decide_eq_true h,if_pos rfl]
 ·rw[if_neg h,decide_eq_false h,if_neg (by simp),List.reverse_cons,List.reverse_reverse]
theorem jm (xs:List Int): (bR xs).length<=xs.length:=by
 unfold bR
 rw[List.length_reverse]
 have:=(List.dropWhile_suffix (l:=xs.reverse) (λx=>decide (x=0))).length_le
 simpa using this
theorem gp {α:Type}(xs:List α): xs=[]\/∃ys y,xs=ys++[y]:=by
 rcases List.eq_nil_or_concat xs with h|⟨ys,y,h⟩
 ·exact .inl h
 ·exact .inr ⟨ys,y,by simpa using h⟩
theorem C6 {α:Type}(ys:List α)(y:α)(h:ys.length<=1048576): idx (ys++[y]) (ah (((ys++[y]).length:Int)-1))=some y:=by
 have e:ah (((ys++[y]).length:Int)-1)=(ys.length:Int):=by
  rw[List.length_append,List.length_singleton,bC (by omega) (by omega)]
  omega
 rw[e,eh (by simp)]
 simp
theorem Ht {α:Type}{xs:List α}{hi:Nat}(h:hi<=xs.length): jV xs 0 (hi:Int)=some (xs.take hi):=by
 have:=AM (xs:=xs) (lo:=0) (hi:=hi) (Nat.zero_le _) h
 rw[List.drop_zero]at this
 exact this
theorem BT:∀(n:Nat) (xs:List Int),xs.length=n->n<=1048576->run mO xs=some (.bf (bR xs))
 |0,xs,h,_=>by
  obtain rfl:xs=[]:=List.eq_nil_of_length_eq_zero h
  exact aZ rfl
 |n+1,xs,h,d=>by
  rcases gp xs with rfl|⟨ys,y,rfl⟩
  ·simp at h
  have c:ys.length=n:=by simpa using h
  have b:mO (ys++[y])=cond (decide (y=0)) (some (.inl ys)) (some (.inr (.bf (ys++[y])))):=by
   unfold mO
   rw[decide_eq_true (by rw[h];omega),cond_true,C6 ys y (by omega),D]
   have e:ah (((ys++[y]).length:Int)-1)=(ys.length:Int):=by
    rw[List.length_append,List.length_singleton,bC (by omega) (by omega)]
    omega
   rw[e,Ht (by simp),D,List.take_left]
  rw[jr]
  by_cases a:y=0
  ·rw[if_pos a,bZ (by rw[b,decide_eq_true a];rfl)]
   exact BT n ys c (by omega)
  ·rw[if_neg a,aZ (by rw[b,decide_eq_false a];rfl)]
theorem jB (xs:List Int)(h:xs.length<=1048576): gA xs=some (bR xs):=by
 unfold gA
 rw[BT _ xs rfl h]
 rfl
theorem K8 (xs:List Int)(h:xs.length<=1048576): tf xs=some xs:=by
 unfold tf
 rw[de (by simp;omega)]
 rfl
theorem qA (xs:List Int)(h:xs.length<=1048576): cE xs=some xs:=by
 unfold cE
 rw[de (by simp;omega)]
 rfl
theorem G1 {body:Int->Option (Int ⊕ Out Int (List Int))}(xs:List Int)(h:xs.length<=1048576)(d:body 0=some (.inr (.bf 0)))(c:∀(n:Nat) (f:n<xs.length),body ((n:Int)+1)=cond (decide (xs[n]=0)) (some (.inl (n:Int))) (some (.inr (.bf ((n:Int)+1))))):
  ∀n:Nat,n<=xs.length->∃k:Nat,k<=xs.length/\run body (n:Int)=some (.bf (k:Int))/\xs.take k=bR (xs.take n)
 |0,_=>⟨0,Nat.zero_le _,aZ d,by simp[KF]⟩
 |n+1,f=>by
  have a:n<xs.length:=by omega
  have g:xs.take (n+1)=xs.take n++[xs[n]]:=(List.take_append_getElem a).symm
  rw[g,jr]
  by_cases b:xs[n]=0
  ·obtain⟨k,i,hr,e⟩:=G1 xs h d c n (by omega)
   refine⟨k,i,?_,by rw[if_pos b];exact e⟩
   rw[Int.natCast_add,Int.natCast_one,bZ (by rw[c n a,decide_eq_true b];rfl)]
   exact hr
  ·refine⟨n+1,f,?_,by rw[if_neg b,g]⟩
   rw[Int.natCast_add,Int.natCast_one,aZ (by rw[c n a,decide_eq_false b];rfl)]
theorem E5 (xs:List Int)(h:xs.length<=1048576): o6 xs=some (bR xs):=by
 unfold o6
 obtain⟨k,a,hr,e⟩:=G1 (body:=oI xs) xs h rfl (λn b=>by
  have e:ah ((n:Int)+1-1)=(n:Int):=by rw[Int.add_sub_cancel];exact N1 (by omega)
  simp only[oI]
  rw[decide_eq_true (by omega),cond_true,e,eh b,D]) xs.length (Nat.le_refl _)
 rw[hr]
 simp only[D,Out.elim]
 rw[Ht a,D,K8 _ (by rw[List.length_take];omega),e,List.take_length]
 rfl
theorem fB (xs:List Int)(h:xs.length<=1048576): ek xs=some xs.reverse:=by
 unfold ek
 rw[qA xs h,D,bC (by omega) (by omega)]
 obtain⟨o,m,i,j,rfl⟩:=Oy (body:=l5) (λs=>∃n:Nat,s.2.1=n/\s.2.2=(xs.length:Int)-1-n/\2*n<=xs.length/\s.1.length=xs.length/\∀k,k<xs.length->s.1[k]?=if k<n\/xs.length<=k+n then xs[xs.length-1-k]? else xs[k]?)
  (λo=>∃i j,o=.bf (xs.reverse,i,j)) (λs=>(s.2.2-s.2.1+1).toNat) (by
   rintro⟨a,i,j⟩ ⟨n,rfl,rfl,u,hl,f⟩
   simp only at hl f
   by_cases v:n+n+1<xs.length
   ·left
    have p:(xs.length:Int)-1-n=((xs.length-1-n:Nat):Int):=by omega
    have b:xs.length-1-n<a.length:=by omega
    have g:n<a.length:=by omega
    have q:a[xs.length-1-n]?=xs[xs.length-1-n]?:=by rw[f _ (by omega),if_neg (by omega)]
    have r:a[n]?=xs[n]?:=by rw[f _ (by omega),if_neg (by omega)]
    refine⟨((a.set n a[xs.length-1-n]).set (xs.length-1-n) a[n],((n+1:Nat):Int),(xs.length:Int)-1-((n+1:Nat):Int)),?_,⟨n+1,rfl,rfl,by omega,by simpa using hl,?_⟩,?_⟩
    ·simp only[l5]
     rw[decide_eq_true (by omega),cond_true,p,eh b,D,eh g,D,D,eh (by simpa using b),D,dh (by omega),bC (by omega) (by omega)]
     simp only[Int.toNat_natCast]
     congr 4
     omega
    ·intro k d
     have l:(((a.set n a[xs.length-1-n]).set (xs.length-1-n) a[n])[k]?)=if k=xs.length-1-n then a[n]? else if k=n then a[xs.length-1-n]? else a[k]?:=by
      rw[List.getElem?_set,List.getElem?_set,List.length_set]
      by_cases e1:xs.length-1-n=k
      ·rw[if_pos e1,if_pos b,if_pos e1.symm,List.getElem?_eq_getElem g]
      ·rw[if_neg e1]
       by_cases e2:n=k
       ·rw[if_pos e2,if_pos (by omega),if_neg (λe=>e1 e.symm),if_pos e2.symm,List.getElem?_eq_getElem b]
       ·rw[if_neg e2,if_neg (λe=>e1 e.symm),if_neg (λe=>e2 e.symm)]
     rw[l]
     by_cases e1:k=xs.length-1-n
     ·rw[if_pos e1,if_pos (by omega),r]
      congr 1
      omega
     ·rw[if_neg e1]
      by_cases e2:k=n
      ·rw[if_pos e2,if_pos (by omega),q,e2]
      ·rw[if_neg e2,f k d]
       by_cases c:k<n\/xs.length<=k+n
       ·rw[if_pos c,if_pos (by omega)]
       ·rw[if_neg c,if_neg (by omega)]
    ·show((xs.length:Int)-1-((n+1:Nat):Int)-((n+1:Nat):Int)+1).toNat<((xs.length:Int)-1-n-n+1).toNat
     omega
   ·right
    refine⟨.bf (xs.reverse,(n:Int),(xs.length:Int)-1-n),?_,_,_,rfl⟩
    have t:a=xs.reverse:=by
     apply List.ext_getElem?
     intro k
     by_cases d:k<xs.length
     ·rw[f k d,List.getElem?_reverse d]
      by_cases c:k<n\/xs.length<=k+n
      ·rw[if_pos c]
      ·rw[if_neg c]
       congr 1
       omega
     ·rw[List.getElem?_eq_none (by omega),List.getElem?_eq_none (by simp;omega)]
    simp only[l5]
    rw[decide_eq_false (by omega),cond_false,t]) (xs,0,(xs.length:Int)-1) ⟨0,rfl,by simp,by omega,rfl,λk f=>by rw[if_neg (by omega)]⟩
 rw[m]
 rfl
def qf (xs:List Int): Bool:=decide (xs.length<=400)&&xs.all λx=>mJ x 0 9
end Go.Fn
namespace Go.Tc
open Go
theorem Dt {β:Type}: ∀(xs:List (List β)) (a:List β),xs.foldl (λs x=>s++x) a=a++xs.flatten
 |[],a=>by simp
 |x::xs,a=>by rw[List.foldl_cons,Dt xs];simp
theorem MT {α:Type}{xs:List α}: jV xs 0 ((0:Nat):Int)=some []:=by
 have:=AM (xs:=xs) (lo:=0) (hi:=0) (Nat.le_refl 0) (Nat.zero_le _)
 simpa using this
theorem P0:ah (((0:Nat):Int)-((0:Nat):Int))=0:=by
 rw[bC (by decide) (by decide)];rfl
end Go.Tc
namespace Go.Fn
open Go Go.Tc
theorem Ij (xs:List (List Int))(c:xs.length<=1048576)(h:xs.flatten.length<=1048576): jt xs=some xs.flatten:=by
 unfold jt
 have b:∀(i:Nat) (hi:i<xs.length),(xs.drop i).flatten.length=xs[i].length+(xs.drop (i+1)).flatten.length:=λi hi=>by
  rw[List.drop_eq_getElem_cons hi,List.flatten_cons,List.length_append]
 obtain⟨e1,e2⟩:=tJ (body:=fW xs) xs (by omega) (λ(a:Int) i=>(a,i)) (λa x=>a+(x.length:Int)) (λi a=>0<=a/\a+((xs.drop i).flatten.length:Int)=(xs.flatten.length:Int)) (by
  rintro i hi a ⟨m,k1⟩
  have:=b i hi
  have e:ah (a+(xs[i].length:Int))=a+(xs[i].length:Int):=bC (by omega) (by omega)
  refine⟨?_,by omega,by omega⟩
  simp only[fW,Int.ofNat_lt,hi,decide_true,cond_true,eh hi,D,e]
  rw[decide_eq_false (by omega),cond_false]) 0 ⟨by omega,by simp⟩
 rw[e1,aZ (x:=.bf (xs.foldl (λa x=>a+(x.length:Int)) 0,(xs.length:Int))) (by simp[fW])]
 rw[List.drop_length]at e2
 generalize xs.foldl (λa x=>a+(x.length:Int)) 0=T at e2
 simp only[List.flatten_nil,List.length_nil]at e2
 simp only[D,Out.elim]
 rw[decide_eq_false (by omega),cond_false,P0,bC (by omega) (by omega)]
 simp only[D,Out.elim]
 have loop:∀(body:List Int×Int->Option ((List Int×Int) ⊕ Out (List Int×Int) (List Int))),
   (∀(i:Nat) (hi:i<xs.length) (a:List Int),a.length+xs[i].length<=1048576->body (a,(i:Int))=some (.inl (a++xs[i],ah ((i:Int)+1))))->
   (∀a,body (a,(xs.length:Int))=some (.inr (.bf (a,(xs.length:Int)))))->run body ([],0)=some (.bf (xs.flatten,(xs.length:Int))):=by
  intro body f g
  have:=(tJ (body:=body) xs (by omega) (λ(a:List Int) i=>(a,i)) (λa x=>a++x) (λi a=>a.length+(xs.drop i).flatten.length=xs.flatten.length) (by
   intro i hi a k
   have:=b i hi
   refine⟨f i hi a (by omega),?_⟩
   rw[List.length_append];omega) [] (by simp)).1
  rw[Dt,List.nil_append]at this
  rw[this,aZ (g _)]
 have j:=loop (fS xs) (λi hi a k=>by
  simp only[fS,Int.ofNat_lt,hi,decide_true,cond_true,eh hi,D]
  rw[de (by omega),D]) (λa=>by simp[fS])
 have l:=loop (fZ xs) (λi hi a k=>by
  simp only[fZ,Int.ofNat_lt,hi,decide_true,cond_true,eh hi,D]
  rw[de (by omega),D]) (λa=>by simp[fZ])
 by_cases d:0<T-0
 ·rw[decide_eq_true d,cond_true]
  obtain⟨n,c⟩:∃n:Nat,T-0=n:=⟨(T-0).toNat,by omega⟩
  rw[c,OU (by omega),D,MT,D,j]
  rfl
 ·rw[decide_eq_false d,cond_false,l]
  rfl
theorem sU (xs:List (List Int))(a:xs.length<=1048576)(h:xs.flatten.length<=1048576): lx xs=some xs.flatten:=by
 unfold lx
 rw[Ij xs a h]
 rfl
end Go.Fn
namespace Go.Fn
open Go Go.Tc
set_option linter.unusedVariables false
def rH (s:Int)(xs:List Int): Bool:=decide (xs.length<=200)&&(xs.all λx=>mJ x 0 (s-1))&&(decide (xs.length=0) || decide (xs.getLastD 0≠0))
def iM (m:O)(c:U): Bool:=mJ c.State 0 (m.N-1)&&(rH m.I c.Left&&rH m.I c.ak)
theorem FV (xs:List Int)(s:Int)(hs:0<=s/\s<=1000000)(h:xs.length<=1048576): nC xs s 200=some (rH s xs):=by
 unfold nC rH eW
 have e:ah (s-1)=s-1:=bC (by omega) (by omega)
 rw[D,e,oZ xs 0 (s-1) h]
 by_cases hl:xs.length<=200
 ·rw[decide_eq_true (by omega:(xs.length:Int)<=200),decide_eq_true hl]
  cases xs.all λx=>mJ x 0 (s-1)
  ·rfl
  ·simp only[cond_true,D,Bool.true_and]
   by_cases a:xs.length=0
   ·rw[decide_eq_true (by omega:(xs.length:Int)=0),decide_eq_true a];rfl
   ·rw[decide_eq_false (by omega:¬(xs.length:Int)=0),decide_eq_false a,M0 a h];rfl
 ·rw[decide_eq_false (by omega:¬(xs.length:Int)<=200),decide_eq_false hl];rfl
theorem yD (m:O)(c:U)(hs:0<=m.I/\m.I<=1000000)(hq:0<=m.N/\m.N<=1000000)(h:Mu c): mz m c=some (iM m c):=by
 unfold mz iM
 rw[bC (by omega) (by omega),rh,D,FV c.Left _ hs h.1.1,FV c.ak _ hs h.2.1]
 cases mJ c.State 0 (m.N-1)
 ·rfl
 ·cases rH m.I c.Left<;>rfl
theorem Mz {m:O}(h:kG m=true): (0<=m.I/\m.I<=1000000)/\(0<=m.N/\m.N<=1000000):=by
 obtain⟨s,q,hs,hq,b1,b2,b3,b4,_⟩:=BJ h
 omega
theorem kE (m:O)(c:U)(a:Mu m)(s1:Mu c): dJ m c=some (kG m&&iM m c):=by
 unfold dJ
 rw[EJ m a,D]
 cases hm:kG m
 ·rfl
 ·obtain⟨b,d⟩:=Mz hm
  rw[cond_true,yD m c b d s1]
  rfl
theorem pX {m:O}{c:U}(h:iM m c=true): c.Left.length<=200/\c.ak.length<=200/\0<=c.State/\c.State<=m.N-1:=by
 unfold iM rH at h
 simp only[Bool.and_eq_true,decide_eq_true_eq]at h
 have:=ei.1 h.1
 exact⟨h.2.1.1.1,h.2.2.1.1,this.1,this.2⟩
theorem yw (xs:List Int)(k:Nat): my xs (k:Int)=some (xs.getD k 0):=by
 unfold my
 by_cases h:k<xs.length
 ·rw[decide_eq_false (by omega),cond_false,eh h,D,List.getD_eq_getElem?_getD,List.getElem?_eq_getElem h];rfl
 ·rw[decide_eq_true (by omega),cond_true,List.getD_eq_getElem?_getD,List.getElem?_eq_none (by omega)];rfl
theorem kF (xs:List Int)(j:Nat): (bR xs).getD j 0=xs.getD j 0:=by
 obtain⟨n,a⟩:∃n,xs.length=n:=⟨_,rfl⟩
 induction n generalizing xs with
 |zero=>
  obtain rfl:=List.eq_nil_of_length_eq_zero a
  rfl
 |succ n b=>
  rcases gp xs with rfl|⟨ys,y,rfl⟩
  ·simp at a
  ·rw[jr]
   by_cases h:y=0
   ·rw[if_pos h,b ys (by simpa using a)]
    subst h
    rw[List.getD_eq_getElem?_getD,List.getD_eq_getElem?_getD,List.getElem?_append]
    split
    ·rfl
    ·rename_i c
     rw[List.getElem?_eq_none (by omega)]
     cases d:j-ys.length<;>simp
   ·rw[if_neg h]
theorem FQ (xs:List Int)(j:Nat): xs.tail.getD j 0=xs.getD (j+1) 0:=by
 cases xs<;>simp
def bI (r:ai)(c:U): U:=
 if 0<r.Move then ⟨r.Next,bR (r.Write::c.Left),c.ak.tail⟩else ⟨r.Next,c.Left.tail,bR (c.Left.getD 0 0::bR (r.Write::c.ak.tail))⟩
theorem K2 (r:ai)(c:U): (bI r c).Left.length<=c.Left.length+1/\(bI r c).ak.length<=c.ak.length+2:=by
 unfold bI
 have a:=jm (r.Write::c.Left)
 have b:=jm (r.Write::c.ak.tail)
 have d:=jm (c.Left.getD 0 0::bR (r.Write::c.ak.tail))
 have e:c.ak.tail.length<=c.ak.length:=by simp
 have f:c.Left.tail.length<=c.Left.length:=by simp
 simp only[List.length_cons]at a b d
 split
 ·simp only
  omega
 ·simp only
  omega
def ax (m:O)(c:U): ai:=m.aB.getD (ah ((ah (c.State*m.I))+c.ak.getD 0 0)).toNat cn
structure A1 (s q N:Nat)(c:U): Prop where
 st:∃p:Nat,c.State=p/\p<q
 lf:∀j,0<=c.Left.getD j 0/\c.Left.getD j 0<s
 rt:∀j,0<=c.ak.getD j 0/\c.ak.getD j 0<s
 ll:c.Left.length<=N
 rl:c.ak.length<=N
theorem wX {x:Int}{l:List Int}{s:Nat}(a:0<=x/\x<s)(hl:∀j,0<=l.getD j 0/\l.getD j 0<s): ∀j,0<=(x::l).getD j 0/\(x::l).getD j 0<s:=λj=>by
 cases j with
 |zero=>exact a
 |succ j=>rw[List.getD_cons_succ];exact hl j
theorem A1.step {s q N:Nat}{c:U}(h:A1 s q N c){r:ai}(a:0<=r.Write/\r.Write<s)(d:0<=r.Next/\r.Next<q): A1 s q (N+2) (bI r c):=by
 have hl:=K2 r c
 have e1:∀j,0<=(bR (r.Write::c.Left)).getD j 0/\(bR (r.Write::c.Left)).getD j 0<s:=λj=>by rw[kF];exact wX a h.lf j
 have e2:∀j,0<=c.ak.tail.getD j 0/\c.ak.tail.getD j 0<s:=λj=>by rw[FQ];exact h.rt _
 have e3:∀j,0<=c.Left.tail.getD j 0/\c.Left.tail.getD j 0<s:=λj=>by rw[FQ];exact h.lf _
 have b:∀j,0<=(bR (c.Left.getD 0 0::bR (r.Write::c.ak.tail))).getD j 0/\(bR (c.Left.getD 0 0::bR (r.Write::c.ak.tail))).getD j 0<s:=λj=>by
  rw[kF]
  exact wX (h.lf 0) (λj=>by rw[kF];exact wX a e2 j) j
 have:=h.ll
 have:=h.rl
 refine⟨⟨r.Next.toNat,?_,by omega⟩,?_,?_,by omega,by omega⟩
 ·unfold bI
  split<;>(simp only;omega)
 ·unfold bI
  split
  ·exact e1
  ·exact e3
 ·unfold bI
  split
  ·exact e2
  ·exact b
structure jI (m:O)(s q:Nat): Prop where
 hs:m.I=s
 hq:m.N=q
 b1:2<=s
 b2:s<=6
 b3:1<=q
 b4:q<=1000
 hl:m.aB.length=q*s
 b5:q*s<=6000
 hr:∀r∈m.aB,jF m.I m.N r=true
theorem Ig {m:O}{s q N:Nat}(M:jI m s q){c:U}(h:A1 s q N c): ∃p a:Nat,c.State=p/\c.ak.getD 0 0=a/\p<q/\a<s/\ah ((ah (c.State*m.I))+c.ak.getD 0 0)=((p*s+a:Nat):Int)/\p*s+a<q*s:=by
 obtain⟨p,e,b⟩:=h.st
 have f:=h.rt 0
 have d:=HB b (show(c.ak.getD 0 0).toNat<s by omega)
 have:=M.b5
 refine⟨p,(c.ak.getD 0 0).toNat,e,by omega,b,by omega,?_,d⟩
 rw[e,M.hs,IZ (by omega),show c.ak.getD 0 0=((c.ak.getD 0 0).toNat:Int)by omega,FP (by omega)]
 simp
theorem sg {m:O}{s q N:Nat}(M:jI m s q){c:U}(h:A1 s q N c): idx m.aB (ah ((ah (c.State*m.I))+c.ak.getD 0 0))=some (ax m c)/\ax m c∈m.aB:=by
 obtain⟨p,a,g,i,f,has,e,d⟩:=Ig M h
 have b:p*s+a<m.aB.length:=by rw[M.hl];exact d
 unfold ax
 rw[e,eh b,Int.toNat_natCast,List.getD_eq_getElem?_getD,List.getElem?_eq_getElem b]
 exact⟨rfl,List.getElem_mem _⟩
theorem oW {m:O}{s q:Nat}(M:jI m s q){r:ai}(h:r∈m.aB)(c:r≠cn): (0<=r.Write/\r.Write<s)/\(r.Move=1\/r.Move=-1)/\(0<=r.Next/\r.Next<q):=by
 have a:=M.hr r h
 unfold jF at a
 rw[decide_eq_false c,Bool.false_or,Bool.and_eq_true,Bool.and_eq_true]at a
 have d:=ei.1 a.1
 have e:=ei.1 a.2.2
 have b:=a.2.1
 simp only[Bool.or_eq_true,decide_eq_true_eq]at b
 have:=M.hs
 have:=M.hq
 exact⟨by omega,b,by omega⟩
theorem yo (r:ai): fw r=some (!decide (r=cn)):=rfl
theorem Lb {m:O}{s q:Nat}(M:jI m s q){c:U}(h:iM m c=true): A1 s q 200 c:=by
 have hl:=pX h
 unfold iM rH at h
 simp only[Bool.and_eq_true,decide_eq_true_eq]at h
 have d:=ei.1 h.1
 have hs:=M.hs
 have hq:=M.hq
 have b1:=M.b1
 have side:∀xs:List Int,(xs.all λx=>mJ x 0 (m.I-1))=true->∀j,0<=xs.getD j 0/\xs.getD j 0<s:=by
  intro xs a j
  rw[List.getD_eq_getElem?_getD]
  cases b:xs[j]? with
  |none=>simp;omega
  |some y=>
   have:=ei.1 (List.all_eq_true.1 a y (List.mem_of_getElem? b))
   simp only[Option.getD_some]
   omega
 exact⟨⟨c.State.toNat,by omega,by omega⟩,side _ h.2.1.1.2,side _ h.2.2.1.2,hl.1,hl.2.1⟩
theorem tI {m:O}(h:kG m=true): ∃s q,jI m s q:=by
 obtain⟨s,q,hs,hq,b1,b2,b3,b4,hl,b5,hr⟩:=BJ h
 exact⟨s,q,hs,hq,b1,b2,b3,b4,hl,b5,hr⟩
section
variable {R0:Type}
variable {P A:Type}[DecidableEq P]
abbrev HC (P:Type):=List ai×List P×List (P×Int)×Int
noncomputable def GU (fail:R0)(n:Int)(at_:P->Int->Option A)(non:A->Bool)(wr mv:A->Int)(nx:A->P)(f a:HC P): Option (HC P ⊕ Out (HC P) R0):=
 (cond (decide (a.2.2.2<n)) (Z gV λd=>Z (Z (idx a.2.1 f.2.2.2) λg=>Z (at_ g a.2.2.2) λb=>(cond (!(non b)) (cond (!((fA a.2.2.1 (nx b)).isSome)) (Z (some (a.2.1.length:Int)) λe=>Z (app a.2.1 ([nx b]:List P)) λz72=>some (.bf (z72,(lY a.2.2.1 (nx b) e),wr b,mv b,e))) (some (.bf (a.2.1,a.2.2.1,wr b,mv b,((fA a.2.2.1 (nx b)).getD 0))))) (some (.bf (a.2.1,a.2.2.1,d.Write,d.Move,d.Next)))):Option (Out (List P×List (P×Int)×Int×Int×Int) R0)) (Out.elim (λ(c:List P×List (P×Int)×Int×Int×Int)=>Z (app a.1 ([(⟨c.2.2.1,c.2.2.2.1,c.2.2.2.2⟩:ai)]:List ai)) λh=>some (.inl (h,c.1,c.2.1,(ah (a.2.2.2+1))))) (λ(r:R0)=>some (.inr (.ret r))))) (some (.inr (.bf (a.1,a.2.1,a.2.2.1,a.2.2.2)))))
noncomputable def Ah (fail:R0)(n:Int)(at_:P->Int->Option A)(non:A->Bool)(wr mv:A->Int)(nx:A->P)(a:HC P): Option (HC P ⊕ Out (HC P) R0):=
 (cond (decide (a.2.2.2<(a.2.1.length:Int))) (Z (run (GU fail n at_ non wr mv nx a) (a.1,a.2.1,a.2.2.1,0)) (Out.elim (λ(b:HC P)=>(cond (decide (1000<(b.2.1.length:Int))) (some (.inr (.ret fail))) (some (.inl (b.1,b.2.1,b.2.2.1,(ah (a.2.2.2+1))))))) (λ(r:R0)=>some (.inr (.ret r))))) (some (.inr (.bf (a.1,a.2.1,a.2.2.1,a.2.2.2)))))
def sH (ps:List P)(x:P): List P×Nat:=match ps.findIdx? (λz=>decide (z=x))with
 |some i=>(ps,i)
 |none=>(ps++[x],ps.length)
def ni (act:P->Nat->Option (Int×Int×P))(p:P)(v:Nat)(st:List ai×List P): List ai×List P:=match act p v with
 |none=>(st.1++[cn],st.2)
 |some (w,m,x)=>(st.1++[⟨w,m,((sH st.2 x).2:Int)⟩],(sH st.2 x).1)
def qp (act:P->Nat->Option (Int×Int×P))(p:P): Nat->Nat->List ai×List P->List ai×List P
 |0,_,st=>st
 |k+1,v,st=>qp act p k (v+1) (ni act p v st)
def vp (act:P->Nat->Option (Int×Int×P))(n:Nat): Nat->Nat->List ai×List P->Option (List ai×List P)
 |0,_,_=>none
 |f+1,k,st=>match st.2[k]? with
  |none=>some st
  |some p=>if 1000<(qp act p n 0 st).2.length then none else vp act n f (k+1) (qp act p n 0 st)
theorem MC (ps:List P)(x:P): ps.length<=(sH ps x).1.length/\(sH ps x).1.length<=ps.length+1:=by
 unfold sH
 split<;>simp
theorem Mx (ps:List P)(x:P){k:Nat}{p:P}(h:ps[k]?=some p): (sH ps x).1[k]?=some p:=by
 unfold sH
 split
 ·exact h
 ·rw[List.getElem?_append_left (List.getElem?_eq_some_iff.1 h).1,h]
theorem E6 {ps:List P}{x:P}{i:Nat}(h:ps.findIdx? (λz=>decide (z=x))=some i): sH ps x=(ps,i):=by
 unfold sH
 rw[h]
theorem FX {ps:List P}{x:P}(h:ps.findIdx? (λz=>decide (z=x))=none): sH ps x=(ps++[x],ps.length):=by
 unfold sH
 rw[h]
theorem DO {act:P->Nat->Option (Int×Int×P)}{p:P}{v:Nat}{st:List ai×List P}(h:act p v=none): ni act p v st=(st.1++[cn],st.2):=by
 unfold ni
 rw[h]
theorem Ae {act:P->Nat->Option (Int×Int×P)}{p:P}{v:Nat}{st:List ai×List P}{w m:Int}{x:P}(h:act p v=some (w,m,x)): ni act p v st=(st.1++[⟨w,m,((sH st.2 x).2:Int)⟩],(sH st.2 x).1):=by
 unfold ni
 rw[h]
theorem BB (act:P->Nat->Option (Int×Int×P))(p:P)(v:Nat)(st:List ai×List P): (ni act p v st).1.length=st.1.length+1/\st.2.length<=(ni act p v st).2.length/\(ni act p v st).2.length<=st.2.length+1:=by
 unfold ni
 split
 ·simp
 ·rename_i w m x h
  have:=MC st.2 x
  exact⟨by simp,this.1,this.2⟩
theorem yL (act:P->Nat->Option (Int×Int×P))(p:P)(v:Nat)(st:List ai×List P){k:Nat}{q:P}(h:st.2[k]?=some q): (ni act p v st).2[k]?=some q:=by
 unfold ni
 split
 ·exact h
 ·exact Mx _ _ h
theorem C3 (act:P->Nat->Option (Int×Int×P))(p:P): ∀(k v:Nat) (st:List ai×List P),(qp act p k v st).1.length=st.1.length+k/\st.2.length<=(qp act p k v st).2.length/\(qp act p k v st).2.length<=st.2.length+k
 |0,v,st=>⟨rfl,Nat.le_refl _,Nat.le_refl _⟩
 |k+1,v,st=>by
  have a:=BB act p v st
  have b:=C3 act p k (v+1) (ni act p v st)
  rw[qp]
  omega
structure CL (act:P->Nat->Option (Int×Int×P))(n:Nat)(VP:P->Prop): Prop where
 next:∀p v w m x,VP p->v<n->act p v=some (w,m,x)->VP x
def ve (VP:P->Prop)(ps:List P): Prop:=∀p∈ps,VP p
theorem M3 {VP:P->Prop}{ps:List P}{x:P}(h:ve VP ps)(b:VP x): ve VP (sH ps x).1:=by
 unfold sH
 split
 ·exact h
 ·intro p a
  rcases List.mem_append.1 a with a|a
  ·exact h p a
  ·rw[List.mem_singleton.1 a]
   exact b
theorem Kq {act:P->Nat->Option (Int×Int×P)}{n:Nat}{VP:P->Prop}(H:CL act n VP){p:P}(a:VP p){v:Nat}(b:v<n){st:List ai×List P}(h:ve VP st.2): ve VP (ni act p v st).2:=by
 unfold ni
 split
 ·exact h
 ·rename_i w m x e
  exact M3 h (H.next p v w m x a b e)
theorem Hk {act:P->Nat->Option (Int×Int×P)}{n:Nat}{VP:P->Prop}(H:CL act n VP){p:P}(a:VP p): ∀(k v:Nat) (st:List ai×List P),v+k=n->ve VP st.2->ve VP (qp act p k v st).2
 |0,_,_,_,h=>h
 |k+1,v,st,b,h=>Hk H a k (v+1) _ (by omega) (Kq H a (by omega) h)
def xh (ps:List P)(m:List (P×Int)): Prop:=∀x,fA m x=(ps.findIdx? (λz=>decide (z=x))).map λi:Nat=>(i:Int)
theorem xh.add {ps:List P}{m:List (P×Int)}(h:xh ps m){x:P}(a:ps.findIdx? (λz=>decide (z=x))=none): xh (ps++[x]) (lY m x (ps.length:Int)):=by
 intro y
 rw[BK,List.findIdx?_append]
 by_cases e:x=y
 ·subst e
  rw[if_pos rfl,a]
  simp
 ·rw[if_neg e,h y]
  cases ps.findIdx? (λz=>decide (z=y))with
  |none=>simp[e]
  |some i=>rfl
variable {at_:P->Int->Option A}{non:A->Bool}{wr mv:A->Int}{nx:A->P}{act:P->Nat->Option (Int×Int×P)}{n:Nat}{VP:P->Prop}{fail:R0}
def IG (at_:P->Int->Option A)(non:A->Bool)(wr mv:A->Int)(nx:A->P)(act:P->Nat->Option (Int×Int×P))(n:Nat)(VP:P->Prop): Prop:=
 ∀p v,VP p->v<n->∃a,at_ p (v:Int)=some a/\act p v=if non a then none else some (wr a,mv a,nx a)
theorem NB (E:n<=100)(o:IG at_ non wr mv nx act n VP){rules:List ai}{ps:List P}{b:List (P×Int)}{k v:Nat}{p:P}(t:ps[k]?=some p)(w:VP p)(u:v<n)(m:xh ps b)(hr:rules.length<=1000000)(hl:ps.length<=1000000)(j:HC P)(hs:j.2.2.2=(k:Int)):
  ∃d,GU fail (n:Int) at_ non wr mv nx j (rules,ps,b,(v:Int))=some (.inl ((ni act p v (rules,ps)).1,(ni act p v (rules,ps)).2,d,((v+1:Nat):Int)))/\xh (ni act p v (rules,ps)).2 d:=by
 obtain⟨a,y,c⟩:=o p v w u
 have q:k<ps.length:=(List.getElem?_eq_some_iff.1 t).1
 have s:ps[k]=p:=(List.getElem?_eq_some_iff.1 t).2
 have B:∀r:ai,app rules [r]=some (rules++[r]):=λr=>de (by simp;omega)
 have C:∀x:P,app ps [x]=some (ps++[x]):=λr=>de (by simp;omega)
 have f:GU fail (n:Int) at_ non wr mv nx j (rules,ps,b,(v:Int))=Z (cond (!(non a)) (cond (!((fA b (nx a)).isSome)) (some (.bf (ps++[nx a],(lY b (nx a) (ps.length:Int)),wr a,mv a,(ps.length:Int)))) (some (.bf (ps,b,wr a,mv a,((fA b (nx a)).getD 0))))) (some (.bf (ps,b,0,0,-1))):Option (Out (List P×List (P×Int)×Int×Int×Int) R0)) (Out.elim (λ(g:List P×List (P×Int)×Int×Int×Int)=>some (.inl (rules++[⟨g.2.2.1,g.2.2.2.1,g.2.2.2.2⟩],g.1,g.2.1,((v+1:Nat):Int)))) (λ(r:R0)=>some (.inr (.ret r)))):=by
  simp only[GU,Int.ofNat_lt,u,decide_true,cond_true,hs,eh q,s,y,D,gV,B,C,dh (show v<4611686018427387904 by omega)]
 cases h:non a with
 |true=>
  rw[h,if_pos rfl]at c
  rw[f,DO c,h]
  exact⟨b,rfl,m⟩
 |false=>
  rw[h,if_neg (by decide)]at c
  rw[f,Ae c,h]
  have e:=m (nx a)
  cases l:ps.findIdx? (λz=>decide (z=nx a))with
  |none=>
   rw[l,Option.map_none]at e
   rw[FX l,e]
   exact⟨_,rfl,m.add l⟩
  |some i=>
   rw[l,Option.map_some]at e
   rw[E6 l,e]
   exact⟨b,rfl,m⟩
theorem Ll (h:n<=100)(d:IG at_ non wr mv nx act n VP)(H:CL act n VP){k:Nat}{p:P}(i:VP p)(c:HC P)(hs:c.2.2.2=(k:Int)): ∀(j v:Nat) (rules:List ai) (ps:List P) (b:List (P×Int)),v+j=n->ps[k]?=some p->xh ps b->rules.length+j<=1000000->ps.length+j<=1000000->
  ∃a,run (GU fail (n:Int) at_ non wr mv nx c) (rules,ps,b,(v:Int))=some (.bf ((qp act p j v (rules,ps)).1,(qp act p j v (rules,ps)).2,a,(n:Int)))/\xh (qp act p j v (rules,ps)).2 a
 |0,v,rules,ps,b,l,e,f,_,_=>by
  obtain rfl:v=n:=by omega
  exact⟨b,aZ (by simp[GU,qp]),f⟩
 |j+1,v,rules,ps,b,l,e,f,hr,hl=>by
  obtain⟨a,m,g⟩:=NB (fail:=fail) (rules:=rules) h d e i (by omega:v<n) f (by omega) (by omega) c hs
  have hlen:=BB act p v (rules,ps)
  rw[bZ m,qp]
  exact Ll h d H i c hs j (v+1) _ _ a (by omega) (yL act p v (rules,ps) e) g (by have:=hlen.1;simp only at this;omega) (by have:=hlen.2.2;simp only at this;omega)
theorem Ck (o:n<=100)(g:IG at_ non wr mv nx act n VP)(H:CL act n VP): ∀(f k:Nat) (rules:List ai) (ps:List P) (a:List (P×Int)),k+f=1002->k<=ps.length->ps.length<=1000->ve VP ps->xh ps a->rules.length<=k*n->
  match vp act n f k (rules,ps)with
  |none=>run (Ah fail (n:Int) at_ non wr mv nx) (rules,ps,a,(k:Int))=some (.ret fail)
  |some st=>∃b,run (Ah fail (n:Int) at_ non wr mv nx) (rules,ps,a,(k:Int))=some (.bf (st.1,st.2,b,(st.2.length:Int)))/\xh st.2 b/\ve VP st.2/\st.2.length<=1000/\st.1.length<=1000*n
 |0,k,rules,ps,a,s,t,hl,_,_,_=>by omega
 |f+1,k,rules,ps,a,s,t,hl,i,p,hr=>by
  have j:k*n<=1000*n:=Nat.mul_le_mul_right n (by omega)
  rw[vp]
  by_cases e:k<ps.length
  ·have q:ps[k]?=some ps[k]:=List.getElem?_eq_getElem e
   have r:VP ps[k]:=i _ (List.getElem_mem e)
   simp only[q]
   have hlen:=C3 act ps[k] n 0 (rules,ps)
   obtain⟨b,d,l⟩:=Ll (fail:=fail) o g H r (rules,ps,a,(k:Int)) rfl n 0 rules ps a (by omega) q p (by omega) (by omega)
   have c:Ah fail (n:Int) at_ non wr mv nx (rules,ps,a,(k:Int))=cond (decide (1000<(qp act ps[k] n 0 (rules,ps)).2.length)) (some (.inr (.ret fail))) (some (.inl ((qp act ps[k] n 0 (rules,ps)).1,(qp act ps[k] n 0 (rules,ps)).2,b,((k+1:Nat):Int)))):=by
    simp only[Ah,Int.ofNat_lt,e,decide_true,cond_true]
    rw[show((0:Nat):Int)=0 from rfl]at d
    rw[d,D]
    simp only[Out.elim]
    rw[dh (by omega),show decide ((1000:Int)<(((qp act ps[k] n 0 (rules,ps)).2.length:Nat):Int))=decide (1000<(qp act ps[k] n 0 (rules,ps)).2.length)by rw[decide_eq_decide];omega]
   by_cases h:1000<(qp act ps[k] n 0 (rules,ps)).2.length
   ·rw[if_pos h]
    exact aZ (by rw[c,decide_eq_true h];rfl)
   ·rw[if_neg h]
    have m:run (Ah fail (n:Int) at_ non wr mv nx) (rules,ps,a,(k:Int))=run (Ah fail (n:Int) at_ non wr mv nx) ((qp act ps[k] n 0 (rules,ps)).1,(qp act ps[k] n 0 (rules,ps)).2,b,((k+1:Nat):Int)):=bZ (by rw[c,decide_eq_false h];rfl)
    rw[m]
    exact Ck o g H f (k+1) _ _ b (by omega) (by have:=hlen.2.1;simp only at this;omega) (by omega) (Hk H r n 0 (rules,ps) (by omega) i) l (by rw[hlen.1,Nat.succ_mul];simp only;omega)
  ·obtain rfl:k=ps.length:=by omega
   rw[List.getElem?_eq_none (Nat.le_refl _)]
   refine⟨a,aZ (by simp[Ah]),p,i,hl,?_⟩
   exact Nat.le_trans hr j
end
theorem xX {m:O}{s q:Nat}(M:jI m s q){p a:Nat}(c:p<q)(d:a<s): idx m.aB (ah ((ah ((p:Int)*m.I))+(a:Int)))=some (m.aB.getD (p*s+a) cn)/\m.aB.getD (p*s+a) cn∈m.aB/\ah ((ah ((p:Int)*m.I))+(a:Int))=((p*s+a:Nat):Int)/\p*s+a<m.aB.length:=by
 have f:=HB c d
 have:=M.b5
 have hl:=M.hl
 have e:ah ((ah ((p:Int)*m.I))+(a:Int))=((p*s+a:Nat):Int):=by
  rw[M.hs,IZ (by omega),FP (by omega)]
 have b:p*s+a<m.aB.length:=by omega
 rw[e,eh b,List.getD_eq_getElem?_getD,List.getElem?_eq_getElem b]
 exact⟨rfl,List.getElem_mem _,rfl,b⟩
def nU (m:O)(s:Nat)(q:Nat)(half:Int)(v:Nat): Option (Int×Int×C):=
 if m.aB.getD (q*s+v) cn=cn then none
 else if (m.aB.getD (q*s+v) cn).Move=1↔half=0 then some ((m.aB.getD (q*s+v) cn).Write,1,⟨1,(m.aB.getD (q*s+v) cn).Next,half⟩)
 else if half=0 then some ((m.aB.getD (q*s+v) cn).Write,-1,⟨2,(m.aB.getD (q*s+v) cn).Next,0⟩)
 else some ((m.aB.getD (q*s+v) cn).Write,-1,⟨4,(m.aB.getD (q*s+v) cn).Next,0⟩)
def iu (m:O)(s:Nat)(p:C)(v:Nat): Option (Int×Int×C):=
 if p.kind=0 then (if v=s then none else nU m s p.q.toNat p.half v)
 else if p.kind=1 then (if v=s then none else some ((v:Int),1,⟨0,p.q,p.half⟩))
 else if p.kind=2 then (if v=s then some ((v:Int),1,⟨3,p.q,0⟩)else some ((v:Int),-1,⟨0,p.q,0⟩))
 else if p.kind=3 then (if v=s then none else some ((v:Int),1,⟨0,p.q,1⟩))
 else if p.kind=4 then (if v=s then none else some ((v:Int),-1,⟨5,p.q,0⟩))
 else (if v=s then some ((v:Int),1,⟨0,p.q,0⟩)else nU m s p.q.toNat 1 v)
def xk (Q:Nat)(p:C): Prop:=((p.kind=0\/p.kind=1)/\(p.half=0\/p.half=1)\/(p.kind=2\/p.kind=3\/p.kind=4\/p.kind=5)/\p.half=0)/\0<=p.q/\p.q<Q
theorem zm {m:O}{s q:Nat}(M:jI m s q){p v:Nat}(d:p<q)(e:v<s){half w f:Int}{x:C}(g:half=0\/half=1)(h:nU m s p half v=some (w,f,x)): xk q x:=by
 obtain⟨_,a,_,_⟩:=xX M d e
 unfold nU at h
 generalize m.aB.getD (p*s+v) cn=r at *
 by_cases b:r=cn
 ·rw[if_pos b]at h;cases h
 obtain⟨i,j,c⟩:=oW M a b
 rw[if_neg b]at h
 unfold xk
 split at h
 ·simp only[Option.some.injEq,Prod.mk.injEq]at h
  obtain⟨_,_,rfl⟩:=h
  exact⟨.inl ⟨.inr rfl,g⟩,c⟩
 ·split at h
  ·simp only[Option.some.injEq,Prod.mk.injEq]at h
   obtain⟨_,_,rfl⟩:=h
   exact⟨.inr ⟨.inl rfl,rfl⟩,c⟩
  ·simp only[Option.some.injEq,Prod.mk.injEq]at h
   obtain⟨_,_,rfl⟩:=h
   exact⟨.inr ⟨.inr (.inr (.inl rfl)),rfl⟩,c⟩
theorem zA {Q:Nat}{p:C}(h:xk Q p): ∃q:Nat,q<Q/\((∃h,(h=0\/h=1)/\p=⟨0,q,h⟩)\/(∃h,(h=0\/h=1)/\p=⟨1,q,h⟩)\/p=⟨2,q,0⟩\/p=⟨3,q,0⟩\/p=⟨4,q,0⟩\/p=⟨5,q,0⟩):=by
 obtain⟨k,q,d⟩:=p
 obtain⟨a,b,c⟩:=h
 simp only at a b c
 refine⟨q.toNat,by omega,?_⟩
 rw[show((q.toNat:Nat):Int)=q by omega]
 rcases a with⟨rfl|rfl,a⟩|⟨rfl|rfl|rfl|rfl,rfl⟩
 ·exact .inl ⟨_,a,rfl⟩
 ·exact .inr (.inl ⟨_,a,rfl⟩)
 ·exact .inr (.inr (.inl rfl))
 ·exact .inr (.inr (.inr (.inl rfl)))
 ·exact .inr (.inr (.inr (.inr (.inl rfl))))
 ·exact .inr (.inr (.inr (.inr (.inr rfl))))
theorem G5 {m:O}{s q:Nat}(M:jI m s q): CL (iu m s) (s+1) (xk q):=by
 refine⟨λp v w g x d i h=>?_⟩
 obtain⟨a,c,e⟩:=zA d
 have hq:(0:Int)<=(a:Int)/\(a:Int)<(q:Int):=⟨by omega,by omega⟩
 rcases e with⟨f,b,rfl⟩|⟨f,b,rfl⟩|rfl|rfl|rfl|rfl
 ·simp only[iu,if_true,Int.toNat_natCast]at h
  split at h
  ·cases h
  ·exact zm M c (by omega) b h
 ·simp only[iu,if_neg (show ¬(1:Int)=0 by decide),if_true]at h
  split at h
  ·cases h
  ·simp only[Option.some.injEq,Prod.mk.injEq]at h
   obtain⟨_,_,rfl⟩:=h
   exact⟨.inl ⟨.inl rfl,b⟩,hq⟩
 ·simp only[iu,if_neg (show ¬(2:Int)=0 by decide),if_neg (show ¬(2:Int)=1 by decide),if_true]at h
  split at h
  ·simp only[Option.some.injEq,Prod.mk.injEq]at h
   obtain⟨_,_,rfl⟩:=h
   exact⟨.inr ⟨.inr (.inl rfl),rfl⟩,hq⟩
  ·simp only[Option.some.injEq,Prod.mk.injEq]at h
   obtain⟨_,_,rfl⟩:=h
   exact⟨.inl ⟨.inl rfl,.inl rfl⟩,hq⟩
 ·simp only[iu,if_neg (show ¬(3:Int)=0 by decide),if_neg (show ¬(3:Int)=1 by decide),if_neg (show ¬(3:Int)=2 by decide),if_true]at h
  split at h
  ·cases h
  ·simp only[Option.some.injEq,Prod.mk.injEq]at h
   obtain⟨_,_,rfl⟩:=h
   exact⟨.inl ⟨.inl rfl,.inr rfl⟩,hq⟩
 ·simp only[iu,if_neg (show ¬(4:Int)=0 by decide),if_neg (show ¬(4:Int)=1 by decide),if_neg (show ¬(4:Int)=2 by decide),if_neg (show ¬(4:Int)=3 by decide),if_true]at h
  split at h
  ·cases h
  ·simp only[Option.some.injEq,Prod.mk.injEq]at h
   obtain⟨_,_,rfl⟩:=h
   exact⟨.inr ⟨.inr (.inr (.inr rfl)),rfl⟩,hq⟩
 ·simp only[iu,if_neg (show ¬(5:Int)=0 by decide),if_neg (show ¬(5:Int)=1 by decide),if_neg (show ¬(5:Int)=2 by decide),if_neg (show ¬(5:Int)=3 by decide),if_neg (show ¬(5:Int)=4 by decide),Int.toNat_natCast]at h
  split at h
  ·simp only[Option.some.injEq,Prod.mk.injEq]at h
   obtain⟨_,_,rfl⟩:=h
   exact⟨.inl ⟨.inl rfl,.inl rfl⟩,hq⟩
  ·exact zm M c (by omega) (.inr rfl) h
theorem zp {m:O}{s q:Nat}(M:jI m s q){p v:Nat}(f:p<q)(g:v<s){half:Int}(h:half=0\/half=1): ∃a:bK,kP m (p:Int) half (v:Int)=some a/\nU m s p half v=if a.none then none else some (a.write,a.move,⟨a.bS,a.iJ,a.ef⟩):=by
 obtain⟨b,c,_,_⟩:=xX M f g
 unfold kP nU
 rw[b,D,yo,D]
 generalize m.aB.getD (p*s+v) cn=r at *
 by_cases d:r=cn
 ·rw[if_pos d,decide_eq_true d]
  exact⟨_,rfl,rfl⟩
 ·obtain⟨j,i,k⟩:=oW M c d
  rw[if_neg d,decide_eq_false d]
  rcases i with e|e<;>rcases h with rfl|rfl<;>rw[e]<;>exact⟨_,rfl,rfl⟩
theorem IU {m:O}{s q:Nat}(M:jI m s q): IG (λp v=>jZ p v m) (λa=>a.none) (λa=>a.write) (λa=>a.move) (λa=>(⟨a.bS,a.iJ,a.ef⟩:C)) (iu m s) (s+1) (xk q):=by
 intro p v j l
 obtain⟨a,h,i⟩:=zA j
 have em:decide ((v:Int)=m.I)=decide (v=s):=by rw[M.hs,decide_eq_decide];omega
 have wrap:∀o:Option bK,(Z o λr=>some r)=o:=λo=>by cases o<;>rfl
 have k:jZ p (v:Int) m=oN m p (v:Int):=by
  unfold jZ
  exact wrap _
 simp only[k]
 unfold oN iu
 rw[em]
 by_cases hs:v=s
 ·rw[decide_eq_true hs]
  rcases i with⟨e,f,rfl⟩|⟨e,f,rfl⟩|rfl|rfl|rfl|rfl<;>simp only[hs,if_true]<;>exact⟨_,rfl,rfl⟩
 ·rw[decide_eq_false hs]
  simp only[if_neg hs]
  rcases i with⟨e,f,rfl⟩|⟨e,f,rfl⟩|rfl|rfl|rfl|rfl
  ·obtain⟨b,c,d⟩:=zp M h (by omega:v<s) f
   refine⟨b,?_,d⟩
   show(Z (kP m (a:Int) e (v:Int)) λg=>some g)=some b
   rw[c]
   rfl
  ·exact⟨_,rfl,rfl⟩
  ·exact⟨_,rfl,rfl⟩
  ·exact⟨_,rfl,rfl⟩
  ·exact⟨_,rfl,rfl⟩
  ·obtain⟨b,c,d⟩:=zp M h (by omega:v<s) (.inr rfl:(1:Int)=0\/(1:Int)=1)
   refine⟨b,?_,d⟩
   show(Z (kP m (a:Int) 1 (v:Int)) λg=>some g)=some b
   rw[c]
   rfl
theorem CA {P:Type}[DecidableEq P](p:P): xh [p] (lY ([]:List (P×Int)) p 0):=by
 intro x
 rw[BK]
 by_cases e:p=x
 ·subst e
  simp
 ·simp[e]
theorem EC {P:Type}{a:P->Prop}{p:P}(h:a p): ve a [p]:=λq hq=>by
 rw[List.mem_singleton.1 hq]
 exact h
theorem D6 {m:O}{s q:Nat}(M:jI m s q): xk q ⟨0,0,0⟩:=⟨.inl ⟨.inl rfl,.inl rfl⟩,by have:=M.b3;simp only;omega⟩
def qb (c:U): List Int:=(List.range (max c.Left.length c.ak.length)).flatMap λi=>[c.ak.getD i 0,c.Left.getD i 0]
theorem FT (c:U): (qb c).length=2*max c.Left.length c.ak.length:=by
 unfold qb
 rw[wJ _ 2 (λ_=>rfl)]
 omega
theorem I9 (c:U)(d:c.Left.length<=200)(e:c.ak.length<=200): run (jw c) (([]:List Int),0)=some (.bf (qb c,((max c.Left.length c.ak.length:Nat):Int))):=by
 have em:(if (c.ak.length:Int)>(c.Left.length:Int)then (c.ak.length:Int)else (c.Left.length:Int))=((max c.Left.length c.ak.length:Nat):Int):=by split<;>omega
 rw[uP (body:=jw c) (max c.Left.length c.ak.length) (by omega) (λa i=>(a,i)) (λi=>[c.ak.getD i 0,c.Left.getD i 0]) 2 (λ_ _=>by simp) [] 0 (by simp) (λi a hi f=>by
  have b:decide ((i:Int)<(if (c.ak.length:Int)>(c.Left.length:Int)then (c.ak.length:Int)else (c.Left.length:Int)))=true:=by rw[em];exact decide_eq_true (by omega)
  simp only[jw,b,cond_true,yw,D]
  rw[de (by simp;omega),D])]
 refine aZ ?_
 simp only[jw,em]
 rw[decide_eq_false (by omega)]
 rfl
theorem Kg {x:Int}(h:x≠0): bR [x]=[x]:=by
 have:=jr [] x
 rw[if_neg h]at this
 exact this
def rQ (s:Nat): Nat:=if s=2 then 1 else if s<=4 then 2 else 3
theorem GJ {s:Nat}: 1<=rQ s/\rQ s<=3:=by
 unfold rQ
 split
 ·omega
 ·split<;>omega
theorem JG {b:Int}(h:0<=b): uB b=some ():=by
 unfold uB
 rw[if_pos h]
theorem Md {body:Int->Option (Int ⊕ Out Int Int)}{S:Int}{s:Nat}(hs:S=s)(b1:2<=s)(b2:s<=6)(b:∀z:Int,body z=Z (uB z) λ_=>(cond (decide ((ah (1*2^min (z:Int).toNat 64))<S)) (some (.inl (ah (z+1)))) (some (.inr (.bf z))))): run body 1=some (.bf ((rQ s:Nat):Int)):=by
 have a:∀z:Nat,z<=3->body (z:Int)=cond (decide (ah (1*2^z)<S)) (some (.inl ((z+1:Nat):Int))) (some (.inr (.bf (z:Int)))):=by
  intro z d
  rw[b,JG (by omega),D,dh (by omega),Int.toNat_natCast,show min z 64=z by omega]
 have p1:ah (1*2^1)=2:=by decide
 have p2:ah (1*2^2)=4:=by decide
 have c:ah (1*2^3)=8:=by decide
 have g1:=a 1 (by omega)
 have g2:=a 2 (by omega)
 have g3:=a 3 (by omega)
 rw[p1]at g1
 rw[p2]at g2
 rw[c]at g3
 rw[show(1:Int)=((1:Nat):Int)from rfl]
 unfold rQ
 by_cases c1:s=2
 ·rw[if_pos c1,aZ (by rw[g1,decide_eq_false (by omega)];rfl)]
 ·rw[if_neg c1,bZ (by rw[g1,decide_eq_true (by omega)];rfl)]
  by_cases c2:s<=4
  ·rw[if_pos c2,aZ (by rw[g2,decide_eq_false (by omega)];rfl)]
  ·rw[if_neg c2,bZ (by rw[g2,decide_eq_true (by omega)];rfl),aZ (by rw[g3,decide_eq_false (by omega)];rfl)]
theorem EN {m:O}{s q:Nat}(M:jI m s q): j9 m=some ((rQ s:Nat):Int):=by
 unfold j9
 rw[Md (body:=sW m) M.hs M.b1 M.b2 (λz=>rfl)]
 rfl
def xm (w:Int)(B j:Nat): Int:=LN (Int.fdiv w (2^min (B-1-j) 64)) 1
theorem CN (w:Int){B j:Nat}(h:j<B)(a:B<=3): pj w (B:Int) (j:Int)=some (xm w B j):=by
 unfold pj xm
 have e:ah ((ah ((B:Int)-1))-(j:Int))=((B-1-j:Nat):Int):=by
  rw[bC (n:=(B:Int)-1) (by omega) (by omega),bC (by omega) (by omega)]
  omega
 rw[e,JG (by omega),D,Int.toNat_natCast]
def wg (m:O)(s B:Nat)(p:L)(v:Nat): Option (Int×Int×L):=
 if p.kind=0 then
  (if p.b.toNat+1<B then some ((v:Int),1,⟨0,p.a,p.b+1,2*p.c+v⟩)
  else if s<=2*p.c.toNat+v then none
  else if m.aB.getD (p.a.toNat*s+(2*p.c.toNat+v)) cn=cn then none
  else if B=1 then some ((m.aB.getD (p.a.toNat*s+(2*p.c.toNat+v)) cn).Write,(m.aB.getD (p.a.toNat*s+(2*p.c.toNat+v)) cn).Move,⟨0,(m.aB.getD (p.a.toNat*s+(2*p.c.toNat+v)) cn).Next,0,0⟩)
  else some (xm (m.aB.getD (p.a.toNat*s+(2*p.c.toNat+v)) cn).Write B (B-1),-1,⟨1,((p.a.toNat*s+(2*p.c.toNat+v):Nat):Int),((B-2:Nat):Int),0⟩))
 else if p.kind=1 then
  (if 0<p.b then some (xm (m.aB.getD p.a.toNat cn).Write B p.b.toNat,-1,⟨1,p.a,p.b-1,0⟩)
  else some (xm (m.aB.getD p.a.toNat cn).Write B p.b.toNat,(m.aB.getD p.a.toNat cn).Move,⟨2,p.a,((B-1:Nat):Int),0⟩))
 else
  (if p.b=1 then some ((v:Int),(m.aB.getD p.a.toNat cn).Move,⟨0,(m.aB.getD p.a.toNat cn).Next,0,0⟩)
  else some ((v:Int),(m.aB.getD p.a.toNat cn).Move,⟨2,p.a,p.b-1,0⟩))
def CC (m:O)(Q B:Nat)(p:L): Prop:=
 (∃a b c:Nat,p=⟨0,a,b,c⟩/\a<Q/\b<B/\c<=3/\(b=0->c=0)/\(b=1->c<=1))\/
 (∃a b:Nat,p=⟨1,a,b,0⟩/\a<m.aB.length/\m.aB.getD a cn≠cn/\b+1<B)\/
 (∃a b:Nat,p=⟨2,a,b,0⟩/\a<m.aB.length/\m.aB.getD a cn≠cn/\1<=b/\b<B)
theorem Hx {m:O}{a:Nat}(h:a<m.aB.length): m.aB.getD a cn∈m.aB:=by
 rw[List.getD_eq_getElem?_getD,List.getElem?_eq_getElem h]
 exact List.getElem_mem _
theorem Cx {m:O}{a:Nat}(h:a<m.aB.length): idx m.aB (a:Int)=some (m.aB.getD a cn):=by
 rw[eh h,List.getD_eq_getElem?_getD,List.getElem?_eq_getElem h]
 rfl
theorem Aa {m:O}{Q B:Nat}(a:1<=B){x:Int}(h:0<=x/\x<Q): CC m Q B ⟨0,x,0,0⟩:=.inl ⟨x.toNat,0,0,by rw[show((x.toNat:Nat):Int)=x by omega];rfl,by omega,by omega,by omega,λ_=>rfl,λ_=>by omega⟩
theorem IP {m:O}{s q:Nat}(M:jI m s q): CL (wg m s (rQ s)) 2 (CC m q (rQ s)):=by
 refine⟨λp v w D x r E h=>?_⟩
 obtain⟨g,t⟩:=@GJ s
 rcases r with⟨a,b,c,rfl,d,u,F,i,k⟩|⟨a,b,rfl,d,f,u⟩|⟨a,b,rfl,d,f,y,z⟩
 ·simp only[wg,if_true,Int.toNat_natCast]at h
  split at h
  ·simp only[Option.some.injEq,Prod.mk.injEq]at h
   obtain⟨_,_,rfl⟩:=h
   refine .inl ⟨a,b+1,2*c+v,by congr 1,d,by omega,?_,by omega,?_⟩
   ·by_cases l:b=0
    ·have:=i l;omega
    ·have:=k (by omega);omega
   ·intro e
    have:=i (by omega)
    omega
  ·split at h
   ·cases h
   ·rename_i hs
    obtain⟨_,j,_,n⟩:=xX M d (show 2*c+v<s by omega)
    split at h
    ·cases h
    ·rename_i f
     obtain⟨A,B,o⟩:=oW M j f
     split at h
     ·simp only[Option.some.injEq,Prod.mk.injEq]at h
      obtain⟨_,_,rfl⟩:=h
      exact Aa g o
     ·simp only[Option.some.injEq,Prod.mk.injEq]at h
      obtain⟨_,_,rfl⟩:=h
      exact .inr (.inl ⟨_,_,rfl,n,f,by omega⟩)
 ·simp only[wg,if_neg (show ¬(1:Int)=0 by decide),if_true]at h
  split at h
  ·simp only[Option.some.injEq,Prod.mk.injEq]at h
   obtain⟨_,_,rfl⟩:=h
   exact .inr (.inl ⟨a,b-1,by congr 1;omega,d,f,by omega⟩)
  ·simp only[Option.some.injEq,Prod.mk.injEq]at h
   obtain⟨_,_,rfl⟩:=h
   exact .inr (.inr ⟨a,rQ s-1,rfl,d,f,by omega,by omega⟩)
 ·simp only[wg,if_neg (show ¬(2:Int)=0 by decide),if_neg (show ¬(2:Int)=1 by decide),Int.toNat_natCast]at h
  obtain⟨A,B,o⟩:=oW M (Hx d) f
  split at h
  ·simp only[Option.some.injEq,Prod.mk.injEq]at h
   obtain⟨_,_,rfl⟩:=h
   exact Aa g o
  ·rename_i C
   simp only[Option.some.injEq,Prod.mk.injEq]at h
   obtain⟨_,_,rfl⟩:=h
   exact .inr (.inr ⟨a,b-1,by congr 1;omega,d,f,by omega,by omega⟩)
theorem Lu {m:O}{s q:Nat}(M:jI m s q): IG (λp v=>jb p v m ((rQ s:Nat):Int)) (λa=>a.none) (λa=>a.write) (λa=>a.move) (λa=>(⟨a.bS,a.jH,a.jL,a.jM⟩:L)) (wg m s (rQ s)) 2 (CC m q (rQ s)):=by
 intro p v u G
 obtain⟨w,e⟩:=@GJ s
 have b2:=M.b2
 generalize H:rQ s=B at *
 have f:ah ((B:Int)-1)=((B-1:Nat):Int):=by rw[bC (by omega) (by omega)];omega
 rcases u with⟨a,b,c,rfl,g,x,I,y,z⟩|⟨a,b,rfl,g,A,x⟩|⟨a,b,rfl,g,A,C,E⟩
 ·have F:ah ((ah (2*(c:Int)))+(v:Int))=((2*c+v:Nat):Int):=by
   rw[bC (n:=2*(c:Int)) (by omega) (by omega),bC (by omega) (by omega)]
   omega
  have h:decide ((0:Int)=0)=true:=rfl
  simp only[jb,uW,wg,if_true,Int.toNat_natCast,h,decide_true,cond_true,f,F]
  by_cases d:b+1<B
  ·rw[if_pos d,decide_eq_true (by omega:(b:Int)<((B-1:Nat):Int)),dh (by omega)]
   refine⟨_,rfl,?_⟩
   simp only[Bool.false_eq_true,if_false]
   congr 1
  ·rw[if_neg d,decide_eq_false (by omega:¬(b:Int)<((B-1:Nat):Int)),M.hs]
   simp only[cond_false]
   by_cases o:s<=2*c+v
   ·rw[if_pos o,decide_eq_true (by omega:(s:Int)<=((2*c+v:Nat):Int))]
    exact⟨_,rfl,rfl⟩
   ·rw[if_neg o,decide_eq_false (by omega:¬(s:Int)<=((2*c+v:Nat):Int))]
    obtain⟨i,r,j,k⟩:=xX M g (show 2*c+v<s by omega)
    rw[M.hs]at i j
    simp only[cond_false,D,yo,j,Cx k]
    by_cases l:m.aB.getD (a*s+(2*c+v)) cn=cn
    ·rw[if_pos l,decide_eq_true l]
     exact⟨_,rfl,rfl⟩
    ·rw[if_neg l,decide_eq_false l]
     simp only[Bool.not_false,Bool.not_true,cond_false,D,Out.elim,Cx k]
     by_cases t:B=1
     ·rw[if_pos t,decide_eq_true (by omega:(B:Int)=1)]
      exact⟨_,rfl,rfl⟩
     ·rw[if_neg t,decide_eq_false (by omega:¬(B:Int)=1),CN _ (by omega:B-1<B) e,show ah ((B:Int)-2)=((B-2:Nat):Int)by rw[bC (by omega) (by omega)];omega]
      exact⟨_,rfl,rfl⟩
 ·have h:decide ((1:Int)=0)=false:=rfl
  have k1:decide ((1:Int)=1)=true:=rfl
  simp only[jb,wg,if_neg (show ¬(1:Int)=0 by decide),if_true,Int.toNat_natCast,h,k1,decide_true,cond_true,cond_false,f,Cx g,D,CN _ (by omega:b<B) e]
  by_cases d:0<(b:Int)
  ·rw[if_pos d,decide_eq_true d,bC (by omega) (by omega)]
   exact⟨_,rfl,rfl⟩
  ·rw[if_neg d,decide_eq_false d]
   exact⟨_,rfl,rfl⟩
 ·have h:decide ((2:Int)=0)=false:=rfl
  have k1:decide ((2:Int)=1)=false:=rfl
  simp only[jb,wg,if_neg (show ¬(2:Int)=0 by decide),if_neg (show ¬(2:Int)=1 by decide),Int.toNat_natCast,h,k1,cond_false,Cx g,D,hD]
  by_cases d:(b:Int)=1
  ·rw[if_pos d,decide_eq_true d]
   exact⟨_,rfl,rfl⟩
  ·rw[if_neg d,decide_eq_false d,bC (by omega) (by omega)]
   exact⟨_,rfl,rfl⟩
def Cc (xs:List Int)(B:Nat): List Int:=xs.flatMap λx=>(List.range B).map λj=>xm x B j
theorem Cl (xs:List Int){B:Nat}(c:B<=3)(h:xs.length<=1000): rq xs (B:Int)=some (Cc xs B):=by
 unfold rq
 have inner:∀(x:Int) (a:List Int),a.length<=10000->run (mq (B:Int) x) (a,0)=some (.bf (a++(List.range B).map (λj=>xm x B j),(B:Int))):=by
  intro x a d
  rw[uP (body:=mq (B:Int) x) B (by omega) (λa i=>(a,i)) (λj=>[xm x B j]) 1 (λ_ _=>by simp) a 10000 d (λi b hi e=>by
   simp only[mq,Int.ofNat_lt,hi,decide_true,cond_true,CN _ hi c,D]
   rw[de (by simp;omega),D])]
  rw[aZ (x:=.bf (a++(List.range B).flatMap λj=>[xm x B j],(B:Int))) (by simp[mq]),List.map_eq_flatMap]
 have:=(tJ (body:=og xs (B:Int)) xs (by omega) (λ(a:List Int) i=>(a,i)) (λa x=>a++(List.range B).map (λj=>xm x B j)) (λi a=>a.length<=3*i) (by
  intro i hi a k
  refine⟨?_,by rw[List.length_append,List.length_map,List.length_range];omega⟩
  simp only[og,Int.ofNat_lt,hi,decide_true,cond_true,eh hi,D]
  rw[inner _ _ (by omega),D]
  rfl) [] (by simp)).1
 rw[wD,List.nil_append]at this
 rw[this,aZ (x:=.bf (Cc xs B,(xs.length:Int))) (by simp[og,Cc])]
 rfl
def Bytes (xs:List (Ik .u8)): Prop:=xs.length<=1048576/\∀x∈xs,0<=x.val/\x.val<=255
theorem Mw {xs:List (Ik .u8)}(h:Wf.wf xs)(hl:xs.length<=1048576): Bytes xs:=by
 refine⟨hl,λx a=>?_⟩
 have:=h.2 x a
 simpa[Wf.wf,IntKind.min,IntKind.max,IntKind.signed,IntKind.bits]using this
theorem OR (x:Int): 0<=wx .u64 x 255/\wx .u64 x 255<=255:=by
 have h:(BitVec.ofInt 64 x &&& BitVec.ofInt 64 255).toNat<=255:=by
  rw[BitVec.toNat_and]
  exact Nat.and_le_right
 have e:wx .u64 x 255=(((BitVec.ofInt 64 x &&& BitVec.ofInt 64 255).toNat:Nat):Int):=by
  unfold wx
  show IntKind.wrap .u64 (((BitVec.ofInt 64 x &&& BitVec.ofInt 64 255).toNat:Nat):Int)=_
  generalize (BitVec.ofInt 64 x &&& BitVec.ofInt 64 255).toNat=n at h
  simp[IntKind.wrap,IntKind.bits,IntKind.signed]
  omega
 rw[e]
 omega
structure qV (s:dI)(n:Int): Prop where
 bytes:Bytes s.code
 lo:0<=s.at_
 hi:s.at_<=n
theorem Mi {s:dI}{n:Int}(h:qV s n)(j:n<=1099511627776): ∃v a d,kB s=some (v,(a,d))/\0<=v/\v<=255/\qV ⟨s.code,a,d⟩ (n+1):=by
 obtain⟨c,k,l⟩:=h
 have e:s.at_=((s.at_.toNat:Nat):Int):=by omega
 have i:ah (s.at_+1)=s.at_+1:=bC (by omega) (by omega)
 unfold kB
 rw[i]
 by_cases b:s.at_.toNat<s.code.length
 ·have f:=c.2 _ (List.getElem_mem b)
  rw[decide_eq_true (by omega:s.at_<(s.code.length:Int)),cond_true,e,eh b,D,D]
  simp only[Out.elim]
  rw[decide_eq_true (by omega),cond_true]
  refine⟨_,_,_,rfl,?_,?_,c,by simp only;omega,by simp only;omega⟩
  ·rw[bC (by omega) (by omega)];exact f.1
  ·rw[bC (by omega) (by omega)];exact f.2
 ·rw[decide_eq_false (by omega:¬s.at_<(s.code.length:Int)),cond_false,D]
  simp only[Out.elim]
  rw[decide_eq_false (by omega),cond_false]
  have g:=OR (Int.fdiv (wk .u64 ((wk .u64 ((wk .u64 (s.ra.val*6364136223846793005))+(wk .u64 0)))+1442695040888963407)) (2^min (40:Int).toNat (IntKind.bits .u64)))
  refine⟨_,_,_,rfl,?_,?_,c,by simp only;omega,by simp only;omega⟩
  ·rw[bC (by omega) (by omega)];exact g.1
  ·rw[bC (by omega) (by omega)];exact g.2
theorem Pu {b:Int}(h:b≠0): nz b=some ():=by unfold nz;rw[if_neg h]
theorem qJ {s:dI}{n:Int}(k:Int)(h:qV s n)(f:n<=1099511627776)(i:k<=200): ∃v a b,dK s k=some (v,(a,b))/\0<=v/\(v<k\/v=0)/\qV ⟨s.code,a,b⟩ (n+1):=by
 unfold dK
 by_cases c:k<=1
 ·rw[decide_eq_true c,cond_true]
  exact⟨_,_,_,rfl,by omega,.inr rfl,h.bytes,h.lo,by have:=h.hi;simp only;omega⟩
 ·obtain⟨v,a,b,e,d,j,g⟩:=Mi h f
  rw[decide_eq_false c,cond_false,e,D,decide_eq_false (by omega:¬200<k),cond_false,Pu (by omega),D]
  refine⟨_,_,_,rfl,?_,?_,g⟩
  ·simp only
   rw[Int.tmod_eq_emod_of_nonneg d]
   exact Int.emod_nonneg _ (by omega)
  ·left
   simp only
   rw[Int.tmod_eq_emod_of_nonneg d]
   exact Int.emod_lt_of_pos _ (by omega)
theorem NJ {s:dI}{n:Int}(k:Int)(h:qV s n)(d:n<=1099511627776)(f:k<=200): ∃b a c,mD s k=some (b,(a,c))/\qV ⟨s.code,a,c⟩ (n+1):=by
 obtain⟨v,a,c,e,_,_,g⟩:=qJ k h d f
 unfold mD
 rw[e,D]
 exact⟨_,_,_,rfl,g⟩
def Let (k:Int)(w:List Int): Prop:=∀x∈w,0<=x/\x<k
theorem qV.mono {s:dI}{n a:Int}(h:qV s n)(b:n<=a): qV s a:=⟨h.bytes,h.lo,by have:=h.hi;omega⟩
theorem J6 (s q:Int): jF s q cn=true:=by
 unfold jF
 rw[decide_eq_true rfl,Bool.true_or]
theorem GA {c:List (Ik .u8)}{J:dI}(k:J.code=c){p1 p2:Int}(C:2<=p1/\p1<=6)(E:1<=p2/\p2<=100): ∀(m:Nat) (a:Int) (e:Ik .u64) (out:List ai) (n:Int),qV ⟨c,a,e⟩ n->n+4*m<=1099511627776->m<=1000->out.length+m<=1000->(∀r∈out,jF p1 p2 r=true)->
  ∃rs f d,run (fj J p1 p2) (a,e,out,(m:Int))=some (.bf (f,d,out++rs,0))/\rs.length=m/\(∀r∈out++rs,jF p1 p2 r=true)/\qV ⟨c,f,d⟩ (n+4*m):=by
 intro m
 induction m with
 |zero=>
  intro a e out n h _ _ _ hl
  refine⟨[],a,e,aZ ?_,rfl,by rwa[List.append_nil],by simpa using h⟩
  simp only[fj]
  rw[decide_eq_false (by omega),cond_false,List.append_nil]
  rfl
 |succ m l=>
  intro a e out n h F hm G hl
  obtain⟨v,H,o,e1,v0,v1,k1⟩:=qJ p1 h (by omega) (by omega)
  obtain⟨u,a2,p,e2,I,K,q⟩:=qJ 2 k1 (by omega) (by omega)
  obtain⟨t,a3,s,e3,t0,t1,k3⟩:=qJ p2 q (by omega) (by omega)
  obtain⟨b,a4,g,j,k4⟩:=NJ 7 k3 (by omega) (by omega)
  simp only at e2 e3 j k4
  have step:∀r:ai,jF p1 p2 r=true->fj J p1 p2 (a,e,out,((m+1:Nat):Int))=some (.inl (a4,g,out++[r],(m:Int)))->∃rs f d,run (fj J p1 p2) (a,e,out,((m+1:Nat):Int))=some (.bf (f,d,out++rs,0))/\rs.length=m+1/\(∀r∈out++rs,jF p1 p2 r=true)/\qV ⟨c,f,d⟩ (n+4*((m+1:Nat):Int)):=by
   intro r hr w
   obtain⟨rs,f,d,y,z,A,B⟩:=l a4 g (out++[r]) (n+1+1+1+1) k4 (by omega) (by omega) (by simp;omega) (by
    intro x i
    rcases List.mem_append.1 i with i|i
    ·exact hl x i
    ·rw[List.mem_singleton.1 i];exact hr)
   refine⟨r::rs,f,d,?_,by simp[z],by simpa using A,B.mono (by omega)⟩
   rw[bZ w,y]
   simp
  have hd:((m+1:Nat):Int)-1=(m:Int):=by omega
  cases b with
  |true=>
   refine step cn (J6 _ _) ?_
   simp only[fj]
   rw[decide_eq_true (by omega),cond_true,k,e1,D,e2,D,e3,D,j,D,cond_true,show uV=some cn from rfl,D,de (by simp;omega),D,bC (by omega) (by omega),hd]
  |false=>
   refine step ⟨v,2*u-1,t⟩ ?_ ?_
   ·unfold jF
    have g1:mJ v 0 (p1-1)=true:=ei.2 (by omega)
    have g2:mJ t 0 (p2-1)=true:=ei.2 (by omega)
    simp only
    rw[g1,g2,Bool.true_and,Bool.and_true]
    rcases(show u=0\/u=1 by omega)with rfl|rfl
    ·rw[show decide ((2*0-1:Int)=-1)=true from rfl,Bool.or_true,Bool.or_true]
    ·rw[show decide ((2*1-1:Int)=1)=true from rfl,Bool.true_or,Bool.or_true]
   ·simp only[fj]
    rw[decide_eq_true (by omega),cond_true,k,e1,D,e2,D,e3,D,j,D,cond_false]
    simp only
    rw[bC (n:=2*u) (by omega) (by omega),bC (n:=2*u-1) (by omega) (by omega),de (by simp;omega),D,bC (by omega) (by omega),hd]
theorem Eb {s:Int}: ∀(n:Nat) (xs:List Int),xs.length=n->n<=200->Let s xs->rH s (bR xs)=true:=by
 intro n
 induction n with
 |zero=>
  intro xs a _ _
  obtain rfl:=List.eq_nil_of_length_eq_zero a
  rfl
 |succ n c=>
  intro xs a d hl
  rcases gp xs with rfl|⟨ys,y,rfl⟩
  ·simp at a
  ·rw[jr]
   by_cases h:y=0
   ·rw[if_pos h]
    exact c ys (by simpa using a) (by omega) (λx b=>hl x (List.mem_append_left _ b))
   ·rw[if_neg h]
    unfold rH
    rw[decide_eq_true (by omega),Bool.true_and,Bool.and_eq_true]
    refine⟨List.all_eq_true.2 λx b=>ei.2 ?_,?_⟩
    ·have:=hl x b
     omega
    ·rw[decide_eq_true (show(ys++[y]).getLastD 0≠0 by simpa using h),Bool.or_true]
def tg (m:O)(c:U): aQ:=⟨m.I,m.N,m.aB,c.State,c.Left.reverse,c.ak.reverse⟩
def Tm (xs:List Int): Prop:=bR xs=xs
theorem Iw:∀(n:Nat) (xs:List Int),xs.length=n->bR (bR xs)=bR xs:=by
 intro n
 induction n with
 |zero=>
  intro xs a
  obtain rfl:=List.eq_nil_of_length_eq_zero a
  rfl
 |succ n b=>
  intro xs a
  rcases gp xs with rfl|⟨ys,y,rfl⟩
  ·simp at a
  ·rw[jr]
   by_cases h:y=0
   ·rw[if_pos h]
    exact b ys (by simpa using a)
   ·rw[if_neg h,jr,if_neg h]
theorem Tm.trim (xs:List Int): Tm (bR xs):=Iw _ xs rfl
theorem Tm.nil:Tm []:=rfl
theorem Tm.BY {s:Int}{xs:List Int}(h:rH s xs=true): Tm xs:=by
 rcases gp xs with rfl|⟨ys,y,rfl⟩
 ·rfl
 ·unfold rH at h
  simp only[Bool.and_eq_true,Bool.or_eq_true,decide_eq_true_eq]at h
  have a:y≠0:=by
   have:=h.2
   simpa using this
  unfold Tm
  rw[jr,if_neg a]
theorem Tm.last {xs:List Int}(h:Tm xs): (decide (xs.length=0) || decide (xs.getLastD 0≠0))=true:=by
 rcases gp xs with rfl|⟨ys,y,rfl⟩
 ·rfl
 ·unfold Tm at h
  rw[jr]at h
  by_cases a:y=0
  ·rw[if_pos a]at h
   have:=jm ys
   rw[h]at this
   simp at this
   omega
  ·simp[a]
theorem Tm.cons {xs:List Int}(h:Tm xs)(x:Int): bR (x::xs)=if x=0/\xs=[]then []else x::xs:=by
 rcases gp xs with rfl|⟨ys,y,rfl⟩
 ·have:=jr [] x
  rw[List.nil_append]at this
  rw[this]
  by_cases a:x=0
  ·rw[if_pos a,if_pos ⟨a,rfl⟩];rfl
  ·rw[if_neg a,if_neg (λe=>a e.1)]
 ·have b:=h.last
  have a:y≠0:=by simpa using b
  rw[<- List.cons_append,jr,if_neg a,if_neg (λe=>by simp at e)]
theorem Tm.tail {xs:List Int}(h:Tm xs): Tm xs.tail:=by
 cases xs with
 |nil=>rfl
 |cons x l=>
  rcases gp l with rfl|⟨ys,y,rfl⟩
  ·rfl
  ·unfold Tm at h
   rw[<- List.cons_append,jr]at h
   have a:y≠0:=by
    intro e
    rw[if_pos e]at h
    have:=jm (x::ys)
    rw[h]at this
    simp at this
    omega
   show bR (ys++[y])=ys++[y]
   rw[jr,if_neg a]
theorem Be (xs:List Int)(h:xs.length<=1048576): lQ xs.reverse=some (xs.getD 0 0):=by
 unfold lQ
 cases xs with
 |nil=>rfl
 |cons x l=>
  rw[List.reverse_cons,C6 _ _ (by simp at h ⊢;omega),decide_eq_false (by simp;omega),cond_false]
  rfl
theorem E7 (xs:List Int)(h:xs.length<=1048576): jV xs.reverse 0 (if (ah ((xs.reverse.length:Int)-1))>0 then (ah ((xs.reverse.length:Int)-1))else 0)=some xs.tail.reverse:=by
 cases xs with
 |nil=>rfl
 |cons x l=>
  have hl:l.length<1048576:=by simp at h;omega
  have e:ah (((x::l).reverse.length:Int)-1)=(l.length:Int):=by
   rw[List.length_reverse,List.length_cons,bC (by omega) (by omega)]
   omega
  rw[e]
  have e2:(if (l.length:Int)>0 then (l.length:Int)else 0)=((l.length:Nat):Int):=by
   split<;>omega
  rw[e2,Ht (by simp),List.reverse_cons]
  congr 1
  rw[List.take_left' (by simp)]
  rfl
def F9 (xs:List Int)(x:Int): List Int:=if x=0/\xs=[]then []else x::xs
theorem zS {m:O}{s q N:Nat}(M:jI m s q){c:U}(h:A1 s q N c)(a:N<=1000): ji (tg m c)=some (ax m c):=by
 have hr:=h.rl
 unfold ji sK pA tg
 simp only
 rw[Be _ (by omega)]
 simp only[D]
 rw[(sg M h).1,D]
theorem mc {m:O}{s q N:Nat}(M:jI m s q){c:U}(h:A1 s q N c)(a:N<=1000): bU (tg m c)=some (decide (ax m c=cn)):=by
 unfold bU
 rw[zS M h a,D,yo,D,Bool.not_not]
theorem qY (m:O)(c:U)(a:c.Left.length<=1048576)(b:c.ak.length<=1048576): cZ (tg m c)=some c:=by
 unfold cZ tg
 simp only
 rw[fB _ (by simpa using a),fB _ (by simpa using b)]
 simp only[D,List.reverse_reverse]
def small (c:U): Bool:=decide (c.Left.length<=200)&&decide (c.ak.length<=200)
theorem wN {m:O}{s q N:Nat}(M:jI m s q){c:U}(h:A1 s q N c)(F:N<=1000)(G:Tm c.Left)(H:Tm c.ak):
  dk (tg m c)=some (small (bI (ax m c) c),((bI (ax m c) c).State,(bI (ax m c) c).Left.reverse,(bI (ax m c) c).ak.reverse)):=by
 have hl:=h.ll
 have hr:=h.rl
 have K:c.ak.tail.length<=c.ak.length:=by simp
 have a:∀(xs:List Int) (x:Int),xs.length<=2000->(cond (decide (x=0)) (cond (decide ((xs.reverse.length:Int)=0)) (some xs.reverse) (app xs.reverse [x])) (app xs.reverse [x]))=some (F9 xs x).reverse:=by
  intro xs x L
  unfold F9
  rw[de (by simp;omega)]
  by_cases k:x=0
  ·rw[decide_eq_true k,cond_true]
   cases xs with
   |nil=>rw[if_pos ⟨k,rfl⟩];rfl
   |cons y l=>
    rw[decide_eq_false (by simp;omega),cond_false,if_neg (λe=>by simp at e),List.reverse_cons]
    simp
  ·rw[decide_eq_false k,cond_false,if_neg (λe=>k e.1),List.reverse_cons]
 unfold dk
 rw[zS M h F,D]
 generalize ax m c=r
 show Z (jV c.ak.reverse 0 (if (ah ((c.ak.reverse.length:Int)-1))>0 then (ah ((c.ak.reverse.length:Int)-1))else 0)) _=_
 rw[E7 _ (by omega),D]
 unfold tg bI
 simp only
 by_cases hm:0<r.Move
 ·rw[decide_eq_true hm,cond_true,if_pos hm,G.cons]
  have n:=a c.Left r.Write (by omega)
  unfold F9 at n
  generalize (if r.Write=0/\c.Left=[]then ([]:List Int)else r.Write::c.Left)=B at n
  have e:(cond (decide (r.Write=0)) (cond (decide ((c.Left.reverse.length:Int)=0)) (some (.bf (c.Left.reverse,c.ak.tail.reverse))) (Z (app c.Left.reverse ([r.Write]:List Int)) λp=>some (.bf (p,c.ak.tail.reverse)))) (Z (app c.Left.reverse ([r.Write]:List Int)) λt=>some (.bf (t,c.ak.tail.reverse))):Option (Out ((List Int)×(List Int)) ((Bool)×(Int×(List Int)×(List Int)))))=some (.bf (B.reverse,c.ak.tail.reverse)):=by
   have d:=congrArg (λo=>Z o λz=>(some (Out.bf (z,c.ak.tail.reverse)):Option (Out ((List Int)×(List Int)) ((Bool)×(Int×(List Int)×(List Int)))))) n
   rw[D]at d
   rw[<- d]
   cases decide (r.Write=0)
   ·rfl
   ·cases decide ((c.Left.reverse.length:Int)=0)<;>rfl
  rw[e,D]
  simp only[Out.elim,List.length_reverse,small]
  by_cases g1:B.length<=200
  ·rw[decide_eq_true (by omega),cond_true,decide_eq_true g1,Bool.true_and]
   congr 2
   rw[decide_eq_decide]
   omega
  ·rw[decide_eq_false (by omega),cond_false,decide_eq_false g1,Bool.false_and]
 ·rw[decide_eq_false hm,cond_false,if_neg hm]
  have b:=a c.ak.tail r.Write (by omega)
  have k1:=H.tail.cons r.Write
  have t1:Tm (bR (r.Write::c.ak.tail)):=Tm.trim _
  have I:=t1.cons (c.Left.getD 0 0)
  have P:(bR (r.Write::c.ak.tail)).length<=c.ak.tail.length+1:=jm _
  unfold F9 at b
  rw[<- k1]at b
  have j:=a (bR (r.Write::c.ak.tail)) (c.Left.getD 0 0) (by omega)
  unfold F9 at j
  rw[<- I]at j
  generalize bR (c.Left.getD 0 0::bR (r.Write::c.ak.tail))=C at j
  generalize bR (r.Write::c.ak.tail)=E at b j
  rw[Be _ (by omega)]
  generalize c.Left.getD 0 0=y at j
  simp only[D]
  have e:(cond (decide (r.Write=0)) (cond (decide ((c.ak.tail.reverse.length:Int)=0)) (cond (decide (y=0)) (some (.bf c.ak.tail.reverse)) (Z (app c.ak.tail.reverse ([y]:List Int)) λu=>some (.bf u))) (Z (app c.ak.tail.reverse ([r.Write]:List Int)) λf=>(cond (decide (y=0)) (cond (decide ((f.length:Int)=0)) (some (.bf f)) (Z (app f ([y]:List Int)) λi=>some (.bf i))) (Z (app f ([y]:List Int)) λz59=>some (.bf z59))))) (Z (app c.ak.tail.reverse ([r.Write]:List Int)) λg=>(cond (decide (y=0)) (cond (decide ((g.length:Int)=0)) (some (.bf g)) (Z (app g ([y]:List Int)) λv=>some (.bf v))) (Z (app g ([y]:List Int)) λw=>some (.bf w)))):Option (Out ((List Int)) ((Bool)×(Int×(List Int)×(List Int)))))=some (.bf C.reverse):=by
   have two:∀z:List Int,z=E.reverse->(cond (decide (y=0)) (cond (decide ((z.length:Int)=0)) (some (.bf z)) (Z (app z ([y]:List Int)) λi=>some (.bf i))) (Z (app z ([y]:List Int)) λz59=>some (.bf z59)):Option (Out ((List Int)) ((Bool)×(Int×(List Int)×(List Int)))))=some (.bf C.reverse):=by
    intro z J
    subst J
    have d:=congrArg (λo=>Z o λz=>(some (Out.bf z):Option (Out (List Int) ((Bool)×(Int×(List Int)×(List Int)))))) j
    rw[D]at d
    rw[<- d]
    cases decide (y=0)
    ·rfl
    ·cases decide ((E.reverse.length:Int)=0)<;>rfl
   by_cases w0:r.Write=0
   ·rw[decide_eq_true w0]at b ⊢
    simp only[cond_true]at b ⊢
    by_cases A:(c.ak.tail.reverse.length:Int)=0
    ·rw[decide_eq_true A]at b ⊢
     simp only[cond_true]at b ⊢
     have:=two c.ak.tail.reverse (Option.some.inj b)
     rw[decide_eq_true A]at this
     exact this
    ·rw[decide_eq_false A]at b ⊢
     simp only[cond_false]at b ⊢
     rw[b,D]
     exact two _ rfl
   ·rw[decide_eq_false w0]at b ⊢
    simp only[cond_false]at b ⊢
    rw[b,D]
    exact two _ rfl
  rw[e,D]
  simp only[Out.elim]
  rw[E7 _ (by omega),D,D]
  simp only[Out.elim,List.length_reverse,small]
  by_cases g1:c.Left.tail.length<=200
  ·rw[decide_eq_true (by omega),cond_true,decide_eq_true g1,Bool.true_and]
   congr 2
   rw[decide_eq_decide]
   omega
  ·rw[decide_eq_false (by omega),cond_false,decide_eq_false g1,Bool.false_and]
structure ln (s q:Nat)(c:U): Prop where
 cf:A1 s q 200 c
 lt:Tm c.Left
 rt:Tm c.ak
theorem ln.of {m:O}{s q:Nat}(M:jI m s q){c:U}(h:iM m c=true): ln s q c:=by
 have a:=h
 unfold iM at a
 simp only[Bool.and_eq_true]at a
 exact⟨Lb M h,Tm.BY a.2.1,Tm.BY a.2.2⟩
theorem Tm.step (r:ai){c:U}(a:Tm c.Left)(b:Tm c.ak): Tm (bI r c).Left/\Tm (bI r c).ak:=by
 unfold bI
 split
 ·exact⟨Tm.trim _,b.tail⟩
 ·exact⟨a.tail,Tm.trim _⟩
theorem ln.step {m:O}{s q:Nat}(M:jI m s q){c:U}(h:ln s q c)(d:ax m c≠cn)(hs:small (bI (ax m c) c)=true): ln s q (bI (ax m c) c):=by
 obtain⟨e,_,f⟩:=oW M (sg M h.cf).2 d
 have a:=h.cf.step e f
 have b:=Tm.step (ax m c) h.lt h.rt
 unfold small at hs
 simp only[Bool.and_eq_true,decide_eq_true_eq]at hs
 exact⟨⟨a.st,a.lf,a.rt,hs.1,hs.2⟩,b.1,b.2⟩
theorem ln.IX {m:O}{s q:Nat}(M:jI m s q){c:U}(h:ln s q c): iM m c=true:=by
 obtain⟨p,i,hq⟩:=h.cf.st
 have hs:=M.hs
 have a:=M.hq
 have side:∀xs:List Int,(∀j,0<=xs.getD j 0/\xs.getD j 0<s)->xs.length<=200->Tm xs->rH m.I xs=true:=by
  intro xs b d e
  unfold rH
  rw[decide_eq_true d,Bool.true_and,e.last,Bool.and_true]
  refine List.all_eq_true.2 λx f=>ei.2 ?_
  obtain⟨j,g,rfl⟩:=List.mem_iff_getElem.1 f
  have:=b j
  rw[List.getD_eq_getElem?_getD,List.getElem?_eq_getElem g,Option.getD_some]at this
  omega
 unfold iM
 rw[side _ h.cf.lf h.cf.ll h.lt,side _ h.cf.rt h.cf.rl h.rt,Bool.and_true,Bool.and_true]
 exact ei.2 (by omega)
def mg (m:O): Nat->U->Option (Nat×U)
 |0,c=>some (0,c)
 |n+1,c=>if ax m c=cn then some (0,c)else if small (bI (ax m c) c)=true then (mg m n (bI (ax m c) c)).map λr=>(r.1+1,r.2)else none
def traceM (m:O): Nat->U->Option (List U)
 |0,c=>some [c]
 |n+1,c=>if ax m c=cn then some [c]else if small (bI (ax m c) c)=true then (traceM m n (bI (ax m c) c)).map λr=>c::r else none
theorem vL (m:O)(n:Nat)(c:U): mg m (n+1) c=if ax m c=cn then some (0,c)else if small (bI (ax m c) c)=true then (mg m n (bI (ax m c) c)).map λr=>(r.1+1,r.2)else none:=rfl
theorem Da {m:O}{s q:Nat}(M:jI m s q): ∀(n:Nat) (c:U),ln s q c->∀r,mg m n c=some r->ln s q r.2/\r.1<=n
 |0,c,h,r,e=>by
  obtain rfl:=Option.some.inj e
  exact⟨h,Nat.le_refl _⟩
 |n+1,c,h,r,e=>by
  unfold mg at e
  split at e
  ·obtain rfl:=Option.some.inj e
   exact⟨h,Nat.zero_le _⟩
  ·rename_i a
   split at e
   ·rename_i hs
    obtain⟨b,d,rfl⟩:=Option.map_eq_some_iff.1 e
    have:=Da M n _ (h.step M a hs) b d
    exact⟨this.1,by simp only;omega⟩
   ·cases e
theorem uc {m:O}{c:U}(h:ax m c=cn): ∀n,mg m n c=some (0,c)
 |0=>rfl
 |n+1=>by unfold mg;rw[if_pos h]
theorem I8 (m:O): ∀(a b:Nat) (c:U),mg m (a+b) c=(mg m a c).bind λr=>(mg m b r.2).map λt=>(r.1+t.1,t.2)
 |0,b,c=>by
  rw[Nat.zero_add]
  show mg m b c=(mg m b c).map λt=>(0+t.1,t.2)
  cases mg m b c with
  |none=>rfl
  |some t=>simp
 |a+1,b,c=>by
  rw[show a+1+b=(a+b)+1 by omega]
  by_cases h:ax m c=cn
  ·rw[uc h,uc h]
   show _=(mg m b c).map _
   rw[uc h]
   rfl
  ·rw[vL,vL,if_neg h,if_neg h]
   by_cases hs:small (bI (ax m c) c)=true
   ·rw[if_pos hs,if_pos hs,I8 m a b]
    cases mg m a (bI (ax m c) c)with
    |none=>rfl
    |some r=>
     show((mg m b r.2).map _).map _=(mg m b r.2).map _
     cases mg m b r.2 with
     |none=>rfl
     |some t=>
      show some _=some _
      congr 1
      simp only[Prod.mk.injEq,and_true]
      omega
   ·rw[if_neg hs,if_neg hs]
    rfl
theorem FA (m:O): ∀(n:Nat) (c:U),match mg m n c with
  |none=>traceM m n c=none
  |some r=>∃l,traceM m n c=some l/\l.length=r.1+1/\l.head?=some c/\l[r.1]?=some r.2
 |0,c=>⟨[c],rfl,rfl,rfl,rfl⟩
 |n+1,c=>by
  unfold mg traceM
  by_cases h:ax m c=cn
  ·rw[if_pos h,if_pos h]
   exact⟨[c],rfl,rfl,rfl,rfl⟩
  ·rw[if_neg h,if_neg h]
   by_cases hs:small (bI (ax m c) c)=true
   ·rw[if_pos hs,if_pos hs]
    have:=FA m n (bI (ax m c) c)
    cases a:mg m n (bI (ax m c) c)with
    |none=>
     rw[a]at this
     simp only at this
     rw[this]
     exact rfl
    |some r=>
     rw[a]at this
     obtain⟨l,b,d,f,e⟩:=this
     rw[b]
     exact⟨c::l,rfl,by simp[d],rfl,by simpa using e⟩
   ·rw[if_neg hs,if_neg hs]
theorem Oh {m:O}{s q:Nat}(M:jI m s q)(c0:U): ∀(n j:Nat) (c:U) (d:Int),ln s q c->n+j<=1000000->
  ∃x,run (eU (tg m c0) ((n+j:Nat):Int)) (c.State,c.Left.reverse,c.ak.reverse,(j:Int),d)=some x/\
   match mg m n c with
   |none=>∃t,x=.ret (some ((0,false,5),t))
   |some r=>x=.bf (r.2.State,r.2.Left.reverse,r.2.ak.reverse,((j+r.1:Nat):Int),((j+r.1:Nat):Int)):=by
 intro n
 induction n with
 |zero=>
  intro j c d _ i
  refine⟨_,aZ ?_,rfl⟩
  simp only[eU]
  rw[decide_eq_false (by omega),cond_false]
  rfl
 |succ n k=>
  intro j c d h i
  have e:bU ⟨(tg m c0).cp,(tg m c0).cL,(tg m c0).gY,c.State,c.Left.reverse,c.ak.reverse⟩=some (decide (ax m c=cn)):=mc M h.cf (by omega)
  have hs:dk ⟨(tg m c0).cp,(tg m c0).cL,(tg m c0).gY,c.State,c.Left.reverse,c.ak.reverse⟩=_:=wN M h.cf (by omega) h.lt h.rt
  unfold mg
  by_cases a:ax m c=cn
  ·rw[if_pos a]
   refine⟨_,aZ ?_,rfl⟩
   simp only[eU]
   rw[decide_eq_true (by omega),cond_true,e,D,decide_eq_true a]
   rfl
  ·rw[if_neg a]
   by_cases b:small (bI (ax m c) c)=true
   ·rw[if_pos b]
    have l:eU (tg m c0) ((n+1+j:Nat):Int) (c.State,c.Left.reverse,c.ak.reverse,(j:Int),d)=some (.inl ((bI (ax m c) c).State,(bI (ax m c) c).Left.reverse,(bI (ax m c) c).ak.reverse,((j+1:Nat):Int),(j:Int))):=by
     simp only[eU]
     rw[decide_eq_true (by omega),cond_true,e,D,decide_eq_false a,Bool.not_false,cond_true,hs,D,b,dh (by omega)]
     rfl
    rw[bZ l]
    have:=k (j+1) (bI (ax m c) c) (j:Int) (h.step M a b) (by omega)
    rw[show n+(j+1)=n+1+j by omega]at this
    obtain⟨x,o,hm⟩:=this
    refine⟨x,o,?_⟩
    cases g:mg m n (bI (ax m c) c)with
    |none=>rw[g]at hm;exact hm
    |some r=>
     rw[g]at hm
     simp only[Option.map_some]at hm ⊢
     rw[hm,show j+1+r.1=j+(r.1+1)by omega]
   ·rw[if_neg b]
    have f:small (bI (ax m c) c)=false:=by simpa using b
    refine⟨.ret (some ((0,false,5),((bI (ax m c) c).State,(bI (ax m c) c).Left.reverse,(bI (ax m c) c).ak.reverse))),aZ ?_,_,rfl⟩
    simp only[eU]
    rw[decide_eq_true (by omega),cond_true,e,D,decide_eq_false a,Bool.not_false,cond_true,hs,D,f]
    rfl
theorem kT {m:O}(h:kG m=true): Mu m:=by
 obtain⟨s,q,M⟩:=tI h
 have a:=M.hl
 have b:=M.b5
 exact⟨by omega,λ_ _=>trivial⟩
theorem lO {m:O}{c:U}(h:iM m c=true): Mu c:=by
 have:=pX h
 exact⟨⟨by omega,λ_ _=>trivial⟩,⟨by omega,λ_ _=>trivial⟩⟩
theorem n9 {m:O}{c:U}(h:iM m c=true): iW m c=some (m.I,m.N,m.aB,c.State,c.Left.reverse,c.ak.reverse):=by
 have:=pX h
 unfold iW
 rw[fB _ (by omega),fB _ (by omega)]
 rfl
theorem Hi {m:O}(hm:kG m=true){c:U}(d:iM m c=true){n:Nat}(j:1<=n)(k:n<=20000):
  mB m c (n:Int)=some (match mg m n c with
   |none=>(⟨0,[],[]⟩,0,false,5)
   |some r=>(r.2,(r.1:Int),decide (ax m r.2=cn),0)):=by
 obtain⟨s,q,M⟩:=tI hm
 have f:=ln.of M d
 have h:ie (n:Int)=some true:=by
  unfold ie
  rw[rh,D]
  congr 1
  exact ei.2 (by omega)
 unfold mB
 rw[kE m c (kT hm) (lO d),D,hm,d,h,n9 d]
 simp only[D,Bool.and_self,Bool.not_true,cond_false]
 obtain⟨x,g,b⟩:=Oh M c n 0 c 0 f (by omega)
 rw[Nat.add_zero,show((0:Nat):Int)=0 from rfl]at g
 unfold oJ
 show Z (Z (run (eU (tg m c) (n:Int)) (c.State,c.Left.reverse,c.ak.reverse,0,0)) _) _=_
 rw[g,D]
 cases a:mg m n c with
 |none=>
  rw[a]at b
  obtain⟨t,rfl⟩:=b
  rfl
 |some r=>
  rw[a]at b
  simp only at b
  subst b
  have hr:=(Da M n c f r a).1
  have i:bU ⟨m.I,m.N,m.aB,r.2.State,r.2.Left.reverse,r.2.ak.reverse⟩=some (decide (ax m r.2=cn)):=mc M hr.cf (by omega)
  have e:cZ ⟨m.I,m.N,m.aB,r.2.State,r.2.Left.reverse,r.2.ak.reverse⟩=some r.2:=qY m r.2 (by have:=hr.cf.ll;omega) (by have:=hr.cf.rl;omega)
  simp only[Out.elim]
  rw[i,D,D]
  simp only
  rw[decide_eq_false (by decide),cond_false,e,D,Nat.zero_add]
def Ds (u:Nat): List (Ik .u8):=if h:u=0 then []else ⟨((48+u%10:Nat):Int)⟩::Ds (u / 10)
termination_by u
decreasing_by omega
theorem By:Ds 0=[]:=by rw[Ds,dif_pos rfl]
theorem GV {u:Nat}(h:u≠0): Ds u=⟨((48+u%10:Nat):Int)⟩::Ds (u / 10):=by rw[Ds,dif_neg h]
theorem GX:∀(k u:Nat),u<10^k->(Ds u).length<=k
 |0,u,h=>by
  have:u=0:=by simpa using h
  rw[this,By]
  exact Nat.zero_le _
 |k+1,u,h=>by
  by_cases a:u=0
  ·rw[a,By]
   exact Nat.zero_le _
  ·rw[GV a,List.length_cons]
   have:=GX k (u / 10) (by rw[Nat.pow_succ]at h;omega)
   omega
theorem GY:∀(k u:Nat),u<=k->u≠0->((Ds u).reverse.map λx:Ik .u8=>UInt8.ofNat x.val.toNat)=Lib.decDigits u
 |0,u,h,a=>absurd (by omega) a
 |k+1,u,h,a=>by
  rw[GV a,List.reverse_cons,List.map_append,Lib.decDigits]
  by_cases b:u<10
  ·rw[dif_pos b,show u / 10=0 by omega,By]
   simp only[List.reverse_nil,List.map_nil,List.nil_append,List.map_cons,Int.toNat_natCast]
   rw[Nat.mod_eq_of_lt b]
  ·rw[dif_neg b,GY k (u / 10) (by omega) (by omega)]
   simp only[List.map_cons,List.map_nil,Int.toNat_natCast]
theorem MF {u:Nat}(h:u<=9999): iP (u:Int)=some ⟨(Lib.decDigits u).toArray⟩:=by
 unfold iP fmtG
 rw[if_pos ⟨rfl,by omega,by omega⟩,D,Lib.itoa_nonneg]
def ON (x:Int): ByteArray:=⟨(Lib.decDigits x.toNat).toArray⟩
theorem Mg {x:Int}(h:0<=x/\x<=9999): iP x=some (ON x):=by
 have:=MF (u:=x.toNat) (by omega)
 rwa[show((x.toNat:Nat):Int)=x by omega]at this
theorem Na {x:Int}(h:0<=x/\x<=9999): (ON x).size<=4:=by
 have hs:(ON x).size=(Lib.decDigits x.toNat).length:=by
  unfold ON
  simp[ByteArray.size]
 rw[hs]
 by_cases a:x.toNat=0
 ·rw[a,Lib.decDigits_one (by omega)]
  exact Nat.le_of_ble_eq_true rfl
 ·rw[<- GY _ _ (Nat.le_refl _) a,List.length_map,List.length_reverse]
  exact GX 4 _ (by omega)
theorem Qo {x:Int}(a:0<=x)(b:x<=100): wk .u8 x=x:=by
 have h:x%(2^IntKind.bits .u8:Int)=x:=Int.emod_eq_of_lt a (by show x<256;omega)
 have hs:IntKind.signed .u8=false:=rfl
 unfold wk IntKind.wrap
 simp only[h,hs,Bool.false_and]
 rfl
theorem PW {x:Int}(a:0<=x)(b:x<=100): wk .u32 x=x:=by
 have h:x%(2^IntKind.bits .u32:Int)=x:=Int.emod_eq_of_lt a (by show x<4294967296;omega)
 have hs:IntKind.signed .u32=false:=rfl
 unfold wk IntKind.wrap
 simp only[h,hs,Bool.false_and]
 rfl
theorem Lt {x:Int}(a:0<=x)(c:x<=100): wk .i32 x=x:=by
 have h:x%(2^IntKind.bits .i32:Int)=x:=Int.emod_eq_of_lt a (by show x<4294967296;omega)
 have hs:IntKind.signed .i32=true:=rfl
 have b:decide (x>=(2^(IntKind.bits .i32-1):Int))=false:=decide_eq_false (by show ¬(2147483648:Int)<=x;omega)
 unfold wk IntKind.wrap
 simp only[h,hs,Bool.true_and,b]
 rfl
def DM (w:List Int): List (Ik .u8):=w.map λx=>⟨48+x⟩
theorem M5 (w:List Int): (DM w).length=w.length:=List.length_map ..
theorem Jd (xs:List (Ik .u8)): (strOf xs).size=xs.length:=by
 unfold strOf
 simp[ByteArray.size]
theorem Ez {a b:ByteArray}(h:a.size+b.size<=1099511627776): cat a b=some (a++b):=by unfold cat;rw[if_pos h]
theorem FI {w:List Int}(hl:w.length<=400)(h:∀x∈w,0<=x/\x<=9): mR w=some (strOf (DM w)):=by
 unfold mR
 have:=(tJ (body:=kK w) w (by omega) (λ(a:Bool×List (Ik .u8)) i=>(a.1,a.2,i)) (λs x=>(false,s.2++[(⟨48+x⟩:Ik .u8)])) (λi a=>a.2.length=i) (λi hi a d=>by
  refine⟨?_,by rw[List.length_append,List.length_singleton,d]⟩
  have j:=h w[i] (List.getElem_mem hi)
  simp only[kK,Int.ofNat_lt,hi,decide_true,cond_true,eh hi,D]
  have e1:wk .i32 w[i]=w[i]:=Lt (by omega) (by omega)
  have e2:wk .i32 (48+w[i])=48+w[i]:=Lt (by omega) (by omega)
  have e3:wk .u8 (48+w[i])=48+w[i]:=Qo (by omega) (by omega)
  have e:wk .u32 (48+w[i])=48+w[i]:=PW (by omega) (by omega)
  rw[e1,e2,e3,e,decide_eq_true (by omega:48+w[i]<=127),de (by simp;omega),dh (by omega)]
  cases a.1<;>rfl) (true,[]) rfl).1
 have f:∀(l:List Int) (b:Bool) (a:List (Ik .u8)),(l.foldl (λ(s:Bool×List (Ik .u8)) x=>(false,s.2++[(⟨48+x⟩:Ik .u8)])) (b,a)).2=a++DM l:=by
  intro l
  induction l with
  |nil=>intro b a;simp[DM]
  |cons x l g=>intro b a;rw[List.foldl_cons,g];simp[DM]
 have c:=f w true []
 rw[List.nil_append]at c
 rw[this,aZ (x:=.bf ((w.foldl (λ(s:Bool×List (Ik .u8)) x=>(false,s.2++[(⟨48+x⟩:Ik .u8)])) (true,[])).1,(w.foldl (λ(s:Bool×List (Ik .u8)) x=>(false,s.2++[(⟨48+x⟩:Ik .u8)])) (true,[])).2,(w.length:Int))) (by simp[kK]),c]
 rfl
noncomputable def H0 (h:U->Option ByteArray)(p2:Int)(b:(Int×Int×(List ai)×Int×(List Int)×(List Int)))(a:Int×(List Int)×(List Int)×Int×(List ByteArray)): Option ((Int×(List Int)×(List Int)×Int×(List ByteArray)) ⊕ Out (Int×(List Int)×(List Int)×Int×(List ByteArray)) (Option ((List ByteArray)×Int))):=
 Z (cZ (⟨b.1,b.2.1,b.2.2.1,a.1,a.2.1,a.2.2.1⟩:aQ)) λe=>Z (h e) λf=>Z (app a.2.2.2.2 ([f]:List ByteArray)) λd=>(cond (decide (a.2.2.2.1<p2)) (Z (bU (⟨b.1,b.2.1,b.2.2.1,a.1,a.2.1,a.2.2.1⟩:aQ)) λg=>(cond (!g) (Z (dk (⟨b.1,b.2.1,b.2.2.1,a.1,a.2.1,a.2.2.1⟩:aQ)) λc=>(cond (!c.1) (some (.inr (.ret (some (([]:(List ByteArray)),5))))) (some (.inl (c.2.1,c.2.2.1,c.2.2.2,(ah (a.2.2.2.1+1)),d))))) (some (.inr (.bf (a.1,a.2.1,a.2.2.1,a.2.2.2.1,d)))))) (some (.inr (.bf (a.1,a.2.1,a.2.2.1,a.2.2.2.1,d)))))
theorem Ii {m:O}{s q:Nat}(M:jI m s q)(i:U->Option ByteArray)(t:U->ByteArray)(J:U->Prop)(b:∀d,ln s q d->J d->i d=some (t d))(r:∀d,ln s q d->J d->ax m d≠cn->small (bI (ax m d) d)=true->J (bI (ax m d) d))(x:Int×List Int×List Int):
  ∀(n j:Nat) (c:U) (out:List ByteArray),ln s q c->J c->n+j<=1000000->out.length+n<=1000000->
  ∃y,run (H0 i ((n+j:Nat):Int) (m.I,m.N,m.aB,x)) (c.State,c.Left.reverse,c.ak.reverse,(j:Int),out)=some y/\
   match traceM m n c with
   |none=>y=.ret (some ([],5))
   |some l=>∃u,y=.bf u/\u.2.2.2.2=out++l.map t:=by
 intro n
 induction n with
 |zero=>
  intro j c out h f v w
  have a:cZ ⟨m.I,m.N,m.aB,c.State,c.Left.reverse,c.ak.reverse⟩=some c:=qY m c (by have:=h.cf.ll;omega) (by have:=h.cf.rl;omega)
  refine⟨.bf (c.State,c.Left.reverse,c.ak.reverse,(j:Int),out++[t c]),aZ ?_,_,rfl,rfl⟩
  simp only[H0]
  rw[a,D,b c h f,D,de (by simp;omega),D,decide_eq_false (by omega),cond_false]
 |succ n z=>
  intro j c out h f v w
  have a:cZ ⟨m.I,m.N,m.aB,c.State,c.Left.reverse,c.ak.reverse⟩=some c:=qY m c (by have:=h.cf.ll;omega) (by have:=h.cf.rl;omega)
  have k:bU ⟨m.I,m.N,m.aB,c.State,c.Left.reverse,c.ak.reverse⟩=some (decide (ax m c=cn)):=mc M h.cf (by omega)
  have hs:dk ⟨m.I,m.N,m.aB,c.State,c.Left.reverse,c.ak.reverse⟩=_:=wN M h.cf (by omega) h.lt h.rt
  unfold traceM
  by_cases e:ax m c=cn
  ·rw[if_pos e]
   refine⟨.bf (c.State,c.Left.reverse,c.ak.reverse,(j:Int),out++[t c]),aZ ?_,_,rfl,rfl⟩
   simp only[H0]
   rw[a,D,b c h f,D,de (by simp;omega),D,decide_eq_true (by omega),cond_true,k,D,decide_eq_true e,Bool.not_true,cond_false]
  ·rw[if_neg e]
   by_cases g:small (bI (ax m c) c)=true
   ·rw[if_pos g]
    have A:H0 i ((n+1+j:Nat):Int) (m.I,m.N,m.aB,x) (c.State,c.Left.reverse,c.ak.reverse,(j:Int),out)=some (.inl ((bI (ax m c) c).State,(bI (ax m c) c).Left.reverse,(bI (ax m c) c).ak.reverse,((j+1:Nat):Int),out++[t c])):=by
     simp only[H0]
     rw[a,D,b c h f,D,de (by simp;omega),D,decide_eq_true (by omega),cond_true,k,D,decide_eq_false e,Bool.not_false,cond_true,hs,D,g,dh (by omega)]
     rfl
    rw[bZ A]
    have:=z (j+1) (bI (ax m c) c) (out++[t c]) (h.step M e g) (r c h f e g) (by omega) (by simp;omega)
    rw[show n+(j+1)=n+1+j by omega]at this
    obtain⟨y,B,hm⟩:=this
    refine⟨y,B,?_⟩
    cases p:traceM m n (bI (ax m c) c)with
    |none=>rw[p]at hm;exact hm
    |some l=>
     rw[p]at hm
     obtain⟨u,C,E⟩:=hm
     exact⟨u,C,by rw[E];simp⟩
   ·rw[if_neg g]
    have o:small (bI (ax m c) c)=false:=by simpa using g
    refine⟨_,aZ ?_,rfl⟩
    simp only[H0]
    rw[a,D,b c h f,D,de (by simp;omega),D,decide_eq_true (by omega),cond_true,k,D,decide_eq_false e,Bool.not_false,cond_true,hs,D,o]
    rfl
def ctx (c:U): ByteArray:=(((strOf (DM c.Left.reverse)++⟨#[40]⟩)++ON c.State)++⟨#[41]⟩)++strOf (DM c.ak)
theorem MY (c:U): (ctx c).size≠0:=by
 unfold ctx
 simp only[ByteArray.size_append]
 have:(⟨#[40]⟩:ByteArray).size=1:=rfl
 omega
theorem Al {s q:Nat}(hs:s<=9)(hq:q<=1000){c:U}(h:ln s q c): jR c 0=some (ctx c):=by
 have hl:=h.cf.ll;have hr:=h.cf.rl
 obtain⟨p,f,b⟩:=h.cf.st
 have QC:∀xs:List Int,(∀j,0<=xs.getD j 0/\xs.getD j 0<s)->∀x∈xs,0<=x/\x<=9:=λxs a x hm=>by
  obtain⟨i,hi⟩:=List.mem_iff_getElem?.1 hm
  have:=a i
  rw[List.getD_eq_getElem?_getD,hi]at this
  simp only[Option.getD_some]at this
  omega
 have sz:∀xs:List Int,xs.length<=200->(strOf (DM xs)).size<=200:=λxs a=>by
  rw[Jd,M5]
  exact a
 have s1:=sz c.Left.reverse (by simpa using hl)
 have s2:=sz c.ak hr
 have g:=Na (x:=c.State) (by omega)
 have d:(⟨#[40]⟩:ByteArray).size=1:=rfl
 have e:(⟨#[41]⟩:ByteArray).size=1:=rfl
 unfold jR ctx
 rw[decide_eq_false (λh=>h rfl:¬((0:Int)≠0)),cond_false,fB _ (by omega),D,FI (by simp;omega) (λx a=>QC c.Left h.cf.lf x (List.mem_reverse.1 a)),D,Ez (by omega),D,Mg (by omega),D,
  Ez (by rw[ByteArray.size_append];omega),D,Ez (by rw[ByteArray.size_append,ByteArray.size_append];omega),D,FI (by omega) (QC c.ak h.cf.rt),D,Ez (by rw[ByteArray.size_append,ByteArray.size_append,ByteArray.size_append];omega),D]
theorem zJ {b:Bool}{n:Nat}(h:n<=599)(a:b=true): lI b (n:Int)=some 0:=by
 unfold lI dM
 rw[a,Bool.not_true,cond_false,decide_eq_true (by omega),cond_true,D,decide_eq_true (by omega)]
 rfl
theorem JK {m:O}(hm:kG m=true){c:U}(b:iM m c=true){n:Nat}(j:n<=500):
  ly m c (n:Int)=some (match traceM m n c with
   |none=>([],5)
   |some l=>(l.map ctx,0)):=by
 obtain⟨s,q,M⟩:=tI hm
 have g:=ln.of M b
 have b2:=M.b2;have b4:=M.b4
 obtain⟨y,e,a⟩:=Ii M kg ctx (λ_=>True) (λd hd _=>by
  unfold kg
  rw[Al (by omega) b4 hd]
  rfl) (λ_ _ _ _ _=>trivial) (c.State,c.Left.reverse,c.ak.reverse) n 0 c [] g trivial (by omega) (by simp;omega)
 rw[Nat.add_zero,show((0:Nat):Int)=0 from rfl]at e
 unfold ly
 rw[kE m c (kT hm) (lO b),D,hm,b,Bool.and_self,zJ (by omega) rfl,D,decide_eq_false (λh=>h rfl:¬((0:Int)≠0)),cond_false,n9 b,D]
 show Z (run (H0 kg (n:Int) (m.I,m.N,m.aB,c.State,c.Left.reverse,c.ak.reverse)) (c.State,c.Left.reverse,c.ak.reverse,0,[])) _=_
 rw[e,D]
 cases f:traceM m n c with
 |none=>
  rw[f]at a
  subst a
  rfl
 |some l=>
  rw[f]at a
  obtain⟨u,rfl,i⟩:=a
  show some (u.2.2.2.2,(0:Int))=_
  rw[i,List.nil_append]
theorem NV {P:Type}[DecidableEq P](ps:List P)(x:P): (sH ps x).1[(sH ps x).2]?=some x:=by
 cases h:ps.findIdx? (λz=>decide (z=x))with
 |some i=>
  rw[E6 h]
  obtain⟨hi,a,_⟩:=List.findIdx?_eq_some_iff_getElem.1 h
  rw[List.getElem?_eq_getElem hi,of_decide_eq_true a]
 |none=>
  rw[FX h,List.getElem?_append_right (Nat.le_refl _),Nat.sub_self]
  rfl
def zY {P:Type}(act:P->Nat->Option (Int×Int×P))(ps:List P)(p:P)(v:Nat)(o:Option ai): Prop:=match act p v with
 |none=>o=some cn
 |some (w,m,x)=>∃j:Nat,ps[j]?=some x/\o=some ⟨w,m,(j:Int)⟩
theorem zY.pre {P:Type}{act:P->Nat->Option (Int×Int×P)}{ps a:List P}(h:∀(k:Nat) (p:P),ps[k]?=some p->a[k]?=some p){p:P}{v:Nat}{o:Option ai}(H:zY act ps p v o): zY act a p v o:=by
 unfold zY at *
 split<;>rename_i e<;>rw[e]at H
 ·exact H
 ·obtain⟨j,b,c⟩:=H
  exact⟨j,h _ _ b,c⟩
structure AS {P:Type}(act:P->Nat->Option (Int×Int×P))(n:Nat)(st:List ai×List P)(k u:Nat): Prop where
 len:st.1.length=k*n+u
 row:∀(i:Nat) (p:P) (v:Nat),st.2[i]?=some p->v<n->(i<k\/i=k/\v<u)->zY act st.2 p v st.1[i*n+v]?
theorem Mt {P:Type}[DecidableEq P]{act:P->Nat->Option (Int×Int×P)}{n:Nat}{st:List ai×List P}{k u:Nat}(h:AS act n st k u)(hu:u<n){p:P}(o:st.2[k]?=some p): AS act n (ni act p u st) k (u+1):=by
 have a:∀(i:Nat) (q:P),st.2[i]?=some q->(ni act p u st).2[i]?=some q:=λi q hq=>yL act p u st hq
 have z:k<st.2.length:=(List.getElem?_eq_some_iff.1 o).1
 have hl:=(BB act p u st).1
 have f:∃r,(ni act p u st).1=st.1++[r]/\zY act (ni act p u st).2 p u (some r):=by
  unfold zY
  cases g:act p u with
  |none=>exact⟨cn,by rw[DO g],rfl⟩
  |some y=>
   obtain⟨w,m,x⟩:=y
   exact⟨⟨w,m,((sH st.2 x).2:Int)⟩,by rw[Ae g],(sH st.2 x).2,by rw[Ae g];exact NV _ _,rfl⟩
 obtain⟨r,hr,s⟩:=f
 refine⟨by rw[hl,h.len];omega,λi q v hi t b=>?_⟩
 by_cases he:i=k/\v=u
 ·obtain⟨rfl,rfl⟩:=he
  have hq:q=p:=by
   have:=a _ _ o
   rw[this]at hi
   exact(Option.some.inj hi).symm
  subst hq
  rw[hr,<- h.len,List.getElem?_append_right (Nat.le_refl _),Nat.sub_self]
  exact s
 ·have c:i<k\/i=k/\v<u:=by
   rcases b with b|⟨rfl,b⟩
   ·exact .inl b
   ·exact .inr ⟨rfl,by
     have:v≠u:=λe=>he ⟨rfl,e⟩
     omega⟩
  have d:i<st.2.length:=by rcases c with b|⟨rfl,_⟩<;>omega
  have j:st.2[i]?=some q:=by
   have:=a _ _ (List.getElem?_eq_getElem d)
   rw[this]at hi
   rw[List.getElem?_eq_getElem d,hi]
  have l:i*n+v<st.1.length:=by
   rw[h.len]
   rcases c with b|⟨rfl,b⟩
   ·have:=Nat.mul_le_mul_right n (show i+1<=k by omega)
    rw[Nat.succ_mul]at this
    omega
   ·omega
  rw[hr,List.getElem?_append_left l]
  exact(h.row i q v j t c).pre a
theorem II {P:Type}[DecidableEq P]{act:P->Nat->Option (Int×Int×P)}{n k:Nat}{p:P}: ∀(j u:Nat) (st:List ai×List P),u+j=n->AS act n st k u->st.2[k]?=some p->AS act n (qp act p j u st) k n/\∀(i:Nat) (q:P),st.2[i]?=some q->(qp act p j u st).2[i]?=some q
 |0,u,st,hu,h,a=>by
  obtain rfl:u=n:=by omega
  exact⟨h,λ_ _ h=>h⟩
 |j+1,u,st,hu,h,a=>by
  have b:=Mt h (by omega) a
  obtain⟨g1,g2⟩:=II j (u+1) (ni act p u st) (by omega) b (yL act p u st a)
  exact⟨g1,λi q hi=>g2 i q (yL act p u st hi)⟩
theorem AS.next {P:Type}{act:P->Nat->Option (Int×Int×P)}{n:Nat}{st:List ai×List P}{k:Nat}(h:AS act n st k n): AS act n st (k+1) 0:=by
 refine⟨by rw[h.len,Nat.succ_mul];omega,λi p v hi b a=>h.row i p v hi b ?_⟩
 rcases a with a|⟨_,a⟩<;>omega
theorem CY {P:Type}[DecidableEq P]{act:P->Nat->Option (Int×Int×P)}{n:Nat}: ∀(f k:Nat) (st a:List ai×List P),k<=st.2.length->AS act n st k 0->vp act n f k st=some a->AS act n a a.2.length 0/\∀(i:Nat) (q:P),st.2[i]?=some q->a.2[i]?=some q
 |0,k,st,a,_,h,e=>by cases e
 |f+1,k,st,a,j,h,e=>by
  rw[vp]at e
  by_cases b:k<st.2.length
  ·have c:st.2[k]?=some st.2[k]:=List.getElem?_eq_getElem b
   simp only[c]at e
   split at e
   ·cases e
   ·obtain⟨g1,g2⟩:=II n 0 st (by omega) h c
    have hl:=(C3 act st.2[k] n 0 st).2.1
    obtain⟨d,g⟩:=CY f (k+1) _ a (by omega) g1.next e
    exact⟨d,λi q hi=>g i q (g2 i q hi)⟩
  ·obtain rfl:k=st.2.length:=by omega
   rw[List.getElem?_eq_none (Nat.le_refl _)]at e
   obtain rfl:=Option.some.inj e
   exact⟨h,λ_ _ h=>h⟩
def OD {P:Type}(act:P->Nat->Option (Int×Int×P))(n:Nat)(a:P->Prop): Prop:=∀p v w m x,a p->v<n->act p v=some (w,m,x)->(0<=w/\w<n)/\(m=1\/m=-1)
theorem Mr {n k a:Nat}(b:0<n)(h:a<k*n): ∃i v,a=i*n+v/\i<k/\v<n:=
 ⟨a / n,a%n,by rw[Nat.mul_comm];exact(Nat.div_add_mod a n).symm,Nat.div_lt_of_lt_mul (by rw[Nat.mul_comm];exact h),Nat.mod_lt _ b⟩
theorem F8 {P:Type}{act:P->Nat->Option (Int×Int×P)}{n:Nat}{g:P->Prop}(p:2<=n)(c:n<=6)(W:OD act n g){st:List ai×List P}(q:ve g st.2)(s:1<=st.2.length)(k:st.2.length<=1000)(h:AS act n st st.2.length 0){S:Int}(l:S=n): jI ⟨S,(st.2.length:Int),st.1⟩ n st.2.length:=by
 refine⟨l,rfl,p,c,s,k,h.len,Nat.mul_le_mul k c,λr hr=>?_⟩
 subst l
 obtain⟨a,f⟩:=List.mem_iff_getElem?.1 hr
 have b:=(List.getElem?_eq_some_iff.1 f).1
 simp only at b
 rw[h.len]at b
 obtain⟨i,v,rfl,hi,o⟩:=Mr (by omega) b
 have d:=h.row i _ v (List.getElem?_eq_getElem hi) o (.inl hi)
 simp only at f
 rw[f]at d
 unfold zY at d
 unfold jF
 split at d
 ·rw[Option.some.inj d,decide_eq_true rfl,Bool.true_or]
 ·rename_i w m x e
  obtain⟨j,t,he⟩:=d
  obtain⟨⟨z,A⟩,u⟩:=W _ _ _ _ _ (q _ (List.getElem_mem _)) o e
  have y:=(List.getElem?_eq_some_iff.1 t).1
  rw[Option.some.inj he]
  have i1:mJ w 0 ((n:Int)-1)=true:=ei.2 ⟨by omega,by omega⟩
  have i2:mJ (j:Int) 0 ((st.2.length:Int)-1)=true:=ei.2 ⟨by omega,by omega⟩
  simp only[i1,i2,Bool.true_and,Bool.and_true]
  rcases u with rfl|rfl<;>simp
theorem DP {P:Type}{act:P->Nat->Option (Int×Int×P)}{n N:Nat}{st:List ai×List P}{S:Int}(M:jI ⟨S,(st.2.length:Int),st.1⟩ n st.2.length)(h:AS act n st st.2.length 0){d:U}(hd:A1 n st.2.length N d){p:P}(f:st.2[d.State.toNat]?=some p):
  zY act st.2 p (d.ak.getD 0 0).toNat (some (ax ⟨S,(st.2.length:Int),st.1⟩ d)):=by
 obtain⟨i,a,hi,j,b,has,e,c⟩:=Ig M hd
 unfold ax
 rw[e,Int.toNat_natCast,j,Int.toNat_natCast,List.getD_eq_getElem?_getD]
 rw[hi,Int.toNat_natCast]at f
 have g:=h.row i p a f has (.inl b)
 have hl:i*n+a<st.1.length:=by rw[h.len];exact c
 rw[List.getElem?_eq_getElem hl,Option.getD_some]
 rw[List.getElem?_eq_getElem hl]at g
 exact g
def wA (f:Nat->Nat)(xs:List Int)(B:Nat): Int:=(List.range B).foldl (λx j=>x*2+xs.getD (f j) 0) 0
def rz (xs:List Int): Prop:=∀j,0<=xs.getD j 0/\xs.getD j 0<=1
theorem L4 {xs:List Int}(a:rz xs)(f:Nat->Nat): ∀B,0<=wA f xs B/\wA f xs B<2^B
 |0=>by simp[wA]
 |B+1=>by
  have b:=L4 a f B
  have h:=a (f B)
  have e:wA f xs (B+1)=wA f xs B*2+xs.getD (f B) 0:=by unfold wA;rw[List.range_succ,List.foldl_append];rfl
  rw[e,show(2:Int)^(B+1)=2^B*2 from Int.pow_succ 2 B]
  omega
theorem Aq (f:Nat->Nat)(xs:List Int)(B:Nat): wA f xs (B+1)=wA f xs B*2+xs.getD (f B) 0:=by unfold wA;rw[List.range_succ,List.foldl_append];rfl
theorem Oz {B:Nat}(h:B<=3): (2:Int)^B<=8:=by
 rcases(by omega:B=0\/B=1\/B=2\/B=3)with rfl|rfl|rfl|rfl<;>decide
theorem Kw {R:Type}{body:Int×Int->Option ((Int×Int) ⊕ Out (Int×Int) R)}{xs:List Int}(a:rz xs){B:Nat}(e:B<=3)(f:Nat->Nat)(b:∀(x:Int) (j:Nat),0<=x->x<=8->j<B->body (x,(j:Int))=some (.inl (x*2+xs.getD (f j) 0,((j+1:Nat):Int))))(c:∀x:Int,body (x,(B:Int))=some (.inr (.bf (x,(B:Int))))):
  run body (0,0)=some (.bf (wA f xs B,(B:Int))):=by
 have:∀k,k<=B->run body (0,0)=run body (wA f xs k,(k:Int)):=by
  intro k
  induction k with
  |zero=>intro _;rfl
  |succ k d=>
   intro g
   have hi:=L4 a f k
   have h:=Oz (show k<=3 by omega)
   rw[d (by omega),bZ (b _ k hi.1 (by omega) (by omega)),Aq]
 rw[this B (Nat.le_refl _),aZ (c _)]
def yA (len B:Nat): Nat:=(len+B-1) / B
theorem Ar {len B k:Nat}(a:1<=B): k<yA len B↔k*B<len:=by
 unfold yA
 rw[Nat.lt_iff_add_one_le,Nat.le_div_iff_mul_le (by omega),Nat.add_mul]
 omega
theorem Lj {len B:Nat}(a:1<=B): yA len B<=len:=by
 rcases Nat.lt_or_ge len (yA len B)with h|h
 ·have:=(Ar a).1 h
  have:=Nat.le_mul_of_pos_right len a
  omega
 ·exact h
theorem JT {len B:Nat}(a:1<=B): len<=yA len B*B:=by
 rcases Nat.lt_or_ge (yA len B*B) len with h|h
 ·exact absurd ((Ar a).2 h) (by omega)
 ·exact h
theorem MJ {N B:Nat}(a:1<=B): yA (N*B) B=N:=by
 have b:∀k,k<yA (N*B) B↔k<N:=λk=>by rw[Ar a];exact⟨λh=>Nat.lt_of_mul_lt_mul_right h,λh=>Nat.mul_lt_mul_of_pos_right h a⟩
 have c:=b (yA (N*B) B)
 have d:=b N
 omega
def qy (g:Nat->Int)(N:Nat)(S:Int): Option (List Int):=if (List.range N).all (λk=>decide (g k<S))then some ((List.range N).map g)else none
theorem K1 {body:List Int×Int->Option ((List Int×Int) ⊕ Out (List Int×Int) (List Int×Bool))}{S:Int}{N B:Nat}(g:Nat->Int)(m:N<=1000)(e:∀(a:List Int) (k:Nat),k<N->a.length<=1000->body (a,((k*B:Nat):Int))=if S<=g k then some (.inr (.ret ([],false)))else some (.inl (a++[g k],(((k+1)*B:Nat):Int))))(i:∀a:List Int,body (a,((N*B:Nat):Int))=some (.inr (.bf (a,((N*B:Nat):Int))))):
  run body ([],0)=some (match qy g N S with|some l=>.bf (l,((N*B:Nat):Int))|none=>.ret ([],false)):=by
 have key:∀k,k<=N->(List.range k).all (λk=>decide (g k<S))=true->run body ([],0)=run body ((List.range k).map g,((k*B:Nat):Int)):=by
  intro k
  induction k with
  |zero=>intro _ _;simp
  |succ k d=>
   intro f b
   rw[List.range_succ,List.all_append,Bool.and_eq_true]at b
   have c:g k<S:=by simpa using b.2
   have:=e ((List.range k).map g) k (by omega) (by simp;omega)
   rw[if_neg (by omega)]at this
   rw[d (by omega) b.1,bZ this,List.range_succ,List.map_append]
   rfl
 by_cases b:(List.range N).all (λk=>decide (g k<S))=true
 ·unfold qy
  rw[if_pos b,key N (Nat.le_refl _) b,aZ (i _)]
 ·unfold qy
  rw[if_neg b]
  have:∃k,k<N/\S<=g k/\(List.range k).all (λk=>decide (g k<S))=true:=by
   have:∀n,n<=N->(List.range n).all (λk=>decide (g k<S))=true\/∃k,k<N/\S<=g k/\(List.range k).all (λk=>decide (g k<S))=true:=by
    intro n
    induction n with
    |zero=>intro _;exact .inl rfl
    |succ n d=>
     intro o
     rcases d (by omega)with h|h
     ·by_cases c:g n<S
      ·left
       rw[List.range_succ,List.all_append,h]
       simp[c]
      ·exact .inr ⟨n,by omega,by omega,h⟩
     ·exact .inr h
   rcases this N (Nat.le_refl _)with h|h
   ·exact absurd h b
   ·exact h
  obtain⟨k,f,c,j⟩:=this
  have:=e ((List.range k).map g) k f (by simp;omega)
  rw[if_pos c]at this
  rw[key k (by omega) j,aZ this]
def FO (xs:List Int)(B:Nat)(S:Int): Option (List Int):=qy (λk=>wA (λj=>k*B+j) xs B) (yA xs.length B) S
def EZ (xs:List Int)(B:Nat)(S:Int): Option (List Int):=qy (λk=>wA (λj=>k*B+(B-1-j)) xs B) (yA xs.length B) S
def yn:Option (List Int)->List Int×Bool
 |some l=>(bR l,true)
 |none=>([],false)
theorem DT {g:Nat->Int}{N:Nat}{S:Int}{l:List Int}(h:qy g N S=some l): l.length=N:=by
 unfold qy at h
 split at h
 ·rw[<- Option.some.inj h];simp
 ·simp at h
theorem qF {xs:List Int}{j:Nat}(h:¬j<xs.length): xs.getD j 0=0:=by
 rw[List.getD_eq_getElem?_getD,List.getElem?_eq_none (by omega)];rfl
theorem su {xs:List Int}{j:Nat}(h:j<xs.length): xs.getD j 0=xs[j]:=by
 rw[List.getD_eq_getElem?_getD,List.getElem?_eq_getElem h];rfl
theorem Oc {k N B:Nat}(a:k<N): (k+1)*B<=N*B:=Nat.mul_le_mul_right B a
theorem Fe:∀(n:Nat) (xs:List Int),xs.length=n->n<=1048576->run kq xs=some (.bf (bR xs))
 |0,xs,h,_=>by
  obtain rfl:xs=[]:=List.eq_nil_of_length_eq_zero h
  exact aZ rfl
 |n+1,xs,h,d=>by
  rcases gp xs with rfl|⟨ys,y,rfl⟩
  ·simp at h
  have c:ys.length=n:=by simpa using h
  have b:kq (ys++[y])=cond (decide (y=0)) (some (.inl ys)) (some (.inr (.bf (ys++[y])))):=by
   unfold kq
   rw[decide_eq_true (by rw[h];omega),cond_true,C6 ys y (by omega),D]
   have e:ah (((ys++[y]).length:Int)-1)=(ys.length:Int):=by
    rw[List.length_append,List.length_singleton,bC (by omega) (by omega)]
    omega
   rw[e,Ht (by simp),D,List.take_left]
  rw[jr]
  by_cases a:y=0
  ·rw[if_pos a,bZ (by rw[b,decide_eq_true a];rfl)]
   exact Fe n ys c (by omega)
  ·rw[if_neg a,aZ (by rw[b,decide_eq_false a];rfl)]
theorem DG {xs:List Int}(f:rz xs){B:Nat}(b:1<=B)(g:B<=3)(S:Int)(h:xs.length<=900): lX xs (B:Int) S=some (yn (FO xs B S)):=by
 unfold lX
 have m:=Lj (len:=xs.length) b
 have inner:∀(a:List Int) (k:Nat),k<yA xs.length B->run (kc xs (B:Int) (a,((k*B:Nat):Int))) (0,0)=some (.bf (wA (λj=>k*B+j) xs B,(B:Int))):=by
  intro a k d
  have c:=(Ar b).1 d
  refine Kw f g (λj=>k*B+j) (λx j n o i=>?_) (λx=>by simp[kc])
  have e1:ah (((k*B:Nat):Int)+(j:Int))=((k*B+j:Nat):Int):=by rw[bC (by omega) (by omega)];omega
  have e2:ah (x*2)=x*2:=bC (by omega) (by omega)
  have e3:=f (k*B+j)
  simp only[kc,Int.ofNat_lt,i,decide_true,cond_true,e1,e2,dh (show j<4611686018427387904 by omega)]
  by_cases hl:k*B+j<xs.length
  ·simp only[hl,decide_true,cond_true,eh hl,D]
   rw[su hl]at e3 ⊢
   rw[bC (by omega) (by omega)]
  ·simp only[hl,decide_false,cond_false]
   rw[qF hl,Int.add_zero]
 rw[K1 (S:=S) (N:=yA xs.length B) (B:=B) (λk=>wA (λj=>k*B+j) xs B) (by omega) (λa k d p=>?_) (λa=>?_)]
 ·unfold FO
  cases hs:qy (λk=>wA (λj=>k*B+j) xs B) (yA xs.length B) S with
  |none=>rfl
  |some l=>
   have hl:=DT hs
   simp only[D,Out.elim]
   rw[Fe _ _ rfl (by omega)]
   rfl
 ·have c:=(Ar b).1 d
  have e1:ah (((k*B:Nat):Int)+(B:Int))=(((k+1)*B:Nat):Int):=by rw[Nat.add_mul,bC (by omega) (by omega)];omega
  simp only[ma,Int.ofNat_lt,c,decide_true,cond_true,inner a k d,D,Out.elim,e1]
  by_cases e:S<=wA (λj=>k*B+j) xs B
  ·rw[decide_eq_true e,if_pos e];rfl
  ·rw[decide_eq_false e,if_neg e,cond_false,de (by simp;omega),D]
 ·have:=JT (len:=xs.length) b
  simp only[ma,Int.ofNat_lt,show ¬yA xs.length B*B<xs.length by omega,decide_false,cond_false]
theorem I5 {body:List Int->Option (List Int ⊕ Out (List Int) (List Int×Bool))}(N:Nat)(e:N<=1000000)(b:∀a:List Int,a.length<N->body a=some (.inl (a++[0])))(c:∀a:List Int,a.length=N->body a=some (.inr (.bf a))): ∀(d:Nat) (a:List Int),a.length+d=N->run body a=some (.bf (a++List.replicate d 0))
 |0,a,h=>by rw[aZ (c a (by omega))];simp
 |d+1,a,h=>by
  rw[bZ (b a (by omega)),I5 N e b c d _ (by simp;omega),List.replicate_succ,List.append_assoc]
  rfl
theorem G8 {R:Type}{body:List Int->Option (List Int ⊕ Out (List Int) R)}(N m:Nat)(hm:m<N\/m=N)(b:∀a:List Int,m<=a.length->a.length<N->body a=some (.inl (a++[0])))(c:∀a:List Int,a.length=N->body a=some (.inr (.bf a))): ∀(d:Nat) (a:List Int),m<=a.length->a.length+d=N->run body a=some (.bf (a++List.replicate d 0))
 |0,a,_,h=>by rw[aZ (c a (by omega))];simp
 |d+1,a,hl,h=>by
  rw[bZ (b a hl (by omega)),G8 N m hm b c d _ (by simp;omega) (by simp;omega),List.replicate_succ,List.append_assoc]
  rfl
theorem JJ (xs:List Int): bR xs++List.replicate (xs.length-(bR xs).length) 0=xs:=by
 have hl:=jm xs
 apply List.ext_getElem
 ·simp;omega
 ·intro i c b
  have e:=kF xs i
  rw[su b]at e
  rw[List.getElem_append]
  split
  ·rename_i a
   rw[<- e,su a]
  ·rename_i a
   rw[List.getElem_replicate,<- e,qF a]
theorem MH (xs:List Int)(k j:Nat): (xs++List.replicate k 0).getD j 0=xs.getD j 0:=by
 rw[List.getD_eq_getElem?_getD,List.getD_eq_getElem?_getD,List.getElem?_append]
 split
 ·rfl
 ·rename_i h
  rw[List.getElem?_eq_none (by omega:xs.length<=j),List.getElem?_replicate]
  split<;>rfl
theorem AI (xs:List Int){j:Nat}(h:j<xs.length): xs.reverse.getD j 0=xs.getD (xs.length-1-j) 0:=by
 rw[su (by simpa using h),su (by omega),List.getElem_reverse]
theorem FM {f g:Nat->Nat}{xs ys:List Int}: ∀ {B:Nat},(∀j,j<B->xs.getD (f j) 0=ys.getD (g j) 0)->wA f xs B=wA g ys B
 |0,_=>rfl
 |B+1,h=>by rw[Aq,Aq,FM (λj a=>h j (by omega)),h B (by omega)]
theorem OP {N:Nat}(p:Nat->Bool): (List.range N).all (λk=>p (N-1-k))=(List.range N).all p:=by
 rw[Bool.eq_iff_iff,List.all_eq_true,List.all_eq_true]
 constructor
 ·intro h k a
  have a:=List.mem_range.1 a
  have:=h (N-1-k) (List.mem_range.2 (by omega))
  rwa[show N-1-(N-1-k)=k by omega]at this
 ·intro h k a
  have a:=List.mem_range.1 a
  exact h _ (List.mem_range.2 (by omega))
theorem JF {g g':Nat->Int}{N:Nat}{S:Int}(h:∀k,k<N->g' k=g (N-1-k)): qy g' N S=(qy g N S).map List.reverse:=by
 have e1:(List.range N).all (λk=>decide (g' k<S))=(List.range N).all (λk=>decide (g k<S)):=by
  rw[<- OP (λk=>decide (g k<S))]
  rw[Bool.eq_iff_iff,List.all_eq_true,List.all_eq_true]
  exact⟨λH k a=>by have:=H k a;rwa[h k (List.mem_range.1 a)]at this,λH k a=>by have:=H k a;rwa[<- h k (List.mem_range.1 a)]at this⟩
 have e2:(List.range N).map g'=((List.range N).map g).reverse:=by
  apply List.ext_getElem
  ·simp
  ·intro i b c
   have hi:i<N:=by simpa using b
   rw[List.getElem_reverse,List.getElem_map,List.getElem_map,List.getElem_range,List.getElem_range,h i hi]
   congr 1
   simp
 unfold qy
 rw[e1,e2]
 split<;>rfl
theorem Jh {xs:List Int}(y:rz xs){B:Nat}(b:1<=B)(u:B<=3)(S:Int)(h:xs.length<=300): n0 xs (B:Int) S=some (yn (EZ xs B S)):=by
 unfold n0
 have v:=Lj (len:=xs.length) b
 have hm:=JT (len:=xs.length) b
 obtain⟨N,m⟩:∃N,yA xs.length B=N:=⟨_,rfl⟩
 have n:∀k,k<N↔k*B<xs.length:=λk=>by rw[<- m];exact Ar b
 rw[m]at v hm
 have z:N*B<=900:=by
  have:=Nat.mul_le_mul v u
  omega
 have w:N*B<xs.length+B:=by
  rcases Nat.eq_zero_or_pos N with f|f
  ·subst f;omega
  ·have:=(n (N-1)).1 (by omega)
   have e:N*B=(N-1)*B+B:=by rw[<- Nat.succ_mul];congr 1;omega
   omega
 have A:=G8 (body:=ku (B:Int)) (N*B) xs.length (by omega) (λa hl g=>by
  have e:Int.tmod (a.length:Int) (B:Int)≠0:=by
   rw[<- Int.ofNat_tmod]
   intro f
   have f:a.length%B=0:=by exact_mod_cast f
   obtain⟨q,hq⟩:=Nat.dvd_of_mod_eq_zero f
   have o:q<N:=Nat.lt_of_mul_lt_mul_left (a:=B) (by rw[<- hq,Nat.mul_comm B N];exact g)
   have C:=Oc (B:=B) o
   rw[Nat.add_mul,Nat.mul_comm q B,<- hq]at C
   omega
  unfold ku eW nz
  simp only[D]
  rw[if_neg (by omega),D,decide_eq_true e,cond_true,de (by simp;omega),D]) (λa g=>by
  have e:Int.tmod (a.length:Int) (B:Int)=0:=by
   rw[<- Int.ofNat_tmod,g,Nat.mul_mod_left]
   rfl
  unfold ku eW nz
  simp only[D]
  rw[if_neg (by omega),D,decide_eq_false (by omega),cond_false]) (N*B-xs.length) xs (Nat.le_refl _) (by omega)
 rw[qA _ (by omega),D,A,D]
 simp only[Out.elim]
 obtain⟨d,p⟩:∃d,xs++List.replicate (N*B-xs.length) (0:Int)=d:=⟨_,rfl⟩
 have c:d.length=N*B:=by rw[<- p];simp;omega
 have i:∀j,d.getD j 0=xs.getD j 0:=λj=>by rw[<- p,MH]
 have r:rz d.reverse:=λj=>by
  by_cases s:j<d.length
  ·rw[AI _ s,i];exact y _
  ·rw[qF (by simpa using s)];omega
 rw[p,fB _ (by omega),D,DG r b u S (by simp;omega),D]
 have eq:FO d.reverse B S=(EZ xs B S).map List.reverse:=by
  unfold FO EZ
  rw[List.length_reverse,c,MJ b,m]
  apply JF
  intro k E
  apply FM
  intro j s
  have o:=Oc (B:=B) E
  rw[Nat.add_mul]at o
  have e:N*B=(N-1-k)*B+(k*B+B):=by
   rw[<- Nat.succ_mul,<- Nat.add_mul]
   congr 1
   omega
  rw[AI _ (by rw[c];omega),i,c]
  congr 1
  omega
 rw[eq]
 cases hs:EZ xs B S with
 |none=>rfl
 |some l=>
  have hl:l.length=N:=by
   rw[<- m]
   exact DT hs
  simp only[Option.map_some,yn,Bool.not_true,cond_false]
  have F:=jm l.reverse
  rw[List.length_reverse]at F
  have hd:Int.tdiv ((N*B:Nat):Int) (B:Int)=(N:Int):=by
   rw[<- Int.ofNat_tdiv,Nat.mul_div_cancel _ (by omega:0<B)]
  have t:=I5 (body:=kh (B:Int) d) N (by omega) (λa g=>by
   unfold kh eW nz
   simp only[D,c,hd]
   rw[if_neg (by omega),D,bC (by omega) (by omega),decide_eq_true (by omega),cond_true,de (by simp;omega),D]) (λa g=>by
   unfold kh eW nz
   simp only[D,c,hd]
   rw[if_neg (by omega),D,bC (by omega) (by omega),decide_eq_false (by omega),cond_false]) (N-(bR l.reverse).length) (bR l.reverse) (by omega)
  have x:=JJ l.reverse
  rw[List.length_reverse,hl]at x
  rw[t,D,x]
  simp only[Out.elim]
  rw[fB _ (by simp;omega),D,List.reverse_reverse,jB _ (by omega),D]
theorem F4 {α:Type}{xs:List α}{lo:Nat}(h:lo<=xs.length): jV xs (lo:Int) (xs.length:Int)=some (xs.drop lo):=by
 rw[AM h (Nat.le_refl _),List.take_length]
theorem Hv {m:O}{q:Nat}{p:L}(h:CC m q 1 p): ∃a:Nat,a<q/\p=⟨0,a,0,0⟩:=by
  rcases h with⟨a,b,c,rfl,d,f,l,e,g⟩|⟨a,b,rfl,d,i,f⟩|⟨a,b,rfl,d,i,j,k⟩
  · obtain rfl:b=0:=by omega
    rw[e rfl]
    exact⟨a,d,rfl⟩
  · omega
  · omega
theorem G3 (m:O)(a v:Nat)(b:v<2): wg m 2 1 ⟨0,a,0,0⟩ v=if m.aB.getD (a*2+v) cn=cn then none else some ((m.aB.getD (a*2+v) cn).Write,(m.aB.getD (a*2+v) cn).Move,⟨0,(m.aB.getD (a*2+v) cn).Next,0,0⟩):=by
  unfold wg
  simp only[if_true,Int.toNat_natCast]
  rw[if_neg (by decide),if_neg (show ¬2<=2*(0:Int).toNat+v by simp;omega)]
  simp only[Int.toNat_zero,Nat.mul_zero,Nat.zero_add]
theorem Qp {m:O}{q:Nat}(M:jI m 2 q): OD (wg m 2 1) 2 (CC m q 1):=by
  intro p v w g x b c h
  obtain⟨a,i,rfl⟩:=Hv b
  rw[G3 m a v c]at h
  have hl:a*2+v<m.aB.length:=by rw[M.hl];omega
  split at h
  · cases h
  · rename_i d
    obtain⟨e,f,j⟩:=oW M (Hx hl) d
    simp only[Option.some.injEq,Prod.mk.injEq]at h
    obtain⟨rfl,rfl,_⟩:=h
    exact⟨e,f⟩
theorem GR {xs:List Int}(a:rz xs)(f:Nat->Nat->Nat)(b:∀k,f k 0=k): qy (λk=>wA (f k) xs 1) (yA xs.length 1) 2=some xs:=by
  have e:∀k,wA (f k) xs 1=xs.getD k 0:=λk=>by
    rw[Aq,b]
    show(0:Int)*2+_=_
    omega
  have c:yA xs.length 1=xs.length:=by unfold yA;simp
  unfold qy
  rw[c,if_pos]
  · congr 1
    apply List.ext_getElem
    · simp
    · intro i g d
      rw[List.getElem_map,List.getElem_range,e,su d]
  · refine List.all_eq_true.2 λk _=>decide_eq_true ?_
    have:=a k
    show wA (f k) xs 1<2
    rw[e]
    omega
theorem Ou {m:O}{q Q:Nat}(M:jI m 2 q){rules:List ai}{ps:List L}{k:Int}{d:U}(hd:ln 2 Q d){a:Nat}(g:ps[d.State.toNat]?=some ⟨0,a,0,0⟩)(h:a<q):
    jx d ⟨2,k,rules,ps,sI.mk⟩ m=some (ctx ⟨a,d.Left,d.ak⟩):=by
  obtain⟨i,hi,l⟩:=hd.cf.st
  rw[hi,Int.toNat_natCast]at g
  have b:idx ps d.State=some ⟨0,a,0,0⟩:=by
    obtain⟨n,o⟩:=List.getElem?_eq_some_iff.1 g
    rw[hi,eh n,o]
  have p:j9 m=some (1:Int):=EN M
  have bl:rz d.Left:=λj=>by have:=hd.cf.lf j;omega
  have br:rz d.ak:=λj=>by have:=hd.cf.rt j;omega
  have hl:=hd.cf.ll;have hr:=hd.cf.rl
  have b4:=M.b4
  have dl:=Jh bl (B:=1) (by omega) (by omega) 2 (by omega)
  have e:=DG br (B:=1) (by omega) (by omega) 2 (by omega)
  have el:EZ d.Left 1 2=some d.Left:=GR bl _ (λk=>by simp)
  have r:FO d.ak 1 2=some d.ak:=GR br _ (λk=>by simp)
  rw[el]at dl
  rw[r]at e
  have s:bR d.Left=d.Left:=hd.lt
  have t:bR d.ak=d.ak:=hd.rt
  have e1:yn (some d.Left)=(d.Left,true):=by unfold yn;simp only;rw[s]
  have e2:yn (some d.ak)=(d.ak,true):=by unfold yn;simp only;rw[t]
  rw[e1]at dl
  rw[e2]at e
  have c:nL m ⟨2,k,rules,ps,sI.mk⟩ d=some (⟨a,d.Left,d.ak⟩,0):=by
    unfold nL
    simp only[b,D,p,Out.elim]
    rw[qA _ (by omega),D,qA _ (by omega),D]
    rw[aZ (x:=.bf (d.Left,d.ak,0)) (by simp[ou])]
    simp only[D,Out.elim,M.hs]
    have c1:((1:Nat):Int)=1:=rfl
    have c2:((2:Nat):Int)=2:=rfl
    rw[c1]at dl e
    rw[c2,dl,D,e]
    rfl
  have f:ln 2 q ⟨a,d.Left,d.ak⟩:=⟨⟨⟨a,rfl,h⟩,hd.cf.lf,hd.cf.rt,hl,hr⟩,hd.lt,hd.rt⟩
  unfold jx
  simp only[b,D,hD,decide_true,Bool.not_true,cond_false,c]
  rw[Al (by omega) b4 f]
  rfl
def mC (ps:List L)(d:U): U:=⟨((ps[d.State.toNat]?).getD ⟨0,0,0,0⟩).a,d.Left,d.ak⟩
section
variable {m:O}{q:Nat}{st:List ai×List L}
theorem D8 (M:jI m 2 q)(X:jI ⟨2,(st.2.length:Int),st.1⟩ 2 st.2.length)(H:AS (wg m 2 1) 2 st st.2.length 0)(V:ve (CC m q 1) st.2){d:U}(hd:ln 2 st.2.length d):
    ∃a:Nat,a<q/\st.2[d.State.toNat]?=some ⟨0,a,0,0⟩/\ln 2 q (mC st.2 d)/\
      ((ax ⟨2,(st.2.length:Int),st.1⟩ d=cn/\ax m (mC st.2 d)=cn)\/
       (ax ⟨2,(st.2.length:Int),st.1⟩ d≠cn/\ax m (mC st.2 d)≠cn/\small (bI (ax ⟨2,(st.2.length:Int),st.1⟩ d) d)=small (bI (ax m (mC st.2 d)) (mC st.2 d))/\mC st.2 (bI (ax ⟨2,(st.2.length:Int),st.1⟩ d) d)=bI (ax m (mC st.2 d)) (mC st.2 d))):=by
  obtain⟨i,hi,f⟩:=hd.cf.st
  have k:st.2[d.State.toNat]?=some st.2[i]:=by rw[hi,Int.toNat_natCast,List.getElem?_eq_getElem f]
  obtain⟨a,n,p⟩:=Hv (V _ (List.getElem_mem f))
  rw[p]at k
  have l:mC st.2 d=⟨a,d.Left,d.ak⟩:=by unfold mC;rw[k];rfl
  have b:ln 2 q (mC st.2 d):=by
    rw[l]
    exact⟨⟨⟨a,rfl,n⟩,hd.cf.lf,hd.cf.rt,hd.cf.ll,hd.cf.rl⟩,hd.lt,hd.rt⟩
  refine⟨a,n,k,b,?_⟩
  have c:=DP X H hd.cf k
  have w:=hd.cf.rt 0
  have s:(d.ak.getD 0 0).toNat<2:=by omega
  obtain⟨t,u,e1,e2,e3,x,v,y⟩:=Ig M b.cf
  have hm:ax m (mC st.2 d)=m.aB.getD (a*2+(d.ak.getD 0 0).toNat) cn:=by
    unfold ax
    rw[v,Int.toNat_natCast]
    rw[l]at e1 e2
    simp only at e1 e2
    rw[show t=a by omega,show u=(d.ak.getD 0 0).toNat by omega]
  unfold zY at c
  rw[G3 m a _ s,<- hm]at c
  by_cases g:ax m (mC st.2 d)=cn
  · rw[if_pos g]at c
    exact .inl ⟨Option.some.inj c,g⟩
  · rw[if_neg g]at c
    obtain⟨j,o,he⟩:=c
    have he:=Option.some.inj he
    obtain⟨z,A,B⟩:=oW M (sg M b.cf).2 g
    refine .inr ⟨?_,g,?_,?_⟩
    · rw[he]
      intro e
      have:(ax m (mC st.2 d)).Move=0:=congrArg ai.Move e
      omega
    · rw[he,l]
      unfold small bI
      simp only
      split<;>rfl
    · rw[he]
      generalize ax m (mC st.2 d)=r at *
      rw[l]
      unfold mC bI
      by_cases h:0<r.Move
      · simp only[if_pos h,Int.toNat_natCast,o,Option.getD_some]
      · simp only[if_neg h,Int.toNat_natCast,o,Option.getD_some]
theorem Fq (M:jI m 2 q)(X:jI ⟨2,(st.2.length:Int),st.1⟩ 2 st.2.length)(H:AS (wg m 2 1) 2 st st.2.length 0)(V:ve (CC m q 1) st.2): ∀(n:Nat) (d:U),ln 2 st.2.length d->(traceM ⟨2,(st.2.length:Int),st.1⟩ n d).map (λl=>l.map (mC st.2))=traceM m n (mC st.2 d)
  |0,d,_=>rfl
  |n+1,d,hd=>by
    obtain⟨a,i,j,f,⟨c,e⟩|⟨c,e,g,h⟩⟩:=D8 M X H V hd
    · unfold traceM
      rw[if_pos c,if_pos e]
      rfl
    · unfold traceM
      rw[if_neg c,if_neg e,<- g,<- h]
      by_cases b:small (bI (ax ⟨2,(st.2.length:Int),st.1⟩ d) d)=true
      · rw[if_pos b,if_pos b,<- Fq M X H V n _ (hd.step X c b)]
        cases traceM ⟨2,(st.2.length:Int),st.1⟩ n (bI (ax ⟨2,(st.2.length:Int),st.1⟩ d) d)<;>rfl
      · rw[if_neg b,if_neg b]
        rfl
end
theorem Fi {m:O}(hm:kG m=true)(h2:m.I=2){c:U}(J:iM m c=true){n:Nat}(hn:n<=500):
    ∃r,lR m c (n:Int)=some r/\(r.2≠0\/∃l,traceM m n c=some l/\r=(l.map ctx,0)):=by
  obtain⟨s,q,M⟩:=tI hm
  obtain rfl:s=2:=by have:=M.hs;omega
  have b3:=M.b3
  have hq:=M.hq
  have hlen:=pX J
  have C:CC m q (rQ 2) ⟨0,0,0,0⟩:=Aa (by decide) (by omega)
  have b:=Ck (R0:=Option (U×Int)) (fail:=some ((⟨0,[],[]⟩:U),5)) (by omega:2<=100) (Lu M) (IP M) 1002 0 [] [⟨0,0,0,0⟩] (lY [] ⟨0,0,0,0⟩ 0) (by omega) (by omega) (by simp) (EC C) (CA _) (by simp)
  have f:=Ck (R0:=Option ((List ByteArray)×Int)) (fail:=none) (by omega:2<=100) (Lu M) (IP M) 1002 0 [] [⟨0,0,0,0⟩] (lY [] ⟨0,0,0,0⟩ 0) (by omega) (by omega) (by simp) (EC C) (CA _) (by simp)
  have eb:rQ 2=1:=rfl
  rw[eb]at C b f
  have e2:oh m 1=Ah (some ((⟨0,[],[]⟩:U),5)) ((2:Nat):Int) (λp v=>jb p v m ((1:Nat):Int)) (λa=>a.none) (λa=>a.write) (λa=>a.move) (λa=>(⟨a.bS,a.jH,a.jL,a.jM⟩:L)):=rfl
  have e4:oM m 1=Ah none ((2:Nat):Int) (λp v=>jb p v m ((1:Nat):Int)) (λa=>a.none) (λa=>a.write) (λa=>a.move) (λa=>(⟨a.bS,a.jH,a.jL,a.jM⟩:L)):=rfl
  have e3:app ([]:List L) [(⟨0,0,0,0⟩:L)]=some [⟨0,0,0,0⟩]:=rfl
  have Z:j9 m=some (1:Int):=EN M
  have k:=ln.of M J
  have E:∃w,nE m c=some w/\(w.2≠0\/∃st i,vp (wg m 2 1) 2 1002 0 ([],[(⟨0,0,0,0⟩:L)])=some st/\st.2.findIdx? (λz=>decide (z=(⟨0,c.State,0,0⟩:L)))=some i/\iM ⟨2,(st.2.length:Int),st.1⟩ ⟨(i:Int),c.Left,c.ak⟩=true/\w=(⟨(i:Int),c.Left,c.ak⟩,0)):=by
    unfold nE
    rw[kE m c (kT hm) (lO J),D,hm,J,Bool.and_self,Bool.not_true,cond_false,Z,D]
    simp only[hD,D]
    rw[e2,e3]
    simp only[AQ,Option.isSome_none,Bool.not_false,cond_true,D,Out.elim,dX,List.length_nil]
    have R:((0:Nat):Int)=0:=rfl
    rw[R]at b ⊢
    cases g:vp (wg m 2 1) 2 1002 0 ([],[(⟨0,0,0,0⟩:L)])with
    |none=>
      rw[g]at b
      simp only at b
      rw[b]
      exact⟨_,rfl,.inl (by decide)⟩
    |some st=>
      rw[g]at b
      obtain⟨t,b,hN,hV,hl,hr⟩:=b
      rw[b]
      simp only[D,Out.elim]
      have K:∀xs:List Int,rz xs->Cc xs 1=xs:=λxs A=>by
        have e:∀x:Int,0<=x/\x<=1->xm x 1 0=x:=λx A=>by
          unfold xm
          rcases(show x=0\/x=1 by omega)with rfl|rfl<;>decide
        have N:∀x∈xs,0<=x/\x<=1:=λx hm=>by
          obtain⟨i,hi⟩:=List.mem_iff_getElem?.1 hm
          have:=A i
          rw[List.getD_eq_getElem?_getD,hi]at this
          exact this
        clear A
        induction xs with
        |nil=>rfl
        |cons x xs ih=>
          show(xm x 1 0::[])++Cc xs 1=_
          rw[ih (λy Q=>N y (List.mem_cons_of_mem _ Q)),e x (N x (List.mem_cons_self ..))]
          rfl
      have bl:rz c.Left:=λj=>by have:=k.cf.lf j;omega
      have S:rz c.Left.reverse:=λj=>by
        by_cases hj:j<c.Left.length
        · rw[AI _ hj];exact bl _
        · rw[qF (by simp;omega)];omega
      have br:rz c.ak:=λj=>by have:=k.cf.rt j;omega
      have ll:=Cl c.Left.reverse (B:=1) (by omega) (by simp;omega)
      have lr:=Cl c.ak (B:=1) (by omega) (by omega)
      have c1:((1:Nat):Int)=1:=rfl
      rw[K _ S,c1]at ll
      rw[K _ br,c1]at lr
      rw[fB _ (by omega),D,ll,D,fB _ (by simp;omega),D,List.reverse_reverse,lr,D]
      have tl:bR c.Left=c.Left:=k.lt
      have tr:bR c.ak=c.ak:=k.rt
      rw[hN]
      cases hi:st.2.findIdx? (λz=>decide (z=(⟨0,c.State,0,0⟩:L)))with
      |none=>exact⟨_,rfl,.inl (by decide)⟩
      |some i=>
        simp only[Option.map_some,Option.isSome_some,Bool.not_true,cond_false,Option.getD_some]
        rw[jB _ (by omega),D,jB _ (by omega),D,tl,tr,yD _ _ (by simp only;omega) (by simp only;omega) ⟨⟨by simp only;omega,λ_ _=>trivial⟩,⟨by simp only;omega,λ_ _=>trivial⟩⟩,D]
        cases A:iM ⟨2,(st.2.length:Int),st.1⟩ ⟨(i:Int),c.Left,c.ak⟩
        · exact⟨_,rfl,.inl (by decide)⟩
        · exact⟨_,rfl,.inr ⟨st,i,rfl,hi,A,rfl⟩⟩
  obtain⟨w,hw,F⟩:=E
  unfold lR
  rw[kE m c (kT hm) (lO J),D,hm,J,Bool.and_self,zJ (by omega) rfl,D,decide_eq_false (λh=>h rfl:¬((0:Int)≠0)),cond_false,hw,D]
  rcases F with h0|⟨st,i,g,hi,A,rfl⟩
  · rw[decide_eq_true h0,cond_true]
    exact⟨_,rfl,.inl h0⟩
  rw[decide_eq_false (λh=>h rfl:¬((0:Int)≠0)),cond_false,Z,D]
  rw[g]at f
  obtain⟨t,f,hN,hV,hl,hr⟩:=f
  obtain⟨T,G,_⟩:=List.findIdx?_eq_some_iff_getElem.1 hi
  have G:=of_decide_eq_true G
  obtain⟨H,aa⟩:=CY 1002 0 ([],[(⟨0,0,0,0⟩:L)]) st (by simp) ⟨by simp,λi p v _ _ h=>by omega⟩ g
  have V:ve (CC m q 1) st.2:=hV
  have X:jI ⟨2,(st.2.length:Int),st.1⟩ 2 st.2.length:=F8 (by omega) (by omega) (Qp M) V (by omega) hl H rfl
  have hT:ln 2 st.2.length ⟨(i:Int),c.Left,c.ak⟩:=ln.of X A
  simp only[hD,D]
  rw[e4,e3]
  simp only[AQ,Option.isSome_none,Bool.not_false,cond_true,D,Out.elim,dX,List.length_nil]
  have R:((0:Nat):Int)=0:=rfl
  rw[R]at f ⊢
  rw[f]
  simp only[D,Out.elim]
  rw[n9 A,D]
  obtain⟨y,Q,o⟩:=Ii X (λd=>jx d ⟨2,(st.2.length:Int),st.1,st.2,sI.mk⟩ m) (λd=>ctx (mC st.2 d)) (λ_=>True) (λd hd _=>by
    obtain⟨a,ha,hg,_,_⟩:=D8 M X H V hd
    rw[Ou M hd hg ha]
    unfold mC
    rw[hg]
    rfl) (λ_ _ _ _ _=>trivial) ((i:Int),c.Left.reverse,c.ak.reverse) n 0 ⟨(i:Int),c.Left,c.ak⟩ [] hT trivial (by omega) (by simp;omega)
  rw[Nat.add_zero,show((0:Nat):Int)=0 from rfl]at Q
  have e5:oH m (n:Int) (st.1,st.2,t,(st.2.length:Int)) (st.2.length:Int) (2,(st.2.length:Int),st.1,(i:Int),c.Left.reverse,c.ak.reverse)=H0 (λd=>jx d ⟨2,(st.2.length:Int),st.1,st.2,sI.mk⟩ m) (n:Int) (2,(st.2.length:Int),st.1,(i:Int),c.Left.reverse,c.ak.reverse):=rfl
  rw[e5,Q,D]
  have W:=Fq M X H V n ⟨(i:Int),c.Left,c.ak⟩ hT
  have Y:mC st.2 ⟨(i:Int),c.Left,c.ak⟩=c:=by
    unfold mC
    simp only[Int.toNat_natCast]
    rw[List.getElem?_eq_getElem T,G]
    rfl
  rw[Y]at W
  cases P:traceM ⟨2,(st.2.length:Int),st.1⟩ n ⟨(i:Int),c.Left,c.ak⟩with
  |none=>
    rw[P]at o
    subst o
    exact⟨_,rfl,.inl (by decide)⟩
  |some l=>
    rw[P]at o W
    obtain⟨u,rfl,h3⟩:=o
    refine⟨(u.2.2.2.2,0),rfl,.inr ⟨l.map (mC st.2),W.symm,?_⟩⟩
    rw[h3,List.nil_append,List.map_map]
    rfl
def tp (d:U)(k:Nat): Int:=(d.Left.reverse++d.ak).getD k 0
theorem xv {d:U}{k:Nat}(h:k<d.Left.length): tp d k=d.Left.getD (d.Left.length-1-k) 0:=by
 unfold tp
 rw[List.getD_eq_getElem?_getD,List.getElem?_append_left (by simpa using h),<- List.getD_eq_getElem?_getD,AI _ h]
theorem tY {d:U}{k:Nat}(h:d.Left.length<=k): tp d k=d.ak.getD (k-d.Left.length) 0:=by
 unfold tp
 rw[List.getD_eq_getElem?_getD,List.getElem?_append_right (by simpa using h),<- List.getD_eq_getElem?_getD,List.length_reverse]
theorem Jw (d:U): tp d d.Left.length=d.ak.getD 0 0:=by rw[tY (Nat.le_refl _),Nat.sub_self]
theorem tQ (xs:List Int)(j:Nat): xs.tail.getD j 0=xs.getD (j+1) 0:=by
 cases xs with
 |nil=>rfl
 |cons x xs=>rw[List.tail_cons,List.getD_cons_succ]
theorem MS {r:ai}{d:U}(c:Tm d.Left)(hm:r.Move=1)(hw:r.Write≠0\/d.Left.length≠0): (bI r d).Left.length=d.Left.length+1/\∀k,tp (bI r d) k=if k=d.Left.length then r.Write else tp d k:=by
 have e:bI r d=⟨r.Next,r.Write::d.Left,d.ak.tail⟩:=by
  unfold bI
  rw[if_pos (by omega),c.cons,if_neg]
  rintro⟨b,a⟩
  rcases hw with h|h
  ·exact h b
  ·exact h (by rw[a];rfl)
 rw[e]
 refine⟨rfl,λk=>?_⟩
 by_cases b:k<d.Left.length+1
 ·rw[xv (by exact b)]
  by_cases a:k=d.Left.length
  ·rw[if_pos a,a]
   show(r.Write::d.Left).getD (d.Left.length+1-1-d.Left.length) 0=_
   rw[show d.Left.length+1-1-d.Left.length=0 by omega,List.getD_cons_zero]
  ·rw[if_neg a,xv (by omega)]
   show(r.Write::d.Left).getD (d.Left.length+1-1-k) 0=_
   rw[show d.Left.length+1-1-k=(d.Left.length-1-k)+1 by omega,List.getD_cons_succ]
 ·rw[tY (by show d.Left.length+1<=k;omega),if_neg (by omega),tY (by omega)]
  show d.ak.tail.getD (k-(d.Left.length+1)) 0=_
  rw[tQ,show k-(d.Left.length+1)+1=k-d.Left.length by omega]
theorem MK {r:ai}{d:U}(hm:r.Move=-1)(b:1<=d.Left.length): (bI r d).Left.length+1=d.Left.length/\∀k,tp (bI r d) k=if k=d.Left.length then r.Write else tp d k:=by
 have e:bI r d=⟨r.Next,d.Left.tail,bR (d.Left.getD 0 0::bR (r.Write::d.ak.tail))⟩:=by
  unfold bI
  rw[if_neg (by omega)]
 rw[e]
 have hl:d.Left.tail.length+1=d.Left.length:=by rw[List.length_tail];omega
 refine⟨hl,λk=>?_⟩
 by_cases c:k+1<d.Left.length
 ·rw[xv (by show k<d.Left.tail.length;omega),if_neg (by omega),xv (by omega)]
  show d.Left.tail.getD (d.Left.tail.length-1-k) 0=_
  rw[tQ,show d.Left.tail.length-1-k+1=d.Left.length-1-k by omega]
 ·rw[tY (by show d.Left.tail.length<=k;omega)]
  show(bR (d.Left.getD 0 0::bR (r.Write::d.ak.tail))).getD (k-d.Left.tail.length) 0=_
  rw[kF]
  by_cases f:k+1=d.Left.length
  ·rw[show k-d.Left.tail.length=0 by omega,List.getD_cons_zero,if_neg (by omega),xv (by omega),show d.Left.length-1-k=0 by omega]
  ·rw[show k-d.Left.tail.length=(k-d.Left.length)+1 by omega,List.getD_cons_succ,kF]
   by_cases a:k=d.Left.length
   ·rw[if_pos a,show k-d.Left.length=0 by omega,List.getD_cons_zero]
   ·rw[if_neg a,show k-d.Left.length=(k-d.Left.length-1)+1 by omega,List.getD_cons_succ,tQ,tY (by omega),show k-d.Left.length-1+1=k-d.Left.length by omega]
def pn (z:Int): Nat:=if 0<=z then (2*z+1).toNat else (-2*z).toNat
theorem O8 {x y:Int}(h:pn x=pn y): x=y:=by unfold pn at h;split at h<;>split at h<;>omega
structure MR (c:U)(h:Int)(T:Int->Int): Prop where
 rt:∀j:Nat,c.ak.getD j 0=T (h+j)
 lf:∀j:Nat,c.Left.getD j 0=T (h-1-j)
theorem MR.step {c:U}{h:Int}{T:Int->Int}(H:MR c h T){r:ai}(hm:r.Move=1\/r.Move=-1): MR (bI r c) (h+r.Move) (λz=>if z=h then r.Write else T z):=by
 unfold bI
 rcases hm with hm|hm
 ·rw[if_pos (by omega),hm]
  refine⟨λj=>?_,λj=>?_⟩
  ·rw[if_neg (by omega)]
   show c.ak.tail.getD j 0=_
   rw[tQ,H.rt]
   congr 1
   omega
  ·show(bR (r.Write::c.Left)).getD j 0=_
   rw[kF]
   cases j with
   |zero=>rw[List.getD_cons_zero,if_pos (by omega)]
   |succ j=>
    rw[List.getD_cons_succ,if_neg (by omega),H.lf]
    congr 1
    omega
 ·rw[if_neg (by omega),hm]
  refine⟨λj=>?_,λj=>?_⟩
  ·show(bR (c.Left.getD 0 0::bR (r.Write::c.ak.tail))).getD j 0=_
   rw[kF]
   cases j with
   |zero=>rw[List.getD_cons_zero,if_neg (by omega),H.lf];congr 1
   |succ j=>
    rw[List.getD_cons_succ,kF]
    cases j with
    |zero=>rw[List.getD_cons_zero,if_pos (by omega)]
    |succ j=>
     rw[List.getD_cons_succ,tQ,if_neg (by omega),H.rt]
     congr 1
     omega
  ·show c.Left.tail.getD j 0=_
   rw[tQ,if_neg (by omega),H.lf]
   congr 1
   omega
theorem MR.val {c:U}{h:Int}{T:Int->Int}(H:MR c h T){s q N:Nat}(a:A1 s q N c)(z:Int): 0<=T z/\T z<s:=by
 by_cases b:h<=z
 ·have:=a.rt (z-h).toNat
  rw[H.rt,show h+(((z-h).toNat:Nat):Int)=z by omega]at this
  exact this
 ·have:=a.lf (h-1-z).toNat
  rw[H.lf,show h-1-(((h-1-z).toNat:Nat):Int)=z by omega]at this
  exact this
theorem Ja {x:O}{s q:Nat}(X:jI x s q){d:U}(hd:ln s q d){N:Nat}{L:List U}(a:traceM x (N+1) d=some L)(c:ax x d≠cn): ln s q (bI (ax x d) d)/\∃e,L=d::e/\traceM x N (bI (ax x d) d)=some e:=by
 unfold traceM at a
 rw[if_neg c]at a
 by_cases b:small (bI (ax x d) d)=true
 ·rw[if_pos b]at a
  cases f:traceM x N (bI (ax x d) d)with
  |none=>rw[f]at a;cases a
  |some l=>
   rw[f]at a
   exact⟨hd.step X c b,l,(Option.some.inj a).symm,rfl⟩
 ·rw[if_neg b]at a
  cases a
section
variable {m:O}{s q:Nat}{S:Int}{st:List ai×List C}
theorem sX (X:jI ⟨S,(st.2.length:Int),st.1⟩ (s+1) st.2.length)(H:AS (iu m s) (s+1) st st.2.length 0){d:U}(hd:ln (s+1) st.2.length d){p g:C}(t:st.2[d.State.toNat]?=some p){w a:Int}(n:iu m s p (tp d d.Left.length).toNat=some (w,a,g))(h:a=1/\(w≠0\/d.Left.length≠0)\/a=-1/\1<=d.Left.length){N:Nat}{L:List U}(u:traceM ⟨S,(st.2.length:Int),st.1⟩ (N+1) d=some L):
  ∃b f,ln (s+1) st.2.length b/\traceM ⟨S,(st.2.length:Int),st.1⟩ N b=some f/\L=d::f/\st.2[b.State.toNat]?=some g/\(b.Left.length:Int)=d.Left.length+a/\∀k,tp b k=if k=d.Left.length then w else tp d k:=by
 have i:=DP X H hd.cf t
 rw[Jw]at n
 unfold zY at i
 rw[n]at i
 obtain⟨j,v,he⟩:=i
 have he:=Option.some.inj he
 have x:ax ⟨S,(st.2.length:Int),st.1⟩ d≠cn:=by
  rw[he]
  intro e
  have:a=0:=congrArg ai.Move e
  omega
 obtain⟨o,f,y,c⟩:=Ja X hd u x
 rw[he]at o c
 have l:st.2[(bI ⟨w,a,(j:Int)⟩ d).State.toNat]?=some g:=by
  unfold bI
  split<;>exact v
 refine⟨_,f,o,c,y,l,?_⟩
 rcases h with⟨rfl,hw⟩|⟨rfl,z⟩
 ·obtain⟨g1,g2⟩:=MS (r:=⟨w,1,(j:Int)⟩) hd.lt rfl hw
  exact⟨by omega,g2⟩
 ·obtain⟨g1,g2⟩:=MK (r:=⟨w,-1,(j:Int)⟩) (d:=d) rfl z
  exact⟨by omega,g2⟩
theorem LU {v:Nat}(h:v≠s)(x a:Int): iu m s ⟨1,x,a⟩ v=some ((v:Int),1,⟨0,x,a⟩):=by simp[iu,h]
theorem IF (x:Int): iu m s ⟨2,x,0⟩ s=some ((s:Int),1,⟨3,x,0⟩):=by simp[iu]
theorem LQ {v:Nat}(h:v≠s)(x:Int): iu m s ⟨2,x,0⟩ v=some ((v:Int),-1,⟨0,x,0⟩):=by simp[iu,h]
theorem LS {v:Nat}(h:v≠s)(x:Int): iu m s ⟨3,x,0⟩ v=some ((v:Int),1,⟨0,x,1⟩):=by simp[iu,h]
theorem LC {v:Nat}(h:v≠s)(x:Int): iu m s ⟨4,x,0⟩ v=some ((v:Int),-1,⟨5,x,0⟩):=by simp[iu,h]
theorem LA (x:Int): iu m s ⟨5,x,0⟩ s=some ((s:Int),1,⟨0,x,0⟩):=by simp[iu]
structure Bd (s:Nat)(ps:List C)(c d:U)(h:Int)(T:Int->Int): Prop where
 mr:MR c h T
 QE:tp d 0=s
 J0:∀z,tp d (pn z)=T z
 hd:d.Left.length=pn h
 pl:(∃a:Int,a=(if 0<=h then 0 else 1)/\ps[d.State.toNat]?=some ⟨0,c.State,a⟩)\/h<0/\ps[d.State.toNat]?=some ⟨5,c.State,0⟩
theorem K9 (M:jI m s q){c d:U}{h:Int}{T:Int->Int}(F:Bd s st.2 c d h T)(e:ln s q c): ∃p,st.2[d.State.toNat]?=some p/\tp d d.Left.length=T h/\iu m s p (T h).toNat=nU m s c.State.toNat (if 0<=h then 0 else 1) (T h).toNat/\m.aB.getD (c.State.toNat*s+(T h).toNat) cn=ax m c:=by
 have l:=F.mr.val e.cf h
 have hr:m.aB.getD (c.State.toNat*s+(T h).toNat) cn=ax m c:=by
  obtain⟨g,i,e1,e2,e3,n,j,o⟩:=Ig M e.cf
  have k:=F.mr.rt 0
  unfold ax
  rw[j,Int.toNat_natCast]
  rw[show h+((0:Nat):Int)=h by omega]at k
  rw[show g=c.State.toNat by omega,show i=(T h).toNat by omega]
 have f:tp d d.Left.length=T h:=by rw[F.hd,F.J0]
 rcases F.pl with⟨r,a,b⟩|⟨t,b⟩
 ·refine⟨_,b,f,?_,hr⟩
  unfold iu
  rw[if_pos rfl,if_neg (by omega),a]
 ·refine⟨_,b,f,?_,hr⟩
  unfold iu
  simp only
  rw[if_neg (by decide),if_neg (by decide),if_neg (by decide),if_neg (by decide),if_neg (by decide),if_neg (by omega),if_neg (by omega)]
theorem JZ (M:jI m s q)(X:jI ⟨S,(st.2.length:Int),st.1⟩ (s+1) st.2.length)(H:AS (iu m s) (s+1) st st.2.length 0){c d:U}{h:Int}{T:Int->Int}(F:Bd s st.2 c d h T)(hc:ln s q c)(hd:ln (s+1) st.2.length d)(hn:ax m c≠cn){N:Nat}{L:List U}(ht:traceM ⟨S,(st.2.length:Int),st.1⟩ (N+3) d=some L):
  ∃(k N':Nat) (d':U) (L':List U),1<=k/\k+N'=N+3/\N<=N'/\ln (s+1) st.2.length d'/\traceM ⟨S,(st.2.length:Int),st.1⟩ N' d'=some L'/\(∃L0,L=d::L0)/\(∀i,L[i+k]?=L'[i]?)/\Bd s st.2 (bI (ax m c) c) d' (h+(ax m c).Move) (λz=>if z=h then (ax m c).Write else T z):=by
 have b1:=M.b1
 obtain⟨p,hp,hT,b,ac⟩:=K9 M F hc
 obtain⟨w1,w2,w3⟩:=oW M (sg M hc.cf).2 hn
 have J:∀z:Int,0<=(if z=h then (ax m c).Write else T z)/\(if z=h then (ax m c).Write else T z)<s:=λz=>by
  split
  ·exact w1
  ·exact F.mr.val hc.cf z
 have A:=F.mr.step w2 (r:=ax m c)
 have f:(bI (ax m c) c).State=(ax m c).Next:=by unfold bI;split<;>rfl
 generalize aa:(λz=>if z=h then (ax m c).Write else T z)=Y at *
 have P:∀z,0<=Y z/\Y z<s:=λz=>by rw[<- aa];exact J z
 clear J
 have K:=F.hd
 unfold nU at b
 rw[ac,if_neg hn]at b
 have cells:∀d1:U,(∀k,tp d1 k=if k=d.Left.length then (ax m c).Write else tp d k)->tp d1 0=s/\∀z,tp d1 (pn z)=Y z:=λd1 Z=>by
  refine⟨by rw[Z,if_neg (by rw[K];unfold pn;split<;>omega),F.QE],λz=>?_⟩
  rw[Z,<- aa]
  by_cases e:z=h
  ·rw[if_pos (by rw[K,e])]
   simp only
   rw[if_pos e]
  ·rw[if_neg (by rw[K];exact λe'=>e (O8 e'))]
   simp only
   rw[if_neg e,F.J0]
 have Cq:∀(d1 d2:U) (w:Int),(∀k,tp d2 k=if k=d1.Left.length then w else tp d1 k)->w=tp d1 d1.Left.length->∀k,tp d2 k=tp d1 k:=λd1 d2 w Z h2 k=>by
  rw[Z]
  split
  ·rename_i e
   rw[h2,e]
  ·rfl
 generalize hr:ax m c=r at *
 have I:∀(d1:U) (z:Int),(∀z,tp d1 (pn z)=Y z)->d1.Left.length=pn z->∃v:Nat,tp d1 d1.Left.length=(v:Int)/\v≠s:=λd1 z Z h2=>by
  have:=P z
  exact⟨(Y z).toNat,by rw[h2,Z];omega,by omega⟩
 by_cases hA:r.Move=1↔(if 0<=h then (0:Int)else 1)=0
 ·rw[if_pos hA]at b
  obtain⟨d1,L1,u,x,rfl,y,j,B⟩:=sX (N:=N+2) X H hd hp (by rw[hT];exact b) (.inl ⟨rfl,.inr (by rw[K];unfold pn;split<;>omega)⟩) ht
  obtain⟨c1,c2⟩:=cells d1 B
  obtain⟨v,D,t⟩:=I d1 (if 0<=h then -h-1 else -h) c2 (by rw[K]at j;unfold pn at j ⊢;split at j<;>rename_i G<;>simp only[G,if_true,if_false]<;>split<;>omega)
  obtain⟨d2,L2,l,n,rfl,o,Q,a⟩:=sX (N:=N+1) X H u y (by rw[D,Int.toNat_natCast];exact LU t _ _) (.inl ⟨rfl,.inr (by omega)⟩) x
  have a:=Cq d1 d2 _ a D.symm
  refine⟨2,N+1,d2,L2,by omega,by omega,by omega,l,n,⟨_,rfl⟩,λi=>rfl,A,by rw[a,c1],λz=>by rw[a,c2],?_,.inl ⟨_,?_,by rw[f];exact o⟩⟩
  ·rw[K]at j
   unfold pn at j ⊢
   split at hA<;>rename_i G<;>simp only[G,if_true,if_false]at j<;>split<;>omega
  ·split at hA<;>rename_i G<;>simp only[G,if_true,if_false]<;>split<;>omega
 ·rw[if_neg hA]at b
  by_cases G:0<=h
  ·rw[if_pos G]at b hA
   rw[if_pos rfl]at b
   have ad:r.Move=-1:=by omega
   have ae:pn h=(2*h+1).toNat:=by unfold pn;rw[if_pos G]
   obtain⟨d1,L1,u,x,rfl,y,j,B⟩:=sX (N:=N+2) X H hd hp (by rw[hT];exact b) (.inr ⟨rfl,by rw[K];omega⟩) ht
   obtain⟨c1,c2⟩:=cells d1 B
   by_cases hz:h=0
   ·have E:d1.Left.length=0:=by omega
    obtain⟨d2,L2,l,n,rfl,o,Q,a⟩:=sX (N:=N+1) X H u y (by rw[E,c1,Int.toNat_natCast];exact IF _) (.inl ⟨rfl,.inl (by omega)⟩) x
    have a:=Cq d1 d2 _ a (by rw[E,c1])
    have ab:∀z,tp d2 (pn z)=Y z:=λz=>by rw[a,c2]
    obtain⟨v,D,t⟩:=I d2 0 ab (by unfold pn;simp;omega)
    obtain⟨d3,L3,R,V,rfl,W,af,g⟩:=sX (N:=N) X H l o (by rw[D,Int.toNat_natCast];exact LS t _) (.inl ⟨rfl,.inr (by omega)⟩) n
    have g:=Cq d2 d3 _ g D.symm
    refine⟨3,N,d3,L3,by omega,by omega,by omega,R,V,⟨_,rfl⟩,λi=>rfl,A,by rw[g,a,c1],λz=>by rw[g,ab],?_,.inl ⟨_,?_,by rw[f];exact W⟩⟩
    ·unfold pn;split<;>omega
    ·split<;>omega
   ·obtain⟨v,D,t⟩:=I d1 (-h) c2 (by unfold pn;split<;>omega)
    obtain⟨d2,L2,l,n,rfl,o,Q,a⟩:=sX (N:=N+1) X H u y (by rw[D,Int.toNat_natCast];exact LQ t _) (.inr ⟨rfl,by omega⟩) x
    have a:=Cq d1 d2 _ a D.symm
    refine⟨2,N+1,d2,L2,by omega,by omega,by omega,l,n,⟨_,rfl⟩,λi=>rfl,A,by rw[a,c1],λz=>by rw[a,c2],?_,.inl ⟨_,?_,by rw[f];exact o⟩⟩
    ·unfold pn;split<;>omega
    ·split<;>omega
  ·rw[if_neg G]at b hA
   rw[if_neg (by decide)]at b
   have ad:r.Move=1:=by omega
   have ae:pn h=(-2*h).toNat:=by unfold pn;rw[if_neg G]
   obtain⟨d1,L1,u,x,rfl,y,j,B⟩:=sX (N:=N+2) X H hd hp (by rw[hT];exact b) (.inr ⟨rfl,by rw[K];omega⟩) ht
   obtain⟨c1,c2⟩:=cells d1 B
   obtain⟨v,D,t⟩:=I d1 (-h-1) c2 (by unfold pn;split<;>omega)
   obtain⟨d2,L2,l,n,rfl,o,Q,a⟩:=sX (N:=N+1) X H u y (by rw[D,Int.toNat_natCast];exact LC t _) (.inr ⟨rfl,by omega⟩) x
   have a:=Cq d1 d2 _ a D.symm
   by_cases hz:h=-1
   ·have E:d2.Left.length=0:=by omega
    obtain⟨d3,L3,R,V,rfl,W,af,g⟩:=sX (N:=N) X H l o (by rw[E,a,c1,Int.toNat_natCast];exact LA _) (.inl ⟨rfl,.inl (by omega)⟩) n
    have g:=Cq d2 d3 _ g (by rw[E,a,c1])
    refine⟨3,N,d3,L3,by omega,by omega,by omega,R,V,⟨_,rfl⟩,λi=>rfl,A,by rw[g,a,c1],λz=>by rw[g,a,c2],?_,.inl ⟨_,?_,by rw[f];exact W⟩⟩
    ·unfold pn;split<;>omega
    ·split<;>omega
   ·refine⟨2,N+1,d2,L2,by omega,by omega,by omega,l,n,⟨_,rfl⟩,λi=>rfl,A,by rw[a,c1],λz=>by rw[a,c2],?_,.inr ⟨by omega,by rw[f];exact o⟩⟩
    unfold pn;split<;>omega
theorem Jk (M:jI m s q)(X:jI ⟨S,(st.2.length:Int),st.1⟩ (s+1) st.2.length)(H:AS (iu m s) (s+1) st st.2.length 0): ∀(n N:Nat) (c d:U) (h:Int) (T:Int->Int) (l L:List U),Bd s st.2 c d h T->ln s q c->ln (s+1) st.2.length d->3*n<=N->traceM m n c=some l->traceM ⟨S,(st.2.length:Int),st.1⟩ N d=some L->
  ∃f:Nat->Nat,f 0=0/\(∀i,i+1<l.length->f i<f (i+1))/\∀i b,l[i]?=some b->∃e o p,L[f i]?=some e/\Bd s st.2 b e o p/\ln s q b/\ln (s+1) st.2.length e:=by
 have first:∀(N:Nat) (d:U) (L:List U),traceM ⟨S,(st.2.length:Int),st.1⟩ N d=some L->L[0]?=some d:=λN d L a=>by
  cases N with
  |zero=>rw[<- Option.some.inj a];rfl
  |succ N=>
   unfold traceM at a
   split at a
   ·rw[<- Option.some.inj a];rfl
   ·split at a
    ·cases y:traceM ⟨S,(st.2.length:Int),st.1⟩ N (bI (ax ⟨S,(st.2.length:Int),st.1⟩ d) d)with
     |none=>rw[y]at a;cases a
     |some l=>rw[y]at a;rw[<- Option.some.inj a];rfl
    ·cases a
 have one:∀(N:Nat) (c d:U) (h:Int) (T:Int->Int) (L:List U),Bd s st.2 c d h T->ln s q c->ln (s+1) st.2.length d->traceM ⟨S,(st.2.length:Int),st.1⟩ N d=some L->∃f:Nat->Nat,f 0=0/\(∀i,i+1<[c].length->f i<f (i+1))/\∀i b,[c][i]?=some b->∃e o p,L[f i]?=some e/\Bd s st.2 b e o p/\ln s q b/\ln (s+1) st.2.length e:=λN c d h T L F g hd a=>by
  refine⟨λi=>i,rfl,λi _=>by simp,λi b hi=>?_⟩
  cases i with
  |zero=>
   obtain rfl:=Option.some.inj hi
   exact⟨d,h,T,first N d L a,F,g,hd⟩
  |succ i=>simp at hi
 intro n
 induction n with
 |zero=>
  intro N c d h T l L F g hd A hl j
  obtain rfl:=Option.some.inj hl
  exact one N c d h T L F g hd j
 |succ n B=>
  intro N c d h T l L F g hd A hl j
  by_cases r:ax m c=cn
  ·unfold traceM at hl
   rw[if_pos r]at hl
   obtain rfl:=Option.some.inj hl
   exact one N c d h T L F g hd j
  ·obtain⟨t,D,rfl,u⟩:=Ja M g hl r
   obtain⟨z,rfl⟩:∃z,N=z+3:=⟨N-3,by omega⟩
   obtain⟨k,E,e,G,I,J,K,v,w,_,x,P⟩:=JZ M X H F g hd r j
   obtain⟨f,f0,Q,R⟩:=B E _ e _ _ D G P t v (by omega) u w
   refine⟨λi=>match i with|0=>0|i+1=>f i+k,rfl,λi hi=>?_,λi b hi=>?_⟩
   ·cases i with
    |zero=>show 0<f 0+k;omega
    |succ i=>
     have:=Q i (by simp at hi;omega)
     show f i+k<f (i+1)+k
     omega
   ·cases i with
    |zero=>
     obtain rfl:=Option.some.inj hi
     exact⟨d,h,T,first _ d L j,F,g,hd⟩
    |succ i=>
     obtain⟨d2,V,W,g1,g2⟩:=R i b hi
     exact⟨d2,V,W,by rw[<- g1];exact x (f i),g2⟩
end
def lb (b:ByteArray): List UInt8:=b.data.toList
def jQ (l:List UInt8): ByteArray:=⟨l.toArray⟩
theorem Dg (l:List UInt8): lb (jQ l)=l:=rfl
theorem Qq (b:ByteArray): jQ (lb b)=b:=rfl
theorem EH (b:ByteArray): (lb b).length=b.size:=by
 unfold lb
 rw[Array.length_toList]
 rfl
theorem Pb {a b:ByteArray}(h:lb a=lb b): a=b:=by
 apply ByteArray.ext
 exact Array.ext' h
theorem DD (b:ByteArray)(i j:Nat): lb (b.extract i j)=((lb b).drop i).take (j-i):=by
 unfold lb
 rw[ByteArray.data_extract,Array.toList_extract,List.extract_eq_take_drop]
theorem xD (a b:ByteArray): (a.toList==b.toList)=decide (a=b):=by
 rw[Bool.eq_iff_iff,beq_iff_eq,decide_eq_true_eq]
 refine⟨λh=>?_,λh=>by rw[h]⟩
 rw[ByteArray.toList_eq,ByteArray.toList_eq]at h
 exact Pb h
def Cj (c:UInt8): List UInt8->List UInt8->List (List UInt8)
 |cur,[]=>[cur]
 |cur,x::l=>if x=c then cur::Cj c [] l else Cj c (cur++[x]) l
theorem EV {c:UInt8}: ∀ {A:List UInt8} (cur l:List UInt8),c∉A->Cj c cur (A++l)=Cj c (cur++A) l
 |[],cur,l,_=>by simp
 |x::A,cur,l,h=>by
  have a:¬x=c:=λe=>h (by rw[e];exact List.mem_cons_self ..)
  rw[List.cons_append,Cj,if_neg a,EV _ _ (λa=>h (List.mem_cons_of_mem _ a))]
  simp
theorem OK (c:UInt8)(cur l:List UInt8): Cj c cur (c::l)=cur::Cj c [] l:=by rw[Cj,if_pos rfl]
theorem Cs {c:UInt8}{A:List UInt8}(h:c∉A): Cj c [] A=[A]:=by
 have:=EV (A:=A) [] [] h
 rw[List.append_nil,List.nil_append]at this
 rw[this,Cj]
theorem Ib {c:UInt8}{A B:List UInt8}(h:c∉A): Cj c [] (A++c::B)=A::Cj c [] B:=by rw[EV _ _ h,OK,List.nil_append]
theorem EO (c:UInt8): ∀l:List UInt8,(Lib.index l [c]=-1/\c∉l)\/∃A B,l=A++c::B/\c∉A/\Lib.index l [c]=A.length
 |[]=>.inl ⟨rfl,by simp⟩
 |b::l=>by
  by_cases h:c=b
  ·subst h
   exact .inr ⟨[],l,rfl,by simp,by simp[Lib.index,List.isPrefixOf]⟩
  ·have f:([c]:List UInt8).isPrefixOf (b::l)=false:=by simp[List.isPrefixOf,h]
   rcases EO c l with⟨a,d⟩|⟨A,B,a,d,g⟩
   ·exact .inl ⟨by rw[Lib.index,f,a];rfl,by simp[h,d]⟩
   ·refine .inr ⟨b::A,B,by rw[a];rfl,by simp[h,d],?_⟩
    rw[Lib.index,f,g]
    rw[if_neg (by simp),if_neg (λe=>by have:=beq_iff_eq.1 e;omega),List.length_cons]
    omega
theorem Nd (c:UInt8): ∀(k:Nat) (s:ByteArray),Lib.countB s ⟨#[c]⟩=k->(Lib.splitB ⟨#[c]⟩ 0 k s).map lb=Cj c [] (lb s):=by
 have hd:lb (⟨#[c]⟩:ByteArray)=[c]:=rfl
 have a:(⟨#[c]⟩:ByteArray).size=1:=rfl
 intro k
 induction k with
 |zero=>
  intro s f
  rcases EO c (lb s)with⟨b,d⟩|⟨A,B,b,d,e⟩
  ·rw[Lib.splitB_zero,List.map_singleton,Cs d]
  ·have:=Lib.countB_hit s ⟨#[c]⟩ A.length (by rw[a];omega) e
   omega
 |succ k g=>
  intro s f
  rcases EO c (lb s)with⟨b,d⟩|⟨A,B,b,d,e⟩
  ·have:=Lib.countB_miss s ⟨#[c]⟩ b
   omega
  ·have h:=Lib.countB_hit s ⟨#[c]⟩ A.length (by rw[a];omega) e
   have hl:=EH s
   rw[b,List.length_append,List.length_cons]at hl
   rw[Lib.splitB_hit (⟨#[c]⟩:ByteArray) 0 k s A.length e,List.map_cons,DD,g _ (by omega),DD,a,b,Ib d]
   congr 1
   ·simp
   ·congr 1
    rw[List.drop_append,List.drop_of_length_le (by omega),List.nil_append,show A.length+1-A.length=1 by omega,List.drop_succ_cons,List.drop_zero,List.take_of_length_le (by omega)]
theorem Di {s:ByteArray}{b:UInt8}(hs:s.size<=1073741824): uq s ⟨#[b]⟩=some ((Cj b [] (lb s)).map jQ):=by
 have d:=Lib.countB_le (⟨#[b]⟩:ByteArray) (Nat.le_refl 1) s.size s (Nat.le_refl _)
 unfold uq
 rw[if_pos ⟨⟨by omega,Nat.le_refl 1⟩,by omega⟩]
 congr 1
 have c:=Nd b _ s rfl
 have a:=congrArg (List.map jQ) c
 rw[List.map_map]at a
 rw[<- a]
 conv=>lhs;rw[<- List.map_id (Lib.splitB ⟨#[b]⟩ 0 (Lib.countB s ⟨#[b]⟩) s)]
 exact List.map_congr_left λx _=>(Qq x).symm
theorem vt {α:Type}{xs:List α}{i:Nat}{x:α}(h:xs[i]?=some x): idx xs (i:Int)=some x:=by
 unfold idx
 rw[if_neg (by omega),Int.toNat_natCast]
 exact h
theorem H3 {xs:List ByteArray}(hl:xs.length<=1000)(h:∀x∈xs,x.size≠0): ia xs ⟨#[]⟩=some false:=by
 have key:∀(k i:Nat),i+k=xs.length->run (fG xs ⟨#[]⟩) (i:Int)=some (.bf (xs.length:Int)):=by
  intro k
  induction k with
  |zero=>
   intro i hi
   obtain rfl:i=xs.length:=by omega
   refine aZ ?_
   simp only[fG]
   rw[decide_eq_false (by omega),cond_false]
  |succ k b=>
   intro i hi
   have c:xs[i]?=some (xs[i]'(by omega)):=List.getElem?_eq_getElem (by omega)
   have a:=h (xs[i]'(by omega)) (List.getElem_mem _)
   refine(bZ (s':=((i+1:Nat):Int)) ?_).trans (b (i+1) (by omega))
   simp only[fG]
   rw[decide_eq_true (by omega),cond_true,vt c,D,xD,decide_eq_false (λe=>a (by rw[<- e];rfl)),cond_false,dh (by omega)]
 have:=key xs.length 0 (by omega)
 rw[show((0:Nat):Int)=0 from rfl]at this
 unfold ia kQ
 rw[this]
 rfl
theorem GG {S:List ByteArray}(a:1<=S.length)(b:S.length<=600)(h:∀x∈S,x.size≠0): nH S=some true:=by
 unfold nH jn dM
 rw[D,decide_eq_true (by omega),cond_true,D,decide_eq_true (by omega),cond_true,H3 (by omega) h]
 rfl
structure PI (S T:List ByteArray)(at_:List Int)(k p:Nat): Prop where
 len:at_.length=k
 ok:∀(i:Nat) (a:Int),at_[i]?=some a->0<=a/\a<p/\T[a.toNat]?=S[i]?
 inc:∀(i:Nat) (a b:Int),at_[i]?=some a->at_[i+1]?=some b->a<b
 zero:0<k->at_[0]?=some 0
theorem Mv {S T:List ByteArray}(L:T.length<=600)(M:1<=S.length)(F:S.length<=600)(f:Nat->Nat)(f0:f 0=0)(G:∀i,i+1<S.length->f i<f (i+1))(w:∀i,i<S.length->T[f i]?=S[i]?):
  ∀(d p k:Nat) (at_:List Int),p+d=T.length->k<=S.length->PI S T at_ k p->(k<S.length->p<=f k)->(k=0->p=0)->
   ∃at' s,run (fM S T) (at_,(p:Int))=some (.bf (at',s))/\PI S T at' S.length T.length:=by
 intro d
 induction d with
 |zero=>
  intro p k at_ H z E v _
  obtain rfl:p=T.length:=by omega
  have c:k=S.length:=by
   refine Classical.byContradiction λI=>?_
   have N:=v (by omega)
   have A:=w k (by omega)
   rw[List.getElem?_eq_none (by omega),List.getElem?_eq_getElem (by omega)]at A
   cases A
  refine⟨at_,(T.length:Int),aZ ?_,c▸E⟩
  simp only[fM]
  rw[decide_eq_false (by omega),cond_false]
 |succ d B=>
  intro p k at_ H z E v C
  have hl:=E.len
  have g:T[p]?=some (T[p]'(by omega)):=List.getElem?_eq_getElem (by omega)
  by_cases c:k<S.length
  ·have j:S[k]?=some (S[k]'c):=List.getElem?_eq_getElem c
   have l:idx S (at_.length:Int)=some (S[k]'c):=by rw[hl];exact vt j
   by_cases he:T[p]'(by omega)=S[k]'c
   ·have x:PI S T (at_++[(p:Int)]) (k+1) (p+1):=by
     refine⟨by simp[hl],λi a hi=>?_,λi a b hi r=>?_,λ_=>?_⟩
     ·by_cases m:i<at_.length
      ·rw[List.getElem?_append_left m]at hi
       obtain⟨t,a2,a3⟩:=E.ok i a hi
       exact⟨t,by omega,a3⟩
      ·have n:=(List.getElem?_eq_some_iff.1 hi).1
       have u:i=at_.length:=by simp at n;omega
       subst u
       rw[List.getElem?_append_right (Nat.le_refl _),Nat.sub_self]at hi
       simp only[List.getElem?_cons_zero,Option.some.injEq]at hi
       subst hi
       refine⟨by omega,by omega,?_⟩
       rw[Int.toNat_natCast,g,hl,j,he]
     ·have n:=(List.getElem?_eq_some_iff.1 r).1
      have y:i<at_.length:=by simp at n;omega
      rw[List.getElem?_append_left y]at hi
      by_cases m:i+1<at_.length
      ·rw[List.getElem?_append_left m]at r
       exact E.inc i a b hi r
      ·have:i+1=at_.length:=by omega
       rw[List.getElem?_append_right (by omega),this,Nat.sub_self]at r
       simp only[List.getElem?_cons_zero,Option.some.injEq]at r
       subst r
       have:=(E.ok i a hi).2.1
       omega
     ·by_cases o:k=0
      ·have q:=C o
       subst q
       have:at_=[]:=List.eq_nil_of_length_eq_zero (by omega)
       subst this
       rfl
      ·rw[List.getElem?_append_left (by omega)]
       exact E.zero (by omega)
    obtain⟨at',s,g1,g2⟩:=B (p+1) (k+1) (at_++[(p:Int)]) (by omega) (by omega) x (λh=>by
     have:=G k h
     have:=v c
     omega) (λh=>by omega)
    refine⟨at',s,(bZ (s':=(at_++[(p:Int)],((p+1:Nat):Int))) ?_).trans g1,g2⟩
    simp only[fM]
    rw[decide_eq_true (by omega),cond_true,decide_eq_true (by omega),cond_true,vt g,D,l,D,xD,decide_eq_true he,cond_true,de (by simp;omega),D,decide_eq_false (by simp;omega),cond_false,dh (by omega)]
   ·have o:k≠0:=λe=>by
     subst e
     have q:=C rfl
     subst q
     have:=w 0 c
     rw[f0,g,j]at this
     exact he (Option.some.inj this)
    have J:p≠f k:=λe=>by
     have:=w k c
     rw[<- e,g,j]at this
     exact he (Option.some.inj this)
    have K:=v c
    have x:PI S T at_ k (p+1):=⟨hl,λi a hi=>by
     obtain⟨t,a2,a3⟩:=E.ok i a hi
     exact⟨t,by omega,a3⟩,E.inc,E.zero⟩
    obtain⟨at',s,g1,g2⟩:=B (p+1) k at_ (by omega) z x (λ_=>by omega) (λh=>absurd h o)
    refine⟨at',s,(bZ (s':=(at_,((p+1:Nat):Int))) ?_).trans g1,g2⟩
    simp only[fM]
    rw[decide_eq_true (by omega),cond_true,decide_eq_true (by omega),cond_true,vt g,D,l,D,xD,decide_eq_false he,cond_false,decide_eq_false (by omega),cond_false,dh (by omega)]
  ·obtain rfl:k=S.length:=by omega
   refine⟨at_,(p:Int),aZ ?_,⟨hl,λi a hi=>?_,E.inc,E.zero⟩⟩
   ·simp only[fM]
    rw[decide_eq_true (by omega),cond_true,decide_eq_false (by omega),cond_false]
   ·obtain⟨t,a2,a3⟩:=E.ok i a hi
    exact⟨t,by omega,a3⟩
theorem NC {S T:List ByteArray}(s:T.length<=600)(l:1<=S.length)(d:S.length<=600)(t:∀x∈S,x.size≠0)(f:Nat->Nat)(f0:f 0=0)(u:∀i,i+1<S.length->f i<f (i+1))(v:∀i,i<S.length->T[f i]?=S[i]?):
  ∃at_,fk S T=some (at_,0)/\fX S T at_=some true:=by
 obtain⟨at_,A,g1,E⟩:=Mv s l d f f0 u v T.length 0 0 [] (by omega) (by omega) ⟨rfl,λi a h=>by simp at h,λi a b h=>by simp at h,λh=>by omega⟩ (λ_=>by omega) (λ_=>rfl)
 rw[show((0:Nat):Int)=0 from rfl]at g1
 have e:=GG l d t
 have hl:=E.len
 refine⟨at_,?_,?_⟩
 ·unfold fk
  rw[e,D,Bool.not_true,cond_false,decide_eq_false (by omega),cond_false,D]
  simp only[Out.elim]
  rw[g1,D]
  show(cond (decide ((at_.length:Int)<(S.length:Int))) (some (([]:List Int),(3:Int))) (some (at_,0)))=_
  rw[decide_eq_false (by omega),cond_false]
 ·have w:idx at_ 0=some 0:=vt (i:=0) (E.zero l)
  have y:at_.length<=600:=by omega
  have get:∀i,i<at_.length->∃a,at_[i]?=some a:=λi hi=>⟨_,List.getElem?_eq_getElem hi⟩
  have m:∀(k i:Nat),1<=i->i+k=at_.length->run (nA at_) (i:Int)=some (.bf (at_.length:Int)):=by
   intro k
   induction k with
   |zero=>
    intro i _ hi
    obtain rfl:i=at_.length:=by omega
    refine aZ ?_
    simp only[nA]
    rw[decide_eq_false (by omega),cond_false]
   |succ k n=>
    intro i B hi
    obtain⟨a,c⟩:=get (i-1) (by omega)
    obtain⟨b,q⟩:=get i (by omega)
    have:=E.inc (i-1) a b c (by rw[show i-1+1=i by omega];exact q)
    refine(bZ (s':=((i+1:Nat):Int)) ?_).trans (n (i+1) (by omega) (by omega))
    simp only[nA]
    rw[decide_eq_true (by omega),cond_true,bC (by omega) (by omega),show(i:Int)-1=((i-1:Nat):Int)by omega,vt c,D,vt q,D,decide_eq_false (by omega),cond_false,dh (by omega)]
  have g:so at_=some true:=by
   unfold so
   have:=m (at_.length-1) 1 (by omega) (by omega)
   rw[show((1:Nat):Int)=1 from rfl]at this
   rw[this]
   rfl
  have o:qq at_=some true:=by
   unfold qq
   rw[decide_eq_true (by omega),cond_true,w,D,decide_eq_true rfl,cond_true,g]
   rfl
  have z:1<=T.length:=by
   have:=(E.ok 0 0 (E.zero l)).2.1
   omega
  have hw:iB at_ 0 (ah ((T.length:Int)-1))=some true:=by
   rw[oZ _ _ _ (by omega),bC (by omega) (by omega)]
   congr 1
   refine List.all_eq_true.2 λa c=>?_
   obtain⟨i,hi⟩:=List.mem_iff_getElem?.1 c
   obtain⟨r,a2,_⟩:=E.ok i a hi
   unfold mJ
   rw[decide_eq_true r,decide_eq_true (by omega)]
   rfl
  have Jp:∀(k i:Nat),i+k=at_.length->run (jY S T at_) (i:Int)=some (.bf (at_.length:Int)):=by
   intro k
   induction k with
   |zero=>
    intro i hi
    obtain rfl:i=at_.length:=by omega
    refine aZ ?_
    simp only[jY]
    rw[decide_eq_false (by omega),cond_false]
   |succ k n=>
    intro i hi
    obtain⟨a,c⟩:=get i (by omega)
    obtain⟨r,a2,a3⟩:=E.ok i a c
    have j:S[i]?=some (S[i]'(by omega)):=List.getElem?_eq_getElem (by omega)
    have p:idx T a=some (S[i]'(by omega)):=by
     unfold idx
     rw[if_neg (by omega),a3,j]
    refine(bZ (s':=((i+1:Nat):Int)) ?_).trans (n (i+1) (by omega))
    simp only[jY]
    rw[decide_eq_true (by omega),cond_true,vt c,D,p,D,vt j,D,xD,decide_eq_true rfl,Bool.not_true,cond_false,dh (by omega)]
  have:=Jp at_.length 0 (by omega)
  rw[show((0:Nat):Int)=0 from rfl]at this
  unfold fX jn
  rw[e,D,Bool.not_true,cond_false,decide_eq_false (by omega),cond_false,decide_eq_false (by omega),cond_false,o,D,Bool.not_true,cond_false,D,hw,D,Bool.not_true,cond_false,D]
  simp only[Out.elim]
  rw[this]
  rfl
end Go.Fn
namespace Go.Tc
open Go
theorem tW {α:Type}{xs:List α}{lo:Nat}(h:lo<=xs.length): jV xs (lo:Int) (xs.length:Int)=some (xs.drop lo):=by
 rw[AM h (Nat.le_refl _),List.take_length]
end Go.Tc
namespace Go.Fn
open Go Go.Tc
theorem uC (xs:List Int)(x:Int)(h:xs.length<=1048576): bY xs x=some (match xs.findIdx? (λy=>decide (x=y))with|none=>-1|some i=>(i:Int)):=by
 unfold bY
 refine Dj xs (by omega) (λy=>decide (x=y)) (λi hi=>?_) (by simp[iI])
 simp only[iI,Int.ofNat_lt,hi,decide_true,cond_true,eh hi,D]
 by_cases e:x=xs[i]
 ·simp[e]
 ·simp[e]
end Go.Fn
namespace Go.Fn
open Go Go.Tc
set_option linter.unusedVariables false
theorem zK (x:Int)(xs:List Int): bR (x::xs)=if bR xs=[]/\x=0 then []else x::bR xs:=by
 unfold bR
 rw[List.reverse_cons]
 generalize xs.reverse=ys
 induction ys with
 |nil=>
  by_cases h:x=0
  ·simp[h]
  ·simp[h]
 |cons y ys a=>
  rw[List.cons_append,List.dropWhile_cons,List.dropWhile_cons]
  by_cases h:y=0
  ·simp only[h,decide_true,if_true]
   exact a
  ·simp[h]
theorem zk:∀ys:List Int,(∀j,ys.getD j 0=0)->bR ys=[]
 |[],_=>rfl
 |y::ys,h=>by
  have a:y=0:=h 0
  rw[zK,zk ys (λj=>h (j+1)),if_pos ⟨rfl,a⟩]
theorem CF:∀xs ys:List Int,(∀j,xs.getD j 0=ys.getD j 0)->bR xs=bR ys
 |[],ys,h=>(zk ys (λj=>(h j).symm)).symm
 |x::xs,[],h=>zk (x::xs) h
 |x::xs,y::ys,h=>by
  obtain rfl:x=y:=h 0
  rw[zK,zK,CF xs ys (λj=>h (j+1))]
def yy (k:Nat): Int:=if k%2=0 then -((k / 2:Nat):Int)else ((k / 2:Nat):Int)
theorem Lx (z:Int): yy (pn z)=z:=by unfold yy pn;split<;>split<;>omega
theorem Ly {k:Nat}(h:1<=k): pn (yy k)=k:=by unfold yy pn;split<;>split<;>omega
theorem H4 (z:Int): 1<=pn z:=by unfold pn;split<;>omega
theorem Ho {k:Nat}(a:k<=100000): mN (k:Int)=some (yy k):=by
 unfold mN yy
 have e1:Int.tmod (k:Int) 2=((k%2:Nat):Int):=rfl
 have e2:Int.tdiv (-(k:Int)) 2=-((k / 2:Nat):Int):=by rw[Int.neg_tdiv];rfl
 rw[e1]
 by_cases h:k%2=0
 ·rw[decide_eq_true (by omega),cond_true,if_pos h,bC (n:=0-(k:Int)) (by omega) (by omega),show(0:Int)-k=-(k:Int)by omega,e2,bC (by omega) (by omega)]
 ·rw[decide_eq_false (by omega),cond_false,if_neg h,bC (n:=(k:Int)-1) (by omega) (by omega),show(k:Int)-1=((k-1:Nat):Int)by omega]
  have e3:Int.tdiv (((k-1:Nat):Nat):Int) 2=(((k-1) / 2:Nat):Int):=rfl
  rw[e3,bC (by omega) (by omega)]
  congr 1
  omega
theorem Jq {cells:List Int}(hl:cells.length<=1000): ∀(k i:Nat) (M:List (Int×Int)),i+k=cells.length->1<=i->(∀z,(fA M z).getD 0=if pn z<i then cells.getD (pn z) 0 else 0)->∃c,run (kA cells) (M,(i:Int))=some (.bf (c,(cells.length:Int)))/\∀z,(fA c z).getD 0=cells.getD (pn z) 0
 |0,i,M,hi,d,b=>by
  obtain rfl:i=cells.length:=by omega
  refine⟨M,aZ (by simp[kA]),λz=>?_⟩
  rw[b]
  split
  ·rfl
  ·rw[qF (by assumption)]
 |k+1,i,M,hi,d,b=>by
  have a:i<cells.length:=by omega
  have g:kA cells (M,(i:Int))=some (.inl (lY M (yy i) cells[i],((i+1:Nat):Int))):=by
   simp only[kA]
   rw[decide_eq_true (by omega),cond_true,eh a,D,Ho (by omega),D,dh (by omega)]
  rw[bZ g]
  refine Jq hl k (i+1) _ (by omega) (by omega) λz=>?_
  rw[BK]
  by_cases e:yy i=z
  ·rw[if_pos e,<- e,Ly d,if_pos (by omega),su a]
   rfl
  ·rw[if_neg e,b]
   have:pn z≠i:=λh=>e (by rw[<- h,Lx])
   by_cases f:pn z<i
   ·rw[if_pos f,if_pos (by omega)]
   ·rw[if_neg f,if_neg (by omega)]
def lu (cells:List Int)(g:Nat->Int)(N:Nat): List Int:=(List.range N).map λk=>cells.getD (pn (g k)) 0
theorem DC (cells:List Int)(g:Nat->Int)(N:Nat): lu cells g (N+1)=lu cells g N++[cells.getD (pn (g N)) 0]:=by
 unfold lu
 rw[List.range_succ,List.map_append]
 rfl
theorem tS (cells:List Int)(g:Nat->Int)(N:Nat): (lu cells g N).length=N:=by simp[lu]
theorem zM (cells:List Int)(g:Nat->Int)(N j:Nat): (lu cells g N).getD j 0=if j<N then cells.getD (pn (g j)) 0 else 0:=by
 split
 ·rename_i h
  rw[su (by rw[tS];exact h)]
  simp[lu]
 ·rename_i h
  rw[qF (by rw[tS];exact h)]
theorem Hc {cells:List Int}(hl:cells.length<=1000){h:Int}(b:-1000<=h/\h<=1000){s5:List (Int×Int)×Int}(a:∀z,(fA s5.1 z).getD 0=cells.getD (pn z) 0): ∀(k i:Nat),i+k=cells.length+1->run (kx cells h s5) (lu cells (λk=>h-1-k) i,lu cells (λk=>h+k) i,(i:Int))=some (.bf (lu cells (λk=>h-1-k) (cells.length+1),lu cells (λk=>h+k) (cells.length+1),((cells.length+1:Nat):Int)))
 |0,i,hi=>by
  obtain rfl:i=cells.length+1:=by omega
  refine aZ ?_
  simp only[kx]
  rw[dh (by omega),decide_eq_false (by omega)]
  rfl
 |k+1,i,hi=>by
  have c:kx cells h s5 (lu cells (λk=>h-1-k) i,lu cells (λk=>h+k) i,(i:Int))=some (.inl (lu cells (λk=>h-1-k) (i+1),lu cells (λk=>h+k) (i+1),((i+1:Nat):Int))):=by
   simp only[kx]
   rw[dh (by omega),decide_eq_true (by omega),cond_true,de (by rw[tS];simp;omega),D,de (by rw[tS];simp;omega),D,a,a,dh (by omega),bC (n:=h+i) (by omega) (by omega),bC (n:=h-1) (by omega) (by omega),bC (n:=h-1-i) (by omega) (by omega),DC,DC]
  rw[bZ c]
  exact Hc hl b a k (i+1) (by omega)
theorem zL (x:Int){cells:List Int}(i:1<=cells.length)(hl:cells.length<=500){H:Nat}(j:H<=500):
  qL x cells (H:Int)=some (if 200<(bR (lu cells (λk=>yy H-1-k) (cells.length+1))).length\/200<(bR (lu cells (λk=>yy H+k) (cells.length+1))).length then (⟨0,[],[]⟩,5)else (⟨x,bR (lu cells (λk=>yy H-1-k) (cells.length+1)),bR (lu cells (λk=>yy H+k) (cells.length+1))⟩,0)):=by
 have b:-1000<=yy H/\yy H<=1000:=by unfold yy;split<;>omega
 obtain⟨f,a,c⟩:=Jq (cells:=cells) (by omega) (cells.length-1) 1 [] (by omega) (by omega) (λz=>by
  have:=H4 z
  rw[if_neg (by omega)]
  rfl)
 have d:=Hc (cells:=cells) (by omega) b (s5:=(f,(cells.length:Int))) c (cells.length+1) 0 (by omega)
 unfold qL
 rw[Ho (by omega),D]
 have c1:((1:Nat):Int)=1:=rfl
 have c0:((0:Nat):Int)=0:=rfl
 rw[c1]at a
 rw[a,D]
 simp only[Out.elim]
 rw[c0]at d
 have e:∀g,lu cells g 0=[]:=λg=>rfl
 rw[e,e]at d
 rw[d,D]
 simp only[Out.elim]
 rw[jB _ (by rw[tS];omega),D,jB _ (by rw[tS];omega),D,D]
 generalize bR (lu cells (λk=>yy H-1-k) (cells.length+1))=A
 generalize bR (lu cells (λk=>yy H+k) (cells.length+1))=B
 simp only[Out.elim]
 by_cases h:200<A.length
 ·rw[decide_eq_true (by omega),cond_true,if_pos (.inl h)]
 ·by_cases b:200<B.length
  ·rw[decide_eq_false (by omega),cond_false,decide_eq_true (by omega),cond_true,if_pos (.inr b)]
  ·rw[decide_eq_false (by omega),cond_false,decide_eq_false (by omega),cond_false,if_neg (by omega)]
theorem DK (xs:List Int)(x:Int)(h:xs.length<=1048576): iG xs x=some (decide (∃y∈xs,y=x)):=by
 unfold iG
 rw[uC xs x h,D]
 cases hi:xs.findIdx? (λy=>decide (x=y))with
 |none=>
  have:=List.findIdx?_eq_none_iff.1 hi
  rw[decide_eq_false (by decide),decide_eq_false]
  rintro⟨y,a,rfl⟩
  have:=this y a
  simp at this
 |some i=>
  obtain⟨c,b,_⟩:=List.findIdx?_eq_some_iff_getElem.1 hi
  rw[decide_eq_true (by simp only;omega),decide_eq_true ⟨xs[i],List.getElem_mem _,(of_decide_eq_true b).symm⟩]
section
variable {m:O}{s q Q:Nat}{ps:List C}{S k:Int}{rules:List ai}
theorem mK (d:U): (d.Left.reverse++d.ak).length=d.Left.length+d.ak.length:=by simp
theorem MI (V:ve (xk q) ps)(G:ps.length=Q){d:U}(hd:ln (s+1) Q d): ∃r,kX m ⟨S,k,rules,ps,sI.mk⟩ d=some r/\(r.2≠0\/r.2=0/\ln (s+1) q r.1):=by
 obtain⟨i,hi,v⟩:=hd.cf.st
 have hl:=hd.cf.ll;have hr:=hd.cf.rl
 have t:idx ps d.State=some ps[i]:=by rw[hi,eh (by omega)]
 have w:=V _ (List.getElem_mem (l:=ps) (n:=i) (by omega))
 obtain⟨x,A⟩:=w.2
 have c:∃u b,lJ m ⟨S,k,rules,ps,sI.mk⟩ d=some ((if b=true then ps[i].q else 0),u,b):=by
  unfold lJ
  simp only[t,D]
  cases decide (ps[i].kind=0)
  ·cases decide (ps[i].kind=5)
   ·exact⟨0,false,rfl⟩
   ·have:=yw d.ak 0
    rw[show((0:Nat):Int)=0 from rfl]at this
    rw[cond_false,cond_true,this,D]
    cases decide (d.ak.getD 0 0≠m.I)
    ·exact⟨0,false,rfl⟩
    ·exact⟨1,true,rfl⟩
  ·exact⟨_,true,rfl⟩
 obtain⟨u,b,c⟩:=c
 unfold kX
 rw[c,D]
 cases b
 ·exact⟨_,rfl,.inl (by decide)⟩
 simp only[Bool.not_true,cond_false,if_true]
 have h:([d.Left.reverse,d.ak]:List (List Int)).flatten=d.Left.reverse++d.ak:=by simp
 obtain⟨z,B⟩:∃z,bY (d.Left.reverse++d.ak) m.I=some z:=⟨_,uC _ _ (by rw[mK];omega)⟩
 rw[fB _ (by omega),D,sU _ (by simp) (by rw[h,mK];omega),D,h,B,D]
 by_cases o:z≠0
 ·rw[decide_eq_true o]
  exact⟨_,rfl,.inl (by decide)⟩
 rw[decide_eq_false o,cond_false]
 by_cases E:d.Left.length<1
 ·rw[decide_eq_true (by omega)]
  exact⟨_,rfl,.inl (by decide)⟩
 have p:=F4 (xs:=d.Left.reverse++d.ak) (lo:=1) (by rw[mK];omega)
 rw[show((1:Nat):Int)=1 from rfl]at p
 rw[decide_eq_false (by omega),cond_false,p,D,DK _ _ (by rw[List.length_drop,mK];omega),D]
 cases decide (∃y∈(d.Left.reverse++d.ak).drop 1,y=m.I)
 rotate_left
 ·exact⟨_,rfl,.inl (by decide)⟩
 rw[cond_false]
 cases decide (Int.tmod (d.Left.length:Int) 2=u)
 rotate_left
 ·exact⟨_,rfl,.inl (by decide)⟩
 rw[cond_false,zL _ (by rw[mK];omega) (by rw[mK];omega) (by omega),D]
 refine⟨_,rfl,?_⟩
 have f:∀j:Nat,0<=(d.Left.reverse++d.ak).getD j 0/\(d.Left.reverse++d.ak).getD j 0<((s+1:Nat):Int):=λj=>by
  have e:(d.Left.reverse++d.ak).getD j 0=tp d j:=rfl
  rw[e]
  by_cases F:j<d.Left.length
  ·rw[xv F];exact hd.cf.lf _
  ·rw[tY (by omega)];exact hd.cf.rt _
 have a:∀(g:Nat->Int) (N j:Nat),0<=(bR (lu (d.Left.reverse++d.ak) g N)).getD j 0/\(bR (lu (d.Left.reverse++d.ak) g N)).getD j 0<((s+1:Nat):Int):=λg N j=>by
  rw[kF,zM]
  split
  ·exact f _
  ·omega
 split
 ·exact .inl (by decide)
 ·rename_i H
  refine .inr ⟨rfl,⟨⟨ps[i].q.toNat,by simp only;omega,by omega⟩,a _ _,a _ _,?_,?_⟩,Tm.trim _,Tm.trim _⟩
  ·simp only;omega
  ·simp only;omega
theorem N8 (M:jI m s q)(hs:s<=5)(V:ve (xk q) ps)(a:ps.length=Q){d:U}(hd:ln (s+1) Q d): ∃t,gw d m ⟨S,k,rules,ps,sI.mk⟩=some t:=by
 have b4:=M.b4
 obtain⟨r,hr,b⟩:=MI (m:=m) (S:=S) (k:=k) (rules:=rules) V a hd
 unfold gw
 rw[hr,D]
 rcases b with h|⟨c,e⟩
 ·unfold jR
  rw[decide_eq_true h]
  exact⟨_,rfl⟩
 ·rw[c,Al (by omega) b4 e]
  exact⟨_,rfl⟩
theorem NA (M:jI m s q){c d:U}{h:Int}{T:Int->Int}(F:Bd s ps c d h T)(f:ln s q c)(hd:ln (s+1) Q d): kX m ⟨S,k,rules,ps,sI.mk⟩ d=some (c,0):=by
 have b1:=M.b1
 have J:=M.hs
 have hl:=hd.cf.ll;have hr:=hd.cf.rl
 have t:=F.hd
 have G:=H4 h
 obtain⟨i,hi,K⟩:=hd.cf.st
 have g:=F.mr.val f.cf
 have a:d.ak.getD 0 0=T h:=by rw[<- Jw,t,F.J0]
 have u:lJ m ⟨S,k,rules,ps,sI.mk⟩ d=some (c.State,(if 0<=h then 0 else 1),true):=by
  unfold lJ
  rcases F.pl with⟨L,v,l⟩|⟨hh,l⟩
  ·rw[hi,Int.toNat_natCast]at l
   obtain⟨g1,g2⟩:=List.getElem?_eq_some_iff.1 l
   have b:idx ps d.State=some ⟨0,c.State,L⟩:=by rw[hi,eh g1,g2]
   simp only[b,D]
   rw[<- v]
   rfl
  ·rw[hi,Int.toNat_natCast]at l
   obtain⟨g1,g2⟩:=List.getElem?_eq_some_iff.1 l
   have b:idx ps d.State=some ⟨5,c.State,0⟩:=by rw[hi,eh g1,g2]
   have H:=yw d.ak 0
   rw[show((0:Nat):Int)=0 from rfl]at H
   simp only[b,D]
   rw[H,D,a,decide_eq_true (show T h≠m.I by have:=g h;omega),if_neg (by omega)]
   rfl
 unfold kX
 rw[u,D]
 simp only[Bool.not_true,cond_false]
 have n:([d.Left.reverse,d.ak]:List (List Int)).flatten=d.Left.reverse++d.ak:=by simp
 have P:=mK d
 have e:∀j,(d.Left.reverse++d.ak).getD j 0=tp d j:=λj=>rfl
 have w:List.findIdx? (λy=>decide (m.I=y)) (d.Left.reverse++d.ak)=some 0:=by
  refine List.findIdx?_eq_some_iff_getElem.2 ⟨by omega,decide_eq_true ?_,λj x=>by omega⟩
  have:=e 0
  rw[su (by omega),F.QE]at this
  omega
 have A:decide (∃y∈(d.Left.reverse++d.ak).drop 1,y=m.I)=false:=by
  refine decide_eq_false ?_
  rintro⟨y,R,rfl⟩
  obtain⟨j,x⟩:=List.mem_iff_getElem?.1 R
  rw[List.getElem?_drop]at x
  have B:=e (1+j)
  rw[List.getD_eq_getElem?_getD,x,Option.getD_some]at B
  have V:=F.J0 (yy (1+j))
  rw[Ly (by omega),<- B]at V
  have:=g (yy (1+j))
  omega
 have o:=F4 (xs:=d.Left.reverse++d.ak) (lo:=1) (by rw[mK];omega)
 rw[show((1:Nat):Int)=1 from rfl]at o
 rw[fB _ (by omega),D,sU _ (by simp) (by rw[n,mK];omega),D,n,uC _ _ (by rw[mK];omega),D,w]
 simp only
 rw[decide_eq_false (by simp),cond_false,decide_eq_false (by omega),cond_false,o,D,DK _ _ (by rw[List.length_drop,mK];omega),D,A,cond_false]
 have E:Int.tmod (d.Left.length:Int) 2=((d.Left.length%2:Nat):Int):=rfl
 rw[E,decide_eq_false (by rw[t];unfold pn;split<;>omega),cond_false,zL _ (by omega) (by omega) (by omega),D,t,Lx]
 have W:bR c.Left=c.Left:=f.lt
 have X:bR c.ak=c.ak:=f.rt
 have p:∀z:Int,(d.Left.reverse++d.ak).length<=pn z->T z=0:=λz hz=>by
  rw[<- F.J0,<- e,qF (by omega)]
 have r:pn h<=(d.Left.reverse++d.ak).length:=by omega
 generalize Y:(d.Left.reverse++d.ak).length=N at *
 have Z:bR (lu (d.Left.reverse++d.ak) (λk=>h-1-k) (N+1))=c.Left:=by
  rw[<- W]
  refine CF _ _ λj=>?_
  rw[zM,e,F.J0,F.mr.lf]
  split
  ·rfl
  ·rw[p]
   unfold pn at r ⊢
   split at r<;>split<;>omega
 have eR:bR (lu (d.Left.reverse++d.ak) (λk=>h+k) (N+1))=c.ak:=by
  rw[<- X]
  refine CF _ _ λj=>?_
  rw[zM,e,F.J0,F.mr.rt]
  split
  ·rfl
  ·rw[p]
   unfold pn at r ⊢
   split at r<;>split<;>omega
 have h1:=f.cf.ll;have B:=f.cf.rl
 rw[Z,eR,if_neg (by omega)]
theorem PZ (M:jI m s q)(hs:s<=5){c d:U}{h:Int}{T:Int->Int}(F:Bd s ps c d h T)(a:ln s q c)(hd:ln (s+1) Q d): gw d m ⟨S,k,rules,ps,sI.mk⟩=some (ctx c):=by
 have b4:=M.b4
 unfold gw
 rw[NA M F a hd,D,Al (by omega) b4 a]
 rfl
end
theorem Ea (f g:Nat->Int): ∀N j,((List.range N).flatMap λi=>[f i,g i]).getD (2*j) 0=(if j<N then f j else 0)/\((List.range N).flatMap λi=>[f i,g i]).getD (2*j+1) 0=if j<N then g j else 0
 |0,j=>⟨rfl,rfl⟩
 |N+1,j=>by
  have hl:((List.range N).flatMap λi=>[f i,g i]).length=2*N:=by rw[wJ _ 2 (λ_=>rfl)];omega
  obtain⟨b,c⟩:=Ea f g N j
  have e:((List.range (N+1)).flatMap λi=>[f i,g i])=((List.range N).flatMap λi=>[f i,g i])++[f N,g N]:=by rw[List.range_succ,List.flatMap_append];rfl
  rw[e,List.getD_eq_getElem?_getD,List.getD_eq_getElem?_getD]
  by_cases a:j<N
  ·rw[List.getElem?_append_left (by omega),List.getElem?_append_left (by omega),<- List.getD_eq_getElem?_getD,<- List.getD_eq_getElem?_getD,b,c,if_pos a,if_pos (by omega),if_pos a,if_pos (by omega)]
   exact⟨rfl,rfl⟩
  ·rw[List.getElem?_append_right (by omega),List.getElem?_append_right (by omega),hl]
   by_cases e:j=N
   ·subst e
    rw[if_pos (by omega),if_pos (by omega),show 2*j-2*j=0 by omega,show 2*j+1-2*j=1 by omega]
    exact⟨rfl,rfl⟩
   ·rw[if_neg (by omega),if_neg (by omega),List.getElem?_eq_none (by simp;omega),List.getElem?_eq_none (by simp;omega)]
    exact⟨rfl,rfl⟩
theorem Bq {m:O}: ∀(n:Nat) (c:U) (l:List U),traceM m n c=some l->1<=l.length/\l.length<=n+1
 |0,c,l,h=>by
  rw[<- Option.some.inj h]
  exact⟨Nat.le_refl _,Nat.le_refl _⟩
 |n+1,c,l,h=>by
  unfold traceM at h
  split at h
  ·rw[<- Option.some.inj h]
   simp
  ·split at h
   ·cases a:traceM m n (bI (ax m c) c)with
    |none=>rw[a]at h;cases h
    |some b=>
     rw[a]at h
     have:=Bq n _ _ a
     rw[<- Option.some.inj h]
     simp
     omega
   ·cases h
theorem IY {s:Nat}{c:U}{ps:List C}{i:Nat}(hi:ps[i]?=some ⟨0,c.State,0⟩): Bd s ps c ⟨(i:Int),[(s:Int)],bR (qb c)⟩ 0 (λz=>if 0<=z then c.ak.getD z.toNat 0 else c.Left.getD (-1-z).toNat 0):=by
 have b:=λj=>Ea (λi=>c.ak.getD i 0) (λi=>c.Left.getD i 0) (max c.Left.length c.ak.length) j
 refine⟨⟨λj=>?_,λj=>?_⟩,rfl,λz=>?_,rfl,.inl ⟨0,rfl,?_⟩⟩
 ·rw[if_pos (by omega)]
  congr 1
  omega
 ·rw[if_neg (by omega)]
  congr 1
  omega
 ·have:=H4 z
  rw[tY (by exact this)]
  show(bR (qb c)).getD (pn z-1) 0=_
  rw[kF]
  unfold qb
  by_cases a:0<=z
  ·have e:pn z-1=2*z.toNat:=by unfold pn;rw[if_pos a];omega
   rw[e,(b _).1,if_pos a]
   split
   ·rfl
   ·rw[qF (by omega)]
  ·have e:pn z-1=2*(-1-z).toNat+1:=by unfold pn;rw[if_neg a];omega
   rw[e,(b _).2,if_neg a]
   split
   ·rfl
   ·rw[qF (by omega)]
 ·exact hi
theorem PS {m:O}{s q:Nat}(M:jI m s q): OD (iu m s) (s+1) (xk q):=by
 intro p v w e x f l h
 obtain⟨a,g,i⟩:=zA f
 have main:∀c:Int,v≠s->nU m s a c v=some (w,e,x)->(0<=w/\w<((s+1:Nat):Int))/\(e=1\/e=-1):=λc b h=>by
  obtain⟨_,d,_,_⟩:=xX M g (show v<s by omega)
  unfold nU at h
  split at h
  ·cases h
  ·rename_i j
   obtain⟨n,o,r⟩:=oW M d j
   split at h
   ·cases h
    exact⟨by omega,.inl rfl⟩
   ·split at h<;>cases h<;>exact⟨by omega,.inr rfl⟩
 rcases i with⟨c,k,rfl⟩|⟨c,k,rfl⟩|rfl|rfl|rfl|rfl
 ·by_cases b:v=s
  ·simp[iu,b]at h
  ·exact main c b (by simpa[iu,b]using h)
 ·by_cases b:v=s
  ·simp[iu,b]at h
  ·rw[LU b]at h
   cases h
   exact⟨by omega,.inl rfl⟩
 ·by_cases b:v=s
  ·rw[b,IF]at h
   cases h
   exact⟨by omega,.inl rfl⟩
  ·rw[LQ b]at h
   cases h
   exact⟨by omega,.inr rfl⟩
 ·by_cases b:v=s
  ·simp[iu,b]at h
  ·rw[LS b]at h
   cases h
   exact⟨by omega,.inl rfl⟩
 ·by_cases b:v=s
  ·simp[iu,b]at h
  ·rw[LC b]at h
   cases h
   exact⟨by omega,.inr rfl⟩
 ·by_cases b:v=s
  ·rw[b,LA]at h
   cases h
   exact⟨by omega,.inl rfl⟩
  ·exact main 1 b (by simpa[iu,b]using h)
theorem Ej {m:O}(hm:kG m=true)(R:m.I=2){c:U}(F:iM m c=true){n:Nat}(hn:n<=500):
  ∃r,nF m c (n:Int)=some r/\(r.2≠0\/r.2=0/\r.1.length<=n+1/\∀k l,3*k<=n->traceM m k c=some l->∃f:Nat->Nat,f 0=0/\(∀i,i+1<l.length->f i<f (i+1))/\∀i,i<l.length->r.1[f i]?=(l.map ctx)[i]?):=by
 obtain⟨s,q,M⟩:=tI hm
 obtain rfl:s=2:=by have:=M.hs;omega
 have hq:=M.hq
 have hlen:=pX F
 have N:=ln.of M F
 have b:=Ck (R0:=Option (U×Int)) (fail:=some ((⟨0,[],[]⟩:U),5)) (by omega:2+1<=100) (IU M) (G5 M) 1002 0 [] [⟨0,0,0⟩] (lY [] ⟨0,0,0⟩ 0) (by omega) (by omega) (by simp) (EC (D6 M)) (CA _) (by simp)
 have e:=Ck (R0:=Option ((List ByteArray)×Int)) (fail:=none) (by omega:2+1<=100) (IU M) (G5 M) 1002 0 [] [⟨0,0,0⟩] (lY [] ⟨0,0,0⟩ 0) (by omega) (by omega) (by simp) (EC (D6 M)) (CA _) (by simp)
 have G:ah (m.I+1)=((2+1:Nat):Int):=by rw[R];rfl
 have e2:pw m=Ah (some ((⟨0,[],[]⟩:U),5)) ((2+1:Nat):Int) (λp v=>jZ p v m) (λa=>a.none) (λa=>a.write) (λa=>a.move) (λa=>(⟨a.bS,a.iJ,a.ef⟩:C)):=by rw[<- G];rfl
 have e4:p7 m=Ah none ((2+1:Nat):Int) (λp v=>jZ p v m) (λa=>a.none) (λa=>a.write) (λa=>a.move) (λa=>(⟨a.bS,a.iJ,a.ef⟩:C)):=by rw[<- G];rfl
 have e3:app ([]:List C) [(⟨0,0,0⟩:C)]=some [⟨0,0,0⟩]:=rfl
 have T:decide (m.I=6)=false:=decide_eq_false (by omega)
 have A:∃w,oP m c=some w/\(w.2≠0\/∃st i,vp (iu m 2) (2+1) 1002 0 ([],[(⟨0,0,0⟩:C)])=some st/\st.2.findIdx? (λz=>decide (z=(⟨0,c.State,0⟩:C)))=some i/\iM ⟨((2+1:Nat):Int),(st.2.length:Int),st.1⟩ ⟨(i:Int),[((2:Nat):Int)],bR (qb c)⟩=true/\w=(⟨(i:Int),[((2:Nat):Int)],bR (qb c)⟩,0)):=by
  unfold oP
  rw[kE m c (kT hm) (lO F),D,hm,F,Bool.and_self,Bool.not_true,cond_false,T,cond_false,e2,e3]
  simp only[AQ,Option.isSome_none,Bool.not_false,cond_true,D,Out.elim,dO,List.length_nil,G]
  have P:((0:Nat):Int)=0:=rfl
  rw[P]at b ⊢
  cases g:vp (iu m 2) (2+1) 1002 0 ([],[(⟨0,0,0⟩:C)])with
  |none=>
   rw[g]at b
   simp only at b
   rw[b]
   exact⟨_,rfl,.inl (by decide)⟩
  |some st=>
   rw[g]at b
   obtain⟨x,b,W,Y,hl,hr⟩:=b
   rw[b]
   simp only[D,Out.elim]
   rw[I9 c hlen.1 hlen.2.1,D]
   simp only[Out.elim]
   have ab:(bR (qb c)).length<=400:=by have:=jm (qb c);rw[FT]at this;omega
   rw[W]
   cases hi:st.2.findIdx? (λz=>decide (z=(⟨0,c.State,0⟩:C)))with
   |none=>exact⟨_,rfl,.inl (by decide)⟩
   |some i=>
    simp only[Option.map_some,Option.isSome_some,Bool.not_true,cond_false,Option.getD_some]
    have J:bR [m.I]=[((2:Nat):Int)]:=by rw[R];exact Kg (by decide)
    rw[jB _ (by simp),D,J,jB _ (by rw[FT];omega),D,yD _ _ (by simp only;omega) (by simp only;omega) ⟨⟨by simp,λ_ _=>trivial⟩,⟨by simp only;omega,λ_ _=>trivial⟩⟩,D]
    cases K:iM ⟨((2+1:Nat):Int),(st.2.length:Int),st.1⟩ ⟨(i:Int),[((2:Nat):Int)],bR (qb c)⟩
    ·exact⟨_,rfl,.inl (by decide)⟩
    ·exact⟨_,rfl,.inr ⟨st,i,rfl,hi,K,rfl⟩⟩
 obtain⟨w,hw,B⟩:=A
 unfold nF
 rw[kE m c (kT hm) (lO F),D,hm,F,Bool.and_self,zJ (by omega) rfl,D,decide_eq_false (λh=>h rfl:¬((0:Int)≠0)),cond_false,hw,D]
 rcases B with Z|⟨st,i,g,hi,K,rfl⟩
 ·rw[decide_eq_true Z,cond_true]
  exact⟨_,rfl,.inl Z⟩
 rw[decide_eq_false (λh=>h rfl:¬((0:Int)≠0)),cond_false,T,cond_false]
 rw[g]at e
 obtain⟨x,e,W,Y,hl,hr⟩:=e
 obtain⟨Q,E,_⟩:=List.findIdx?_eq_some_iff_getElem.1 hi
 have E:=of_decide_eq_true E
 obtain⟨H,aa⟩:=CY 1002 0 ([],[(⟨0,0,0⟩:C)]) st (by simp) ⟨by simp,λi p v _ _ h=>by omega⟩ g
 have V:ve (xk q) st.2:=Y
 have X:jI ⟨((2+1:Nat):Int),(st.2.length:Int),st.1⟩ (2+1) st.2.length:=F8 (by omega) (by omega) (PS M) V (by omega) hl H rfl
 have hT:ln (2+1) st.2.length ⟨(i:Int),[((2:Nat):Int)],bR (qb c)⟩:=ln.of X K
 rw[e4,e3]
 simp only[AQ,Option.isSome_none,Bool.not_false,cond_true,D,Out.elim,dO,List.length_nil]
 have P:((0:Nat):Int)=0:=rfl
 rw[P]at e ⊢
 rw[e]
 simp only[D,Out.elim,G]
 rw[n9 K,D]
 obtain⟨y,hy,j⟩:=Ii X (λd=>gw d m ⟨((2+1:Nat):Int),(st.2.length:Int),st.1,st.2,sI.mk⟩) (λd=>(gw d m ⟨((2+1:Nat):Int),(st.2.length:Int),st.1,st.2,sI.mk⟩).getD ⟨#[]⟩) (λ_=>True) (λd hd _=>by
  obtain⟨t,ht⟩:=N8 (S:=((2+1:Nat):Int)) (k:=(st.2.length:Int)) (rules:=st.1) M (by omega) V rfl hd
  rw[ht]
  rfl) (λ_ _ _ _ _=>trivial) ((i:Int),[((2:Nat):Int)].reverse,(bR (qb c)).reverse) n 0 ⟨(i:Int),[((2:Nat):Int)],bR (qb c)⟩ [] hT trivial (by omega) (by simp;omega)
 rw[show((n+0:Nat):Int)=(n:Int)from rfl,show((0:Nat):Int)=0 from rfl]at hy
 have e5:qj m (n:Int) (st.1,st.2,x,(st.2.length:Int)) (st.2.length:Int) (((2+1:Nat):Int),(st.2.length:Int),st.1,(i:Int),[((2:Nat):Int)].reverse,(bR (qb c)).reverse)=H0 (λd=>gw d m ⟨((2+1:Nat):Int),(st.2.length:Int),st.1,st.2,sI.mk⟩) (n:Int) (((2+1:Nat):Int),(st.2.length:Int),st.1,(i:Int),[((2:Nat):Int)].reverse,(bR (qb c)).reverse):=by rw[<- G];rfl
 rw[e5,hy,D]
 have hF:=IY (s:=2) (c:=c) (ps:=st.2) (i:=i) (by rw[List.getElem?_eq_getElem Q,E])
 cases o:traceM ⟨((2+1:Nat):Int),(st.2.length:Int),st.1⟩ n ⟨(i:Int),[((2:Nat):Int)],bR (qb c)⟩with
 |none=>
  rw[o]at j
  subst j
  exact⟨_,rfl,.inl (by decide)⟩
 |some L=>
  rw[o]at j
  obtain⟨u,rfl,h3⟩:=j
  refine⟨(u.2.2.2.2,0),rfl,.inr ⟨rfl,?_,λk l hk hl=>?_⟩⟩
  ·rw[h3,List.nil_append,List.length_map]
   exact(Bq n _ _ o).2
  ·obtain⟨f,f0,fm,fT⟩:=Jk M X H k n c _ 0 _ l L hF N hT hk hl o
   refine⟨f,f0,fm,λi hi=>?_⟩
   obtain⟨d',h',T',g1,g2,g3,g4⟩:=fT i l[i] (List.getElem?_eq_getElem hi)
   simp only
   rw[h3,List.nil_append,List.getElem?_map,g1,List.getElem?_map,List.getElem?_eq_getElem hi,Option.map_some,Option.map_some,PZ M (by omega) g2 g3 g4]
   rfl
def jK (r:ai): Prop:=r=cn\/(r.Write=0\/r.Write=1)/\(r.Move=1\/r.Move=-1)/\(r.Next=0\/r.Next=1)
def qK (r:ai): List UInt8:=if r=cn then [45,45,45]else [UInt8.ofNat (48+r.Write.toNat),if r.Move<0 then 76 else 82,UInt8.ofNat (48+r.Next.toNat)]
theorem zI {P:ai->Prop}(b:P cn)(h:∀w a nx:Int,(w=0\/w=1)->(a=1\/a=-1)->(nx=0\/nx=1)->P ⟨w,a,nx⟩){r:ai}(hr:jK r): P r:=by
 rcases hr with rfl|⟨c,d,e⟩
 ·exact b
 ·exact h r.Write r.Move r.Next c d e
theorem Fj {r:ai}(h:jK r): qH r=some (jQ (qK r)):=by
 refine zI (P:=λr=>qH r=some (jQ (qK r))) (by kernel_rfl) ?_ h
 rintro w a nx (rfl|rfl) (rfl|rfl) (rfl|rfl)<;>kernel_rfl
theorem F0 {r:ai}(h:jK r): qG (jQ (qK r))=some r:=by
 refine zI (P:=λr=>qG (jQ (qK r))=some r) (by kernel_rfl) ?_ h
 rintro w a nx (rfl|rfl) (rfl|rfl) (rfl|rfl)<;>kernel_rfl
theorem mm {r:ai}(h:jK r): (44:UInt8)∉qK r/\(59:UInt8)∉qK r/\(qK r).length=3:=by
 refine zI (P:=λr=>(44:UInt8)∉qK r/\(59:UInt8)∉qK r/\(qK r).length=3) (by decide) ?_ h
 rintro w a nx (rfl|rfl) (rfl|rfl) (rfl|rfl)<;>decide
def oz (a b:ai): List UInt8:=qK a++44::qK b
theorem Ge {a b:ai}(c:jK a)(d:jK b): run (gT [a,b]) ([],0)=some (.bf ([jQ (qK a),jQ (qK b)],2)):=by
 have s1:gT [a,b] ([],0)=some (.inl ([jQ (qK a)],1)):=by
  simp only[gT]
  show cond true (Z (some a) _) _=_
  rw[cond_true,D,Fj c]
  rfl
 have s2:gT [a,b] ([jQ (qK a)],1)=some (.inl ([jQ (qK a),jQ (qK b)],2)):=by
  simp only[gT]
  show cond true (Z (some b) _) _=_
  rw[cond_true,D,Fj d]
  rfl
 exact(bZ s1).trans ((bZ s2).trans (aZ rfl))
theorem AH (c:UInt8)(x y:List UInt8)(a:x.length<=1000)(b:y.length<=1000): x7 [jQ x,jQ y] ⟨#[c]⟩=some (jQ (x++c::y)):=by
 have e:Lib.join ([jQ x,jQ y].map (·.data.toList)) (ByteArray.mk #[c]).data.toList=x++c::y:=by
  simp[Lib.join,Lib.joinTail,jQ]
 unfold x7
 rw[if_pos ⟨by simp,by rw[e];simp;omega⟩,e]
 rfl
theorem join_one (c:UInt8)(x:List UInt8)(a:x.length<=1000): x7 [jQ x] ⟨#[c]⟩=some (jQ x):=by
 have e:Lib.join ([jQ x].map (·.data.toList)) (ByteArray.mk #[c]).data.toList=x:=by
  simp[Lib.join,Lib.joinTail,jQ]
 unfold x7
 rw[if_pos ⟨by simp,by rw[e];omega⟩,e]
 rfl
theorem E8 {a b:ai}(c:jK a)(d:jK b)(out:List ai)(e:out.length<=100): run (gS [jQ (qK a),jQ (qK b)]) (out,0)=some (.bf (out++[a,b],2)):=by
 have s1:gS [jQ (qK a),jQ (qK b)] (out,0)=some (.inl (out++[a],1)):=by
  simp only[gS]
  show cond true (Z (some (jQ (qK a))) _) _=_
  rw[cond_true,D,F0 c,D,de (by simp;omega)]
  rfl
 have s2:gS [jQ (qK a),jQ (qK b)] (out++[a],1)=some (.inl (out++[a,b],2)):=by
  simp only[gS]
  show cond true (Z (some (jQ (qK b))) _) _=_
  rw[cond_true,D,F0 d,D,de (by simp;omega),D,List.append_assoc]
  rfl
 exact(bZ s1).trans ((bZ s2).trans (aZ rfl))
theorem qZ {a b:ai}(c:jK a)(d:jK b): (oz a b).length=7/\(59:UInt8)∉oz a b:=by
 obtain⟨_,a2,a3⟩:=mm c
 obtain⟨_,b2,b3⟩:=mm d
 refine⟨by simp[oz,a3,b3],?_⟩
 unfold oz
 rw[List.mem_append,List.mem_cons]
 rintro(h|h|h)
 ·exact a2 h
 ·cases h
 ·exact b2 h
theorem EP {a b:ai}(c:jK a)(d:jK b): uq (jQ (oz a b)) ⟨#[44]⟩=some [jQ (qK a),jQ (qK b)]:=by
 have hl:=(qZ c d).1
 rw[Di (by rw[<- EH,Dg,hl];omega),Dg]
 unfold oz
 rw[Ib (mm c).1,Cs (mm d).1]
 rfl
theorem Hq {m:O}{a b:ai}(e:eF m=some true)(hs:m.I=2)(hr:m.aB=[a,b])(c:jK a)(d:jK b): il m=some (jQ (oz a b)):=by
 have hl:=(qZ c d).1
 obtain⟨_,_,a3⟩:=mm c
 obtain⟨_,_,b3⟩:=mm d
 have s1:dE m (0,[])=some (.inl (2,[jQ (oz a b)])):=by
  simp only[dE]
  rw[hr,hs]
  show cond true (Z (some [a,b]) λz20=>Z (jV [a,b] 0 (ah (0+(if ((z20.length:Nat):Int)<2 then ((z20.length:Nat):Int)else 2)))) _) _=_
  rw[cond_true,D]
  show Z (some [a,b]) _=_
  rw[D,Ge c d,D]
  simp only[Out.elim]
  rw[AH 44 (qK a) (qK b) (by omega) (by omega),D]
  rfl
 have s2:dE m (2,[jQ (oz a b)])=some (.inr (.bf (2,[jQ (oz a b)]))):=by
  simp only[dE]
  rw[hr]
  rfl
 unfold il
 rw[e,D,Bool.not_true,cond_false,hs]
 show cond false _ _=_
 rw[cond_false,(bZ s1).trans (aZ s2),D]
 simp only[Out.elim]
 rw[join_one 59 (oz a b) (by omega)]
 rfl
theorem Hg {m:O}{a b c d:ai}(h:eF m=some true)(hs:m.I=2)(hr:m.aB=[a,b,c,d])(e:jK a)(f:jK b)(g:jK c)(hd:jK d): il m=some (jQ (oz a b++59::oz c d)):=by
 have hl:=(qZ e f).1
 have i:=(qZ g hd).1
 obtain⟨_,_,a3⟩:=mm e
 obtain⟨_,_,b3⟩:=mm f
 obtain⟨_,_,c3⟩:=mm g
 obtain⟨_,_,d3⟩:=mm hd
 have s1:dE m (0,[])=some (.inl (2,[jQ (oz a b)])):=by
  simp only[dE]
  rw[hr,hs]
  show cond true (Z (some [a,b,c,d]) λz20=>Z (jV [a,b,c,d] 0 (ah (0+(if ((z20.length:Nat):Int)<2 then ((z20.length:Nat):Int)else 2)))) _) _=_
  rw[cond_true,D]
  show Z (some [a,b]) _=_
  rw[D,Ge e f,D]
  simp only[Out.elim]
  rw[AH 44 (qK a) (qK b) (by omega) (by omega),D]
  rfl
 have s2:dE m (2,[jQ (oz a b)])=some (.inl (4,[jQ (oz a b),jQ (oz c d)])):=by
  simp only[dE]
  rw[hr,hs]
  show cond true (Z (some [c,d]) λz20=>Z (jV [a,b,c,d] 2 (ah (2+(if ((z20.length:Nat):Int)<2 then ((z20.length:Nat):Int)else 2)))) _) _=_
  rw[cond_true,D]
  show Z (some [c,d]) _=_
  rw[D,Ge g hd,D]
  simp only[Out.elim]
  rw[AH 44 (qK c) (qK d) (by omega) (by omega),D]
  rfl
 have j:dE m (4,[jQ (oz a b),jQ (oz c d)])=some (.inr (.bf (4,[jQ (oz a b),jQ (oz c d)]))):=by
  simp only[dE]
  rw[hr]
  rfl
 unfold il
 rw[h,D,Bool.not_true,cond_false,hs]
 show cond false _ _=_
 rw[cond_false,(bZ s1).trans ((bZ s2).trans (aZ j)),D]
 simp only[Out.elim]
 rw[AH 59 (oz a b) (oz c d) (by omega) (by omega)]
 rfl
theorem Nj {m:O}{a b:ai}(f:eF m=some true)(hs:m.I=2)(hq:m.N=1)(hr:m.aB=[a,b])(c:jK a)(d:jK b): jg (jQ (oz a b))=some (m,true):=by
 have hm:(⟨2,1,[a,b]⟩:O)=m:=by rw[<- hs,<- hq,<- hr]
 have s1:ga [jQ (oz a b)] (0,[],0)=some (.inl (2,[a,b],1)):=by
  simp only[ga]
  show cond true (Z (some (jQ (oz a b))) _) _=_
  rw[cond_true,D,EP c d,D]
  show Z (some (2:Int)) _=_
  rw[D,E8 c d [] (by simp),D]
  rfl
 have e:uq (jQ (oz a b)) ⟨#[59]⟩=some [jQ (oz a b)]:=by
  rw[Di (by rw[<- EH,Dg,(qZ c d).1];omega),Dg,Cs (qZ c d).2]
  rfl
 unfold jg
 rw[e,D]
 show Z (some (1:Int)) _=_
 rw[D,(bZ s1).trans (aZ rfl),D]
 simp only[Out.elim]
 rw[hm,f,D,Bool.not_true,cond_false,Hq f hs hr c d,D,xD,decide_eq_true rfl]
 rfl
theorem Ni {m:O}{a b c d:ai}(i:eF m=some true)(hs:m.I=2)(hq:m.N=2)(hr:m.aB=[a,b,c,d])(e:jK a)(f:jK b)(g:jK c)(hd:jK d): jg (jQ (oz a b++59::oz c d))=some (m,true):=by
 have hm:(⟨2,2,[a,b,c,d]⟩:O)=m:=by rw[<- hs,<- hr];cases m;simp_all
 have s1:ga [jQ (oz a b),jQ (oz c d)] (0,[],0)=some (.inl (2,[a,b],1)):=by
  simp only[ga]
  show cond true (Z (some (jQ (oz a b))) _) _=_
  rw[cond_true,D,EP e f,D]
  show Z (some (2:Int)) _=_
  rw[D,E8 e f [] (by simp),D]
  rfl
 have s2:ga [jQ (oz a b),jQ (oz c d)] (2,[a,b],1)=some (.inl (2,[a,b,c,d],2)):=by
  simp only[ga]
  show cond true (Z (some (jQ (oz c d))) _) _=_
  rw[cond_true,D,EP g hd,D]
  show Z (some (2:Int)) _=_
  rw[D,E8 g hd [a,b] (by simp),D]
  rfl
 have h:uq (jQ (oz a b++59::oz c d)) ⟨#[59]⟩=some [jQ (oz a b),jQ (oz c d)]:=by
  have j:=(qZ e f).1
  have k:=(qZ g hd).1
  rw[Di (by rw[<- EH,Dg];simp;omega),Dg,Ib (qZ e f).2,Cs (qZ g hd).2]
  rfl
 unfold jg
 rw[h,D]
 show Z (some (2:Int)) _=_
 rw[D,(bZ s1).trans ((bZ s2).trans (aZ rfl)),D]
 simp only[Out.elim]
 rw[hm,i,D,Bool.not_true,cond_false,Hg i hs hr e f g hd,D,xD,decide_eq_true rfl]
 rfl
theorem Kx (m:O)(h:m.aB.length<=1000000): nY m m=some true:=by
 have key:∀(k i:Nat),i+k=m.aB.length->run (mA m m) (i:Int)=some (.bf (m.aB.length:Int)):=by
  intro k
  induction k with
  |zero=>
   intro i hi
   obtain rfl:i=m.aB.length:=by omega
   refine aZ ?_
   simp only[mA]
   rw[decide_eq_false (by omega),cond_false]
  |succ k b=>
   intro i hi
   have a:idx m.aB (i:Int)=some (m.aB[i]'(by omega)):=by
    unfold idx
    rw[if_neg (by omega),Int.toNat_natCast,List.getElem?_eq_getElem (by omega)]
   refine(bZ (s':=((i+1:Nat):Int)) ?_).trans (b (i+1) (by omega))
   simp only[mA]
   rw[decide_eq_true (by omega),cond_true,a,D,D,decide_eq_true rfl,Bool.not_true,cond_false,dh (by omega)]
 unfold nY uZ
 rw[decide_eq_false (λh=>h rfl:¬(m.I≠m.I)),cond_false,decide_eq_false (λh=>h rfl:¬(m.N≠m.N)),cond_false,decide_eq_false (λh=>h rfl:¬((m.aB.length:Int)≠(m.aB.length:Int))),cond_false,D]
 simp only[Out.elim]
 have:=key m.aB.length 0 (by omega)
 rw[show((0:Nat):Int)=0 from rfl]at this
 rw[this]
 rfl
def LX (r:V): Bool:=qf r.dS&&qf r.To&&decide (r.dS.length≠0)
def ua (rs:List V): Bool:=decide (1<=rs.length)&&decide (rs.length<=60)&&rs.all LX
theorem Lf {rs:List V}(h:ua rs=true): 1<=rs.length/\rs.length<=60:=by
 unfold ua at h
 simp only[Bool.and_eq_true,decide_eq_true_eq]at h
 exact h.1
theorem Ke {rs:List V}(h:ua rs=true){r:V}(hr:r∈rs): r.dS.length<=400/\r.To.length<=400:=by
 unfold ua at h
 simp only[Bool.and_eq_true,decide_eq_true_eq]at h
 have:=List.all_eq_true.1 h.2 r hr
 unfold LX qf at this
 simp only[Bool.and_eq_true,decide_eq_true_eq]at this
 exact⟨this.1.1.1,this.1.2.1⟩
theorem ES {w:List Int}(h:qf w=true): w.length<=400:=by
 unfold qf at h
 simp only[Bool.and_eq_true,decide_eq_true_eq]at h
 exact h.1
theorem Jg (xs:List Int)(h:xs.length<=1048576): cE xs=some xs:=by
 unfold cE
 rw[de (by simp;omega)]
 rfl
theorem Ny {b:Int}(h:b≠0): nz b=some ():=by unfold nz;rw[if_neg h]
def ld (m:O)(c:U): List Int:=[m.I+m.N]++c.Left.reverse++[ah (m.I+c.State)]++c.ak++[m.I+m.N]
theorem J3 (m:O)(c:U): (ld m c).length=c.Left.length+c.ak.length+3:=by simp[ld];omega
def xf (m:O): List Int:=[m.I+m.N,m.I+m.N+1,m.I+m.N]
def EF (m:O)(c:U): List Int×List Int×Int:=
 cond (decide (5<m.I+m.N+1)) ([],[],5) (cond (decide (400<(ld m c).length)) ([],[],5) (ld m c,xf m,0))
theorem Fp {m:O}(h:kG m=true): ah (m.I+m.N)=m.I+m.N/\ah (m.I+m.N+1)=m.I+m.N+1/\0<=m.I+m.N:=by
 obtain⟨s,q,hs,hq,b1,b2,b3,b4,_⟩:=BJ h
 refine⟨bC (by omega) (by omega),bC (by omega) (by omega),by omega⟩
theorem yp (m:O)(h:kG m=true): mw m=some (cond (decide (5<m.I+m.N+1)) (⟨0,0⟩,0,5) (⟨m.I,m.I+m.N⟩,m.I+m.N+1,0)):=by
 obtain⟨e1,e2,_⟩:=Fp h
 unfold mw kR
 rw[e1]
 by_cases a:9<m.I+m.N
 ·rw[decide_eq_true a,decide_eq_true (by omega)];rfl
 ·rw[decide_eq_false a]
  simp only[cond_false,D,e2]
  cases decide (5<m.I+m.N+1)<;>rfl
theorem DU (m:O)(c:U)(h:kG m=true)(a:c.Left.length<=200)(b:c.ak.length<=200): nQ m c=some (EF m c):=by
 unfold nQ EF eG
 rw[yp m h,D]
 cases decide (5<m.I+m.N+1)
 ·simp only[cond_false]
  rw[fB _ (by omega)]
  simp only[D]
  rw[sU _ (by simp) (by simp;omega),D]
  have e:([[m.I+m.N],c.Left.reverse,[ah (m.I+c.State)],c.ak,[m.I+m.N]]:List (List Int)).flatten=ld m c:=by simp[ld]
  rw[e]
  unfold jN
  simp only[D]
  rw[show decide ((400:Int)<((ld m c).length:Int))=decide (400<(ld m c).length)by rw[decide_eq_decide];omega]
  cases decide (400<(ld m c).length)<;>rfl
 ·rfl
def zV (s:Nat)(S b k:Int)(r:ai): List V:=
 cond (decide (r.Move=1)) ([⟨[ah (S+ah (Int.tdiv k S)),Int.tmod k S],[r.Write,ah (S+r.Next)]⟩]++cond (decide (Int.tmod k S=0)) [⟨[ah (S+ah (Int.tdiv k S)),b],[r.Write,ah (S+r.Next),b]⟩] [])
  (((List.range s).flatMap λ(c:Nat)=>[(⟨[(c:Int),ah (S+ah (Int.tdiv k S)),Int.tmod k S],[ah (S+r.Next),(c:Int),r.Write]⟩:V)])++[⟨[b,ah (S+ah (Int.tdiv k S)),Int.tmod k S],[b,ah (S+r.Next),0,r.Write]⟩]++
   cond (decide (Int.tmod k S=0)) (((List.range s).flatMap λ(c:Nat)=>[(⟨[(c:Int),ah (S+ah (Int.tdiv k S)),b],[ah (S+r.Next),(c:Int),r.Write,b]⟩:V)])++[⟨[b,ah (S+ah (Int.tdiv k S)),b],[b,ah (S+r.Next),0,r.Write,b]⟩]) [])
theorem vS {β:Type}(f:Nat->β)(s:Nat): ((List.range s).flatMap λc=>[f c]).length=s:=by
 rw[<- List.map_eq_flatMap];simp
theorem Ng (s:Nat)(S b k:Int)(r:ai): (zV s S b k r).length<=2*s+2:=by
 unfold zV
 cases decide (r.Move=1)
 ·cases decide (Int.tmod k S=0)
  ·simp only[cond_false,List.length_append,vS,List.length_singleton,List.length_nil];omega
  ·simp only[cond_false,cond_true,List.length_append,vS,List.length_singleton];omega
 ·cases decide (Int.tmod k S=0)
  ·simp only[cond_false,cond_true,List.length_append,List.length_singleton,List.length_nil];omega
  ·simp only[cond_true,List.length_append,List.length_singleton];omega
def va (m:O)(s:Nat)(i:Nat): List V:=cond (decide (m.aB.getD i cn=cn)) [] (zV s m.I (m.I+m.N) (i:Int) (m.aB.getD i cn))
theorem yP (m:O)(s i:Nat): (va m s i).length<=2*s+2:=by
 unfold va
 cases decide (m.aB.getD i cn=cn)
 ·exact Ng _ _ _ _ _
 ·exact Nat.zero_le _
def lH (m:O)(i:Nat): List V:=
 [⟨[ah (m.I+ah (Int.tdiv (i:Int) m.I)),Int.tmod (i:Int) m.I],[m.I+m.N+1]⟩]++cond (decide (Int.tmod (i:Int) m.I=0)) [⟨[ah (m.I+ah (Int.tdiv (i:Int) m.I)),m.I+m.N],[m.I+m.N+1,m.I+m.N]⟩] []
theorem zX (m:O)(i:Nat): (lH m i).length<=2:=by
 unfold lH
 cases decide (Int.tmod (i:Int) m.I=0)<;>simp
def qd (m:O)(c:Nat): List V:=[⟨[m.I+m.N+1,(c:Int)],[m.I+m.N+1]⟩,⟨[(c:Int),m.I+m.N+1],[m.I+m.N+1]⟩]
def sf (m:O)(i:Nat): Bool:=decide (m.aB.getD i cn=cn)
def bN (m:O)(s:Nat): List V:=(List.range m.aB.length).flatMap (va m s)
def cc (m:O)(s:Nat): List V:=bN m s++((List.range m.aB.length).flatMap λi=>cond (sf m i) (lH m i) [])++(List.range s).flatMap (qd m)
theorem GQ {m:O}{i:Nat}(h:i<m.aB.length): idx m.aB (i:Int)=some (m.aB.getD i cn):=by
 rw[eh h,List.getD_eq_getElem?_getD,List.getElem?_eq_getElem h];rfl
theorem NO (m:O)(s:Nat)(a:m.aB.length<=6000)(b:s<=6): (bN m s).length<=84000:=by
 have:=mG (va m s) (n:=14) (List.range m.aB.length) (λi _=>Nat.le_trans (yP m s i) (by omega))
 rw[List.length_range]at this
 unfold bN
 omega
theorem CQ {R:Type}{body:List V×Int->Option ((List V×Int) ⊕ Out (List V×Int) R)}(s:Nat)(hs:s<=6)(g:Nat->List V)(c:∀k,k<s->(g k).length<=2)(a:List V)(d:a.length<=1048576)(e:∀(i:Nat) (b:List V),i<s->b.length<=1048576+i*2->body (b,(i:Int))=some (.inl (b++g i,ah ((i:Int)+1))))(f:∀b,body (b,(s:Int))=some (.inr (.bf (b,(s:Int))))):
  run body (a,0)=some (.bf (a++(List.range s).flatMap g,(s:Int))):=by
 rw[uP (body:=body) s (by omega) (λa i=>(a,i)) g 2 c a 1048576 d e]
 exact aZ (f _)
theorem Lh (m:O){s:Nat}(hs:m.I=s)(b2:s<=6)(b k:Int)(r:ai): j6 ⟨m.I,b⟩ m (ah (Int.tdiv k m.I)) (Int.tmod k m.I) r=some (zV s m.I b k r):=by
 unfold j6 zV
 cases decide (r.Move=1)
 ·rw[cond_false,cond_false,CQ (body:=gG _ _ _ _ _) s b2 (λ(c:Nat)=>[(⟨[(c:Int),ah (m.I+ah (Int.tdiv k m.I)),Int.tmod k m.I],[ah (m.I+r.Next),(c:Int),r.Write]⟩:V)]) (by simp) [] (by simp) (λi a hi d=>by
   simp only[gG]
   rw[decide_eq_true (by omega),cond_true,de (by simp;omega),D]) (λa=>by
   simp only[gG]
   rw[decide_eq_false (by omega)];rfl)]
  simp only[D,Out.elim,List.nil_append]
  rw[de (by rw[vS];simp;omega),D]
  cases decide (Int.tmod k m.I=0)
  ·simp
  ·rw[cond_true,cond_true,CQ (body:=gE _ _ _ _) s b2 (λ(c:Nat)=>[(⟨[(c:Int),ah (m.I+ah (Int.tdiv k m.I)),b],[ah (m.I+r.Next),(c:Int),r.Write,b]⟩:V)]) (by simp) _ (by rw[List.length_append,vS];simp;omega) (λi a hi d=>by
    simp only[gE]
    rw[decide_eq_true (by omega),cond_true,de (by simp;omega),D]) (λa=>by
    simp only[gE]
    rw[decide_eq_false (by omega)];rfl)]
   simp only[D,Out.elim]
   rw[de (by simp only[List.length_append,vS,List.length_singleton];omega),D]
   simp
 ·simp only[cond_true]
  rw[de (by simp),D]
  cases decide (Int.tmod k m.I=0)
  ·rfl
  ·rw[cond_true,de (by simp)]
   rfl
theorem G2 (m:O){s q:Nat}(hs:m.I=s)(hq:m.N=q)(b1:2<=s)(b2:s<=6)(hl:m.aB.length<=6000): fV ⟨m.I,m.I+m.N⟩ m=some (bN m s):=by
 unfold fV
 have b:m.I≠0:=by omega
 rw[uP (body:=fp ⟨m.I,m.I+m.N⟩ m) m.aB.length (by omega) (λa i=>(a,i)) (va m s) 14 (λi _=>Nat.le_trans (yP m s i) (by omega)) [] 0 (by simp) (λi a hi c=>by
  simp only[fp,Int.ofNat_lt,hi,decide_true,cond_true,GQ hi,D,fw,gV,Ny b]
  have hr:=yP m s i
  unfold va at hr ⊢
  show cond (!decide (m.aB.getD i cn=cn)) _ _=_
  cases hd:decide (m.aB.getD i cn=cn)
  ·rw[hd]at hr
   rw[Lh m hs b2]
   simp only[Bool.not_false,cond_true,cond_false,D]at hr ⊢
   rw[de (by omega),D]
  ·simp)]
 rw[aZ (x:=Out.bf ([]++(List.range m.aB.length).flatMap (va m s),(m.aB.length:Int))) (by simp[fp])]
 rfl
theorem yI {β:Type}(p:Nat->Bool)(f:Nat->List β): ∀xs:List Nat,(xs.filter p).flatMap f=xs.flatMap λi=>cond (p i) (f i) []
 |[]=>rfl
 |x::xs=>by
  rw[List.filter_cons,List.flatMap_cons,<- yI p f xs]
  cases p x<;>simp
def u6 (m:O): List Int:=((List.range m.aB.length).filter (sf m)).map λ(i:Nat)=>(i:Int)
theorem Ld (m:O)(hl:m.aB.length<=6000): pI m=some (u6 m):=by
 unfold pI
 rw[uP (body:=lv m) m.aB.length (by omega) (λa i=>(a,i)) (λi=>cond (sf m i) [(i:Int)] []) 1 (λi _=>by cases sf m i<;>simp) [] 0 (by simp) (λi a hi b=>by
  simp only[lv,Int.ofNat_lt,hi,decide_true,cond_true,GQ hi,D,fw,gV]
  show cond (!!decide (m.aB.getD i cn=cn)) _ _=_
  unfold sf
  cases decide (m.aB.getD i cn=cn)
  ·simp
  ·simp only[Bool.not_true,Bool.not_false,cond_true]
   rw[de (by simp;omega),D])]
 rw[aZ (x:=Out.bf ([]++(List.range m.aB.length).flatMap (λi=>cond (sf m i) [(i:Int)] []),(m.aB.length:Int))) (by simp[lv])]
 simp only[D,Out.elim,List.nil_append]
 rw[<- yI (sf m) (λi=>[(i:Int)]),<- List.map_eq_flatMap]
 rfl
theorem MQ (m:O)(hl:m.aB.length<=6000): (u6 m).length<=6000:=by
 unfold u6
 rw[List.length_map]
 have:=List.length_filter_le (sf m) (List.range m.aB.length)
 rw[List.length_range]at this
 omega
theorem GI {β:Type}(f:Nat->List β)(g:Int->List β)(h:∀i:Nat,g (i:Int)=f i): ∀xs:List Nat,(xs.map λ(i:Nat)=>(i:Int)).flatMap g=xs.flatMap f
 |[]=>rfl
 |x::xs=>by rw[List.map_cons,List.flatMap_cons,List.flatMap_cons,h,GI f g h xs]
theorem F2 (m:O)(hl:m.aB.length<=6000): ((List.range m.aB.length).flatMap λi=>cond (sf m i) (lH m i) []).length<=12000:=by
 have:=mG (λi=>cond (sf m i) (lH m i) []) (n:=2) (List.range m.aB.length) (λi _=>by
  cases sf m i
  ·exact Nat.zero_le _
  ·exact zX m i)
 rw[List.length_range]at this
 omega
theorem EY (m:O)(h:kG m=true){s q:Nat}(hs:m.I=s)(hq:m.N=q)(b1:2<=s)(b2:s<=6)(hl:m.aB.length<=6000):
  lD m=some (cond (decide (5<m.I+m.N+1)) ([],0,5) (cond (decide (60<(cc m s).length)) ([],0,5) (cc m s,((bN m s).length:Int),0))):=by
 have e:m.I≠0:=by omega
 unfold lD
 rw[yp m h,D]
 cases decide (5<m.I+m.N+1)
 ·simp only[cond_false]
  have j:=NO m s hl b2
  have l:=MQ m hl
  have f:=F2 m hl
  rw[G2 m hs hq b1 b2 hl,Ld m hl]
  simp only[D]
  have b:=(tJ (body:=j5 m (⟨m.I,m.I+m.N⟩,m.I+m.N+1,0) (u6 m)) (u6 m) (by omega) (λ(a:List V) i=>(a,i)) (λa k=>a++lH m k.toNat) (λi a=>a.length<=84000+i*2) (by
   intro i hi a o
   have hm:∃n:Nat,(u6 m)[i]=(n:Int):=by
    have:(u6 m)[i]∈u6 m:=List.getElem_mem hi
    unfold u6 at this
    obtain⟨n,_,c⟩:=List.mem_map.1 this
    exact⟨n,c.symm⟩
   obtain⟨n,c⟩:=hm
   have g:=zX m n
   rw[c,Int.toNat_natCast]
   refine⟨?_,by rw[List.length_append];omega⟩
   simp only[j5,Int.ofNat_lt,hi,decide_true,cond_true,eh hi,D,c,Ny e]
   rw[de (by simp;omega),D]
   unfold lH
   cases decide (Int.tmod (n:Int) m.I=0)
   ·simp
   ·rw[cond_true,de (by simp;omega),D,cond_true,List.append_assoc]) (bN m s) (by omega)).1
  rw[wD (λk:Int=>lH m k.toNat)]at b
  have d:(u6 m).flatMap (λk:Int=>lH m k.toNat)=(List.range m.aB.length).flatMap λi=>cond (sf m i) (lH m i) []:=by
   unfold u6
   rw[GI (lH m) _ (λi=>by rw[Int.toNat_natCast]),yI]
  rw[d]at b
  rw[b,aZ (x:=Out.bf (bN m s++((List.range m.aB.length).flatMap λi=>cond (sf m i) (lH m i) []),((u6 m).length:Int))) (by simp[j5])]
  simp only[D,Out.elim]
  rw[CQ (body:=jW m _) s b2 (qd m) (λk _=>by simp[qd]) _ (by rw[List.length_append];omega) (λi a hi p=>by
   simp only[jW]
   rw[decide_eq_true (by omega),cond_true,de (by simp;omega),D,de (by simp;omega),D,List.append_assoc]
   rfl) (λa=>by
   simp only[jW]
   rw[decide_eq_false (by omega)];rfl)]
  simp only[D]
  show cond (decide ((60:Int)<((cc m s).length:Int))) _ _=_
  rw[show decide ((60:Int)<((cc m s).length:Int))=decide (60<(cc m s).length)by rw[decide_eq_decide];omega]
  cases decide (60<(cc m s).length)<;>rfl
 ·rfl
def uy (r:V): Bool:=decide (r.dS.length<=5)&&decide (r.To.length<=5)
theorem Is (s:Nat)(S b k:Int)(r:ai): (zV s S b k r).all uy=true:=by
 unfold zV
 cases decide (r.Move=1)<;>cases decide (Int.tmod k S=0)<;>simp[uy]
theorem Gr (m:O)(i:Nat): (lH m i).all uy=true:=by
 unfold lH
 cases decide (Int.tmod (i:Int) m.I=0)<;>simp[uy]
theorem FK (m:O)(i:Nat): (qd m i).all uy=true:=by
 simp[qd,uy]
theorem Mh {m:O}{s:Nat}: (cc m s).all uy=true:=by
 unfold cc bN
 rw[List.all_append,List.all_append,List.all_flatMap,List.all_flatMap,List.all_flatMap,Bool.and_eq_true,Bool.and_eq_true,List.all_eq_true,List.all_eq_true,List.all_eq_true]
 refine⟨⟨λi _=>?_,λi _=>?_⟩,λi _=>FK m i⟩
 ·unfold va
  cases decide (m.aB.getD i cn=cn)
  ·exact Is _ _ _ _ _
  ·rfl
 ·cases sf m i
  ·rfl
  ·exact Gr m i
theorem PE {m:O}{s:Nat}{r:V}(h:r∈cc m s): r.dS.length<=5/\r.To.length<=5:=by
 have:=List.all_eq_true.1 Mh r h
 unfold uy at this
 simpa using this
theorem AB {x lo hi:Int}: mJ x lo hi=true↔lo<=x/\x<=hi:=by
 unfold mJ
 simp only[Bool.and_eq_true,decide_eq_true_eq]
theorem OF {α:Type}{xs:List α}{hi:Nat}(h:hi<=xs.length): jV xs 0 (hi:Int)=some (xs.take hi):=by
 have:=AM (xs:=xs) (lo:=0) (hi:=hi) (Nat.zero_le _) h
 rw[List.drop_zero]at this
 exact this
def zR:V:=⟨[],[]⟩
def qm (w t:List Int)(a n:Nat): List Int:=w.take a++t++w.drop (a+n)
def mV (rs:List V)(w:List Int)(r a:Int): List Int×Int:=
 cond (mJ r 0 ((rs.length:Int)-1)&&mJ a 0 (w.length:Int))
  (cond (decide ((w.drop a.toNat).take (rs.getD r.toNat zR).dS.length=(rs.getD r.toNat zR).dS))
   (cond (decide (400<(qm w (rs.getD r.toNat zR).To a.toNat (rs.getD r.toNat zR).dS.length).length)) ([],5) (qm w (rs.getD r.toNat zR).To a.toNat (rs.getD r.toNat zR).dS.length,0)) ([],3)) ([],2)
theorem Mp {rs:List V}(h:ua rs=true)(k:Nat): (rs.getD k zR).dS.length<=400/\(rs.getD k zR).To.length<=400:=by
 rw[List.getD_eq_getElem?_getD]
 cases e:rs[k]? with
 |none=>exact⟨Nat.zero_le _,Nat.zero_le _⟩
 |some d=>exact Ke h (List.mem_of_getElem? e)
theorem vx {w f:List Int}{a:Nat}(h:(w.drop a).take f.length=f)(b:a<=w.length): a+f.length<=w.length:=by
 have:=congrArg List.length h
 simp only[List.length_take,List.length_drop]at this
 omega
theorem sJ (z f:List Int)(a:z.length<=1048576): mH z f=some (decide (z.take f.length=f)):=by
 unfold mH
 by_cases h:f.length<=z.length
 ·rw[decide_eq_true (by omega),cond_true,OF h,D,DV _ _ (by simp;omega)]
  rfl
 ·rw[decide_eq_false (by omega),cond_false,decide_eq_false]
  intro e
  have:=congrArg List.length e
  simp only[List.length_take]at this
  omega
theorem xq (w t:List Int)(a n:Nat)(hw:w.length<=400000)(b:t.length<=400)(h:a+n<=w.length): iZ w (a:Int) (n:Int) t=some (qm w t a n):=by
 unfold iZ
 rw[OF (by omega),D,FP (by omega),tW h,D,sU _ (by simp) (by simp;omega),D]
 simp[qm]
theorem IK (rs:List V)(w:List Int)(r a:Int)(hr:ua rs=true)(c:w.length<=400): nN rs w r a=some (mV rs w r a):=by
 have hl:=Lf hr
 unfold nN mV kI eW
 simp only[D]
 rw[bC (by omega) (by omega),rh,rh]
 simp only[D]
 cases d:mJ r 0 ((rs.length:Int)-1)
 ·rfl
 cases e:mJ a 0 (w.length:Int)
 ·rfl
 have f:=AB.1 d
 have g:=AB.1 e
 obtain⟨n,rfl⟩:∃n:Nat,a=n:=⟨a.toNat,by omega⟩
 simp only[Bool.not_true,cond_false,Bool.and_self,cond_true,Int.toNat_natCast,D,Out.elim]
 have h:=Mp hr r.toNat
 rw[Dh zR (by omega) (by omega),D]
 generalize rs.getD r.toNat zR=R at h
 rw[tW (by omega),D,sJ _ _ (by simp;omega),D]
 by_cases b:(w.drop n).take R.dS.length=R.dS
 ·have i:=vx b (by omega)
  rw[decide_eq_true b,xq w R.To n R.dS.length (by omega) (by omega) i]
  unfold jN
  simp only[Bool.not_true,cond_false,cond_true,D]
  rw[show decide ((400:Int)<((qm w R.To n R.dS.length).length:Int))=decide (400<(qm w R.To n R.dS.length).length)by rw[decide_eq_decide];omega]
  cases decide (400<(qm w R.To n R.dS.length).length)<;>rfl
 ·rw[decide_eq_false b]
  rfl
theorem Ky {rs:List V}{w:List Int}{r a:Int}(h:(mV rs w r a).2=0):
  0<=r/\r<rs.length/\0<=a/\a.toNat+(rs.getD r.toNat zR).dS.length<=w.length/\mV rs w r a=(qm w (rs.getD r.toNat zR).To a.toNat (rs.getD r.toNat zR).dS.length,0)/\(qm w (rs.getD r.toNat zR).To a.toNat (rs.getD r.toNat zR).dS.length).length<=400:=by
 unfold mV at h ⊢
 cases b:mJ r 0 ((rs.length:Int)-1)
 ·rw[b]at h;simp at h
 cases c:mJ a 0 (w.length:Int)
 ·rw[b,c]at h;simp at h
 rw[b,c]at h
 have f:=AB.1 b
 have g:=AB.1 c
 by_cases d:(w.drop a.toNat).take (rs.getD r.toNat zR).dS.length=(rs.getD r.toNat zR).dS
 ·have i:=vx d (by omega)
  rw[decide_eq_true d]at h ⊢
  by_cases e:400<(qm w (rs.getD r.toNat zR).To a.toNat (rs.getD r.toNat zR).dS.length).length
  ·rw[decide_eq_true e]at h;simp at h
  ·rw[decide_eq_false e]
   exact⟨by omega,by omega,by omega,i,rfl,by omega⟩
 ·rw[decide_eq_false d]at h;simp at h
theorem HW {rs:List V}{w:List Int}{r a:Int}(hr:ua rs=true)(hw:qf w=true)(h:(mV rs w r a).2=0): qf (mV rs w r a).1=true:=by
 obtain⟨g,i,j,k,c,d⟩:=Ky h
 rw[c]
 unfold qf at hw ⊢
 simp only[Bool.and_eq_true,decide_eq_true_eq]at hw ⊢
 refine⟨d,List.all_eq_true.2 λx b=>?_⟩
 have e:∀y∈(rs.getD r.toNat zR).To,mJ y 0 9=true:=by
  intro y f
  have hm:rs.getD r.toNat zR∈rs:=by
   rw[List.getD_eq_getElem?_getD,List.getElem?_eq_getElem (by omega)]
   exact List.getElem_mem _
  unfold ua at hr
  simp only[Bool.and_eq_true]at hr
  have:=List.all_eq_true.1 hr.2 _ hm
  unfold LX qf at this
  simp only[Bool.and_eq_true]at this
  exact List.all_eq_true.1 this.1.2.2 y f
 simp only[qm,List.mem_append]at b
 rcases b with(b|b)|b
 ·exact List.all_eq_true.1 hw.2 x (List.mem_of_mem_take b)
 ·exact e x b
 ·exact List.all_eq_true.1 hw.2 x (List.mem_of_mem_drop b)
def ox (rs:List V): List (List Int)->List Int->List Int×Int
 |[],w=>(w,0)
 |s::a,w=>cond (decide (s.length≠2)) ([],7) (cond (decide ((mV rs w (s.getD 0 0) (s.getD 1 0)).2≠0)) ([],7) (ox rs a (mV rs w (s.getD 0 0) (s.getD 1 0)).1))
theorem K3 {rs:List V}{s:List Int}{c:List (List Int)}{w:List Int}(h:(ox rs (s::c) w).2=0):
  s.length=2/\(mV rs w (s.getD 0 0) (s.getD 1 0)).2=0/\(ox rs c (mV rs w (s.getD 0 0) (s.getD 1 0)).1).2=0:=by
 unfold ox at h
 by_cases a:s.length≠2
 ·rw[decide_eq_true a]at h;simp at h
 by_cases b:(mV rs w (s.getD 0 0) (s.getD 1 0)).2≠0
 ·rw[decide_eq_false a,decide_eq_true b]at h;simp at h
 rw[decide_eq_false a,decide_eq_false b]at h
 exact⟨Classical.not_not.1 a,Classical.not_not.1 b,h⟩
theorem Ns (n:Nat): decide ((n:Int)≠2)=decide (n≠2):=by rw[decide_eq_decide];omega
theorem IW {s:List Int}(h:s.length=2): idx s 0=some (s.getD 0 0)/\idx s 1=some (s.getD 1 0):=by
 refine⟨?_,?_⟩
 ·rw[Dh 0 (by omega) (by omega)];rfl
 ·rw[Dh 0 (by omega) (by omega)];rfl
theorem HM {body:List Int×Int->Option ((List Int×Int) ⊕ Out (List Int×Int) (List Int×Int))}(rs:List V)(a:List (List Int))(hr:ua rs=true)(h:a.length<=100)(e:∀(w:List Int) (i:Nat) (hi:i<a.length),qf w=true->body (w,(i:Int))=cond (decide (a[i].length≠2)) (some (.inr (.ret ([],7)))) (cond (decide ((mV rs w (a[i].getD 0 0) (a[i].getD 1 0)).2≠0)) (some (.inr (.ret ([],7)))) (some (.inl ((mV rs w (a[i].getD 0 0) (a[i].getD 1 0)).1,ah ((i:Int)+1))))))(f:∀w,body (w,(a.length:Int))=some (.inr (.bf (w,(a.length:Int)))))(w:List Int)(hw:qf w=true):
  Z (run body (w,0)) (Out.elim (λ(b:(List Int)×Int)=>some (b.1,0)) (λ(r:(List Int)×Int)=>some r))=some (ox rs a w):=by
 have key:∀k i w,i+k=a.length->qf w=true->Z (run body (w,(i:Int))) (Out.elim (λ(b:(List Int)×Int)=>some (b.1,0)) (λ(r:(List Int)×Int)=>some r))=some (ox rs (a.drop i) w):=by
  intro k
  induction k with
  |zero=>
   intro i w hi _
   obtain rfl:i=a.length:=by omega
   rw[aZ (f w),List.drop_length]
   rfl
  |succ k g=>
   intro i w hi hw
   have d:i<a.length:=by omega
   have c:=e w i d hw
   rw[List.drop_eq_getElem_cons d]
   unfold ox
   by_cases e1:a[i].length≠2
   ·rw[decide_eq_true e1]at c ⊢
    rw[aZ c];rfl
   by_cases e2:(mV rs w (a[i].getD 0 0) (a[i].getD 1 0)).2≠0
   ·rw[decide_eq_false e1,decide_eq_true e2]at c ⊢
    rw[aZ c];rfl
   rw[decide_eq_false e1,decide_eq_false e2]at c ⊢
   rw[bZ c,dh (by omega)]
   exact g (i+1) _ (by omega) (HW hr hw (Classical.not_not.1 e2))
 have:=key a.length 0 w (by omega) hw
 rwa[List.drop_zero,show((0:Nat):Int)=0 from rfl]at this
def Lr (rs:List V)(a:List (List Int))(w:List Int): List Int×Int:=cond (decide (100<a.length)) ([],2) (ox rs a w)
theorem OI (n:Nat): decide ((100:Int)<(n:Int))=decide (100<n):=by rw[decide_eq_decide];omega
theorem Gs (rs:List V)(w:List Int)(a:List (List Int))(hr:ua rs=true)(hw:qf w=true)(b:a.length<=1048576): rD rs w a=some (Lr rs a w):=by
 have c:=ES hw
 unfold rD Lr
 rw[OI]
 by_cases h:100<a.length
 ·rw[decide_eq_true h];rfl
 rw[decide_eq_false h,cond_false,cond_false,Jg w (by omega),D]
 refine HM (body:=mM rs a) rs a hr (by omega) (λw i hi hw=>?_) (λw=>by simp[mM]) w hw
 simp only[mM,Int.ofNat_lt,hi,decide_true,cond_true,eh hi,D,Ns]
 by_cases e1:a[i].length≠2
 ·rw[decide_eq_true e1];rfl
 ·obtain⟨g1,g2⟩:=IW (Classical.not_not.1 e1)
  rw[decide_eq_false e1,g1,g2]
  simp only[cond_false,D,IK rs w _ _ hr (ES hw)]
def D9 (xs:List Int): Bool:=xs.all λx=>mJ x 0 9
def sD (r:V): Bool:=D9 r.dS&&D9 r.To&&decide (r.dS.length≠0)
theorem vk {x:Int}(a:0<=x)(b:x<=9): mJ x 0 9=true:=ei.2 ⟨a,b⟩
theorem Ki {s q:Nat}{S b k:Int}{r:ai}(e:S=s)(f:b=S+(q:Int))(g:b+1<=5)(b1:2<=s)(d:0<=k/\k<(q:Int)*(s:Int))(hw:0<=r.Write/\r.Write<=S-1)(h:0<=r.Next/\r.Next<=(q:Int)-1): (zV s S b k r).all sD=true:=by
 have hm:0<=Int.tmod k S/\Int.tmod k S<S:=by
  subst e
  exact⟨Int.tmod_nonneg _ d.1,Int.tmod_lt_of_pos _ (by omega)⟩
 have hd:0<=Int.tdiv k S/\Int.tdiv k S<q:=by
  subst e
  rw[Int.tdiv_eq_ediv_of_nonneg d.1]
  refine⟨Int.ediv_nonneg d.1 (by omega),Int.ediv_lt_of_lt_mul (by omega) d.2⟩
 have e1:ah (Int.tdiv k S)=Int.tdiv k S:=bC (by omega) (by omega)
 have e2:ah (S+Int.tdiv k S)=S+Int.tdiv k S:=bC (by omega) (by omega)
 have e3:ah (S+r.Next)=S+r.Next:=bC (by omega) (by omega)
 have g1:=vk (x:=S+Int.tdiv k S) (by omega) (by omega)
 have g2:=vk (x:=Int.tmod k S) (by omega) (by omega)
 have g3:=vk (x:=S+r.Next) (by omega) (by omega)
 have g4:=vk (x:=r.Write) (by omega) (by omega)
 have g5:=vk (x:=b) (by omega) (by omega)
 have g6:=vk (x:=(0:Int)) (by omega) (by omega)
 have g7:∀c∈List.range s,mJ ((c:Nat):Int) 0 9=true:=λc a=>by
  have:=List.mem_range.1 a
  exact vk (by omega) (by omega)
 unfold zV
 rw[e1,e2,e3]
 have f1:((List.range s).flatMap λ(c:Nat)=>[(⟨[(c:Int),S+Int.tdiv k S,Int.tmod k S],[S+r.Next,(c:Int),r.Write]⟩:V)]).all sD=true:=by
  rw[List.all_flatMap,List.all_eq_true]
  intro c a
  simp only[List.all_cons,List.all_nil,sD,D9,g1,g2,g3,g4,g7 c a]
  rfl
 have f2:((List.range s).flatMap λ(c:Nat)=>[(⟨[(c:Int),S+Int.tdiv k S,b],[S+r.Next,(c:Int),r.Write,b]⟩:V)]).all sD=true:=by
  rw[List.all_flatMap,List.all_eq_true]
  intro c a
  simp only[List.all_cons,List.all_nil,sD,D9,g1,g5,g3,g4,g7 c a]
  rfl
 cases decide (r.Move=1)<;>cases decide (Int.tmod k S=0)<;>simp only[cond_true,cond_false,List.all_append,f1,f2,List.all_cons,List.all_nil,sD,D9,g1,g2,g3,g4,g5,g6]<;>rfl
theorem Iq {m:O}{s q:Nat}(hs:m.I=s)(hq:m.N=q)(b:m.I+m.N+1<=5)(b1:2<=s){i:Nat}(hi:i<q*s): (lH m i).all sD=true:=by
 have a:(0:Int)<=(i:Int)/\(i:Int)<(q:Int)*(s:Int):=⟨by omega,by rw[<- Int.natCast_mul];omega⟩
 have hm:0<=Int.tmod (i:Int) m.I/\Int.tmod (i:Int) m.I<m.I:=⟨Int.tmod_nonneg _ a.1,Int.tmod_lt_of_pos _ (by omega)⟩
 have hd:0<=Int.tdiv (i:Int) m.I/\Int.tdiv (i:Int) m.I<q:=by
  rw[Int.tdiv_eq_ediv_of_nonneg a.1,hs]
  refine⟨Int.ediv_nonneg a.1 (by omega),Int.ediv_lt_of_lt_mul (by omega) a.2⟩
 have e1:ah (Int.tdiv (i:Int) m.I)=Int.tdiv (i:Int) m.I:=bC (by omega) (by omega)
 have e2:ah (m.I+Int.tdiv (i:Int) m.I)=m.I+Int.tdiv (i:Int) m.I:=bC (by omega) (by omega)
 have g1:=vk (x:=m.I+Int.tdiv (i:Int) m.I) (by omega) (by omega)
 have g2:=vk (x:=Int.tmod (i:Int) m.I) (by omega) (by omega)
 have g3:=vk (x:=m.I+m.N) (by omega) (by omega)
 have g4:=vk (x:=m.I+m.N+1) (by omega) (by omega)
 unfold lH
 rw[e1,e2]
 cases decide (Int.tmod (i:Int) m.I=0)<;>simp only[cond_true,cond_false,List.all_append,List.all_cons,List.all_nil,sD,D9,g1,g2,g3,g4]<;>rfl
theorem IM {m:O}{s q:Nat}(hs:m.I=s)(hq:m.N=q)(d:m.I+m.N+1<=5)(b1:2<=s)(hl:m.aB.length=q*s)(hr:∀r∈m.aB,jF m.I m.N r=true): (cc m s).all sD=true:=by
 unfold cc bN
 rw[List.all_append,List.all_append,List.all_flatMap,List.all_flatMap,List.all_flatMap,Bool.and_eq_true,Bool.and_eq_true,List.all_eq_true,List.all_eq_true,List.all_eq_true]
 refine⟨⟨λi hi=>?_,λi hi=>?_⟩,λi hi=>?_⟩
 ·have a:=List.mem_range.1 hi
  unfold va
  by_cases c:m.aB.getD i cn=cn
  ·rw[decide_eq_true c];rfl
  ·rw[decide_eq_false c,cond_false]
   have hm:m.aB.getD i cn∈m.aB:=by
    rw[List.getD_eq_getElem?_getD,List.getElem?_eq_getElem a]
    exact List.getElem_mem _
   have b:=hr _ hm
   unfold jF at b
   rw[decide_eq_false c,Bool.false_or,Bool.and_eq_true,Bool.and_eq_true]at b
   have e:=ei.1 b.1
   have f:=ei.1 b.2.2
   exact Ki (q:=q) hs (by omega) (by omega) b1 ⟨by omega,by rw[<- Int.natCast_mul];omega⟩ e (by omega)
 ·have a:=List.mem_range.1 hi
  cases sf m i
  ·rfl
  ·exact Iq hs hq d b1 (by omega)
 ·have a:=List.mem_range.1 hi
  have g1:=vk (x:=(i:Int)) (by omega) (by omega)
  have g4:=vk (x:=m.I+m.N+1) (by omega) (by omega)
  simp only[qd,List.all_cons,List.all_nil,sD,D9,g1,g4]
  rfl
theorem IJ {m:O}{s q:Nat}(hs:m.I=s)(hq:m.N=q)(e:m.I+m.N+1<=5)(b1:2<=s)(hl:m.aB.length=q*s)(hr:∀r∈m.aB,jF m.I m.N r=true)(c:(cc m s).length<=60): ua (cc m s)=true:=by
 have f:=IM hs hq e b1 hl hr
 have d:1<=(cc m s).length:=by
  unfold cc
  rw[List.length_append]
  have:((List.range s).flatMap (qd m)).length=s*2:=wJ (qd m) 2 (λk=>rfl) s
  omega
 unfold ua
 rw[decide_eq_true d,decide_eq_true c,Bool.true_and,Bool.true_and,List.all_eq_true]
 intro r a
 have b:=List.all_eq_true.1 f r a
 have g:=PE a
 unfold sD D9 at b
 unfold LX qf
 simp only[Bool.and_eq_true,decide_eq_true_eq]at b ⊢
 exact⟨⟨⟨by omega,b.1.1⟩,⟨by omega,b.1.2⟩⟩,b.2⟩
theorem Iu {m:O}{c:U}{s q:Nat}(hs:m.I=s)(hq:m.N=q)(f:m.I+m.N+1<=5)(b1:2<=s)(a:iM m c=true)(b:(ld m c).length<=400): qf (ld m c)=true:=by
 unfold qf
 rw[decide_eq_true b,Bool.true_and]
 unfold iM rH at a
 simp only[Bool.and_eq_true]at a
 have d:=ei.1 a.1
 have side:∀xs:List Int,(xs.all λx=>mJ x 0 (m.I-1))=true->(xs.all λx=>mJ x 0 9)=true:=λxs h=>by
  rw[List.all_eq_true]at h ⊢
  intro x e
  have:=ei.1 (h x e)
  exact vk (by omega) (by omega)
 have e1:ah (m.I+c.State)=m.I+c.State:=bC (by omega) (by omega)
 have g1:=vk (x:=m.I+c.State) (by omega) (by omega)
 have g3:=vk (x:=m.I+m.N) (by omega) (by omega)
 unfold ld
 rw[e1]
 simp only[List.all_append,List.all_cons,List.all_nil,List.all_reverse,side _ a.2.1.1.2,side _ a.2.2.1.2,g1,g3]
 rfl
theorem Hr {rs:List V}: ∀ {a:List (List Int)} {w:List Int},(ox rs a w).2=0->∀s∈a,s.length=2
 |[],_,_,s,hs=>by simp at hs
 |x::a,w,h,s,hs=>by
  obtain⟨b,d,c⟩:=K3 h
  rcases List.mem_cons.1 hs with rfl|hs
  ·exact b
  ·exact Hr c s hs
def P8 (own:Int)(a:List (List Int)): Int:=a.foldl (λn s=>cond (decide (s.getD 0 0<own)) (ah (n+1)) n) 0
theorem Nv {R:Type}{body:Int×Int->Option ((Int×Int) ⊕ Out (Int×Int) R)}(own:Int)(b:List (List Int))(e:b.length<=1048576)(c:∀(n:Int) (i:Nat) (hi:i<b.length),body (n,(i:Int))=some (.inl (cond (decide (b[i].getD 0 0<own)) (ah (n+1)) n,ah ((i:Int)+1))))(d:∀n,body (n,(b.length:Int))=some (.inr (.bf (n,(b.length:Int))))):
  run body (0,0)=some (.bf (P8 own b,(b.length:Int))):=by
 have:=(tJ (body:=body) b (by omega) (λ(a:Int) i=>(a,i)) (λn s=>cond (decide (s.getD 0 0<own)) (ah (n+1)) n) (λ_ _=>True) (λi hi a _=>⟨c a i hi,trivial⟩) 0 trivial).1
 rw[this]
 exact aZ (d _)
def DR (w f:List Int): List Nat:=(List.range (w.length+1)).filter λa=>decide ((w.drop a).take f.length=f)
def JV (w:List Int)(r:V)(a:Nat): List Int:=qm w r.To a r.dS.length
structure iR (m:O)(s q:Nat): Prop where
 hs:m.I=s
 hq:m.N=q
 b1:2<=s
 b2:1<=q
 b3:s+q<=4
 hl:m.aB.length=q*s
 hr:∀r∈m.aB,jF m.I m.N r=true
def Wd (m:O)(X:List Int)(p:Int)(Y:List Int): List Int:=(m.I+m.N)::(X++((m.I+p)::(Y++[m.I+m.N])))
theorem ru (m:O)(X:List Int)(p:Int)(Y:List Int): (Wd m X p Y).length=X.length+Y.length+3:=by
 unfold Wd
 simp only[List.length_cons,List.length_append,List.length_nil]
 omega
def sym (m:O)(X:List Int): Prop:=∀x∈X,0<=x/\x<m.I
structure tU (m:O)(X:List Int)(p:Int)(Y:List Int): Prop where
 sx:sym m X
 sy:sym m Y
 J:0<=p
 p1:p<m.N
def rl (m:O)(p:Int)(Y:List Int): ai:=m.aB.getD (p*m.I+Y.headD 0).toNat cn
def yY (r:ai)(X:List Int): List Int:=if r.Move=1 then X++[r.Write]else X.dropLast
def za (r:ai)(X Y:List Int): List Int:=if r.Move=1 then Y.tail else X.getLastD 0::r.Write::Y.tail
def shape (m:O)(p a:Int)(r:ai)(w:V): Prop:=
 (r.Move=1/\(w=⟨[m.I+p,a],[r.Write,m.I+r.Next]⟩\/(a=0/\w=⟨[m.I+p,m.I+m.N],[r.Write,m.I+r.Next,m.I+m.N]⟩)))\/
 (r.Move≠1/\((∃c:Int,(0<=c/\c<m.I)/\w=⟨[c,m.I+p,a],[m.I+r.Next,c,r.Write]⟩)\/w=⟨[m.I+m.N,m.I+p,a],[m.I+m.N,m.I+r.Next,0,r.Write]⟩\/
  (a=0/\((∃c:Int,(0<=c/\c<m.I)/\w=⟨[c,m.I+p,m.I+m.N],[m.I+r.Next,c,r.Write,m.I+m.N]⟩)\/w=⟨[m.I+m.N,m.I+p,m.I+m.N],[m.I+m.N,m.I+r.Next,0,r.Write,m.I+m.N]⟩))))
theorem Hu {m:O}{s q:Nat}(T:iR m s q){p a:Nat}(l:p<q)(i:a<s){r:ai}(hr:r∈m.aB)(j:r≠cn)(w:V): w∈zV s m.I (m.I+m.N) ((p*s+a:Nat):Int) r↔shape m (p:Int) (a:Int) r w:=by
 have hs:=T.hs
 have hq:=T.hq
 have b3:=T.b3
 have hd:Int.tdiv ((p*s+a:Nat):Int) m.I=(p:Int):=by
  rw[hs,Int.tdiv_eq_ediv_of_nonneg (by omega)]
  have:(p*s+a) / s=p:=by rw[Nat.mul_comm,Nat.mul_add_div (by omega),Nat.div_eq_of_lt i,Nat.add_zero]
  omega
 have hm:Int.tmod ((p*s+a:Nat):Int) m.I=(a:Int):=by
  rw[hs,Int.tmod_eq_emod_of_nonneg (by omega)]
  have:(p*s+a)%s=a:=by rw[Nat.mul_comm,Nat.mul_add_mod,Nat.mod_eq_of_lt i]
  omega
 have k:0<=r.Next/\r.Next<=m.N-1:=by
  have h:=T.hr r hr
  unfold jF at h
  simp only[Bool.or_eq_true,Bool.and_eq_true,decide_eq_true_eq]at h
  rcases h with h|h
  ·exact absurd h j
  ·exact ei.1 h.2.2
 have e1:ah (p:Int)=(p:Int):=bC (by omega) (by omega)
 have e2:ah (m.I+(p:Int))=m.I+p:=bC (by omega) (by omega)
 have e3:ah (m.I+r.Next)=m.I+r.Next:=bC (by omega) (by omega)
 unfold zV shape
 rw[hd,hm,e1,e2,e3]
 have b:∀f:Int->V,w∈((List.range s).flatMap λ(c:Nat)=>[f (c:Int)])↔∃c:Int,(0<=c/\c<m.I)/\w=f c:=by
  intro f
  rw[List.mem_flatMap]
  constructor
  ·rintro⟨c,b,hw⟩
   have b:=List.mem_range.1 b
   exact⟨(c:Int),by omega,List.mem_singleton.1 hw⟩
  ·rintro⟨c,b,rfl⟩
   refine⟨c.toNat,List.mem_range.2 (by omega),?_⟩
   rw[List.mem_singleton]
   congr 1
   omega
 by_cases g:r.Move=1
 ·rw[decide_eq_true g,cond_true]
  by_cases d:(a:Int)=0
  ·rw[decide_eq_true d,cond_true]
   have e:a=0:=by omega
   simp[g,e]
  ·rw[decide_eq_false d,cond_false]
   have e:¬a=0:=by omega
   simp[g,e]
 ·rw[decide_eq_false g,cond_false]
  by_cases d:(a:Int)=0
  ·rw[decide_eq_true d,cond_true,List.mem_append,List.mem_append,List.mem_append,b (λc=>⟨[c,m.I+(p:Int),(a:Int)],[m.I+r.Next,c,r.Write]⟩),b (λc=>⟨[c,m.I+(p:Int),m.I+m.N],[m.I+r.Next,c,r.Write,m.I+m.N]⟩)]
   simp only[List.mem_singleton,g,d,ne_eq,not_false_eq_true,true_and,false_and,false_or,or_assoc]
  ·rw[decide_eq_false d,cond_false,List.append_nil,List.mem_append,b (λc=>⟨[c,m.I+(p:Int),(a:Int)],[m.I+r.Next,c,r.Write]⟩)]
   simp only[List.mem_singleton,g,d,ne_eq,not_false_eq_true,true_and,false_and,false_or,or_false]
theorem Hn {s q i:Nat}(h:i<q*s)(hs:0<s): ∃p a,p<q/\a<s/\i=p*s+a:=by
 refine⟨i / s,i%s,?_,Nat.mod_lt _ hs,?_⟩
 ·rw[Nat.div_lt_iff_lt_mul hs]
  exact h
 ·rw[Nat.mul_comm]
  exact(Nat.div_add_mod i s).symm
theorem CX {m:O}{s q:Nat}(T:iR m s q)(w:V): w∈bN m s↔∃p a:Nat,p<q/\a<s/\m.aB.getD (p*s+a) cn≠cn/\shape m (p:Int) (a:Int) (m.aB.getD (p*s+a) cn) w:=by
 have b1:=T.b1
 have e:∀ {i:Nat},i<q*s->m.aB.getD i cn∈m.aB:=λ{i} hi=>by
  rw[List.getD_eq_getElem?_getD,List.getElem?_eq_getElem (by rw[T.hl];exact hi)]
  exact List.getElem_mem _
 unfold bN
 rw[List.mem_flatMap]
 constructor
 ·rintro⟨i,hi,hw⟩
  have hi:=List.mem_range.1 hi
  rw[T.hl]at hi
  obtain⟨p,a,c,d,rfl⟩:=Hn hi (by omega)
  unfold va at hw
  by_cases b:m.aB.getD (p*s+a) cn=cn
  ·rw[decide_eq_true b,cond_true]at hw
   simp at hw
  ·rw[decide_eq_false b,cond_false]at hw
   exact⟨p,a,c,d,b,(Hu T c d (e hi) b w).1 hw⟩
 ·rintro⟨p,a,c,d,b,hw⟩
  have hi:p*s+a<q*s:=HB c d
  refine⟨p*s+a,List.mem_range.2 (by rw[T.hl];exact hi),?_⟩
  unfold va
  rw[decide_eq_false b,cond_false]
  exact(Hu T c d (e hi) b w).2 hw
theorem wR {m:O}{X:List Int}{p:Int}{Y u v:List Int}{z:Int}(C:tU m X p Y)(d:m.I<=z/\z<m.I+m.N)(h:Wd m X p Y=u++(z::v)): u=(m.I+m.N)::X/\z=m.I+p/\v=Y++[m.I+m.N]:=by
 have b:((m.I+m.N)::X)++((m.I+p)::(Y++[m.I+m.N]))=u++(z::v):=h
 have hl:u.length=((m.I+m.N)::X).length:=by
  rcases Nat.lt_trichotomy u.length ((m.I+m.N)::X).length with a|a|a
  ·exfalso
   have g:(((m.I+m.N)::X)++((m.I+p)::(Y++[m.I+m.N])))[u.length]?=(u++(z::v))[u.length]?:=by rw[b]
   rw[List.getElem?_append_left a,List.getElem?_append_right (Nat.le_refl _),Nat.sub_self,List.getElem?_cons_zero]at g
   have hm:=List.mem_of_getElem? g
   rcases List.mem_cons.1 hm with rfl|hm
   ·omega
   ·have:=C.sx z hm
    omega
  ·exact a
  ·exfalso
   have g:(((m.I+m.N)::X)++((m.I+p)::(Y++[m.I+m.N])))[u.length]?=(u++(z::v))[u.length]?:=by rw[b]
   rw[List.getElem?_append_right (by omega),List.getElem?_append_right (Nat.le_refl _),Nat.sub_self,List.getElem?_cons_zero]at g
   obtain⟨n,c⟩:∃n,u.length-((m.I+m.N)::X).length=n+1:=⟨u.length-((m.I+m.N)::X).length-1,by omega⟩
   rw[c,List.getElem?_cons_succ]at g
   have hm:=List.mem_of_getElem? g
   rcases List.mem_append.1 hm with hm|hm
   ·have:=C.sy z hm
    omega
   ·rw[List.mem_singleton]at hm
    omega
 obtain⟨e1,e2⟩:=List.append_inj b hl.symm
 simp only[List.cons.injEq]at e2
 exact⟨e1.symm,e2.1.symm,e2.2.symm⟩
theorem ue {m:O}{Y b:List Int}{a:Int}(c:sym m Y)(d:0<=a/\a<m.I)(hq:1<=m.N)(h:a::b=Y++[m.I+m.N]): Y=a::Y.tail/\b=Y.tail++[m.I+m.N]:=by
 cases Y with
 |nil=>
  simp at h
  omega
 |cons y Y=>
  simp only[List.cons_append,List.cons.injEq]at h
  exact⟨by rw[h.1];rfl,h.2⟩
theorem EB {m:O}{Y a:List Int}(b:sym m Y)(hq:1<=m.N)(h:(m.I+m.N)::a=Y++[m.I+m.N]): Y=[]/\a=[]:=by
 cases Y with
 |nil=>
  simp at h
  exact⟨rfl,h⟩
 |cons y Y=>
  simp only[List.cons_append,List.cons.injEq]at h
  have:=b y (List.mem_cons_self ..)
  omega
theorem JY {m:O}{X pre:List Int}{c:Int}(a:0<=c/\c<m.I)(hq:1<=m.N)(h:pre++[c]=(m.I+m.N)::X): pre=(m.I+m.N)::X.dropLast/\X=X.dropLast++[c]/\X.getLastD 0=c:=by
 rcases gp X with rfl|⟨b,x,rfl⟩
 ·cases pre with
  |nil=>simp at h;omega
  |cons y l=>simp at h
 ·rw[<- List.cons_append]at h
  obtain⟨e1,e2⟩:=List.append_inj' h rfl
  simp only[List.cons.injEq,and_true]at e2
  subst e2
  exact⟨by rw[e1];simp,by simp,by simp⟩
theorem IQ {m:O}{X pre:List Int}(a:sym m X)(hq:1<=m.N)(h:pre++[m.I+m.N]=(m.I+m.N)::X): pre=[]/\X=[]:=by
 rcases gp X with rfl|⟨b,x,rfl⟩
 ·cases pre with
  |nil=>exact⟨rfl,rfl⟩
  |cons y l=>simp at h
 ·rw[<- List.cons_append]at h
  obtain⟨e1,e2⟩:=List.append_inj' h rfl
  simp only[List.cons.injEq,and_true]at e2
  have:=a x (by simp)
  omega
theorem QN {m:O}{s q:Nat}(T:iR m s q){X:List Int}{p:Int}{Y:List Int}(C:tU m X p Y){w:V}(hw:w∈bN m s){pre b:List Int}(h:Wd m X p Y=pre++(w.dS++b)):
  rl m p Y≠cn/\pre++(w.To++b)=Wd m (yY (rl m p Y) X) (rl m p Y).Next (za (rl m p Y) X Y)/\
   ∃off,off<=1/\pre.length+off=X.length+1/\(w.dS.findIdx? λx=>decide (m.I<=x)&&decide (x<m.I+m.N))=some off:=by
 have hs:=T.hs
 have hq:=T.hq
 have b2:=T.b2
 obtain⟨f,a,A,B,n,r⟩:=(CX T w).1 hw
 have st:m.I<=m.I+(f:Int)/\m.I+(f:Int)<m.I+m.N:=by omega
 have key:p=(f:Int)->Y.headD 0=(a:Int)->rl m p Y=m.aB.getD (f*s+a) cn:=by
  intro y z
  unfold rl
  rw[y,z,hs]
  congr 1
 have f0:∀l:List Int,((m.I+(f:Int))::l).findIdx? (λx=>decide (m.I<=x)&&decide (x<m.I+m.N))=some 0:=by
  intro l
  rw[List.findIdx?_cons,decide_eq_true st.1,decide_eq_true st.2]
  rfl
 have f1:∀(c:Int) (l:List Int),(c<m.I\/m.I+m.N<=c)->(c::(m.I+(f:Int))::l).findIdx? (λx=>decide (m.I<=x)&&decide (x<m.I+m.N))=some 1:=by
  intro c l i
  rw[List.findIdx?_cons,f0]
  have:(decide (m.I<=c)&&decide (c<m.I+m.N))=false:=by
   rcases i with i|i
   ·rw[decide_eq_false (by omega),Bool.false_and]
   ·rw[decide_eq_false (by omega:¬c<m.I+m.N),Bool.and_false]
  rw[this]
  rfl
 rcases r with⟨hm,rfl|⟨o,rfl⟩⟩|⟨hm,⟨c,i,rfl⟩|rfl|⟨o,⟨c,i,rfl⟩|rfl⟩⟩
 ·obtain⟨e1,e2,e3⟩:=wR C st (u:=pre) (v:=(a:Int)::b) h
  obtain⟨d,e⟩:=ue C.sy (by omega) (by omega) e3
  have hr:=key (by omega) (by rw[d];rfl)
  rw[hr]
  refine⟨n,?_,0,by omega,by rw[e1,List.length_cons],f0 _⟩
  unfold yY za
  rw[if_pos hm,if_pos hm,e1,e]
  unfold Wd
  simp
 ·obtain⟨e1,e2,e3⟩:=wR C st (u:=pre) (v:=(m.I+m.N)::b) h
  obtain⟨d,e⟩:=EB C.sy (by omega) e3
  have hr:=key (by omega) (by rw[d,o];rfl)
  rw[hr]
  refine⟨n,?_,0,by omega,by rw[e1,List.length_cons],f0 _⟩
  unfold yY za
  rw[if_pos hm,if_pos hm,e1,e,d]
  unfold Wd
  simp
 ·have j:Wd m X p Y=(pre++[c])++((m.I+(f:Int))::((a:Int)::b)):=by rw[h];simp
  obtain⟨e1,e2,e3⟩:=wR C st j
  obtain⟨d,e⟩:=ue C.sy (by omega) (by omega) e3
  obtain⟨g,k,t⟩:=JY i (by omega) e1
  have hr:=key (by omega) (by rw[d];rfl)
  rw[hr]
  refine⟨n,?_,1,by omega,?_,f1 _ _ (by omega)⟩
  ·unfold yY za
   rw[if_neg hm,if_neg hm,g,e,t]
   unfold Wd
   simp
  ·have:=congrArg List.length e1
   simp only[List.length_append,List.length_cons,List.length_nil]at this
   omega
 ·have j:Wd m X p Y=(pre++[m.I+m.N])++((m.I+(f:Int))::((a:Int)::b)):=by rw[h];simp
  obtain⟨e1,e2,e3⟩:=wR C st j
  obtain⟨d,e⟩:=ue C.sy (by omega) (by omega) e3
  obtain⟨g,k⟩:=IQ C.sx (by omega) e1
  have hr:=key (by omega) (by rw[d];rfl)
  rw[hr]
  refine⟨n,?_,1,by omega,?_,f1 _ _ (by omega)⟩
  ·unfold yY za
   rw[if_neg hm,if_neg hm,g,e,k]
   unfold Wd
   simp
  ·rw[g,k]
 ·have j:Wd m X p Y=(pre++[c])++((m.I+(f:Int))::((m.I+m.N)::b)):=by rw[h];simp
  obtain⟨e1,e2,e3⟩:=wR C st j
  obtain⟨d,e⟩:=EB C.sy (by omega) e3
  obtain⟨g,k,t⟩:=JY i (by omega) e1
  have hr:=key (by omega) (by rw[d,o];rfl)
  rw[hr]
  refine⟨n,?_,1,by omega,?_,f1 _ _ (by omega)⟩
  ·unfold yY za
   rw[if_neg hm,if_neg hm,g,e,t,d]
   unfold Wd
   simp
  ·have:=congrArg List.length e1
   simp only[List.length_append,List.length_cons,List.length_nil]at this
   omega
 ·have j:Wd m X p Y=(pre++[m.I+m.N])++((m.I+(f:Int))::((m.I+m.N)::b)):=by rw[h];simp
  obtain⟨e1,e2,e3⟩:=wR C st j
  obtain⟨d,e⟩:=EB C.sy (by omega) e3
  obtain⟨g,k⟩:=IQ C.sx (by omega) e1
  have hr:=key (by omega) (by rw[d,o];rfl)
  rw[hr]
  refine⟨n,?_,1,by omega,?_,f1 _ _ (by omega)⟩
  ·unfold yY za
   rw[if_neg hm,if_neg hm,g,e,k,d]
   unfold Wd
   simp
  ·rw[g,k]
theorem Pp {m:O}{s q:Nat}(T:iR m s q){X:List Int}{p:Int}{Y:List Int}(C:tU m X p Y)(g:rl m p Y≠cn): ∃w∈bN m s,∃pre f,Wd m X p Y=pre++(w.dS++f):=by
 have hs:=T.hs
 have hq:=T.hq
 have b1:=T.b1
 have j:=C.J
 have k:=C.p1
 obtain⟨e,rfl⟩:∃e:Nat,p=(e:Int):=⟨p.toNat,by omega⟩
 have l:0<=Y.headD 0/\Y.headD 0<m.I:=by
  cases Y with
  |nil=>show(0:Int)<=0/\(0:Int)<m.I;omega
  |cons y Y=>exact C.sy y (List.mem_cons_self ..)
 obtain⟨a,b⟩:∃a:Nat,Y.headD 0=(a:Int):=⟨(Y.headD 0).toNat,by omega⟩
 have hr:rl m (e:Int) Y=m.aB.getD (e*s+a) cn:=by
  unfold rl
  rw[b,hs]
  congr 1
 rw[hr]at g
 have c:∀w,shape m (e:Int) (a:Int) (m.aB.getD (e*s+a) cn) w->w∈bN m s:=λw hw=>(CX T w).2 ⟨e,a,by omega,by omega,g,hw⟩
 by_cases hm:(m.aB.getD (e*s+a) cn).Move=1
 ·cases Y with
  |nil=>
   have d:(a:Int)=0:=b.symm
   exact⟨_,c _ (.inl ⟨hm,.inr ⟨d,rfl⟩⟩),(m.I+m.N)::X,[],by unfold Wd;simp⟩
  |cons y Y=>
   have d:y=(a:Int):=b
   exact⟨_,c _ (.inl ⟨hm,.inl rfl⟩),(m.I+m.N)::X,Y++[m.I+m.N],by unfold Wd;rw[d];simp⟩
 ·rcases gp X with rfl|⟨h,x,rfl⟩
  ·cases Y with
   |nil=>
    have d:(a:Int)=0:=b.symm
    exact⟨_,c _ (.inr ⟨hm,.inr (.inr ⟨d,.inr rfl⟩)⟩),[],[],by unfold Wd;simp⟩
   |cons y Y=>
    have d:y=(a:Int):=b
    exact⟨_,c _ (.inr ⟨hm,.inr (.inl rfl)⟩),[],Y++[m.I+m.N],by unfold Wd;rw[d];simp⟩
  ·have i:=C.sx x (by simp)
   cases Y with
   |nil=>
    have d:(a:Int)=0:=b.symm
    exact⟨_,c _ (.inr ⟨hm,.inr (.inr ⟨d,.inl ⟨x,i,rfl⟩⟩)⟩),(m.I+m.N)::h,[],by unfold Wd;simp⟩
   |cons y Y=>
    have d:y=(a:Int):=b
    exact⟨_,c _ (.inr ⟨hm,.inl ⟨x,i,rfl⟩⟩),(m.I+m.N)::h,Y++[m.I+m.N],by unfold Wd;rw[d];simp⟩
def zt (m:O)(x:Int): Bool:=decide (m.I<=x)&&decide (x<m.I+m.N)
def pL (m:O)(w:V): Nat:=(w.dS.findIdx? (zt m)).getD 0
def Bw (m:O)(X:List Int)(p:Int)(Y:List Int)(w:V): Bool:=decide (((Wd m X p Y).drop (X.length+1-pL m w)).take w.dS.length=w.dS)
theorem Nx {m:O}{s q:Nat}(T:iR m s q){w:V}(hw:w∈bN m s): pL m w<=1/\w.dS.findIdx? (zt m)=some (pL m w)/\w.dS.length<=3/\w.To.length<=5:=by
 have hs:=T.hs
 have hq:=T.hq
 have b2:=T.b2
 obtain⟨e,a,g,h,i,d⟩:=(CX T w).1 hw
 have f0:∀l:List Int,((m.I+(e:Int))::l).findIdx? (zt m)=some 0:=by
  intro l
  unfold zt
  rw[List.findIdx?_cons,decide_eq_true (by omega),decide_eq_true (by omega)]
  rfl
 have f1:∀(c:Int) (l:List Int),(c<m.I\/m.I+m.N<=c)->(c::(m.I+(e:Int))::l).findIdx? (zt m)=some 1:=by
  intro c l b
  rw[List.findIdx?_cons,f0]
  have:zt m c=false:=by
   unfold zt
   rcases b with b|b
   ·rw[decide_eq_false (by omega),Bool.false_and]
   ·rw[decide_eq_false (by omega:¬c<m.I+m.N),Bool.and_false]
  rw[this]
  rfl
 unfold pL
 rcases d with⟨hm,rfl|⟨f,rfl⟩⟩|⟨hm,⟨c,b,rfl⟩|rfl|⟨f,⟨c,b,rfl⟩|rfl⟩⟩
 ·simp only[f0];simp
 ·simp only[f0];simp
 ·simp only[f1 _ _ (show c<m.I\/m.I+m.N<=c by omega)];simp
 ·simp only[f1 _ _ (show m.I+m.N<m.I\/m.I+m.N<=m.I+m.N by omega)];simp
 ·simp only[f1 _ _ (show c<m.I\/m.I+m.N<=c by omega)];simp
 ·simp only[f1 _ _ (show m.I+m.N<m.I\/m.I+m.N<=m.I+m.N by omega)];simp
theorem filter_one {p:Nat->Bool}{a0:Nat}: ∀n:Nat,(∀a,a<n->p a=true->a=a0)->(List.range n).filter p=if a0<n/\p a0=true then [a0]else []
 |0,_=>by simp
 |n+1,h=>by
  rw[List.range_succ,List.filter_append,filter_one n (λa i=>h a (by omega))]
  by_cases b:p n=true
  ·have e:=h n (by omega) b
   subst e
   rw[if_neg (by omega),if_pos ⟨by omega,b⟩]
   simp[b]
  ·have c:p n=false:=by simpa using b
   have:(a0<n/\p a0=true)↔(a0<n+1/\p a0=true):=by
    constructor
    ·rintro⟨g,d⟩;exact⟨by omega,d⟩
    ·rintro⟨g,d⟩
     refine⟨?_,d⟩
     by_cases he:a0=n
     ·subst he;exact absurd d b
     ·omega
   by_cases f:a0<n/\p a0=true
   ·rw[if_pos f,if_pos (this.1 f)]
    simp[c]
   ·rw[if_neg f,if_neg (λe=>f (this.2 e))]
    simp[c]
theorem L8 (u:List Int)(a n:Nat): u=u.take a++((u.drop a).take n++u.drop (a+n)):=by
 conv=>lhs;rw[<- List.take_append_drop a u]
 congr 1
 conv=>lhs;rw[<- List.take_append_drop n (u.drop a),List.drop_drop]
section
variable {m:O}{s q:Nat}{X:List Int}{p:Int}{Y:List Int}
def Wn (m:O)(X:List Int)(p:Int)(Y:List Int): List Int:=Wd m (yY (rl m p Y) X) (rl m p Y).Next (za (rl m p Y) X Y)
theorem Ln (T:iR m s q)(C:tU m X p Y){w:V}(hw:w∈bN m s){a:Nat}(d:a<=(Wd m X p Y).length)(h:((Wd m X p Y).drop a).take w.dS.length=w.dS): rl m p Y≠cn/\JV (Wd m X p Y) w a=Wn m X p Y/\a+pL m w=X.length+1:=by
 have b:=L8 (Wd m X p Y) a w.dS.length
 rw[h]at b
 obtain⟨e,f,off,_,c,g⟩:=QN T C hw b
 refine⟨e,?_,?_⟩
 ·unfold JV qm
  rw[List.append_assoc,f]
  rfl
 ·have:w.dS.findIdx? (zt m)=some off:=g
  unfold pL
  rw[this]
  rw[List.length_take,Nat.min_eq_left d]at c
  exact c
theorem Ga (T:iR m s q)(C:tU m X p Y){w:V}(hw:w∈bN m s)(h:Bw m X p Y w=true): rl m p Y≠cn/\JV (Wd m X p Y) w (X.length+1-pL m w)=Wn m X p Y:=by
 have hl:=ru m X p Y
 obtain⟨b,c,_⟩:=Ln T C hw (a:=X.length+1-pL m w) (by omega) (of_decide_eq_true h)
 exact⟨b,c⟩
theorem yB (T:iR m s q)(C:tU m X p Y)(d:rl m p Y≠cn): ∃(k:Nat) (a:k<(bN m s).length),Bw m X p Y (bN m s)[k]=true/\∀j (b:j<k),Bw m X p Y ((bN m s)[j]'(by omega))=false:=by
 obtain⟨w,hw,pre,e,h⟩:=Pp T C d
 have hm:Bw m X p Y w=true:=by
  have e1:((Wd m X p Y).drop pre.length).take w.dS.length=w.dS:=by
   rw[h,List.drop_left' rfl,List.take_left' rfl]
  have hl:pre.length<=(Wd m X p Y).length:=by rw[h,List.length_append];omega
  have:=(Ln T C hw hl e1).2.2
  unfold Bw
  rw[show X.length+1-pL m w=pre.length by omega]
  exact decide_eq_true e1
 cases c:(bN m s).findIdx? (Bw m X p Y)with
 |none=>
  have:=List.findIdx?_eq_none_iff.1 c w hw
  rw[this]at hm
  cases hm
 |some k=>
  obtain⟨a,f,g⟩:=List.findIdx?_eq_some_iff_getElem.1 c
  exact⟨k,a,f,λj b=>by have:=g j b;simpa using this⟩
theorem MV (T:iR m s q)(C:tU m X p Y)(a:rl m p Y=cn): ∀w∈bN m s,Bw m X p Y w=false:=by
 intro w hw
 cases h:Bw m X p Y w
 ·rfl
 ·exact absurd a (Ga T C hw h).1
theorem yj (xs:List Int)(b:Int->Option Bool)(p:Int->Bool)(a:∀x,b x=some (p x))(h:xs.length<=1048576): dz xs b=some (match xs.findIdx? p with|none=>-1|some i=>(i:Int)):=by
 unfold dz
 refine Dj xs (by omega) p (λi hi=>?_) (by simp[gJ])
 simp only[gJ,Int.ofNat_lt,hi,decide_true,cond_true,eh hi,D,a]
 cases p xs[i]<;>rfl
theorem Hp (m:O)(x:Int): gj x ⟨m.I,m.I+m.N⟩=some (zt m x):=by
 unfold gj zt
 cases decide (m.I<=x)<;>rfl
theorem O4 (b2:0<=m.N)(C:tU m X p Y): (Wd m X p Y).findIdx? (zt m)=some (X.length+1):=by
 have b:((m.I+m.N)::X).findIdx? (zt m)=none:=by
  rw[List.findIdx?_eq_none_iff]
  intro x a
  unfold zt
  rcases List.mem_cons.1 a with rfl|a
  ·rw[decide_eq_false (by omega:¬m.I+m.N<m.I+m.N),Bool.and_false]
  ·have:=C.sx x a
   rw[decide_eq_false (by omega),Bool.false_and]
 have c:((m.I+p)::(Y++[m.I+m.N])).findIdx? (zt m)=some 0:=by
  have:=C.J
  have:=C.p1
  rw[List.findIdx?_cons]
  unfold zt
  rw[decide_eq_true (by omega),decide_eq_true (by omega)]
  rfl
 have d:Wd m X p Y=((m.I+m.N)::X)++((m.I+p)::(Y++[m.I+m.N])):=rfl
 rw[d,List.findIdx?_append,b,c]
 simp
theorem wc (T:iR m s q)(C:tU m X p Y)(z:(Wd m X p Y).length<=400)(A:(bN m s).length<=1000):
  (rl m p Y=cn->fN ⟨m.I,m.I+m.N⟩ (bN m s) (Wd m X p Y)=some (⟨0,0,[]⟩,false))/\
  (∀(k:Nat) (g:k<(bN m s).length),Bw m X p Y (bN m s)[k]=true->(∀j (a:j<k),Bw m X p Y ((bN m s)[j]'(by omega))=false)->fN ⟨m.I,m.I+m.N⟩ (bN m s) (Wd m X p Y)=some (⟨(k:Int),((X.length+1-pL m (bN m s)[k]:Nat):Int),Wn m X p Y⟩,true)):=by
 have hl:=ru m X p Y
 have hq:=T.hq
 have b:dz (Wd m X p Y) (λl=>gj l ⟨m.I,m.I+m.N⟩)=some ((X.length+1:Nat):Int):=by
  rw[yj _ _ (zt m) (Hp m) (by omega),O4 (by omega) C]
 have step:∀j (a:j<(bN m s).length),eY ⟨m.I,m.I+m.N⟩ (bN m s) (Wd m X p Y) ((X.length+1:Nat):Int) (j:Int)=cond (Bw m X p Y (bN m s)[j]) (some (.inr (.ret (⟨(j:Int),((X.length+1-pL m (bN m s)[j]:Nat):Int),Wn m X p Y⟩,true)))) (some (.inl ((j+1:Nat):Int))):=by
  intro j a
  obtain⟨B,o,E,F⟩:=Nx T (List.getElem_mem a)
  have e:ah (((X.length+1:Nat):Int)-(pL m (bN m s)[j]:Int))=((X.length+1-pL m (bN m s)[j]:Nat):Int):=by
   rw[bC (by omega) (by omega)]
   omega
  simp only[eY]
  rw[decide_eq_true (by omega),cond_true,eh a,D,yj _ _ (zt m) (Hp m) (by omega),o,D]
  simp only
  rw[e,decide_eq_true (by omega),cond_true,tW (by omega),D,sJ _ _ (by rw[List.length_drop];omega),D]
  have f:decide (((Wd m X p Y).drop (X.length+1-pL m (bN m s)[j])).take (bN m s)[j].dS.length=(bN m s)[j].dS)=Bw m X p Y (bN m s)[j]:=rfl
  rw[f,D]
  simp only[Out.elim]
  cases h:Bw m X p Y (bN m s)[j]
  ·rw[cond_false,cond_false,dh (by omega)]
  ·have c:X.length+1-pL m (bN m s)[j]+(bN m s)[j].dS.length<=(Wd m X p Y).length:=vx (of_decide_eq_true h) (by omega)
   rw[cond_true,cond_true,xq _ _ _ _ (by omega) (by omega) c,D]
   have d:=(Ga T C (List.getElem_mem a) h).2
   unfold JV at d
   rw[d]
 have go:∀(n i:Nat) (_:i+n<=(bN m s).length),(∀j (a:j<i+n),i<=j->Bw m X p Y ((bN m s)[j]'(by omega))=false)->run (eY ⟨m.I,m.I+m.N⟩ (bN m s) (Wd m X p Y) ((X.length+1:Nat):Int)) (i:Int)=run (eY ⟨m.I,m.I+m.N⟩ (bN m s) (Wd m X p Y) ((X.length+1:Nat):Int)) ((i+n:Nat):Int):=by
  intro n
  induction n with
  |zero=>intro i _ _;rfl
  |succ n r=>
   intro i hi hm
   have h:=step i (by omega)
   rw[hm i (by omega) (Nat.le_refl _),cond_false]at h
   rw[bZ h,r (i+1) (by omega) (λj a t=>hm j (by omega) (by omega))]
   congr 1
   omega
 constructor
 ·intro u
  have v:=MV T C u
  unfold fN
  rw[b,D,show(0:Int)=((0:Nat):Int)from rfl,go (bN m s).length 0 (by omega) (λj a _=>v _ (List.getElem_mem _)),Nat.zero_add,aZ (x:=.bf ((bN m s).length:Int)) (by simp only[eY];rw[decide_eq_false (by omega),cond_false])]
  rfl
 ·intro k g w y
  have h:=step k g
  rw[w,cond_true]at h
  unfold fN
  rw[b,D,show(0:Int)=((0:Nat):Int)from rfl,go k 0 (by omega) (λj a _=>y j (by omega)),Nat.zero_add,aZ h]
  rfl
end
theorem JC {a b u v:List Int}{z z':Int}(c:z'∉a)(d:z'∉b)(h:a++(z::b)=u++(z'::v)): u=a/\z'=z/\v=b:=by
 have hl:u.length=a.length:=by
  rcases Nat.lt_trichotomy u.length a.length with g1|g1|g1
  ·exfalso
   have g:(a++(z::b))[u.length]?=(u++(z'::v))[u.length]?:=by rw[h]
   rw[List.getElem?_append_left g1,List.getElem?_append_right (Nat.le_refl _),Nat.sub_self,List.getElem?_cons_zero]at g
   exact c (List.mem_of_getElem? g)
  ·exact g1
  ·exfalso
   have g:(a++(z::b))[u.length]?=(u++(z'::v))[u.length]?:=by rw[h]
   rw[List.getElem?_append_right (by omega),List.getElem?_append_right (Nat.le_refl _),Nat.sub_self,List.getElem?_cons_zero]at g
   obtain⟨n,e⟩:∃n,u.length-a.length=n+1:=⟨u.length-a.length-1,by omega⟩
   rw[e,List.getElem?_cons_succ]at g
   exact d (List.mem_of_getElem? g)
 obtain⟨e1,e2⟩:=List.append_inj h hl.symm
 simp only[List.cons.injEq]at e2
 exact⟨e1.symm,e2.1.symm,e2.2.symm⟩
theorem Aw {w f:List Int}{a:Nat}: a∈DR w f↔a<=w.length/\(w.drop a).take f.length=f:=by
 unfold DR
 rw[List.mem_filter,List.mem_range,decide_eq_true_eq]
 constructor
 ·rintro⟨c,b⟩;exact⟨by omega,b⟩
 ·rintro⟨c,b⟩;exact⟨by omega,b⟩
theorem GN {w f:List Int}{a0:Nat}(h:∀a,a∈DR w f->a=a0): DR w f=if (w.drop a0).take f.length=f/\a0<=w.length then [a0]else []:=by
 have c:∀a,a<w.length+1->decide ((w.drop a).take f.length=f)=true->a=a0:=λa e hd=>h a (Aw.2 ⟨by omega,of_decide_eq_true hd⟩)
 unfold DR
 rw[filter_one (w.length+1) c]
 by_cases b:(w.drop a0).take f.length=f/\a0<=w.length
 ·rw[if_pos b,if_pos ⟨by omega,decide_eq_true b.1⟩]
 ·rw[if_neg b,if_neg]
  rintro⟨g,d⟩
  exact b ⟨of_decide_eq_true d,by omega⟩
theorem sP {α:Type}(xs:List α)(k:Nat): idx xs (k:Int)=xs[k]?:=by
 unfold idx
 rw[if_neg (by omega),Int.toNat_natCast]
def fU (m:O): Int:=m.I+m.N+1
def Ed (m:O)(L R:List Int): List Int:=(m.I+m.N)::(L++(fU m::(R++[m.I+m.N])))
theorem rB (m:O)(L R:List Int): (Ed m L R).length=L.length+R.length+3:=by
 unfold Ed
 simp only[List.length_cons,List.length_append,List.length_nil]
 omega
def jo (m:O): List V:=(List.range m.aB.length).flatMap λi=>cond (sf m i) (lH m i) []
def vB (m:O)(s:Nat): List V:=(List.range s).flatMap (qd m)
theorem rV (m:O)(s:Nat): cc m s=bN m s++(jo m++vB m s):=by
 unfold cc jo vB
 rw[List.append_assoc]
theorem uv (m:O): ∀s,(vB m s).length=2*s
 |0=>rfl
 |s+1=>by
  have:=uv m s
  unfold vB at this ⊢
  rw[List.range_succ,List.flatMap_append,List.length_append,this]
  simp[qd]
  omega
theorem DN (m:O): ∀(s c:Nat),c<s->(vB m s)[2*c]?=some ⟨[fU m,(c:Int)],[fU m]⟩/\(vB m s)[2*c+1]?=some ⟨[(c:Int),fU m],[fU m]⟩
 |0,c,h=>by omega
 |s+1,c,h=>by
  have hl:=uv m s
  have he:vB m (s+1)=vB m s++qd m s:=by
   unfold vB
   rw[List.range_succ,List.flatMap_append]
   simp
  rw[he]
  by_cases d:c<s
  ·obtain⟨a,b⟩:=DN m s c d
   rw[List.getElem?_append_left (by omega),List.getElem?_append_left (by omega)]
   exact⟨a,b⟩
  ·have:c=s:=by omega
   subst this
   rw[List.getElem?_append_right (by omega),List.getElem?_append_right (by omega),hl,Nat.sub_self,Nat.add_sub_cancel_left]
   exact⟨rfl,rfl⟩
section
variable {m:O}{s q:Nat}
theorem yQ (T:iR m s q)(w:V): w∈jo m↔∃p a:Nat,p<q/\a<s/\m.aB.getD (p*s+a) cn=cn/\(w=⟨[m.I+(p:Int),(a:Int)],[fU m]⟩\/(a=0/\w=⟨[m.I+(p:Int),m.I+m.N],[fU m,m.I+m.N]⟩)):=by
 have hs:=T.hs
 have hq:=T.hq
 have b1:=T.b1
 have b3:=T.b3
 have d:∀p a:Nat,p<q->a<s->(w∈lH m (p*s+a)↔(w=⟨[m.I+(p:Int),(a:Int)],[fU m]⟩\/(a=0/\w=⟨[m.I+(p:Int),m.I+m.N],[fU m,m.I+m.N]⟩))):=by
  intro p a c b
  have hd:Int.tdiv ((p*s+a:Nat):Int) m.I=(p:Int):=by
   rw[hs,Int.tdiv_eq_ediv_of_nonneg (by omega)]
   have:(p*s+a) / s=p:=by rw[Nat.mul_comm,Nat.mul_add_div (by omega),Nat.div_eq_of_lt b,Nat.add_zero]
   omega
  have hm:Int.tmod ((p*s+a:Nat):Int) m.I=(a:Int):=by
   rw[hs,Int.tmod_eq_emod_of_nonneg (by omega)]
   have:(p*s+a)%s=a:=by rw[Nat.mul_comm,Nat.mul_add_mod,Nat.mod_eq_of_lt b]
   omega
  unfold lH fU
  rw[hd,hm,bC (n:=(p:Int)) (by omega) (by omega),bC (n:=m.I+(p:Int)) (by omega) (by omega)]
  by_cases f:a=0
  ·rw[decide_eq_true (by omega),cond_true]
   simp[f]
  ·rw[decide_eq_false (by omega),cond_false]
   simp[f]
 unfold jo
 rw[List.mem_flatMap]
 constructor
 ·rintro⟨i,hi,hw⟩
  have hi:=List.mem_range.1 hi
  rw[T.hl]at hi
  obtain⟨p,a,c,b,rfl⟩:=Hn hi (by omega)
  unfold sf at hw
  by_cases e:m.aB.getD (p*s+a) cn=cn
  ·rw[decide_eq_true e,cond_true]at hw
   exact⟨p,a,c,b,e,(d p a c b).1 hw⟩
  ·rw[decide_eq_false e,cond_false]at hw
   simp at hw
 ·rintro⟨p,a,c,b,e,hw⟩
  refine⟨p*s+a,List.mem_range.2 (by rw[T.hl];exact HB c b),?_⟩
  unfold sf
  rw[decide_eq_true e,cond_true]
  exact(d p a c b).2 hw
variable {X:List Int}{p:Int}{Y:List Int}
theorem P4 (T:iR m s q)(C:tU m X p Y){w:V}(hw:w∈jo m){pre b:List Int}(h:Wd m X p Y=pre++(w.dS++b)): pre.length=X.length+1/\pre++(w.To++b)=Ed m X Y.tail:=by
 have hq:=T.hq
 have b2:=T.b2
 obtain⟨c,a,f,g,i,rfl|⟨j,rfl⟩⟩:=(yQ T w).1 hw
 ·obtain⟨e1,e2,e3⟩:=wR C (show m.I<=m.I+(c:Int)/\m.I+(c:Int)<m.I+m.N by omega) (u:=pre) (v:=(a:Int)::b) h
  have hs:=T.hs
  obtain⟨e,d⟩:=ue C.sy (by omega) (by omega) e3
  rw[e1,d]
  exact⟨by rw[List.length_cons],by unfold Ed;simp⟩
 ·obtain⟨e1,e2,e3⟩:=wR C (show m.I<=m.I+(c:Int)/\m.I+(c:Int)<m.I+m.N by omega) (u:=pre) (v:=(m.I+m.N)::b) h
  obtain⟨e,d⟩:=EB C.sy (by omega) e3
  rw[e1,d,e]
  exact⟨by rw[List.length_cons],by unfold Ed;simp⟩
theorem OA (T:iR m s q)(C:tU m X p Y)(d:rl m p Y=cn): ∃w∈jo m,∃pre e,Wd m X p Y=pre++(w.dS++e):=by
 have hs:=T.hs
 have hq:=T.hq
 have b1:=T.b1
 have g:=C.J
 have h:=C.p1
 obtain⟨c,rfl⟩:∃c:Nat,p=(c:Int):=⟨p.toNat,by omega⟩
 have i:0<=Y.headD 0/\Y.headD 0<m.I:=by
  cases Y with
  |nil=>show(0:Int)<=0/\(0:Int)<m.I;omega
  |cons y Y=>exact C.sy y (List.mem_cons_self ..)
 obtain⟨a,b⟩:∃a:Nat,Y.headD 0=(a:Int):=⟨(Y.headD 0).toNat,by omega⟩
 have hr:rl m (c:Int) Y=m.aB.getD (c*s+a) cn:=by
  unfold rl
  rw[b,hs]
  congr 1
 rw[hr]at d
 cases Y with
 |nil=>
  have f:a=0:=by
   have:(0:Int)=(a:Int):=b
   omega
  exact⟨_,(yQ T _).2 ⟨c,a,by omega,by omega,d,.inr ⟨f,rfl⟩⟩,(m.I+m.N)::X,[],by unfold Wd;simp⟩
 |cons y Y=>
  have f:y=(a:Int):=b
  exact⟨_,(yQ T _).2 ⟨c,a,by omega,by omega,d,.inl rfl⟩,(m.I+m.N)::X,Y++[m.I+m.N],by unfold Wd;rw[f];simp⟩
def mF (m:O)(X:List Int)(p:Int)(Y:List Int)(w:V): Bool:=decide (((Wd m X p Y).drop (X.length+1)).take w.dS.length=w.dS)
theorem P3 (T:iR m s q)(C:tU m X p Y){w:V}(hw:w∈jo m)(h:mF m X p Y w=true): qm (Wd m X p Y) w.To (X.length+1) w.dS.length=Ed m X Y.tail:=by
 have a:=L8 (Wd m X p Y) (X.length+1) w.dS.length
 unfold mF at h
 rw[of_decide_eq_true h]at a
 have:=(P4 T C hw a).2
 unfold qm
 rw[List.append_assoc,this]
theorem OW (T:iR m s q)(C:tU m X p Y)(d:rl m p Y=cn): ∃(k:Nat) (a:k<(jo m).length),mF m X p Y (jo m)[k]=true/\∀j (b:j<k),mF m X p Y ((jo m)[j]'(by omega))=false:=by
 obtain⟨w,hw,pre,f,h⟩:=OA T C d
 have hm:mF m X p Y w=true:=by
  have e:=(P4 T C hw h).1
  unfold mF
  rw[<- e,h,List.drop_left' rfl,List.take_left' rfl]
  exact decide_eq_true rfl
 cases c:(jo m).findIdx? (mF m X p Y)with
 |none=>
  have:=List.findIdx?_eq_none_iff.1 c w hw
  rw[this]at hm
  cases hm
 |some k=>
  obtain⟨a,g,i⟩:=List.findIdx?_eq_some_iff_getElem.1 c
  exact⟨k,a,g,λj b=>by have:=i j b;simpa using this⟩
theorem zq (T:iR m s q): ∀w∈jo m,∃c:Nat,c<q/\∃b:Int,(b<m.I\/b=m.I+m.N)/\w.dS=[m.I+(c:Int),b]/\w.To.length<=2:=by
 intro w hw
 have hs:=T.hs
 obtain⟨c,a,d,e,f,rfl|⟨g,rfl⟩⟩:=(yQ T w).1 hw
 ·exact⟨c,d,(a:Int),.inl (by omega),rfl,by simp⟩
 ·exact⟨c,d,_,.inr rfl,rfl,by simp⟩
end
theorem vG {X:Type}{body:Int->Option (Int ⊕ X)}: ∀(n k:Nat),(∀j:Nat,k<=j->j<k+n->body (j:Int)=some (.inl ((j+1:Nat):Int)))->run body (k:Int)=run body ((k+n:Nat):Int)
 |0,k,_=>rfl
 |n+1,k,h=>by
  rw[bZ (h k (Nat.le_refl _) (by omega)),vG n (k+1) (λj a b=>h j (by omega) (by omega))]
  congr 1
  omega
section
variable {m:O}{s q:Nat}
def jO (m:O)(s:Nat): Nat:=(bN m s).length+(jo m).length
theorem yd {k:Nat}(a:k<(jo m).length): (cc m s)[(bN m s).length+k]?=some (jo m)[k]:=by
 rw[rV,List.getElem?_append_right (by omega),Nat.add_sub_cancel_left,List.getElem?_append_left a,List.getElem?_eq_getElem a]
theorem oE {c:Nat}(d:c<s): (cc m s)[jO m s+2*c]?=some ⟨[fU m,(c:Int)],[fU m]⟩/\(cc m s)[jO m s+2*c+1]?=some ⟨[(c:Int),fU m],[fU m]⟩:=by
 have hl:=uv m s
 obtain⟨a,b⟩:=DN m s c d
 unfold jO
 rw[rV,List.getElem?_append_right (by omega),List.getElem?_append_right (by omega),List.getElem?_append_right (by omega),List.getElem?_append_right (by omega)]
 constructor
 ·rw[<- a];congr 1;omega
 ·rw[<- b];congr 1;omega
theorem qt:(cc m s).length=jO m s+2*s:=by
 have hl:=uv m s
 unfold jO
 rw[rV,List.length_append,List.length_append]
 omega
variable {X:List Int}{p:Int}{Y:List Int}
theorem KN (T:iR m s q)(C:tU m X p Y): fU m∉Wd m X p Y:=by
 have hq:=T.hq
 have:=C.p1
 unfold Wd fU
 simp only[List.mem_cons,List.mem_append,List.not_mem_nil,or_false,not_or]
 refine⟨by omega,λh=>?_,by omega,λh=>?_,by omega⟩
 ·have:=C.sx _ h;omega
 ·have:=C.sy _ h;omega
theorem Hw {w:List Int}{z:Int}(hw:w.length<=1048576)(h:z∉w): bY w z=some (-1):=by
 rw[uC _ _ hw]
 have:w.findIdx? (λy=>decide (z=y))=none:=by
  rw[List.findIdx?_eq_none_iff]
  intro y a
  exact decide_eq_false (λe=>h (e▸a))
 rw[this]
theorem Fm {u v:List Int}{z:Int}(hw:(u++(z::v)).length<=1048576)(h:z∉u): bY (u++(z::v)) z=some (u.length:Int):=by
 rw[uC _ _ hw]
 have a:u.findIdx? (λy=>decide (z=y))=none:=by
  rw[List.findIdx?_eq_none_iff]
  intro y b
  exact decide_eq_false (λe=>h (e▸b))
 have c:(z::v).findIdx? (λy=>decide (z=y))=some 0:=by
  rw[List.findIdx?_cons,decide_eq_true rfl]
  rfl
 rw[List.findIdx?_append,a,c]
 simp
theorem JI (T:iR m s q)(C:tU m X p Y)(G:(Wd m X p Y).length<=400)(H:(cc m s).length<=60){k:Nat}(x:k<(jo m).length)(r:mF m X p Y (jo m)[k]=true)(l:∀j (n:j<k),mF m X p Y ((jo m)[j]'(by omega))=false):
  iO (cc m s) ((bN m s).length:Int) (Wd m X p Y) (fU m)=some (⟨(((bN m s).length+k:Nat):Int),((X.length+1:Nat):Int),Ed m X Y.tail⟩,true):=by
 have hlen:=qt (m:=m) (s:=s)
 have hl:=ru m X p Y
 have hq:=T.hq
 have y:=C.J
 have z:=C.p1
 have step:∀j (n:j<(jo m).length),gh (cc m s) (Wd m X p Y) (fU m) (-1) (((bN m s).length+j:Nat):Int)=cond (mF m X p Y (jo m)[j]) (some (.inr (.ret (⟨(((bN m s).length+j:Nat):Int),((X.length+1:Nat):Int),Ed m X Y.tail⟩,true)))) (some (.inl (((bN m s).length+j+1:Nat):Int))):=by
  intro j n
  obtain⟨f,A,b,K,w,M⟩:=zq T _ (List.getElem_mem n)
  have B:(bN m s).length+j<(cc m s).length:=by rw[hlen];unfold jO;omega
  have a:∀(c:Bool) (at':Int),(c=true->at'=((X.length+1:Nat):Int))->c=mF m X p Y (jo m)[j]->(cond c (Z (iZ (Wd m X p Y) at' ((jo m)[j].dS.length:Int) (jo m)[j].To) λt=>some (.inr (.ret ((⟨(((bN m s).length+j:Nat):Int),at',t⟩:iN),true)))) (some (.inl (ah ((((bN m s).length+j:Nat):Int)+1)))):Option (Int ⊕ Out Int (iN×Bool)))=cond (mF m X p Y (jo m)[j]) (some (.inr (.ret (⟨(((bN m s).length+j:Nat):Int),((X.length+1:Nat):Int),Ed m X Y.tail⟩,true)))) (some (.inl (((bN m s).length+j+1:Nat):Int))):=by
   intro c at' r l
   rw[<- l]
   cases c
   ·rw[cond_false,cond_false,dh (by omega)]
   ·have hm:=l.symm
    rw[cond_true,cond_true,r rfl]
    have g:X.length+1+(jo m)[j].dS.length<=(Wd m X p Y).length:=vx (of_decide_eq_true hm) (by omega)
    rw[xq _ _ _ _ (by omega) (by omega) g,D,P3 T C (List.getElem_mem _) hm]
  have i0:idx (jo m)[j].dS 0=some (m.I+(f:Int)):=by rw[w];rfl
  simp only[gh]
  rw[decide_eq_true (by omega),cond_true,sP,yd n,D,decide_eq_true (by decide),cond_true,i0,D]
  by_cases u:p=(f:Int)
  ·have e:bY (Wd m X p Y) (m.I+(f:Int))=some ((X.length+1:Nat):Int):=by
    have d:Wd m X p Y=((m.I+m.N)::X)++((m.I+(f:Int))::(Y++[m.I+m.N])):=by rw[<- u];rfl
    rw[d,Fm (by rw[<- d];omega) (by
     intro h
     rcases List.mem_cons.1 h with h|h
     ·omega
     ·have:=C.sx _ h;omega)]
    rfl
   rw[e,D,decide_eq_true (by omega),cond_true,tW (by omega),D,sJ _ _ (by rw[List.length_drop];omega),D,D]
   exact a _ _ (λ_=>rfl) rfl
  ·have e:bY (Wd m X p Y) (m.I+(f:Int))=some (-1):=by
    refine Hw (by omega) ?_
    unfold Wd
    simp only[List.mem_cons,List.mem_append,List.not_mem_nil,or_false,not_or]
    refine⟨by omega,λh=>?_,by omega,λh=>?_,by omega⟩
    ·have:=C.sx _ h;omega
    ·have:=C.sy _ h;omega
   rw[e,D,decide_eq_false (by decide),cond_false,D]
   refine a false (-1) (λh=>by cases h) ?_
   cases hm:mF m X p Y (jo m)[j]
   ·rfl
   ·exfalso
    unfold mF at hm
    have hm:=of_decide_eq_true hm
    have hd:(Wd m X p Y).drop (X.length+1)=(m.I+p)::(Y++[m.I+m.N]):=by
     have d:Wd m X p Y=((m.I+m.N)::X)++((m.I+p)::(Y++[m.I+m.N])):=rfl
     rw[d,List.drop_left' (by rw[List.length_cons])]
    rw[hd,w]at hm
    simp only[List.length_cons,List.length_nil,List.take_succ_cons,List.cons.injEq]at hm
    omega
 have v:bY (Wd m X p Y) (fU m)=some (-1):=Hw (by omega) (KN T C)
 unfold iO
 rw[v,D,vG k (bN m s).length (λj E F=>by
  obtain⟨o,rfl⟩:∃o,j=(bN m s).length+o:=⟨j-(bN m s).length,by omega⟩
  have:=step o (by omega)
  rw[l o (by omega),cond_false]at this
  exact this)]
 have i:=step k x
 rw[r,cond_true]at i
 rw[aZ i,D]
 rfl
variable {L R:List Int}
structure uY (m:O)(L R:List Int): Prop where
 sl:sym m L
 sr:sym m R
 hl:(Ed m L R).length<=400
theorem HZ (T:iR m s q)(E:uY m L R): fU m∉(m.I+m.N)::L/\fU m∉R++[m.I+m.N]:=by
 have hq:=T.hq
 unfold fU
 constructor
 ·intro h
  rcases List.mem_cons.1 h with h|h
  ·omega
  ·have:=E.sl _ h;omega
 ·intro h
  rcases List.mem_append.1 h with h|h
  ·have:=E.sr _ h;omega
  ·rw[List.mem_singleton]at h;omega
theorem Py (T:iR m s q)(E:uY m L R)(c:Int): DR (Ed m L R) [fU m,c]=if (R++[m.I+m.N]).head?=some c then [L.length+1]else []:=by
 obtain⟨n1,n2⟩:=HZ T E
 have d:Ed m L R=((m.I+m.N)::L)++(fU m::(R++[m.I+m.N])):=rfl
 have hlen:=rB m L R
 rw[GN (a0:=L.length+1) (λa g=>by
  obtain⟨h,i⟩:=Aw.1 g
  have f:=L8 (Ed m L R) a [fU m,c].length
  rw[i,d]at f
  obtain⟨g1,_,_⟩:=JC (u:=(Ed m L R).take a) (z':=fU m) (v:=c::(Ed m L R).drop (a+2)) n1 n2 f
  have:=congrArg List.length g1
  rw[List.length_take,Nat.min_eq_left h,List.length_cons]at this
  exact this)]
 have hd:(Ed m L R).drop (L.length+1)=fU m::(R++[m.I+m.N]):=by
  rw[d,List.drop_left' (by rw[List.length_cons])]
 rw[hd]
 cases j:R++[m.I+m.N]with
 |nil=>simp at j
 |cons y l=>
  simp only[List.length_cons,List.length_nil,List.take_succ_cons,List.take_zero,List.cons.injEq,and_true,true_and,List.head?_cons,Option.some.injEq]
  by_cases b:y=c
  ·rw[if_pos ⟨b,by omega⟩,if_pos b]
  ·rw[if_neg (λe=>b e.1),if_neg b]
theorem P1 (T:iR m s q)(E:uY m L R)(c:Int): DR (Ed m L R) [c,fU m]=if ((m.I+m.N)::L).getLast?=some c then [L.length]else []:=by
 obtain⟨n1,n2⟩:=HZ T E
 have j:Ed m L R=((m.I+m.N)::L)++(fU m::(R++[m.I+m.N])):=rfl
 have hlen:=rB m L R
 rw[GN (a0:=L.length) (λa l=>by
  obtain⟨n,o⟩:=Aw.1 l
  have k:=L8 (Ed m L R) a [c,fU m].length
  rw[o]at k
  have f:((m.I+m.N)::L)++(fU m::(R++[m.I+m.N]))=((Ed m L R).take a++[c])++(fU m::(Ed m L R).drop (a+2)):=by
   refine(j.symm.trans k).trans ?_
   simp
  obtain⟨g1,_,_⟩:=JC n1 n2 f
  have:=congrArg List.length g1
  simp only[List.length_append,List.length_take,Nat.min_eq_left n,List.length_cons,List.length_nil]at this
  omega)]
 obtain⟨b,z,g⟩:∃b z,(m.I+m.N)::L=b++[z]:=by
  rcases gp ((m.I+m.N)::L)with h|⟨b,z,h⟩
  ·cases h
  ·exact⟨b,z,h⟩
 have i:b.length=L.length:=by
  have:=congrArg List.length g
  rw[List.length_cons,List.length_append,List.length_singleton]at this
  omega
 have hd:(Ed m L R).drop L.length=z::fU m::(R++[m.I+m.N]):=by
  rw[j,g,<- i,List.append_assoc,List.drop_left' rfl]
  rfl
 rw[hd,g,List.getLast?_concat]
 simp only[List.length_cons,List.length_nil,List.take_succ_cons,List.take_zero,List.cons.injEq,and_true,Option.some.injEq]
 by_cases d:z=c
 ·rw[if_pos ⟨d,by omega⟩,if_pos d]
 ·rw[if_neg (λe=>d e.1),if_neg d]
theorem N6 {c:Int}{a:List Int}: qm (Ed m L (c::a)) [fU m] (L.length+1) 2=Ed m L a:=by
 have b:Ed m L (c::a)=((m.I+m.N)::L)++([fU m,c]++(a++[m.I+m.N])):=by unfold Ed;simp
 unfold qm
 rw[b,List.take_left' (by rw[List.length_cons]),<- List.append_assoc,List.drop_left' (by simp)]
 unfold Ed
 simp
theorem N7 {c:Int}{a:List Int}: qm (Ed m (a++[c]) R) [fU m] (a.length+1) 2=Ed m a R:=by
 have b:Ed m (a++[c]) R=((m.I+m.N)::a)++([c,fU m]++(R++[m.I+m.N])):=by unfold Ed;simp
 unfold qm
 rw[b,List.take_left' (by rw[List.length_cons]),<- List.append_assoc,List.drop_left' (by simp)]
 unfold Ed
 simp
theorem uY.Kj {c:Int}(E:uY m L (c::R)): uY m L R:=⟨E.sl,λx a=>E.sr x (List.mem_cons_of_mem _ a),by
 have:=E.hl
 rw[rB]at this ⊢
 rw[List.length_cons]at this
 omega⟩
theorem uY.Kc {c:Int}(E:uY m (L++[c]) R): uY m L R:=⟨λx a=>E.sl x (List.mem_append_left _ a),E.sr,by
 have:=E.hl
 rw[rB]at this ⊢
 rw[List.length_append]at this
 omega⟩
end
section
variable {m:O}{s q:Nat}{L R:List Int}
theorem DX {j:Nat}(b:(bN m s).length<=j)(d:j<(cc m s).length): (∃i,i<(jo m).length/\j=(bN m s).length+i)\/(∃c,c<s/\j=jO m s+2*c)\/(∃c,c<s/\j=jO m s+2*c+1):=by
 have hlen:=qt (m:=m) (s:=s)
 by_cases a:j<jO m s
 ·exact .inl ⟨j-(bN m s).length,by unfold jO at a;omega,by omega⟩
 ·by_cases he:(j-jO m s)%2=0
  ·exact .inr (.inl ⟨(j-jO m s) / 2,by omega,by omega⟩)
  ·exact .inr (.inr ⟨(j-jO m s) / 2,by omega,by omega⟩)
theorem Qy (T:iR m s q)(E:uY m L R)(t:(cc m s).length<=60){j:Nat}(g:(bN m s).length<=j)(k:j<(cc m s).length)(e:∀c,c<s->j=jO m s+2*c->(R++[m.I+m.N]).head?≠some (c:Int)):
  gh (cc m s) (Ed m L R) (fU m) ((L.length+1:Nat):Int) (j:Int)=some (.inl ((j+1:Nat):Int)):=by
 have hs:=T.hs
 have hq:=T.hq
 have hlen:=rB m L R
 have el:=E.hl
 have hd:(Ed m L R).drop (L.length+1)=fU m::(R++[m.I+m.N]):=by
  have n:Ed m L R=((m.I+m.N)::L)++(fU m::(R++[m.I+m.N])):=rfl
  rw[n,List.drop_left' (by rw[List.length_cons])]
 simp only[gh]
 rw[decide_eq_true (by omega),cond_true,sP]
 rcases DX g k with⟨i,hi,rfl⟩|⟨c,d,rfl⟩|⟨c,d,rfl⟩
 ·obtain⟨o,p,b,u,r,_⟩:=zq T _ (List.getElem_mem hi)
  have i0:idx (jo m)[i].dS 0=some (m.I+(o:Int)):=by rw[r];rfl
  rw[yd hi,D,decide_eq_false (by omega),cond_false,i0,D,decide_eq_true (by unfold fU;omega),cond_true,dh (by omega)]
 ·have a:=e c d rfl
  rw[(oE d).1,D,decide_eq_false (by omega),cond_false]
  simp only
  have i0:idx ([fU m,(c:Int)]:List Int) 0=some (fU m):=rfl
  rw[i0,D,decide_eq_false (λh=>h rfl),cond_false,decide_eq_true (by omega),cond_true,tW (by omega),D,sJ _ _ (by rw[List.length_drop];omega),D,hd]
  have:decide ((fU m::(R++[m.I+m.N])).take [fU m,(c:Int)].length=[fU m,(c:Int)])=false:=by
   apply decide_eq_false
   intro h
   cases f:R++[m.I+m.N]with
   |nil=>simp at f
   |cons y l=>
    rw[f]at h a
    simp only[List.length_cons,List.length_nil,List.take_succ_cons,List.take_zero,List.cons.injEq,and_true,true_and]at h
    exact a (by rw[h];rfl)
  rw[this,D]
  simp only[Out.elim,cond_false]
  rw[dh (by omega)]
 ·rw[(oE d).2,D,decide_eq_false (by omega),cond_false]
  simp only
  have i0:idx ([(c:Int),fU m]:List Int) 0=some (c:Int):=rfl
  rw[i0,D,decide_eq_true (by unfold fU;omega),cond_true,dh (by omega)]
theorem QI (T:iR m s q)(E:uY m L [])(t:(cc m s).length<=60){j:Nat}(k:(bN m s).length<=j)(l:j<(cc m s).length)(d:∀c,c<s->j=jO m s+2*c+1->((m.I+m.N)::L).getLast?≠some (c:Int)):
  jP (cc m s) (Ed m L []) (fU m) ((L.length+1:Nat):Int) (j:Int)=some (.inl ((j+1:Nat):Int)):=by
 have hs:=T.hs
 have hq:=T.hq
 have hlen:=rB m L []
 have el:=E.hl
 simp only[jP]
 rw[decide_eq_true (by omega),cond_true,decide_eq_true (by omega),cond_true,sP]
 rcases DX k l with⟨i,hi,rfl⟩|⟨c,a,rfl⟩|⟨c,a,rfl⟩
 ·obtain⟨u,n,b,v,o,_⟩:=zq T _ (List.getElem_mem hi)
  have i1:idx (jo m)[i].dS 1=some b:=by rw[o];rfl
  rw[yd hi,D,i1,D,decide_eq_false (by unfold fU;omega),cond_false,D]
  simp only[Out.elim,cond_false]
  rw[dh (by omega)]
 ·rw[(oE a).1,D]
  simp only
  have i1:idx ([fU m,(c:Int)]:List Int) 1=some (c:Int):=rfl
  rw[i1,D,decide_eq_false (by unfold fU;omega),cond_false,D]
  simp only[Out.elim,cond_false]
  rw[dh (by omega)]
 ·have e:=d c a rfl
  have hw:ah (((L.length+1:Nat):Int)-1)=(L.length:Int):=by rw[bC (by omega) (by omega)];omega
  obtain⟨z,g⟩:∃z,(Ed m L [])[L.length]?=some z/\((m.I+m.N)::L).getLast?=some z:=by
   rcases gp ((m.I+m.N)::L)with h|⟨p,z,h⟩
   ·cases h
   ·have f:p.length=L.length:=by
     have:=congrArg List.length h
     rw[List.length_cons,List.length_append,List.length_singleton]at this
     omega
    refine⟨z,?_,by rw[h,List.getLast?_concat]⟩
    have r:Ed m L []=((m.I+m.N)::L)++(fU m::([]++[m.I+m.N])):=rfl
    rw[r,h,List.append_assoc,List.getElem?_append_right (by omega),f,Nat.sub_self]
    rfl
  rw[(oE a).2,D]
  simp only
  have i1:idx ([(c:Int),fU m]:List Int) 1=some (fU m):=rfl
  have i0:idx ([(c:Int),fU m]:List Int) 0=some (c:Int):=rfl
  rw[i1,D,decide_eq_true rfl,cond_true,i0,D,hw,sP,g.1,D,D,decide_eq_false (λh=>e (by rw[g.2,h]))]
  simp only[Out.elim,cond_false]
  rw[dh (by omega)]
theorem H2 (T:iR m s q)(E:uY m L R): bY (Ed m L R) (fU m)=some ((L.length+1:Nat):Int):=by
 have hlen:=rB m L R
 have el:=E.hl
 have a:Ed m L R=((m.I+m.N)::L)++(fU m::(R++[m.I+m.N])):=rfl
 rw[a,Fm (by rw[<- a];omega) (HZ T E).1]
 rfl
theorem Jv (T:iR m s q)(f:(cc m s).length<=60){c:Int}{a:List Int}(E:uY m L (c::a)): iO (cc m s) ((bN m s).length:Int) (Ed m L (c::a)) (fU m)=some (⟨((jO m s+2*c.toNat:Nat):Int),((L.length+1:Nat):Int),Ed m L a⟩,true):=by
 have k:=E.sr c (List.mem_cons_self ..)
 have hs:=T.hs
 have hlen:=qt (m:=m) (s:=s)
 have el:=E.hl
 have d:=rB m L (c::a)
 have l:(bN m s).length<=jO m s:=by unfold jO;omega
 have hd:(Ed m L (c::a)).drop (L.length+1)=fU m::((c::a)++[m.I+m.N]):=by
  have d:Ed m L (c::a)=((m.I+m.N)::L)++(fU m::((c::a)++[m.I+m.N])):=rfl
  rw[d,List.drop_left' (by rw[List.length_cons])]
 have b:gh (cc m s) (Ed m L (c::a)) (fU m) ((L.length+1:Nat):Int) ((jO m s+2*c.toNat:Nat):Int)=some (.inr (.ret (⟨((jO m s+2*c.toNat:Nat):Int),((L.length+1:Nat):Int),Ed m L a⟩,true))):=by
  simp only[gh]
  rw[decide_eq_true (by omega),cond_true,sP,(oE (by omega)).1,D,decide_eq_false (by omega),cond_false]
  simp only
  have i0:idx ([fU m,(c.toNat:Int)]:List Int) 0=some (fU m):=rfl
  rw[i0,D,decide_eq_false (λh=>h rfl),cond_false,decide_eq_true (by omega),cond_true,tW (by omega),D,sJ _ _ (by rw[List.length_drop];omega),D,hd]
  have:decide ((fU m::((c::a)++[m.I+m.N])).take [fU m,(c.toNat:Int)].length=[fU m,(c.toNat:Int)])=true:=by
   apply decide_eq_true
   simp only[List.length_cons,List.length_nil,List.cons_append,List.take_succ_cons,List.take_zero,List.cons.injEq,and_true,true_and]
   omega
  rw[this,D]
  simp only[Out.elim,cond_true,List.length_cons,List.length_nil]
  rw[xq _ _ _ _ (by omega) (by simp) (by rw[d,List.length_cons];omega),D,N6]
 unfold iO
 rw[H2 T E,D,vG (jO m s+2*c.toNat-(bN m s).length) (bN m s).length (λj e g=>Qy T E f e (by omega) (λn i o=>by
  simp only[List.cons_append,List.head?_cons,ne_eq,Option.some.injEq]
  omega)),show(bN m s).length+(jO m s+2*c.toNat-(bN m s).length)=jO m s+2*c.toNat by omega,aZ b,D]
 rfl
theorem Jt (T:iR m s q)(b:(cc m s).length<=60)(E:uY m L []): run (gh (cc m s) (Ed m L []) (fU m) ((L.length+1:Nat):Int)) ((bN m s).length:Int)=some (.bf ((cc m s).length:Int)):=by
 have hq:=T.hq
 have hs:=T.hs
 have b2:=T.b2
 have hlen:=qt (m:=m) (s:=s)
 have e:(bN m s).length<=(cc m s).length:=by rw[hlen];unfold jO;omega
 rw[vG ((cc m s).length-(bN m s).length) (bN m s).length (λj a c=>Qy T E b a (by omega) (λf d g=>by
  simp only[List.nil_append,List.head?_cons,ne_eq,Option.some.injEq]
  omega)),show(bN m s).length+((cc m s).length-(bN m s).length)=(cc m s).length by omega]
 refine aZ ?_
 simp only[gh]
 rw[decide_eq_false (by omega),cond_false]
theorem Kl (T:iR m s q)(i:(cc m s).length<=60){c:Int}{a:List Int}(E:uY m (a++[c]) []): iO (cc m s) ((bN m s).length:Int) (Ed m (a++[c]) []) (fU m)=some (⟨((jO m s+2*c.toNat+1:Nat):Int),((a.length+1:Nat):Int),Ed m a []⟩,true):=by
 have n:=E.sl c (by simp)
 have hs:=T.hs
 have hlen:=qt (m:=m) (s:=s)
 have el:=E.hl
 have e:=rB m (a++[c]) []
 have f:(a++[c]).length=a.length+1:=by rw[List.length_append,List.length_singleton]
 have o:(bN m s).length<=jO m s:=by unfold jO;omega
 have g:((m.I+m.N)::(a++[c])).getLast?=some c:=by rw[<- List.cons_append,List.getLast?_concat]
 have hw:ah ((((a++[c]).length+1:Nat):Int)-1)=((a.length+1:Nat):Int):=by rw[bC (by omega) (by omega)];omega
 have d:(Ed m (a++[c]) [])[a.length+1]?=some c:=by
  have e:Ed m (a++[c]) []=((m.I+m.N)::a)++(c::fU m::([]++[m.I+m.N])):=by unfold Ed;simp
  rw[e,List.getElem?_append_right (by rw[List.length_cons];omega),List.length_cons,Nat.sub_self]
  rfl
 have b:jP (cc m s) (Ed m (a++[c]) []) (fU m) (((a++[c]).length+1:Nat):Int) ((jO m s+2*c.toNat+1:Nat):Int)=some (.inr (.ret (⟨((jO m s+2*c.toNat+1:Nat):Int),((a.length+1:Nat):Int),Ed m a []⟩,true))):=by
  simp only[jP]
  rw[decide_eq_true (by omega),cond_true,decide_eq_true (by omega),cond_true,sP,(oE (by omega)).2,D]
  simp only
  have i1:idx ([(c.toNat:Int),fU m]:List Int) 1=some (fU m):=rfl
  have i0:idx ([(c.toNat:Int),fU m]:List Int) 0=some (c.toNat:Int):=rfl
  rw[i1,D,decide_eq_true rfl,cond_true,i0,D,hw,sP,d,D,D,decide_eq_true (by omega)]
  simp only[Out.elim,cond_true]
  rw[show(2:Int)=((2:Nat):Int)from rfl,xq _ _ _ _ (by omega) (by simp) (by rw[e,f];simp),D,N7]
 unfold iO
 rw[H2 T E,D,Jt T i E,D]
 simp only[Out.elim]
 rw[vG (jO m s+2*c.toNat+1-(bN m s).length) (bN m s).length (λj h k=>QI T E i h (by omega) (λp l r=>by
  rw[g,ne_eq,Option.some.injEq]
  omega)),show(bN m s).length+(jO m s+2*c.toNat+1-(bN m s).length)=jO m s+2*c.toNat+1 by omega,aZ b,D]
 rfl
theorem Le (T:iR m s q)(b:(cc m s).length<=60)(E:uY m [] []): iO (cc m s) ((bN m s).length:Int) (Ed m [] []) (fU m)=some (⟨0,0,[]⟩,false):=by
 have hq:=T.hq
 have hs:=T.hs
 have b2:=T.b2
 have hlen:=qt (m:=m) (s:=s)
 have e:(bN m s).length<=(cc m s).length:=by rw[hlen];unfold jO;omega
 unfold iO
 rw[H2 T E,D,Jt T b E,D]
 simp only[Out.elim]
 rw[vG ((cc m s).length-(bN m s).length) (bN m s).length (λj a c=>QI T E b a (by omega) (λf d g=>by
  simp only[List.getLast?_singleton,ne_eq,Option.some.injEq]
  omega)),show(bN m s).length+((cc m s).length-(bN m s).length)=(cc m s).length by omega]
 rw[aZ (x:=.bf ((cc m s).length:Int)) (by
  simp only[jP]
  rw[decide_eq_false (by omega),cond_false]),D]
 rfl
def Cg (b n:Nat)(R:List Int): List (List Int):=R.map λc=>[((b+2*c.toNat:Nat):Int),(n:Int)]
def zF (b:Nat): List Int->List (List Int)
 |[]=>[]
 |c::l=>[((b+2*c.toNat+1:Nat):Int),((l.length+1:Nat):Int)]::zF b l
theorem I6 (b:Nat): ∀l,(zF b l).length=l.length
 |[]=>rfl
 |c::l=>by unfold zF;rw[List.length_cons,I6 b l,List.length_cons]
theorem Om (b n:Nat)(R:List Int): (Cg b n R).length=R.length:=by unfold Cg;rw[List.length_map]
def Ax (rows:List (List Int)): List (List Int)×Int:=if 100<rows.length then ([],5)else (rows,0)
theorem J2 (rows:List (List Int)): lK rows=some (Ax rows):=by
 unfold lK Ax
 by_cases h:100<rows.length
 ·rw[decide_eq_true (by omega),cond_true,if_pos h]
 ·rw[decide_eq_false (by omega),cond_false,if_neg h]
variable {own:Int}{x14:bo}{k6 k14:Int}
theorem Dq (T:iR m s q)(d:(cc m s).length<=60): ∀(n:Nat) (L:List Int) (rows:List (List Int)),L.length=n->uY m L []->rows.length+n<=1000000->
  run (c8 (cc m s,((bN m s).length:Int),k6) (x14,fU m,k14)) (rows,Ed m L [])=some (.ret (Ax (rows++zF (jO m s) L.reverse)))
 |0,L,rows,a,E,_=>by
  obtain rfl:=List.eq_nil_of_length_eq_zero a
  refine aZ ?_
  simp only[c8]
  rw[Le T d E,D]
  simp only[Bool.not_false,cond_true]
  rw[J2,D]
  simp[zF]
 |n+1,L,rows,a,E,hl=>by
  rcases gp L with rfl|⟨b,c,rfl⟩
  ·simp at a
  ·have e:c8 (cc m s,((bN m s).length:Int),k6) (x14,fU m,k14) (rows,Ed m (b++[c]) [])=some (.inl (rows++[[((jO m s+2*c.toNat+1:Nat):Int),((b.length+1:Nat):Int)]],Ed m b [])):=by
    simp only[c8]
    rw[Kl T d E,D]
    simp only[Bool.not_true,cond_false]
    rw[de (by simp;omega),D]
   rw[bZ e,Dq T d n b _ (by simpa using a) E.Kc (by simp;omega)]
   congr 2
   simp[zF]
theorem Hh (T:iR m s q)(a:(cc m s).length<=60): ∀(R:List Int) (rows:List (List Int)),uY m L R->rows.length+R.length+L.length<=1000000->
  run (c8 (cc m s,((bN m s).length:Int),k6) (x14,fU m,k14)) (rows,Ed m L R)=some (.ret (Ax (rows++Cg (jO m s) (L.length+1) R++zF (jO m s) L.reverse)))
 |[],rows,E,hl=>by
  rw[Dq T a L.length L rows rfl E (by simp at hl;omega)]
  simp[Cg]
 |c::b,rows,E,hl=>by
  rw[List.length_cons]at hl
  have d:c8 (cc m s,((bN m s).length:Int),k6) (x14,fU m,k14) (rows,Ed m L (c::b))=some (.inl (rows++[[((jO m s+2*c.toNat:Nat):Int),((L.length+1:Nat):Int)]],Ed m L b)):=by
   simp only[c8]
   rw[Jv T a E,D]
   simp only[Bool.not_true,cond_false]
   rw[de (by simp;omega),D]
  rw[bZ d,Hh T a b _ E.Kj (by simp;omega)]
  congr 2
  simp[Cg]
variable {ok14:Bool}
end
section
variable {m:O}{s q:Nat}{X:List Int}{p:Int}{Y:List Int}
def rj (X:List Int)(p:Int)(Y:List Int): U:=⟨p,bR X.reverse,bR Y⟩
def OY (X Y:List Int): Bool:=decide ((bR X.reverse).length<=200)&&decide ((bR Y).length<=200)
theorem Fk (X Y:List Int)(p:Int): lq (rj X p Y)=some (OY X Y):=by
 unfold lq OY rj
 by_cases h:(bR X.reverse).length<=200
 ·rw[decide_eq_true (by simp only;omega),cond_true,decide_eq_true h,Bool.true_and]
  congr 1
  rw[decide_eq_decide]
  simp only
  omega
 ·rw[decide_eq_false (by simp only;omega),cond_false,decide_eq_false h,Bool.false_and]
theorem Ic:(Wd m X p Y)[X.length+Y.length+2]?=some (m.I+m.N):=by
 unfold Wd
 rw[show X.length+Y.length+2=(X.length+(Y.length+1))+1 by omega,List.getElem?_cons_succ,List.getElem?_append_right (by omega),show X.length+(Y.length+1)-X.length=Y.length+1 by omega,List.getElem?_cons_succ,List.getElem?_append_right (Nat.le_refl _),Nat.sub_self]
 rfl
theorem O6:((Wd m X p Y).take (X.length+Y.length+2)).drop 1=X++((m.I+p)::Y):=by
 have:Wd m X p Y=((m.I+m.N)::(X++((m.I+p)::Y)))++[m.I+m.N]:=by unfold Wd;simp
 rw[this,List.take_left' (by simp;omega)]
 rfl
theorem GZ (T:iR m s q)(C:tU m X p Y)(k:(Wd m X p Y).length<=400): ∃b,fg ⟨m.I,m.I+m.N⟩ (Wd m X p Y)=some (rj X p Y,b):=by
 have hs:=T.hs
 have hq:=T.hq
 have b3:=T.b3
 have f:=C.J
 have g:=C.p1
 have hl:=ru m X p Y
 have el:ah (((Wd m X p Y).length:Int)-1)=((X.length+Y.length+2:Nat):Int):=by rw[bC (by omega) (by omega)];omega
 have i0:idx (Wd m X p Y) 0=some (m.I+m.N):=rfl
 have sm:jV (Wd m X p Y) 1 ((X.length+Y.length+2:Nat):Int)=some (X++((m.I+p)::Y)):=by
  have:=AM (xs:=Wd m X p Y) (lo:=1) (hi:=X.length+Y.length+2) (by omega) (by omega)
  rw[O6]at this
  exact this
 have l:(X++((m.I+p)::Y)).length=X.length+Y.length+1:=by rw[List.length_append,List.length_cons];omega
 have i:(X++((m.I+p)::Y)).findIdx? (λx=>decide (m.I<=x))=some X.length:=by
  have j:X.findIdx? (λx=>decide (m.I<=x))=none:=by
   rw[List.findIdx?_eq_none_iff]
   intro x d
   have:=C.sx x d
   exact decide_eq_false (by omega)
  rw[List.findIdx?_append,j,List.findIdx?_cons,decide_eq_true (by omega)]
  simp
 have ip:idx (X++((m.I+p)::Y)) (X.length:Int)=some (m.I+p):=by
  rw[sP,List.getElem?_append_right (Nat.le_refl _),Nat.sub_self]
  rfl
 have sy:jV (X++((m.I+p)::Y)) ((X.length+1:Nat):Int) ((X++((m.I+p)::Y)).length:Int)=some Y:=by
  rw[tW (by omega),List.drop_append,List.drop_of_length_le (by omega),List.nil_append,show X.length+1-X.length=1 by omega]
  rfl
 have a:(Y.all λx=>mJ x 0 (m.I-1))=true:=by
  rw[List.all_eq_true]
  intro x d
  have:=C.sy x d
  exact ei.2 (by omega)
 have c:dz (X++((m.I+p)::Y)) (λe=>ig e ⟨m.I,m.I+m.N⟩)=some (X.length:Int):=by
  have:=yj (X++((m.I+p)::Y)) (λe=>ig e ⟨m.I,m.I+m.N⟩) (λx=>decide (m.I<=x)) (λx=>rfl) (by omega)
  rw[i]at this
  exact this
 unfold fg
 rw[el,decide_eq_false (by omega),cond_false,i0,D,decide_eq_false (λh=>h rfl),cond_false,sP,Ic,D,decide_eq_false (λh=>h rfl),cond_false,D]
 simp only[Out.elim]
 rw[sm,D,c,D]
 rw[decide_eq_false (by omega),cond_false,ip,D,decide_eq_false (by omega),cond_false,dh (by omega),sy,D,bC (n:=m.I-1) (by omega) (by omega),oZ _ _ _ (by omega),a,D]
 simp only[Bool.not_true,cond_false,D]
 rw[Ht (by omega),D,List.take_left,fB _ (by omega),D,qA _ (by omega),D,jB _ (by rw[List.length_reverse];omega),D,jB _ (by omega),D,show m.I+p-m.I=p by omega,bC (n:=p) (by omega) (by omega)]
 exact⟨_,rfl⟩
end
section
variable {m:O}{s q:Nat}{X:List Int}{p:Int}{Y:List Int}
theorem tU.next (T:iR m s q)(C:tU m X p Y)(b:rl m p Y≠cn): tU m (yY (rl m p Y) X) (rl m p Y).Next (za (rl m p Y) X Y):=by
 have hs:=T.hs
 have b1:=T.b1
 have c:rl m p Y∈m.aB:=by
  unfold rl at b ⊢
  rw[List.getD_eq_getElem?_getD]at b ⊢
  cases h:m.aB[(p*m.I+Y.headD 0).toNat]? with
  |none=>rw[h]at b;exact absurd rfl b
  |some r=>exact List.mem_of_getElem? h
 have h:=T.hr _ c
 unfold jF at h
 simp only[Bool.or_eq_true,Bool.and_eq_true,decide_eq_true_eq]at h
 rcases h with h|⟨hw,_,a⟩
 ·exact absurd h b
 have hw:=ei.1 hw
 have a:=ei.1 a
 have e:sym m Y.tail:=λx a=>C.sy x (List.mem_of_mem_tail a)
 refine⟨?_,?_,a.1,by omega⟩
 ·unfold yY
  by_cases d:(rl m p Y).Move=1
  ·rw[if_pos d]
   intro x a
   rcases List.mem_append.1 a with a|a
   ·exact C.sx x a
   ·rw[List.mem_singleton]at a
    omega
  ·rw[if_neg d]
   exact λx a=>C.sx x (List.dropLast_subset _ a)
 ·unfold za
  by_cases d:(rl m p Y).Move=1
  ·rw[if_pos d]
   exact e
  ·rw[if_neg d]
   intro x a
   rcases List.mem_cons.1 a with a|a
   ·rcases gp X with h|⟨f,z,h⟩
    ·rw[h]at a
     have:x=0:=a
     omega
    ·rw[h]at a
     have g:=C.sx z (by rw[h];simp)
     simp at a
     omega
   ·rcases List.mem_cons.1 a with a|a
    ·omega
    ·exact e x a
end
section
variable {m:O}{s q:Nat}{X:List Int}{p:Int}{Y:List Int}{L R:List Int}
theorem yJ {rs:List V}{w:List Int}{k a:Nat}{r:V}(b:rs[k]?=some r)(d:a<=w.length)(h:(w.drop a).take r.dS.length=r.dS)(hl:(qm w r.To a r.dS.length).length<=400): mV rs w (k:Int) (a:Int)=(qm w r.To a r.dS.length,0):=by
 obtain⟨c,hr⟩:=List.getElem?_eq_some_iff.1 b
 have e:rs.getD k zR=r:=by rw[List.getD_eq_getElem?_getD,b];rfl
 unfold mV
 rw[Int.toNat_natCast,Int.toNat_natCast,e,ei.2 (by omega),ei.2 (by omega),Bool.and_self,cond_true,decide_eq_true h,cond_true,decide_eq_false (by omega),cond_false]
theorem yk {rs:List V}{w b:List Int}{k a:Int}(h:mV rs w k a=(b,0))(c:List (List Int)): ox rs ([k,a]::c) w=ox rs c b:=by
 rw[ox]
 have d:([k,a]:List Int).getD 0 0=k:=rfl
 have e1:([k,a]:List Int).getD 1 0=a:=rfl
 rw[d,e1,h,decide_eq_false (by simp),cond_false,decide_eq_false (λh=>h rfl),cond_false]
theorem It {w f:List Int}{a:Nat}{l:List Nat}(h:DR w f=a::l): a<=w.length/\(w.drop a).take f.length=f:=Aw.1 (by rw[h];exact List.mem_cons_self ..)
theorem KY (T:iR m s q){c:Int}{b:List Int}(E:uY m L (c::b))(d:List (List Int)): ox (cc m s) ([((jO m s+2*c.toNat:Nat):Int),((L.length+1:Nat):Int)]::d) (Ed m L (c::b))=ox (cc m s) d (Ed m L b):=by
 have hs:=T.hs
 have h:=E.sr c (List.mem_cons_self ..)
 have f:=(oE (m:=m) (s:=s) (c:=c.toNat) (by omega)).1
 have e:=Py T E (c.toNat:Int)
 rw[if_pos (by simp only[List.cons_append,List.head?_cons,Option.some.injEq];omega)]at e
 obtain⟨g,a2⟩:=It e
 have a:qm (Ed m L (c::b)) [fU m] (L.length+1) ([fU m,(c.toNat:Int)]:List Int).length=Ed m L b:=N6
 have:=yJ f g a2 (by simp only;rw[a];exact E.Kj.hl)
 simp only at this
 rw[a]at this
 exact yk this d
theorem M9 (T:iR m s q){c:Int}{b:List Int}(E:uY m (b++[c]) [])(d:List (List Int)): ox (cc m s) ([((jO m s+2*c.toNat+1:Nat):Int),((b.length+1:Nat):Int)]::d) (Ed m (b++[c]) [])=ox (cc m s) d (Ed m b []):=by
 have hs:=T.hs
 have h:=E.sl c (by simp)
 have f:=(oE (m:=m) (s:=s) (c:=c.toNat) (by omega)).2
 have e:=P1 T E (c.toNat:Int)
 rw[if_pos (by rw[<- List.cons_append,List.getLast?_concat,Option.some.injEq];omega),List.length_append,List.length_singleton]at e
 obtain⟨g,a2⟩:=It e
 have a:qm (Ed m (b++[c]) []) [fU m] (b.length+1) ([(c.toNat:Int),fU m]:List Int).length=Ed m b []:=N7
 have:=yJ f g a2 (by simp only;rw[a];exact E.Kc.hl)
 simp only at this
 rw[a]at this
 exact yk this d
theorem IE (T:iR m s q)(a:List (List Int)): ∀(R:List Int),uY m L R->ox (cc m s) (Cg (jO m s) (L.length+1) R++a) (Ed m L R)=ox (cc m s) a (Ed m L [])
 |[],_=>rfl
 |c::b,E=>by
  have:=KY T E (Cg (jO m s) (L.length+1) b++a)
  rw[<- IE T a b E.Kj,<- this]
  rfl
theorem Jm (T:iR m s q): ∀(l:List Int),uY m l.reverse []->ox (cc m s) (zF (jO m s) l) (Ed m l.reverse [])=(xf m,0)
 |[],_=>rfl
 |c::l,E=>by
  rw[List.reverse_cons]at E ⊢
  have:=M9 T E (zF (jO m s) l)
  rw[<- Jm T l E.Kc,<- this,List.length_reverse]
  rfl
theorem Ko (T:iR m s q)(C:tU m X p Y)(j:(Wd m X p Y).length<=400){k:Nat}(d:k<(jo m).length)(e:mF m X p Y (jo m)[k]=true):
  ox (cc m s) ([[(((bN m s).length+k:Nat):Int),((X.length+1:Nat):Int)]]++Cg (jO m s) (X.length+1) Y.tail++zF (jO m s) X.reverse) (Wd m X p Y)=(xf m,0):=by
 have hl:=ru m X p Y
 have h:Y.tail.length<=Y.length:=by rw[List.length_tail];omega
 have E:uY m X Y.tail:=⟨C.sx,λx c=>C.sy x (List.mem_of_mem_tail c),by rw[rB];omega⟩
 have i:uY m X.reverse.reverse []:=by
  rw[List.reverse_reverse]
  exact⟨E.sl,λx c=>by simp at c,by have:=E.hl;rw[rB]at this ⊢;simp;omega⟩
 have b:=P3 T C (List.getElem_mem d) e
 have f:=yJ (yd (s:=s) d) (w:=Wd m X p Y) (a:=X.length+1) (by omega) (of_decide_eq_true e) (by rw[b];exact E.hl)
 rw[b]at f
 have:=yk f (Cg (jO m s) (X.length+1) Y.tail++zF (jO m s) X.reverse)
 rw[List.append_assoc,List.singleton_append,this,IE T _ _ E]
 have g:=Jm T X.reverse i
 rw[List.reverse_reverse]at g
 exact g
theorem Nq (T:iR m s q)(C:tU m X p Y){k:Nat}(b:k<(bN m s).length)(e:Bw m X p Y (bN m s)[k]=true)(hl:(Wn m X p Y).length<=400)(c:List (List Int)):
  ox (cc m s) ([(k:Int),((X.length+1-pL m (bN m s)[k]:Nat):Int)]::c) (Wd m X p Y)=ox (cc m s) c (Wn m X p Y):=by
 have g:=ru m X p Y
 have h:(cc m s)[k]?=some (bN m s)[k]:=by rw[rV,List.getElem?_append_left b,List.getElem?_eq_getElem b]
 have d:=(Ga T C (List.getElem_mem b) e).2
 unfold JV at d
 have f:=yJ h (w:=Wd m X p Y) (a:=X.length+1-pL m (bN m s)[k]) (by omega) (of_decide_eq_true e) (by rw[d];exact hl)
 rw[d]at f
 exact yk f c
def zg (own:Int)(a:List (List Int)): Nat:=a.countP λr=>decide (r.getD 0 0<own)
theorem KD {own:Int}{a:List (List Int)}(h:∀r∈a,own<=r.getD 0 0): zg own a=0:=by
 unfold zg
 rw[List.countP_eq_zero]
 intro r hr
 have:=h r hr
 simpa using this
theorem PK {b n:Nat}{own:Int}(h:own<=b)(R:List Int): ∀r∈Cg b n R,own<=r.getD 0 0:=by
 intro r hr
 obtain⟨c,_,rfl⟩:=List.mem_map.1 hr
 show own<=((b+2*c.toNat:Nat):Int)
 omega
theorem LH {b:Nat}{own:Int}(h:own<=b): ∀(L:List Int),∀r∈zF b L,own<=r.getD 0 0
 |[],r,hr=>by cases hr
 |c::l,r,hr=>by
  unfold zF at hr
  rcases List.mem_cons.1 hr with rfl|hr
  ·show own<=((b+2*c.toNat+1:Nat):Int)
   omega
  ·exact LH h l r hr
theorem BG (own:Int): ∀(a:List (List Int)) (n:Int),0<=n->n+a.length<=1000000->a.foldl (λn s=>cond (decide (s.getD 0 0<own)) (ah (n+1)) n) n=n+(zg own a:Int)
 |[],n,_,_=>by simp[zg]
 |r::a,n,b,h=>by
  rw[List.length_cons]at h
  rw[List.foldl_cons]
  unfold zg
  rw[List.countP_cons]
  by_cases hr:r.getD 0 0<own
  ·rw[decide_eq_true hr,cond_true,BG own a _ (by rw[bC (by omega) (by omega)];omega) (by rw[bC (by omega) (by omega)];omega),bC (by omega) (by omega)]
   unfold zg
   simp only[if_true]
   omega
  ·rw[decide_eq_false hr,cond_false,BG own a n b (by omega)]
   unfold zg
   simp
theorem xw (x:Int)(xs:List Int): bR (x::xs)=if bR xs=[]/\x=0 then []else x::bR xs:=by
 unfold bR
 rw[List.reverse_cons]
 generalize xs.reverse=ys
 induction ys with
 |nil=>
  by_cases h:x=0
  ·simp[h]
  ·simp[h]
 |cons y ys a=>
  rw[List.cons_append,List.dropWhile_cons,List.dropWhile_cons]
  by_cases h:y=0
  ·simp only[h,decide_true,if_true]
   exact a
  ·simp[h]
theorem zj (x:Int)(xs:List Int): bR (x::bR xs)=bR (x::xs):=by
 have h:bR (bR xs)=bR xs:=Tm.trim xs
 rw[xw,h,xw]
theorem ET:∀xs:List Int,(bR xs).tail=bR xs.tail
 |[]=>rfl
 |x::xs=>by
  rw[xw]
  by_cases h:bR xs=[]/\x=0
  ·rw[if_pos h,List.tail_cons,h.1]
   rfl
  ·rw[if_neg h]
   rfl
theorem JU (xs:List Int): (bR xs).getD 0 0=xs.headD 0:=by
 rw[kF]
 cases xs<;>rfl
theorem Gv (X:List Int): X.dropLast.reverse=X.reverse.tail:=by
 rcases gp X with rfl|⟨Z,z,rfl⟩
 ·rfl
 ·simp
theorem MG (X:List Int): X.reverse.headD 0=X.getLastD 0:=by
 rcases gp X with rfl|⟨Z,z,rfl⟩
 ·rfl
 ·simp
theorem rX (T:iR m s q)(C:tU m X p Y): ax m (rj X p Y)=rl m p Y:=by
 have hs:=T.hs
 have hq:=T.hq
 have b3:=T.b3
 have a:=C.J
 have b:=C.p1
 have c:0<=Y.headD 0/\Y.headD 0<m.I:=by
  cases Y with
  |nil=>have:=T.b1;show(0:Int)<=0/\(0:Int)<m.I;omega
  |cons y l=>exact C.sy y (List.mem_cons_self ..)
 have hmul:0<=p*m.I/\p*m.I<=16:=by
  constructor
  ·exact Int.mul_nonneg a (by omega)
  ·have:p*m.I<=4*4:=Int.mul_le_mul (by omega) (by omega) (by omega) (by omega)
   omega
 unfold ax rl rj
 simp only
 rw[JU,bC (n:=p*m.I) (by omega) (by omega),bC (by omega) (by omega)]
theorem Hm (T:iR m s q)(X Y:List Int)(p:Int){r:ai}(hr:r.Move=1\/r.Move=-1): bI r (rj X p Y)=rj (yY r X) r.Next (za r X Y):=by
 unfold bI rj yY za
 simp only
 rcases hr with h|h
 ·rw[if_pos (by omega),if_pos h,if_pos h,zj,ET]
  simp
 ·rw[if_neg (by omega),if_neg (by omega),if_neg (by omega),ET,Gv,JU,MG,ET,zj]
  rw[<- zj (X.getLastD 0) (r.Write::bR Y.tail),zj r.Write Y.tail,zj]
end
end Go.Fn
