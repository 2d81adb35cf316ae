/-
  Plain laws, part 2. No condition.
-/
import Derived.Test.YtapnabgdcndleaaGreatDoorPM1
import Derived.Test.YtapnabgdcndleaaGreatDoorAsmP
namespace Go.Fn
open Go Go.Tc
set_option linter.unusedVariables false
def cX:List Int->Nat
 |[]=>0
 |x::xs=>x.toNat+2*cX xs
def Bits (xs:List Int): Prop:=∀x∈xs,x=0\/x=1
theorem Bits.tail {xs:List Int}(h:Bits xs): Bits xs.tail:=λx a=>h x (List.mem_of_mem_tail a)
theorem Bits.cons {x:Int}{xs:List Int}(b:x=0\/x=1)(h:Bits xs): Bits (x::xs):=λy a=>by
 rcases List.mem_cons.1 a with rfl|a
 ·exact b
 ·exact h y a
theorem Bits.getD {xs:List Int}(h:Bits xs): ∀j,xs.getD j 0=0\/xs.getD j 0=1:=λj=>by
 rw[List.getD_eq_getElem?_getD]
 cases a:xs[j]? with
 |none=>exact .inl rfl
 |some x=>exact h x (List.mem_of_getElem? a)
theorem vR:∀xs:List Int,cX (bR xs)=cX xs
 |[]=>rfl
 |x::xs=>by
  rw[xw]
  split
  ·rename_i h
   have:=vR xs
   rw[h.1]at this
   simp only[cX]at this ⊢
   rw[<- this,h.2]
   rfl
  ·simp only[cX]
   rw[vR xs]
theorem Bits.trim:∀ {xs:List Int},Bits xs->Bits (bR xs)
 |[],_=>by simp[bR,Bits]
 |x::xs,h=>by
  rw[xw]
  split
  ·exact λy a=>by simp at a
  ·exact .cons (h x (by simp)) (Bits.trim λy a=>h y (by simp[a]))
theorem yt {xs:List Int}(h:Bits xs): ((cX xs%2:Nat):Int)=xs.getD 0 0/\cX xs / 2=cX xs.tail:=by
 cases xs with
 |nil=>exact⟨rfl,rfl⟩
 |cons x xs=>
  simp only[cX,List.tail_cons,List.getD_cons_zero]
  rcases h x (by simp)with rfl|rfl
  ·exact⟨by simp only[Int.toNat_zero];omega,by simp only[Int.toNat_zero];omega⟩
  ·have:(1:Int).toNat=1:=rfl
   exact⟨by rw[this];omega,by rw[this];omega⟩
theorem vU {xs:List Int}(h:Bits xs): ∀n,xs.length<=n->cX xs<2^n:=by
 induction xs with
 |nil=>intro n _;exact Nat.two_pow_pos n
 |cons x xs b=>
  intro n a
  cases n with
  |zero=>simp at a
  |succ n=>
   have:=b (λy c=>h y (by simp[c])) n (by simpa using a)
   have d:x.toNat<=1:=by rcases h x (by simp)with rfl|rfl<;>decide
   simp only[cX,Nat.pow_succ]
   omega
theorem uo {xs:List Int}(h:Bits xs)(hl:xs.length<=18): jT xs 2=some ((cX xs:Int),0):=by
 have key:∀(k:Nat) ,k<=xs.length->run (jy xs 2) ((cX (xs.drop k):Int),(k:Int)-1)=some (.bf ((cX xs:Int),-1)):=by
  intro k
  induction k with
  |zero=>
   intro _
   refine aZ ?_
   simp only[jy]
   rw[decide_eq_false (by omega),cond_false]
   rfl
  |succ k b=>
   intro l
   have c:xs[k]?=some xs[k]:=List.getElem?_eq_getElem (by omega)
   have d:=h xs[k] (List.getElem_mem (by omega))
   have hd:xs.drop k=xs[k]::xs.drop (k+1):=List.drop_eq_getElem_cons (by omega)
   have m:cX (xs.drop k)=xs[k].toNat+2*cX (xs.drop (k+1)):=by rw[hd];rfl
   have f:=vU (xs:=xs.drop k) (λy g=>h y (List.mem_of_mem_drop g)) 18 (by simp;omega)
   have i:(2:Nat)^18=262144:=rfl
   have j:((xs[k].toNat:Nat):Int)=xs[k]:=by rcases d with e|e<;>rw[e]<;>rfl
   have a:idx xs (((k+1:Nat):Int)-1)=some xs[k]:=by
    unfold idx
    rw[if_neg (by omega),show(((k+1:Nat):Int)-1).toNat=k by omega,c]
   refine(bZ (s':=((cX (xs.drop k):Int),(k:Int)-1)) ?_).trans (b (by omega))
   simp only[jy]
   rw[decide_eq_true (by omega),cond_true,a,D]
   have e1:ah ((cX (xs.drop (k+1)):Int)*2)=(cX (xs.drop (k+1)):Int)*2:=bC (by omega) (by omega)
   have e2:ah ((cX (xs.drop (k+1)):Int)*2+xs[k])=(cX (xs.drop k):Int):=by
    rw[bC (by omega) (by omega)]
    omega
   have e3:ah (((k+1:Nat):Int)-1-1)=(k:Int)-1:=by rw[bC (by omega) (by omega)];omega
   rw[e1,e2,e3,decide_eq_false (by omega),cond_false]
 have:=key xs.length (Nat.le_refl _)
 rw[List.drop_length]at this
 unfold jT
 rw[bC (by omega) (by omega)]
 show Z (run (jy xs 2) (((cX []:Nat):Int),(xs.length:Int)-1)) _=_
 rw[this,D]
 rfl
def gO (r:ai): Rl:=if r=cn then .no else if r.Move=1 then .right r.Write.toNat r.Next.toNat else .left r.Write.toNat r.Next.toNat
theorem tK {s q:Int}{r:ai}(h:jF s q r=true): (gO r).im=r:=by
 unfold gO
 split
 ·rename_i e
  exact e.symm
 ·rename_i b
  unfold jF at h
  rw[decide_eq_false b,Bool.false_or,Bool.and_eq_true,Bool.and_eq_true,Bool.or_eq_true,decide_eq_true_eq,decide_eq_true_eq,ei,ei]at h
  obtain⟨d,c,f⟩:=h
  have e1:((r.Write.toNat:Nat):Int)=r.Write:=by omega
  have e2:((r.Next.toNat:Nat):Int)=r.Next:=by omega
  split
  ·rename_i hm
   show(⟨_,1,_⟩:ai)=r
   rw[e1,e2,<- hm]
  ·rename_i hm
   have a:=c.resolve_left hm
   show(⟨_,-1,_⟩:ai)=r
   rw[e1,e2,<- a]
def nk (R:Rl)(l r:Nat): Nat:=3*(r / 2)+r%2+1+R.cost (r%2) l (r / 2)
theorem FC {m:O}{q N:Nat}(M:jI m 2 q){c:U}(C:A1 2 q N c)(bl:Bits c.Left)(br:Bits c.ak)(j:c.Left.length<=18)(k:c.ak.length<=18):
  ov m c=some (((nk (gO (ax m c)) (cX c.Left) (cX c.ak):Nat):Int),0):=by
 have hl:=vU bl 18 j
 have hr:=vU br 18 k
 have o:(2:Nat)^18=262144:=rfl
 have hs:m.I=2:=M.hs
 obtain⟨l,d⟩:=sg M C
 have n:=(yt br).1
 rw[hs]at l
 have p:Int.tmod ((cX c.ak:Nat):Int) 2=((cX c.ak%2:Nat):Int):=rfl
 have r:Int.tdiv ((cX c.ak:Nat):Int) 2=((cX c.ak / 2:Nat):Int):=rfl
 have f:Int.tmod ((cX c.Left:Nat):Int) 2=((cX c.Left%2:Nat):Int):=rfl
 have g:Int.tdiv ((cX c.Left:Nat):Int) 2=((cX c.Left / 2:Nat):Int):=rfl
 have i:nz 2=some ():=rfl
 unfold ov
 rw[hs,uo bl j,D,uo br k,D]
 simp only
 rw[decide_eq_false (λh=>h rfl:¬((0:Int)≠0)),cond_false,cond_false,D]
 simp only[Out.elim]
 rw[i,D,D,p,r,f,g,n,l,D]
 have b:fw (ax m c)=some (!(decide (ax m c=cn))):=rfl
 rw[b,D,Bool.not_not,<- n]
 by_cases a:ax m c=cn
 ·rw[decide_eq_true a,cond_true]
  have e:gO (ax m c)=.no:=by unfold gO;rw[if_pos a]
  rw[e]
  simp(disch:=omega) only[bC]
  simp only[nk,Rl.cost]
  congr 2
  omega
 ·rw[decide_eq_false a,cond_false]
  obtain⟨s,t,u⟩:=oW M d a
  by_cases hm:(ax m c).Move=1
  ·rw[decide_eq_true hm,cond_true]
   have e:gO (ax m c)=.right (ax m c).Write.toNat (ax m c).Next.toNat:=by unfold gO;rw[if_neg a,if_pos hm]
   rw[e]
   simp(disch:=omega) only[bC]
   simp only[nk,Rl.cost]
   congr 2
   omega
  ·rw[decide_eq_false hm,cond_false]
   have e:gO (ax m c)=.left (ax m c).Write.toNat (ax m c).Next.toNat:=by unfold gO;rw[if_neg a,if_neg hm]
   rw[e,D,D]
   simp(disch:=omega) only[bC]
   simp only[nk,Rl.cost]
   congr 2
   omega
theorem Bn {m:O}{q N:Nat}(M:jI m 2 q){c:U}(C:A1 2 q N c)(bl:Bits c.Left)(br:Bits c.ak)(a:ax m c≠cn):
  Bits (bI (ax m c) c).Left/\Bits (bI (ax m c) c).ak/\(bI (ax m c) c).State=(ax m c).Next/\
  (match gO (ax m c)with
   |.no=>False
   |.right w nx=>cX (bI (ax m c) c).Left=2*cX c.Left+w/\cX (bI (ax m c) c).ak=cX c.ak / 2/\(nx:Int)=(ax m c).Next/\w<=1
   |.left w nx=>cX (bI (ax m c) c).Left=cX c.Left / 2/\cX (bI (ax m c) c).ak=2*(2*(cX c.ak / 2)+w)+cX c.Left%2/\(nx:Int)=(ax m c).Next/\w<=1):=by
 obtain⟨h,i,j⟩:=oW M (sg M C).2 a
 have hw:(ax m c).Write=0\/(ax m c).Write=1:=by omega
 have b:=bl.getD 0
 have f:=(yt br).2
 obtain⟨g,d⟩:=yt bl
 by_cases hm:(ax m c).Move=1
 ·have e:gO (ax m c)=.right (ax m c).Write.toNat (ax m c).Next.toNat:=by unfold gO;rw[if_neg a,if_pos hm]
  have es:bI (ax m c) c=⟨(ax m c).Next,bR ((ax m c).Write::c.Left),c.ak.tail⟩:=by unfold bI;rw[if_pos (by omega)]
  rw[e,es]
  refine⟨(Bits.cons hw bl).trim,br.tail,rfl,?_,f.symm,by omega,by omega⟩
  rw[vR]
  simp only[cX]
  omega
 ·have e:gO (ax m c)=.left (ax m c).Write.toNat (ax m c).Next.toNat:=by unfold gO;rw[if_neg a,if_neg hm]
  have es:bI (ax m c) c=⟨(ax m c).Next,c.Left.tail,bR (c.Left.getD 0 0::bR ((ax m c).Write::c.ak.tail))⟩:=by unfold bI;rw[if_neg (by omega)]
  rw[e,es]
  refine⟨bl.tail,(Bits.cons b (Bits.cons hw br.tail).trim).trim,rfl,d.symm,?_,by omega,by omega⟩
  rw[vR]
  simp only[cX]
  rw[vR]
  simp only[cX]
  rw[<- f]
  omega
def sV (m:O): Nat->U->Nat
 |0,c=>nk (gO (ax m c)) (cX c.Left) (cX c.ak)
 |n+1,c=>nk (gO (ax m c)) (cX c.Left) (cX c.ak)+if ax m c=cn then 0 else sV m n (bI (ax m c) c)
structure Eg (q b:Nat)(c:U): Prop where
 cf:ln 2 q c
 bl:Bits c.Left
 br:Bits c.ak
 ll:c.Left.length<=b
 lr:c.ak.length<=b
theorem Ku (r:ai){c:U}{b:Nat}(a:c.Left.length<=b)(d:c.ak.length<=b)(e:1<=b): (bI r c).Left.length<=b+1/\(bI r c).ak.length<=b+1:=by
 unfold bI
 split
 ·refine⟨Nat.le_trans (jm _) (by simp;omega),?_⟩
  simp only[List.length_tail];omega
 ·refine⟨by simp only[List.length_tail];omega,Nat.le_trans (jm _) ?_⟩
  have:=jm (r.Write::c.ak.tail)
  simp only[List.length_cons,List.length_tail]at this ⊢
  omega
theorem Eg.step {m:O}{q b:Nat}(M:jI m 2 q){c:U}(h:Eg q b c)(a:ax m c≠cn)(d:1<=b)(e:b+1<=200): Eg q (b+1) (bI (ax m c) c)/\Go.Fn.small (bI (ax m c) c)=true:=by
 have hl:=Ku (ax m c) h.ll h.lr d
 obtain⟨g1,g2,_⟩:=Bn M h.cf.cf h.bl h.br a
 have hs:Go.Fn.small (bI (ax m c) c)=true:=by
  unfold Go.Fn.small
  rw[decide_eq_true (by omega),decide_eq_true (by omega)]
  rfl
 exact⟨⟨h.cf.step M a hs,g1,g2,hl.1,hl.2⟩,hs⟩
theorem Rl.Nw (R:Rl)(hw:∀w nx,R=.right w nx\/R=.left w nx->w<=1){v l k:Nat}(a:v<=1)(hl:l<=262144)(b:k<=131072): R.cost v l k<=9000000:=by
 cases R with
 |no=>simp only[Rl.cost];omega
 |right w nx=>
  have:=hw w nx (.inl rfl)
  simp only[Rl.cost];omega
 |left w nx=>
  have:=hw w nx (.inr rfl)
  simp only[Rl.cost];omega
theorem Ha {m:O}{q N:Nat}(M:jI m 2 q){c:U}(C:A1 2 q N c)(bl:Bits c.Left)(br:Bits c.ak)(b:c.Left.length<=18)(d:c.ak.length<=18): 1<=nk (gO (ax m c)) (cX c.Left) (cX c.ak)/\nk (gO (ax m c)) (cX c.Left) (cX c.ak)<=10000000:=by
 have hl:=vU bl 18 b
 have hr:=vU br 18 d
 have f:(2:Nat)^18=262144:=rfl
 have:=Rl.Nw (gO (ax m c)) (λw nx h=>by
  by_cases a:ax m c=cn
  ·have e:gO (ax m c)=.no:=by unfold gO;rw[if_pos a]
   rw[e]at h
   rcases h with h|h<;>cases h
  ·have hs:=(Bn M C bl br a).2.2.2
   rcases h with h|h
   ·rw[h]at hs;exact hs.2.2.2
   ·rw[h]at hs;exact hs.2.2.2) (v:=cX c.ak%2) (l:=cX c.Left) (k:=cX c.ak / 2) (by omega) (by omega) (by omega)
 unfold nk
 omega
theorem DQ {m:O}{q b:Nat}(M:jI m 2 q){c:U}(h:Eg q b c)(a:b<=18){s:Nat}(hs:s<=1000000000):
  kY ⟨(s:Int),false⟩ (tg m c)=some ((),(((s+nk (gO (ax m c)) (cX c.Left) (cX c.ak):Nat):Int),false)):=by
 have d:=h.ll;have e:=h.lr
 have f:=Ha M h.cf.cf h.bl h.br (by omega) (by omega)
 unfold kY
 rw[qY m c (by omega) (by omega),D]
 show Z (ov m c) _=_
 rw[FC M h.cf.cf h.bl h.br (by omega) (by omega),D]
 simp only
 rw[cond_false,decide_eq_false (λh=>h rfl:¬((0:Int)≠0)),cond_false,bC (by omega) (by omega),decide_eq_false (by omega),<- Int.natCast_add]
theorem MB {m:O}{q:Nat}(M:jI m 2 q)(x:Int×List Int×List Int)(p2:Int): ∀(k j:Nat) (c:U) (s b:Nat) (h:Int) (t:Nat) (i:U),Eg q b c->1<=b->b+k<=18->((j+k:Nat):Int)=p2->j+k<=1000->s+(k+1)*10000000<=1000000000->
  mg m k c=some (t,i)->ax m i=cn->
  run (jS p2 (m.I,m.N,m.aB,x)) ((s:Int),false,c.State,c.Left.reverse,c.ak.reverse,h,(j:Int))=some (.ret (some (((s+sV m k c:Nat):Int),true,0))):=by
 intro k
 have IX:∀(c:U) (s b:Nat) (h:Int),Eg q b c->b<=18->s<=1000000000->gu ⟨(s:Int),false⟩ (tg m c) h=some ((),(((s+if ax m c=cn then nk (gO (ax m c)) (cX c.Left) (cX c.ak)else 0:Nat):Int),false)):=by
  intro c s b h S l hs
  unfold gu
  rw[mc M S.cf.cf (by omega),D]
  by_cases a:ax m c=cn
  ·rw[decide_eq_true a,cond_true,DQ M S l hs,D,if_pos a]
  ·rw[decide_eq_false a,cond_false,if_neg a]
   rfl
 induction k with
 |zero=>
  intro j c s b h t i S o l p n hs e hr
  simp only[mg,Option.some.injEq,Prod.mk.injEq]at e
  obtain⟨_,rfl⟩:=e
  refine aZ ?_
  simp only[jS]
  show Z (gu ⟨(s:Int),false⟩ (tg m c) h) _=_
  rw[IX c s b h S (by omega) (by omega),D,if_pos hr,decide_eq_true (by omega:(j:Int)=p2),cond_true]
  show Z (Z (bU (tg m c)) _) _=_
  rw[mc M S.cf.cf (by omega),D,decide_eq_true hr]
  rfl
 |succ k r=>
  intro j c s b h t i S o l p n hs e hr
  rw[vL]at e
  by_cases a:ax m c=cn
  ·refine aZ ?_
   simp only[jS]
   show Z (gu ⟨(s:Int),false⟩ (tg m c) h) _=_
   rw[IX c s b h S (by omega) (by omega),D,if_pos a,decide_eq_false (by omega:¬(j:Int)=p2),cond_false]
   show Z (Z (bU (tg m c)) _) _=_
   rw[mc M S.cf.cf (by omega),D,decide_eq_true a,cond_true]
   show Z (Z (bU (tg m c)) _) _=_
   rw[mc M S.cf.cf (by omega),D,decide_eq_true a]
   show some (Sum.inr (Out.ret (some (((s+nk (gO (ax m c)) (cX c.Left) (cX c.ak):Nat):Int),true,0))))=_
   simp only[sV,if_pos a,Nat.add_zero]
  ·obtain⟨u,g⟩:=S.step M a o (by omega)
   rw[if_neg a,if_pos g]at e
   cases f:mg m k (bI (ax m c) c)with
   |none=>rw[f]at e;cases e
   |some y=>
    rw[f]at e
    simp only[Option.map_some,Option.some.injEq,Prod.mk.injEq]at e
    have v:=Ha M S.cf.cf S.bl S.br (by have:=S.ll;omega) (by have:=S.lr;omega)
    have d:=wN M S.cf.cf (by omega) S.cf.lt S.cf.rt
    rw[g]at d
    have:=r (j+1) (bI (ax m c) c) (s+nk (gO (ax m c)) (cX c.Left) (cX c.ak)) (b+1) (ah (h+(ax m c).Move)) y.1 y.2 u (by omega) (by omega) (by omega) (by omega) (by omega) f (by rw[e.2];exact hr)
    refine(bZ (s':=(((s+nk (gO (ax m c)) (cX c.Left) (cX c.ak):Nat):Int),false,(bI (ax m c) c).State,(bI (ax m c) c).Left.reverse,(bI (ax m c) c).ak.reverse,ah (h+(ax m c).Move),((j+1:Nat):Int))) ?_).trans ?_
    ·simp only[jS]
     show Z (gu ⟨(s:Int),false⟩ (tg m c) h) _=_
     rw[IX c s b h S (by omega) (by omega),D,if_neg a,decide_eq_false (by omega:¬(j:Int)=p2),cond_false]
     show Z (Z (bU (tg m c)) _) _=_
     rw[mc M S.cf.cf (by omega),D,decide_eq_false a,cond_false,D]
     show Z (ji (tg m c)) _=_
     rw[zS M S.cf.cf (by omega),D]
     show Z (lW ⟨((s+0:Nat):Int),false⟩ (tg m c) h (ax m c)) _=_
     unfold lW
     rw[Nat.add_zero,DQ M S (by omega) (by omega),D,D]
     show Z (dk (tg m c)) _=_
     rw[d,D]
     simp only
     rw[Bool.not_true,cond_false,dh (by omega)]
    ·rw[this]
     simp only[sV,if_neg a,Nat.add_assoc]
noncomputable def Kp (m:O)(B:Int)(w:List bX×List Int×Int)(a:Int×(List Int)×Int×Int×(List Int)×(List Int)×Int)(e:Int)(l:U): Option ((Int×(List Int)×Int×Int×(List Int)×(List Int)×Int) ⊕ Out (Int×(List Int)×Int×Int×(List Int)×(List Int)×Int) (Option (U×Int×Bool×Int))):=
 Z (bW w.1) λg=>(cond (decide (a.1=g)) (Z (bW w.1) λd=>some (.inr (.ret (cond (decide (a.1=d)) (Z (cC m e (⟨a.1,a.2.1⟩:eK)) λh=>some (h,a.2.2.2.2.2.2,(decide (a.1=d)),0)) (some (l,a.2.2.2.2.2.2,(decide (a.1=d)),0)))))) (cond (decide (a.2.2.2.2.2.2=B)) (Z (bW w.1) λf=>some (.inr (.ret (cond (decide (a.1=f)) (Z (cC m e (⟨a.1,a.2.1⟩:eK)) λi=>some (i,a.2.2.2.2.2.2,(decide (a.1=f)),0)) (some (l,a.2.2.2.2.2.2,(decide (a.1=f)),0)))))) (Z (idx w.1 a.1) λb=>Z (idx a.2.1 b.cd) λc=>(cond (decide (b.Kind=0)) (cond (!(decide ((ah (c+1))<=1000000))) (some (.inr (.ret (some ((⟨0,([]:(List Int)),([]:(List Int))⟩:U),0,false,5))))) (some (.inl (b.qa,(a.2.1.set b.cd.toNat (ah (c+1))),e,l.State,l.Left,l.ak,(ah (a.2.2.2.2.2.2+1)))))) (cond (decide (0<c)) (cond (!(decide ((ah (c-1))<=1000000))) (some (.inr (.ret (some ((⟨0,([]:(List Int)),([]:(List Int))⟩:U),0,false,5))))) (some (.inl (b.qa,(a.2.1.set b.cd.toNat (ah (c-1))),e,l.State,l.Left,l.ak,(ah (a.2.2.2.2.2.2+1)))))) (cond (!(decide (c<=1000000))) (some (.inr (.ret (some ((⟨0,([]:(List Int)),([]:(List Int))⟩:U),0,false,5))))) (some (.inl (b.uQ,a.2.1,e,l.State,l.Left,l.ak,(ah (a.2.2.2.2.2.2+1)))))))))))
theorem NF (m:O)(B:Int)(w:List bX×List Int×Int)(s:Int×(List Int)×Int×Int×(List Int)×(List Int)×Int): eN m B w s=Z (eg w.2.1 s.1) λa=>(cond a.2 (Z (iw m w.2.1 ⟨s.1,s.2.1⟩) λb=>cond b.2 (Kp m B w s a.1 b.1) (Kp m B w s a.1 ⟨s.2.2.2.1,s.2.2.2.2.1,s.2.2.2.2.2.1⟩)) (Z (iw m w.2.1 ⟨s.1,s.2.1⟩) λb=>cond b.2 (Kp m B w s s.2.2.1 b.1) (Kp m B w s s.2.2.1 ⟨s.2.2.2.1,s.2.2.2.2.1,s.2.2.2.2.2.1⟩))):=rfl
theorem FG {pl:List Int}(h:pl.length=1\/pl.length=2)(v:Int): ∃r,eg pl v=some r:=by
 have f:∀a b:Nat,a+b<=10->ah (Int.fdiv (wk .u64 (ah ((a:Int)+(b:Int)))) (2^min (1:Int).toNat (IntKind.bits .u64)))=(((a+b) / 2:Nat):Int):=by
  intro a b l
  have e:∀n:Fin 11,ah (Int.fdiv (wk .u64 (ah ((n.val:Nat):Int))) (2^min (1:Int).toNat (IntKind.bits .u64)))=(((n.val) / 2:Nat):Int):=by decide +kernel
  rw[<- Int.natCast_add]
  exact e ⟨a+b,by omega⟩
 have less:∀y:Int,pG y v=some (decide (y<v)):=λy=>by simp[pG,oU]
 have key:∀(d a b:Nat),b-a<=d->a<=b->b<=pl.length->∃x,run (cx pl v) ((a:Int),(b:Int))=some (.bf ((x:Nat),(x:Nat)))/\x<=pl.length:=by
  intro d
  induction d with
  |zero=>
   intro a b p q k
   have:a=b:=by omega
   subst this
   refine⟨a,aZ ?_,k⟩
   simp only[cx]
   rw[decide_eq_false (by omega),cond_false]
  |succ d o=>
   intro a b p q k
   by_cases l:a<b
   ·have hm:(a+b) / 2<pl.length:=by omega
    have c:idx pl (((a+b) / 2:Nat):Int)=some pl[(a+b) / 2]:=by
     unfold idx
     rw[if_neg (by omega),Int.toNat_natCast,List.getElem?_eq_getElem hm]
    by_cases g:pl[(a+b) / 2]<v
    ·obtain⟨x,i,hl⟩:=o ((a+b) / 2+1) b (by omega) (by omega) k
     refine⟨x,(bZ (s':=((((a+b) / 2+1:Nat):Int),(b:Int))) ?_).trans i,hl⟩
     simp only[cx]
     rw[decide_eq_true (by omega),cond_true,f a b (by omega),c,D,less,D,decide_eq_true g,cond_true,dh (by omega)]
    ·obtain⟨x,i,hl⟩:=o a ((a+b) / 2) (by omega) (by omega) (by omega)
     refine⟨x,(bZ (s':=((a:Int),(((a+b) / 2:Nat):Int))) ?_).trans i,hl⟩
     simp only[cx]
     rw[decide_eq_true (by omega),cond_true,f a b (by omega),c,D,less,D,decide_eq_false g,cond_false]
   ·have:a=b:=by omega
    subst this
    refine⟨a,aZ ?_,k⟩
    simp only[cx]
    rw[decide_eq_false (by omega),cond_false]
 obtain⟨x,i,hl⟩:=key pl.length 0 pl.length (by omega) (by omega) (Nat.le_refl _)
 unfold eg
 show ∃r,Z (run (cx pl v) (((0:Nat):Int),(pl.length:Int))) _=some r
 rw[i,D]
 simp only[Out.elim]
 by_cases m:x<pl.length
 ·have c:idx pl (x:Int)=some pl[x]:=by
   unfold idx
   rw[if_neg (by omega),Int.toNat_natCast,List.getElem?_eq_getElem m]
  rw[decide_eq_true (by omega),cond_true,c,D]
  have j:∀y:Int,kM y=some false:=λy=>by simp[kM]
  cases decide (pl[x]=v)
  ·rw[cond_false,D,j,D,cond_false]
   exact⟨_,rfl⟩
  ·exact⟨_,rfl⟩
 ·rw[decide_eq_false (by omega),cond_false]
  exact⟨_,rfl⟩
theorem DA (n:Nat): ∀(out:List Int),n<=1000001->out.length+n<=10000000->∃r,run (me 2) ((n:Int),out)=some (.bf (0,r)):=by
 induction n using Nat.strongRecOn with
 |ind n b=>
  intro out e f
  by_cases c:n=0
  ·subst c
   exact⟨out,aZ rfl⟩
  ·obtain⟨r,hr⟩:=b (n / 2) (by omega) (out++[Int.tmod (n:Int) 2]) (by omega) (by simp;omega)
   refine⟨r,(bZ (s':=(((n / 2:Nat):Int),out++[Int.tmod (n:Int) 2])) ?_).trans hr⟩
   have a:nz 2=some ():=rfl
   have d:Int.tdiv (n:Int) 2=((n / 2:Nat):Int):=rfl
   simp only[me]
   rw[decide_eq_true (by omega),cond_true,a,D,de (by simp;omega),D,D,d,bC (by omega) (by omega)]
structure GB (x:Int->Int)(cs:List Int): Prop where
 len:cs.length=24
 at_:∀i:Nat,i<24->cs[i]?=some (x i)/\0<=x i/\x i<=1000000
theorem GB.idx {x:Int->Int}{cs:List Int}(h:GB x cs){i:Int}(d:0<=i)(e:i<=2): Go.Tc.idx cs i=some (x i)/\0<=x i/\x i<=1000000:=by
 obtain⟨a,b,c⟩:=h.at_ i.toNat (by omega)
 rw[show((i.toNat:Nat):Int)=i by omega]at a b c
 refine⟨?_,b,c⟩
 unfold Go.Tc.idx
 rw[if_neg (by omega)]
 exact a
theorem GB.gz {x:Int->Int}{cs:List Int}(h:GB x cs){i v:Int}(j:0<=i)(l:i<=2)(d:0<=v)(f:v<=1000000): GB (gz x i v) (cs.set i.toNat v):=by
 refine⟨by rw[List.length_set,h.len],λk g=>?_⟩
 obtain⟨a,b,c⟩:=h.at_ k g
 by_cases e:(k:Int)=i
 ·subst e
  rw[vM,Int.toNat_natCast,List.getElem?_set_self (by rw[h.len];exact g)]
  exact⟨rfl,d,f⟩
 ·rw[BN e,List.getElem?_set_ne (by omega)]
  exact⟨a,b,c⟩
theorem xd {m:O}(hm:m.I=2){x:Int->Int}{cs:List Int}(h:GB x cs)(e a:Int): ∃r,cC m e ⟨a,cs⟩=some r:=by
 obtain⟨a0,f,c0⟩:=h.idx (i:=0) (by omega) (by omega)
 obtain⟨d,b1,c1⟩:=h.idx (i:=1) (by omega) (by omega)
 obtain⟨r0,b⟩:=DA (x 0).toNat [] (by omega) (by simp;omega)
 obtain⟨r1,c⟩:=DA (x 1).toNat [] (by omega) (by simp;omega)
 rw[show(((x 0).toNat:Nat):Int)=x 0 by omega]at b
 rw[show(((x 1).toNat:Nat):Int)=x 1 by omega]at c
 unfold cC
 simp only
 rw[a0,D,d,D,hm]
 unfold n7
 rw[b,c]
 exact⟨_,rfl⟩
theorem HY (xs:List Int)(a b:Int)(h:xs.length<=1000000): ∃r,iB xs a b=some r:=⟨_,oZ xs a b (by omega)⟩
theorem DE {m:O}(hm:m.I=2){pl:List Int}(b:pl.length=1\/pl.length=2){x:Int->Int}{cs:List Int}(h:GB x cs)(a:Int): ∃r,iw m pl ⟨a,cs⟩=some r:=by
 obtain⟨r1,c⟩:=FG b a
 unfold iw
 simp only
 rw[c,D]
 cases r1.2
 ·exact⟨_,rfl⟩
 ·rw[Bool.not_true,cond_false]
  have hs:jV cs 2 (cs.length:Int)=some (cs.drop 2):=by
   unfold jV
   rw[if_pos (by have:=h.len;omega)]
   simp
  obtain⟨d,e⟩:=HY (cs.drop 2) 0 0 (by have:=h.len;simp;omega)
  rw[hs,D,e,D]
  cases d
  ·exact⟨_,rfl⟩
  ·obtain⟨g,f⟩:=xd hm h r1.1 a
   rw[Bool.not_true,cond_false,f]
   exact⟨_,rfl⟩
def ab.lh (a:ab): Prop:=∀i∈a.L,0<=i.cd/\i.cd<=2
theorem ab.lh.emit {a:ab}(h:a.lh)(kind b:Int)(th el:Option Nat)(hr:0<=b/\b<=2): (a.emit kind b th el).lh:=λi hi=>by
 simp only[ab.emit,List.mem_append,List.mem_singleton]at hi
 rcases hi with hi|rfl
 ·exact h i hi
 ·exact hr
theorem ab.lh.new {a:ab}(h:a.lh): a.new.lh:=h
theorem ab.lh.here {a:ab}(h:a.lh)(s:Nat): (a.here s).lh:=h
theorem ab.lh.j7 (b:Int)(hr:0<=b/\b<=2): ∀(n:Nat) {a:ab},a.lh->(a.j7 b n).lh
 |0,_,h=>h
 |n+1,_,h=>ab.lh.j7 b hr n (h.emit 0 b none none hr)
def Pc.rg:Pc->Prop
 |.loop f t _=>(0<=f/\f<=2)/\0<=t/\t<=2
 |.inc r=>0<=r/\r<=2
theorem ab.lh.piece {a:ab}(h:a.lh)(e:Nat): ∀p:Pc,p.rg->(a.piece e p).lh
 |.loop f t k,b=>(ab.lh.j7 t b.2 (k.toNat-1) ((h.new.here _).emit 1 f none (some e) b.1)).emit 0 t (some a.S.length) none b.2
 |.inc r,b=>h.emit 0 r (some e) none b
theorem ab.lh.chain (t:Nat): ∀(ps:List Pc) {a:ab},(∀p∈ps,p.rg)->a.lh->(a.chain t ps).lh
 |[],_,_,h=>h
 |[p],_,b,h=>h.piece t p (b p (by simp))
 |p::q::ps,a,b,h=>ab.lh.chain t (q::ps) (λr hr=>b r (by simp[hr])) ((h.new.piece a.S.length p (b p (by simp))).here a.S.length)
theorem ab.lh.eJ (f:Int)(b:0<=f/\f<=2): ∀(n:Nat) {a:ab},a.lh->(a.eJ f n).lh
 |0,_,h=>h
 |n+1,a,h=>ab.lh.eJ f b n (h.new.emit 1 f none (some a.S.length) b)
theorem ab.lh.qE:∀(cs:List (ab->ab)) (at_:Nat) {a:ab},a.lh->(∀c∈cs,∀b:ab,b.lh->(c b).lh)->(a.qE at_ cs).lh
 |[],_,_,h,_=>h
 |c::cs,at_,_,h,e=>ab.lh.qE cs (at_+1) (e c (by simp) _ (h.here at_)) λd hd=>e d (by simp[hd])
theorem ab.lh.split {a:ab}(h:a.lh)(f t:Int)(d:0<=f/\f<=2)(e:0<=t/\t<=2)(cs:List (ab->ab))(g:∀c∈cs,∀b:ab,b.lh->(c b).lh): (a.split f t cs).lh:=
 ab.lh.qE cs _ ((ab.lh.eJ f d cs.length (h.new.here a.S.length)).emit 0 t (some a.S.length) none e) g
theorem Ev {ps:List Pc}(h:∀p∈ps,p.rg){r k:Int}(hr:0<=r/\r<=2): ∀p∈ps++ju r k,p.rg:=λp a=>by
 rcases List.mem_append.1 a with a|a
 ·exact h p a
 ·have:=List.eq_of_mem_replicate a
  subst this
  exact hr
theorem ab.lh.ka {a:ab}(h:a.lh)(e s:Int)(r0 r1:ai): (a.ka e s r0 r1).lh:=by
 have g:∀(f t k:Int),(0<=f/\f<=2)->(0<=t/\t<=2)->(Pc.loop f t k).rg:=λf t k i n=>⟨i,n⟩
 have o:∀(f1 t1 k1 f2 t2 q f3 t3 k3:Int),(Pc.loop f1 t1 k1).rg->(Pc.loop f2 t2 q).rg->(Pc.loop f3 t3 k3).rg->∀p∈([.loop f1 t1 k1,.loop f2 t2 q,.loop f3 t3 k3]:List Pc),p.rg:=λ_ _ _ _ _ _ _ _ _ i n w p j=>by
  simp only[List.mem_cons,List.not_mem_nil,or_false]at j
  rcases j with rfl|rfl|rfl
  ·exact i
  ·exact n
  ·exact w
 have u:∀(f1 t1 k1:Int),(Pc.loop f1 t1 k1).rg->∀p∈([.loop f1 t1 k1]:List Pc),p.rg:=λ_ _ _ i p j=>by
  simp only[List.mem_cons,List.not_mem_nil,or_false]at j
  subst j
  exact i
 have hl:∀(b:ab) (s:Int) (t:Nat),b.lh->(b.mI s t).lh:=λb s t l=>l.split 0 2 (by omega) (by omega) _ λc m d hd=>by
  simp only[List.mem_cons,List.not_mem_nil,or_false]at m
  rcases m with rfl|rfl<;>exact ab.lh.chain t _ (Ev (o _ _ _ _ _ _ _ _ _ (g _ _ _ (by omega) (by omega)) (g _ _ _ (by omega) (by omega)) (g _ _ _ (by omega) (by omega))) (by omega)) hd
 have hm:∀(r:ai) (v:Int) (b:ab),b.lh->(cJ r e s v b).lh:=λr v b l=>by
  unfold cJ
  split
  ·exact ab.lh.chain _ _ (Ev (u _ _ _ (g _ _ _ (by omega) (by omega))) (by omega)) l
  ·split
   ·exact ab.lh.chain _ _ (Ev (o _ _ _ _ _ _ _ _ _ (g _ _ _ (by omega) (by omega)) (g _ _ _ (by omega) (by omega)) (g _ _ _ (by omega) (by omega))) (by omega)) l
   ·exact hl _ _ _ ((ab.lh.chain _ _ (Ev (u _ _ _ (g _ _ _ (by omega) (by omega))) (by omega)) l.new).here _)
 exact h.split 1 2 (by omega) (by omega) _ λc m d hd=>by
  simp only[List.mem_cons,List.not_mem_nil,or_false]at m
  rcases m with rfl|rfl<;>exact hm _ _ d hd
def rI (m:O)(p r:Nat): ai:=m.aB.getD (2*p+r%2) cn
structure OV (m:O)(q:Nat)(z:ab)(pl:List Int): Prop where
 num:z.num
 lh:z.lh
 len:pl.length=q
 sec:∀p,p<q->∀l r:Nat,∃x,fy z.ins (nk (gO (rI m p r)) l r) (pl.getD p 0,fv l r 0)=some x/\
  (match gO (rI m p r)with
   |.no=>x.1=(z.L.length:Int)
   |.right w nx=>x=(pl.getD nx 0,fv ((2*l+w:Nat):Int) ((r / 2:Nat):Int) 0)/\nx<q
   |.left w nx=>x=(pl.getD nx 0,fv ((l / 2:Nat):Int) ((2*(2*(r / 2)+w)+l%2:Nat):Int) 0)/\nx<q)
theorem Ks {q:Int}{r:ai}(h:jF 2 q r=true): yu q r=true:=by
 unfold jF at h
 unfold yu
 simp only[Bool.or_eq_true,Bool.and_eq_true,decide_eq_true_eq,beq_iff_eq,ei]at h ⊢
 rcases h with h|⟨b,a,c⟩
 ·exact .inl h
 ·exact .inr ⟨⟨⟨⟨by omega,by omega⟩,a⟩,by omega⟩,by omega⟩
theorem Jb {q:Int}{r:ai}(h:jF 2 q r=true){w nx:Nat}(he:gO r=.right w nx\/gO r=.left w nx): (nx:Int)<q:=by
 unfold gO at he
 split at he
 ·rcases he with he|he<;>cases he
 ·rename_i a
  unfold jF at h
  rw[decide_eq_false a,Bool.false_or,Bool.and_eq_true,Bool.and_eq_true,ei,ei]at h
  split at he
  ·rcases he with he|he
   ·injection he with _ e;omega
   ·cases he
  ·rcases he with he|he
   ·cases he
   ·injection he with _ e;omega
theorem HH {m:O}{q p:Nat}{z a:ab}{pl:List Int}{r0 r1:ai}(i:jF 2 q r0=true)(j:jF 2 q r1=true)(f:m.aB.getD (2*p) cn=r0)(e1:m.aB.getD (2*p+1) cn=r1)(h:a.at_ (a.ka q 2 (gO r0).im (gO r1).im) z)(n:pl.getD p 0=(a.L.length:Int))(hq:z.S.getD q 0=(z.L.length:Int))(b:∀k,k<q->z.S.getD k 0=pl.getD k 0)(l r:Nat):
  ∃x,fy z.ins (nk (gO (rI m p r)) l r) (pl.getD p 0,fv l r 0)=some x/\
  (match gO (rI m p r)with
   |.no=>x.1=(z.L.length:Int)
   |.right w nx=>x=(pl.getD nx 0,fv ((2*l+w:Nat):Int) ((r / 2:Nat):Int) 0)/\nx<q
   |.left w nx=>x=(pl.getD nx 0,fv ((l / 2:Nat):Int) ((2*(2*(r / 2)+w)+l%2:Nat):Int) 0)/\nx<q):=by
 have o:r%2<2:=Nat.mod_lt _ (by omega)
 obtain⟨x,d,hm⟩:=KT (q:=q) rfl h l (r / 2) (r%2) o
 have s:(if r%2=0 then gO r0 else gO r1)=gO (rI m p r):=by
  unfold rI
  split
  ·rename_i e
   rw[e,Nat.add_zero,f]
  ·rename_i e
   rw[show r%2=1 by omega,e1]
 have g:jF 2 q (rI m p r)=true:=by
  unfold rI
  have:r%2=0\/r%2=1:=by omega
  rcases this with e|e
  ·rw[e,Nat.add_zero,f];exact i
  ·rw[e,e1];exact j
 rw[s]at d hm
 rw[show 2*(r / 2)+r%2=r by omega,<- n]at d
 refine⟨x,d,?_⟩
 cases c:gO (rI m p r)with
 |no=>rw[c]at hm;rw[<- hq];exact hm
 |right w nx=>
  rw[c]at hm
  have t:=Jb g (.inl c)
  exact⟨by rw[hm,b nx (by omega)],by omega⟩
 |left w nx=>
  rw[c]at hm
  have t:=Jb g (.inr c)
  exact⟨by rw[hm,b nx (by omega)],by omega⟩
theorem Ju {m:O}{q:Nat}(M:jI m 2 q)(x:q<=2): ∃z pl,dU m=some (z.fin,pl,0)/\OV m q z pl:=by
 have hs:m.I=2:=M.hs
 have hr:∀r∈m.aB,jF 2 q r=true:=λr h=>by
  have:=M.hr r h
  rw[hs,M.hq]at this
  exact this
 have g:m.aB.all (yu m.N)=true:=List.all_eq_true.2 λr h=>by rw[M.hq];exact Ks (hr r h)
 have hlen:=M.hl
 have w:m.I=2/\m.aB.all (yu m.N)=true:=⟨hs,g⟩
 have o:q=1\/q=2:=by have:=M.b3;omega
 rcases o with rfl|rfl
 ·obtain⟨r0,r1,a⟩:∃r0 r1,m.aB=[r0,r1]:=by
   match h:m.aB,hlen with
   |[r0,r1],_=>exact⟨r0,r1,rfl⟩
  have j:=hr r0 (by rw[a];simp)
  have b1:=hr r1 (by rw[a];simp)
  have g0:=tK j
  have g1:=tK b1
  obtain⟨z,d⟩:∃z,z=(((ab.mk [] [] [0,0]).here 0).ka 1 2 (gO r0).im (gO r1).im).here 1:=⟨_,rfl⟩
  obtain⟨n1,n2,s,n⟩:=M1 d
  have t:dU m=some (z.fin,[z.S.getD 0 0],0):=by
   unfold dU
   rw[if_pos w,a]
   simp only
   rw[if_pos (show m.N=1 from M.hq),d,g0,g1]
  refine⟨z,[z.S.getD 0 0],t,n1,?_,rfl,λp y l r=>?_⟩
  ·rw[d]
   have u:((ab.mk [] [] [0,0]).here 0).lh:=λi hi=>by simp[ab.here]at hi
   exact(u.ka 1 2 _ _).here 1
  ·obtain rfl:p=0:=by omega
   have c:∀k,k<1->z.S.getD k 0=([z.S.getD 0 0]:List Int).getD k 0:=λk A=>by
    obtain rfl:k=0:=by omega
    rfl
   exact HH (p:=0) (pl:=[z.S.getD 0 0]) (r0:=r0) (r1:=r1) j b1 (by rw[a];rfl) (by rw[a];rfl) n n2 s c l r
 ·obtain⟨r0,r1,e,f,a⟩:∃r0 r1 e f,m.aB=[r0,r1,e,f]:=by
   match h:m.aB,hlen with
   |[r0,r1,e,f],_=>exact⟨r0,r1,e,f,rfl⟩
  have j:=hr r0 (by rw[a];simp)
  have b1:=hr r1 (by rw[a];simp)
  have b2:=hr e (by rw[a];simp)
  have b3:=hr f (by rw[a];simp)
  have g0:=tK j
  have g1:=tK b1
  have g2:=tK b2
  have g3:=tK b3
  obtain⟨b,v⟩:∃b,b=(((ab.mk [] [] [0,0,0]).here 0).ka 2 2 (gO r0).im (gO r1).im).here 1:=⟨_,rfl⟩
  obtain⟨z,d⟩:∃z,z=(b.ka 2 2 (gO e).im (gO f).im).here 2:=⟨_,rfl⟩
  obtain⟨n1,n2,s,n,B,C⟩:=MP v d
  have t:dU m=some (z.fin,[z.S.getD 0 0,z.S.getD 1 0],0):=by
   unfold dU
   rw[if_pos w,a]
   simp only
   rw[if_pos (show m.N=2 from M.hq),d,v,g0,g1,g2,g3]
  refine⟨z,[z.S.getD 0 0,z.S.getD 1 0],t,n1,?_,rfl,λp y l r=>?_⟩
  ·rw[d,v]
   have u:((ab.mk [] [] [0,0,0]).here 0).lh:=λi hi=>by simp[ab.here]at hi
   exact(((u.ka 2 2 _ _).here 1).ka 2 2 _ _).here 2
  ·have c:∀k,k<2->z.S.getD k 0=([z.S.getD 0 0,z.S.getD 1 0]:List Int).getD k 0:=λk A=>by
    have:k=0\/k=1:=by omega
    rcases this with rfl|rfl<;>rfl
   have:p=0\/p=1:=by omega
   rcases this with rfl|rfl
   ·exact HH (p:=0) (pl:=[z.S.getD 0 0,z.S.getD 1 0]) (r0:=r0) (r1:=r1) j b1 (by rw[a];rfl) (by rw[a];rfl) B n2 n c l r
   ·exact HH (p:=1) (pl:=[z.S.getD 0 0,z.S.getD 1 0]) (r0:=e) (r1:=f) b2 b3 (by rw[a];rfl) (by rw[a];rfl) C s n c l r
theorem Ag {ins:Nat->Option bX}: ∀(n m:Nat) (s:Int×(Int->Int)),fy ins (n+m) s=(fy ins n s).bind (fy ins m)
 |0,m,s=>by simp[fy]
 |n+1,m,s=>by
  rw[show n+1+m=(n+m)+1 by omega]
  simp only[fy]
  cases tE ins s with
  |none=>rfl
  |some s1=>exact Ag n m s1
theorem Mk {ins:Nat->Option bX}{n t:Nat}{s u:Int×(Int->Int)}(h:fy ins n s=some u)(b:t<=n): ∃v,fy ins t s=some v:=by
 rw[show n=t+(n-t)by omega,Ag]at h
 cases a:fy ins t s with
 |none=>rw[a]at h;cases h
 |some v=>exact⟨v,rfl⟩
theorem step_end {z:ab}{s:Int×(Int->Int)}(h:s.1=(z.L.length:Int)): tE z.ins s=none:=by
 unfold tE
 rw[if_pos (by omega),h,Int.toNat_natCast]
 simp[ab.ins]
theorem I1 {z:ab}{t a:Nat}{s e v:Int×(Int->Int)}(h:fy z.ins a s=some e)(he:e.1=(z.L.length:Int))(b:fy z.ins t s=some v): t<=a:=by
 refine Classical.byContradiction λc=>?_
 rw[show t=a+((t-a-1)+1)by omega,Ag,h]at b
 simp only[Option.bind_some,fy,step_end he]at b
 cases b
theorem Jy {m:O}{q:Nat}{z:ab}{pl:List Int}(P:OV m q z pl): ∀(t p l r:Nat),p<q->
  (∃u,fy z.ins t (pl.getD p 0,fv l r 0)=some u)\/∃a,a<=t/\∃u,fy z.ins a (pl.getD p 0,fv l r 0)=some u/\u.1=(z.L.length:Int):=by
 intro t
 induction t using Nat.strongRecOn with
 |ind t i=>
  intro p l r j
  obtain⟨x,b,hm⟩:=P.sec p j l r
  by_cases k:t<=nk (gO (rI m p r)) l r
  ·exact .inl (Mk b k)
  ·have o:1<=nk (gO (rI m p r)) l r:=by unfold nk;omega
   have go:∀(c d e:Nat),c<q->x=(pl.getD c 0,fv d e 0)->(∃u,fy z.ins t (pl.getD p 0,fv l r 0)=some u)\/∃a,a<=t/\∃u,fy z.ins a (pl.getD p 0,fv l r 0)=some u/\u.1=(z.L.length:Int):=by
    intro c d e f he
    rcases i (t-nk (gO (rI m p r)) l r) (by omega) c d e f with⟨u,hu⟩|⟨a,n,u,hu,g⟩
    ·rw[<- he]at hu
     exact .inl ⟨u,fe (jz b hu) (by omega) rfl⟩
    ·rw[<- he]at hu
     exact .inr ⟨_,by omega,u,jz b hu,g⟩
   cases h:gO (rI m p r)with
   |no=>
    rw[h]at hm
    exact .inr ⟨_,by omega,x,b,hm⟩
   |right w nx=>
    rw[h]at hm
    exact go nx _ _ hm.2 hm.1
   |left w nx=>
    rw[h]at hm
    exact go nx _ _ hm.2 hm.1
theorem KE {m:O}{q:Nat}{z:ab}{pl:List Int}(P:OV m q z pl)(hm:m.I=2)(hq:q=1\/q=2)(B:Int): ∀(k j:Nat) (s:Int×(Int->Int)) (cs:List Int) (e ls:Int) (lf rt:List Int),GB s.2 cs->((j+k:Nat):Int)=B->j+k<=1000000->
  (∀t,t<=k->(∃u,fy z.ins t s=some u)\/∃w,w<=t/\∃u,fy z.ins w s=some u/\u.1=(z.L.length:Int))->
  ∃c n h code,run (eN m B (z.fin,pl,0)) (s.1,cs,e,ls,lf,rt,(j:Int))=some (.ret (some (c,n,h,code)))/\
   (code≠0\/∃t,∃u,fy z.ins t s=some u/\n=((j+t:Nat):Int)/\h=decide (u.1=(z.L.length:Int))):=by
 intro k
 induction k with
 |zero=>
  intro j s cs e ls lf rt C hj T hd
  obtain⟨a,V⟩:=FG (pl:=pl) (by rw[P.len];exact hq) s.1
  obtain⟨b,W⟩:=DE hm (pl:=pl) (by rw[P.len];exact hq) C s.1
  have key:∀o l,∃c n h code,Kp m B (z.fin,pl,0) (s.1,cs,e,ls,lf,rt,(j:Int)) o l=some (.inr (.ret (some (c,n,h,code))))/\(code≠0\/∃t,∃u,fy z.ins t s=some u/\n=((j+t:Nat):Int)/\h=decide (u.1=(z.L.length:Int))):=by
   intro o l
   obtain⟨c0,E⟩:=xd hm C o s.1
   have p:bW z.fin=some (z.L.length:Int):=by
    show some (z.fin.length:Int)=_
    rw[ab.JE P.num]
   unfold Kp
   simp only
   rw[p,D]
   by_cases d:s.1=(z.L.length:Int)
   ·rw[decide_eq_true d,cond_true,D,decide_eq_true d,cond_true,E,D]
    exact⟨_,_,_,_,rfl,.inr ⟨0,s,rfl,by simp,by rw[decide_eq_true d]⟩⟩
   ·rw[decide_eq_false d,cond_false,decide_eq_true (by omega:(j:Int)=B),cond_true,D,decide_eq_false d,cond_false]
    exact⟨_,_,_,_,rfl,.inr ⟨0,s,rfl,by simp,by rw[decide_eq_false d]⟩⟩
  have:∃o l,eN m B (z.fin,pl,0) (s.1,cs,e,ls,lf,rt,(j:Int))=Kp m B (z.fin,pl,0) (s.1,cs,e,ls,lf,rt,(j:Int)) o l:=by
   rw[NF]
   simp only
   rw[V,D,W]
   simp only[D]
   cases a.2<;>cases b.2<;>exact⟨_,_,rfl⟩
  obtain⟨o,l,M⟩:=this
  obtain⟨c,n,h,code,N,h2⟩:=key o l
  exact⟨c,n,h,code,aZ (M.trans N),h2⟩
 |succ k ih=>
  intro j s cs e ls lf rt C hj T hd
  obtain⟨a,V⟩:=FG (pl:=pl) (by rw[P.len];exact hq) s.1
  obtain⟨b,W⟩:=DE hm (pl:=pl) (by rw[P.len];exact hq) C s.1
  have p:bW z.fin=some (z.L.length:Int):=by
   show some (z.fin.length:Int)=_
   rw[ab.JE P.num]
  have this:∃o l,eN m B (z.fin,pl,0) (s.1,cs,e,ls,lf,rt,(j:Int))=Kp m B (z.fin,pl,0) (s.1,cs,e,ls,lf,rt,(j:Int)) o l:=by
   rw[NF]
   simp only
   rw[V,D,W]
   simp only[D]
   cases a.2<;>cases b.2<;>exact⟨_,_,rfl⟩
  obtain⟨o,l,M⟩:=this
  by_cases d:s.1=(z.L.length:Int)
  ·obtain⟨c0,E⟩:=xd hm C o s.1
   refine⟨c0,(j:Int),true,0,aZ (M.trans ?_),.inr ⟨0,s,rfl,by simp,by rw[decide_eq_true d]⟩⟩
   unfold Kp
   simp only
   rw[p,D,decide_eq_true d,cond_true,D,decide_eq_true d,cond_true,E,D]
  ·
   obtain⟨s1,f⟩:∃s1,tE z.ins s=some s1:=by
    rcases hd 1 (by omega)with⟨u,hu⟩|⟨w,X,u,hu,F⟩
    ·simp only[fy,Option.bind_eq_some_iff]at hu
     obtain⟨s1,N,_⟩:=hu
     exact⟨s1,N⟩
    ·have:w=0\/w=1:=by omega
     rcases this with rfl|rfl
     ·simp only[fy,Option.some.injEq]at hu
      subst hu
      exact absurd F d
     ·simp only[fy,Option.bind_eq_some_iff]at hu
      obtain⟨s1,N,_⟩:=hu
      exact⟨s1,N⟩
   have Y:∀t,t<=k->(∃u,fy z.ins t s1=some u)\/∃w,w<=t/\∃u,fy z.ins w s1=some u/\u.1=(z.L.length:Int):=by
    intro t ht
    rcases hd (t+1) (by omega)with⟨u,hu⟩|⟨w,X,u,hu,F⟩
    ·simp only[fy,f,Option.bind_some]at hu
     exact .inl ⟨u,hu⟩
    ·cases w with
     |zero=>
      simp only[fy,Option.some.injEq]at hu
      subst hu
      exact absurd F d
     |succ w=>
      simp only[fy,f,Option.bind_some]at hu
      exact .inr ⟨w,by omega,u,hu,F⟩
   have Q:=f
   unfold tE at f
   split at f
   ·rename_i h0
    cases hi:z.ins s.1.toNat with
    |none=>rw[hi]at f;cases f
    |some i=>
     rw[hi]at f
     simp only at f
     have R:z.fin[s.1.toNat]?=some i:=by rw[ab.NM P.num];exact hi
     have G:idx z.fin s.1=some i:=by
      unfold idx
      rw[if_neg (by omega)]
      exact R
     have g:0<=i.cd/\i.cd<=2:=by
      unfold ab.ins at hi
      simp only[Option.bind_eq_some_iff,Option.map_eq_some_iff]at hi
      obtain⟨x,hx,y,_,rfl⟩:=hi
      exact P.lh x (List.mem_of_getElem? hx)
     obtain⟨H,E,Z⟩:=C.idx g.1 g.2
     have e1:ah (s.2 i.cd+1)=s.2 i.cd+1:=bC (by omega) (by omega)
     have e2:ah (s.2 i.cd-1)=s.2 i.cd-1:=bC (by omega) (by omega)
     have K:ah ((j:Int)+1)=((j+1:Nat):Int):=dh (by omega)
     have rest:∀(J:List Int),GB s1.2 J->Kp m B (z.fin,pl,0) (s.1,cs,e,ls,lf,rt,(j:Int)) o l=some (.inl (s1.1,J,o,l.State,l.Left,l.ak,((j+1:Nat):Int)))->
       ∃c n h code,run (eN m B (z.fin,pl,0)) (s.1,cs,e,ls,lf,rt,(j:Int))=some (.ret (some (c,n,h,code)))/\(code≠0\/∃t,∃u,fy z.ins t s=some u/\n=((j+t:Nat):Int)/\h=decide (u.1=(z.L.length:Int))):=by
      intro J aa hK
      obtain⟨c,n,h,code,g1,g2⟩:=ih (j+1) s1 J o l.State l.Left l.ak aa (by omega) (by omega) Y
      refine⟨c,n,h,code,(bZ (M.trans hK)).trans g1,g2.imp id λ⟨t,u,a1,a2,a3⟩=>⟨t+1,u,?_,by rw[a2];congr 1;omega,a3⟩⟩
      simp only[fy,Q,Option.bind_some]
      exact a1
     have S:Kp m B (z.fin,pl,0) (s.1,cs,e,ls,lf,rt,(j:Int)) o l=some (.inr (.ret (some ((⟨0,([]:(List Int)),([]:(List Int))⟩:U),0,false,5))))->
       ∃c n h code,run (eN m B (z.fin,pl,0)) (s.1,cs,e,ls,lf,rt,(j:Int))=some (.ret (some (c,n,h,code)))/\(code≠0\/∃t,∃u,fy z.ins t s=some u/\n=((j+t:Nat):Int)/\h=decide (u.1=(z.L.length:Int))):=
      λhK=>⟨_,_,_,_,aZ (M.trans hK),.inl (by omega)⟩
     by_cases v:i.Kind=0
     ·rw[if_pos v]at f
      obtain rfl:=Option.some.inj f
      by_cases A:s.2 i.cd+1<=1000000
      ·refine rest (cs.set i.cd.toNat (s.2 i.cd+1)) (C.gz g.1 g.2 (by omega) A) ?_
       unfold Kp
       simp only
       rw[p,D,decide_eq_false d,cond_false,decide_eq_false (by omega:¬(j:Int)=B),cond_false,G,D,H,D,decide_eq_true v,cond_true,e1,decide_eq_true A,Bool.not_true,cond_false,K]
      ·refine S ?_
       unfold Kp
       simp only
       rw[p,D,decide_eq_false d,cond_false,decide_eq_false (by omega:¬(j:Int)=B),cond_false,G,D,H,D,decide_eq_true v,cond_true,e1,decide_eq_false A,Bool.not_false,cond_true]
     ·rw[if_neg v]at f
      by_cases r:0<s.2 i.cd
      ·rw[if_pos r]at f
       obtain rfl:=Option.some.inj f
       refine rest (cs.set i.cd.toNat (s.2 i.cd-1)) (C.gz g.1 g.2 (by omega) (by omega)) ?_
       unfold Kp
       simp only
       rw[p,D,decide_eq_false d,cond_false,decide_eq_false (by omega:¬(j:Int)=B),cond_false,G,D,H,D,decide_eq_false v,cond_false,decide_eq_true r,cond_true,e2,decide_eq_true (by omega:s.2 i.cd-1<=1000000),Bool.not_true,cond_false,K]
      ·rw[if_neg r]at f
       obtain rfl:=Option.some.inj f
       refine rest cs C ?_
       unfold Kp
       simp only
       rw[p,D,decide_eq_false d,cond_false,decide_eq_false (by omega:¬(j:Int)=B),cond_false,G,D,H,D,decide_eq_false v,cond_false,decide_eq_false r,cond_false,decide_eq_true Z,Bool.not_true,cond_false,K]
   ·cases f
section
variable {m:O}{s q:Nat}{X:List Int}{p:Int}{Y:List Int}
theorem Pm (r:ai)(X Y:List Int): (yY r X).length+(za r X Y).length<=X.length+Y.length+2:=by
 unfold yY za
 by_cases h:r.Move=1
 ·rw[if_pos h,if_pos h,List.length_append,List.length_singleton,List.length_tail]
  omega
 ·rw[if_neg h,if_neg h,List.length_dropLast,List.length_cons,List.length_cons,List.length_tail]
  omega
theorem Bo (X Y:List Int)(p:Int)(h:X.length+Y.length<=190): OY X Y=true/\small (rj X p Y)=true:=by
 have a:=jm X.reverse
 have b:=jm Y
 rw[List.length_reverse]at a
 unfold OY small rj
 simp only
 rw[decide_eq_true (by omega),decide_eq_true (by omega)]
 exact⟨rfl,rfl⟩
theorem Iz (T:iR m s q)(a:rl m p Y≠cn): (rl m p Y).Move=1\/(rl m p Y).Move=-1:=by
 have b:rl m p Y∈m.aB:=by
  unfold rl at a ⊢
  rw[List.getD_eq_getElem?_getD]at a ⊢
  cases h:m.aB[(p*m.I+Y.headD 0).toNat]? with
  |none=>rw[h]at a;exact absurd rfl a
  |some r=>exact List.mem_of_getElem? h
 have h:=T.hr _ b
 unfold jF at h
 simp only[Bool.or_eq_true,Bool.and_eq_true,decide_eq_true_eq]at h
 rcases h with h|⟨_,h,_⟩
 ·exact absurd h a
 ·exact h
theorem Jx (T:iR m s q)(g:(cc m s).length<=60){B:Int}(C:tU m X p Y)(rows:List (List Int))(hlen:X.length+Y.length+rows.length<=95)(h:rl m p Y=cn):
  ∃a,run (c7 B (cc m s,((bN m s).length:Int),0) (⟨m.I,m.I+m.N⟩,fU m,0) (bN m s)) (Wd m X p Y,rows,(rows.length:Int))=some (.ret (some (rows++a,0)))/\ox (cc m s) a (Wd m X p Y)=(xf m,0)/\zg ((bN m s).length:Int) a=0/\a.length<=X.length+Y.length+1:=by
 have hl:=ru m X p Y
 have d:=qt (m:=m) (s:=s)
 have b:(Wd m X p Y).length<=400:=by omega
 obtain⟨k,i,f1,f2⟩:=OW T C h
 obtain⟨u,e⟩:=GZ T C b
 obtain⟨l,_⟩:=wc T C b (by unfold jO at d;omega)
 have n:Y.tail.length<=Y.length:=by rw[List.length_tail];omega
 have E:uY m X Y.tail:=⟨C.sx,λx o=>C.sy x (List.mem_of_mem_tail o),by rw[rB];omega⟩
 have j:=Om (jO m s) (X.length+1) Y.tail
 have lr:=I6 (jO m s) X.reverse
 rw[List.length_reverse]at lr
 have f:([[(((bN m s).length+k:Nat):Int),((X.length+1:Nat):Int)]]++Cg (jO m s) (X.length+1) Y.tail++zF (jO m s) X.reverse).length<=X.length+Y.length+1:=by
  rw[List.length_append,List.length_append,List.length_singleton,j,lr]
  omega
 refine⟨[[(((bN m s).length+k:Nat):Int),((X.length+1:Nat):Int)]]++Cg (jO m s) (X.length+1) Y.tail++zF (jO m s) X.reverse,?_,Ko T C b i f1,?_,f⟩
 ·refine aZ ?_
  simp only[c7]
  rw[l h,D]
  simp only[Bool.not_false,cond_true]
  rw[D,e,D,Fk,D,(Bo X Y p (by omega)).1]
  simp only[Out.elim,Bool.not_true,cond_false]
  have c:c8 (cc m s,((bN m s).length:Int),0) (⟨m.I,m.I+m.N⟩,fU m,0) (rows,Wd m X p Y)=some (.inl (rows++[[(((bN m s).length+k:Nat):Int),((X.length+1:Nat):Int)]],Ed m X Y.tail)):=by
   simp only[c8]
   rw[JI T C b g i f1 f2,D]
   simp only[Bool.not_true,cond_false]
   rw[de (by simp;omega),D]
  rw[bZ c,Hh T g Y.tail _ E (by simp;omega)]
  have t:Ax (rows++[[(((bN m s).length+k:Nat):Int),((X.length+1:Nat):Int)]]++Cg (jO m s) (X.length+1) Y.tail++zF (jO m s) X.reverse)=(rows++([[(((bN m s).length+k:Nat):Int),((X.length+1:Nat):Int)]]++Cg (jO m s) (X.length+1) Y.tail++zF (jO m s) X.reverse),0):=by
   unfold Ax
   rw[if_neg (by simp only[List.length_append,List.length_singleton,j,lr];omega)]
   simp
  rw[t]
  rfl
 ·refine KD λr hr=>?_
  have c:((bN m s).length:Int)<=(jO m s:Int):=by unfold jO;omega
  rcases List.mem_append.1 hr with hr|hr
  ·rcases List.mem_append.1 hr with hr|hr
   ·rw[List.mem_singleton]at hr
    rw[hr]
    show((bN m s).length:Int)<=(((bN m s).length+k:Nat):Int)
    omega
   ·exact PK c _ r hr
  ·exact LH c _ r hr
theorem Oa (T:iR m s q)(z:(cc m s).length<=60){B:Int}(H:B<=50): ∀(n:Nat) (X:List Int) (p:Int) (Y:List Int) (rows:List (List Int)),tU m X p Y->X.length+Y.length+2*n<=40->((rows.length+n:Nat):Int)=B->
  ∃t i,mg m n (rj X p Y)=some (t,i)/\
   (ax m i≠cn->run (c7 B (cc m s,((bN m s).length:Int),0) (⟨m.I,m.I+m.N⟩,fU m,0) (bN m s)) (Wd m X p Y,rows,(rows.length:Int))=some (.ret (some ([],3))))/\
   (ax m i=cn->∃g,run (c7 B (cc m s,((bN m s).length:Int),0) (⟨m.I,m.I+m.N⟩,fU m,0) (bN m s)) (Wd m X p Y,rows,(rows.length:Int))=some (.ret (some (rows++g,0)))/\ox (cc m s) g (Wd m X p Y)=(xf m,0)/\zg ((bN m s).length:Int) g=t/\g.length<=X.length+Y.length+3*n+1):=by
 intro n
 induction n with
 |zero=>
  intro X p Y rows C hl hr
  refine⟨0,rj X p Y,rfl,λf=>?_,λhe=>?_⟩
  ·rw[rX T C]at f
   have o:=ru m X p Y
   have h:=qt (m:=m) (s:=s)
   obtain⟨k,l,f1,f2⟩:=yB T C f
   obtain⟨J,r⟩:=GZ T C (by omega)
   obtain⟨_,u⟩:=wc T C (by omega) (by unfold jO at h;omega)
   refine aZ ?_
   simp only[c7]
   rw[u k l f1 f2,D]
   simp only[Bool.not_true,cond_false]
   rw[decide_eq_true (by omega),cond_true,D]
   simp only[Out.elim]
   rw[r,D,Fk,D,(Bo X Y p (by omega)).1]
   rfl
  ·rw[rX T C]at he
   obtain⟨g,a,b,c,d⟩:=Jx T z (B:=B) C rows (by omega) he
   exact⟨g,a,b,c,by omega⟩
 |succ n E=>
  intro X p Y rows C hl hr
  by_cases j:rl m p Y=cn
  ·have he:=rX T C
   rw[j]at he
   refine⟨0,rj X p Y,uc he _,λf=>absurd he f,λ_=>?_⟩
   obtain⟨g,a,b,c,d⟩:=Jx T z (B:=B) C rows (by omega) j
   exact⟨g,a,b,c,by omega⟩
  ·have o:=ru m X p Y
   have h:=qt (m:=m) (s:=s)
   obtain⟨k,l,f1,f2⟩:=yB T C j
   obtain⟨_,u⟩:=wc T C (by omega) (by unfold jO at h;omega)
   have F:=Pm (rl m p Y) X Y
   have v:=Hm T X Y p (Iz T j)
   have w:=(Bo (yY (rl m p Y) X) (za (rl m p Y) X Y) (rl m p Y).Next (by omega)).2
   have x:(Wn m X p Y).length<=400:=by unfold Wn;rw[ru];omega
   obtain⟨t,i,g1,g2,g3⟩:=E (yY (rl m p Y) X) (rl m p Y).Next (za (rl m p Y) X Y) (rows++[[(k:Int),((X.length+1-pL m (bN m s)[k]:Nat):Int)]]) (C.next T j) (by omega) (by rw[List.length_append,List.length_singleton];omega)
   have y:mg m (n+1) (rj X p Y)=some (t+1,i):=by
    rw[vL,rX T C,if_neg j,v,if_pos w,g1]
    rfl
   have A:c7 B (cc m s,((bN m s).length:Int),0) (⟨m.I,m.I+m.N⟩,fU m,0) (bN m s) (Wd m X p Y,rows,(rows.length:Int))=some (.inl (Wn m X p Y,rows++[[(k:Int),((X.length+1-pL m (bN m s)[k]:Nat):Int)]],((rows++[[(k:Int),((X.length+1-pL m (bN m s)[k]:Nat):Int)]]).length:Int))):=by
    simp only[c7]
    rw[u k l f1 f2,D]
    simp only[Bool.not_true,cond_false]
    rw[decide_eq_false (by omega),cond_false,D]
    simp only[Out.elim]
    rw[decide_eq_false (by omega),cond_false,de (by simp;omega),D,dh (by omega),List.length_append,List.length_singleton]
   refine⟨t+1,i,y,λf=>?_,λhe=>?_⟩
   ·rw[bZ A]
    exact g2 f
   ·obtain⟨g,a,b,c,d⟩:=g3 he
    refine⟨[(k:Int),((X.length+1-pL m (bN m s)[k]:Nat):Int)]::g,?_,?_,?_,by rw[List.length_cons];omega⟩
    ·rw[bZ A]
     have G:run (c7 B (cc m s,((bN m s).length:Int),0) (⟨m.I,m.I+m.N⟩,fU m,0) (bN m s)) (Wn m X p Y,rows++[[(k:Int),((X.length+1-pL m (bN m s)[k]:Nat):Int)]],((rows++[[(k:Int),((X.length+1-pL m (bN m s)[k]:Nat):Int)]]).length:Int))=_:=a
     rw[G,List.append_assoc]
     rfl
    ·rw[Nq T C l f1 x]
     exact b
    ·have e:([(k:Int),((X.length+1-pL m (bN m s)[k]:Nat):Int)]:List Int).getD 0 0=(k:Int):=rfl
     unfold zg at c ⊢
     rw[List.countP_cons,c,e,decide_eq_true (by omega)]
     rfl
theorem zw (hl:m.aB.length<=4): (cc m 2).length<=60:=by
 have a:=mG (va m 2) (n:=6) (List.range m.aB.length) (λi _=>by have:=yP m 2 i;omega)
 have b:=mG (λi=>cond (sf m i) (lH m i) []) (n:=2) (List.range m.aB.length) (λi _=>by
  cases sf m i
  ·exact Nat.zero_le _
  ·exact zX m i)
 have c:=uv m 2
 rw[List.length_range]at a b
 rw[rV,List.length_append,List.length_append,c]
 unfold bN jo
 omega
end
theorem D3 {m:O}{q:Nat}(T:iR m 2 q){X Y:List Int}{p:Int}(C:tU m X p Y)(w:(Wd m X p Y).length<=1000): ∃r,fg ⟨m.I,m.I+m.N⟩ (Wd m X p Y)=some (r,true):=by
 have hl:=ru m X p Y
 have hs:=T.hs;have hq:=T.hq;have b2:=T.b2;have b3:=T.b3
 have n:=C.J;have o:=C.p1
 have i0:idx (Wd m X p Y) 0=some (m.I+m.N):=rfl
 have e1:ah (((Wd m X p Y).length:Int)-1)=((X.length+Y.length+2:Nat):Int):=by rw[bC (by omega) (by omega),hl];omega
 have a:Wd m X p Y=((m.I+m.N)::(X++((m.I+p)::Y)))++[m.I+m.N]:=by simp[Wd]
 have b:((m.I+m.N)::(X++((m.I+p)::Y))).length=X.length+Y.length+2:=by simp;omega
 have i1:idx (Wd m X p Y) ((X.length+Y.length+2:Nat):Int)=some (m.I+m.N):=by
  unfold idx
  rw[if_neg (by omega),Int.toNat_natCast,a,List.getElem?_append_right (by omega),b,Nat.sub_self]
  rfl
 have e:jV (Wd m X p Y) 1 ((X.length+Y.length+2:Nat):Int)=some (X++((m.I+p)::Y)):=by
  unfold jV
  rw[if_pos (by omega),Int.toNat_natCast,a,List.take_left' b]
  rfl
 have s:∀x∈X,¬m.I<=x:=λx f=>by have:=C.sx x f;omega
 have g:(X++((m.I+p)::Y)).findIdx? (λx=>decide (m.I<=x))=some X.length:=by
  rw[List.findIdx?_append,List.findIdx?_eq_none_iff.2 (λx f=>decide_eq_false (s x f))]
  simp[List.findIdx?_cons,decide_eq_true (show m.I<=m.I+p by omega)]
 have i:idx (X++((m.I+p)::Y)) (X.length:Int)=some (m.I+p):=by
  unfold idx
  rw[if_neg (by omega),Int.toNat_natCast,List.getElem?_append_right (Nat.le_refl _),Nat.sub_self]
  rfl
 have t:(X++((m.I+p)::Y)).length=X.length+Y.length+1:=by simp;omega
 have j:jV (X++((m.I+p)::Y)) ((X.length+1:Nat):Int) ((X++((m.I+p)::Y)).length:Int)=some Y:=by
  unfold jV
  rw[if_pos (by omega),Int.toNat_natCast,Int.toNat_natCast,List.take_length,List.drop_append]
  simp
 have k:jV (X++((m.I+p)::Y)) 0 (X.length:Int)=some X:=by
  unfold jV
  rw[if_pos (by omega),Int.toNat_natCast,List.take_left]
  rfl
 have c:(Y.all λx=>mJ x 0 (ah (m.I-1)))=true:=List.all_eq_true.2 λy u=>by
  have:=C.sy y u
  rw[bC (by omega) (by omega)]
  exact ei.2 (by omega)
 have l:∀x:Int,ig x ⟨m.I,m.I+m.N⟩=some (decide (m.I<=x)):=λ_=>rfl
 have d:=yj (X++((m.I+p)::Y)) (λv=>ig v ⟨m.I,m.I+m.N⟩) (λx=>decide (m.I<=x)) l (by omega)
 rw[g]at d
 unfold fg
 simp only
 rw[e1,decide_eq_false (by omega),cond_false,i0,D,decide_eq_false (λh=>h rfl:¬(m.I+m.N≠m.I+m.N)),cond_false,i1,D,decide_eq_false (λh=>h rfl:¬(m.I+m.N≠m.I+m.N)),cond_false,D]
 simp only[Out.elim]
 rw[e,D,d]
 simp only
 rw[D,decide_eq_false (by omega),cond_false,i,D,decide_eq_false (by omega),cond_false,dh (by omega),j,D,oZ _ _ _ (by omega),D,c,Bool.not_true,cond_false,D]
 simp only[Out.elim,k,D]
 rw[fB _ (by omega),D,qA _ (by omega),D,jB _ (by simp;omega),D,jB _ (by omega),D]
 exact⟨_,rfl⟩
theorem Dx (c:U): ∃r,lq c=some r:=by
 unfold lq
 cases decide ((c.Left.length:Int)<=200)
 ·exact⟨_,rfl⟩
 ·exact⟨_,rfl⟩
theorem N5 {m:O}{q:Nat}(T:iR m 2 q)(G:(bN m 2).length<=1000)(B:Int): ∀(k j:Nat) (X:List Int) (p:Int) (Y:List Int),tU m X p Y->(Wd m X p Y).length<=400->((j+k:Nat):Int)=B->j+k<=1000000->
  ∃c n h code,run (ct B (⟨m.I,m.I+m.N⟩,bN m 2,0)) (Wd m X p Y,(j:Int))=some (.ret (some (c,n,h,code)))/\
   (code=0->h=true->∀K t g,mg m K (rj X p Y)=some (t,g)->ax m g=cn->n=((j+t:Nat):Int)):=by
 intro k
 induction k with
 |zero=>
  intro j X p Y C A H E
  obtain⟨s,hs⟩:=D3 T C (by omega)
  obtain⟨b,o⟩:=Dx s
  obtain⟨F,r⟩:=wc T C A G
  by_cases e:rl m p Y=cn
  ·have hr:ax m (rj X p Y)=cn:=by rw[rX T C];exact e
   have key:ct B (⟨m.I,m.I+m.N⟩,bN m 2,0) (Wd m X p Y,(j:Int))=some (.inr (.ret (cond (!b) (some ((⟨0,([]:(List Int)),([]:(List Int))⟩:U),0,false,5)) (some (s,(j:Int),true,0))))):=by
    simp only[ct]
    rw[F e,D]
    rw[Bool.not_false,cond_true,hs,D]
    simp only[Out.elim,D,Bool.not_true,cond_false,o]
   cases b
   ·exact⟨_,_,_,_,aZ key,λh=>absurd h (by decide)⟩
   ·refine⟨_,_,_,_,aZ key,λ_ _ K t g a d=>?_⟩
    rw[uc hr]at a
    simp only[Option.some.injEq,Prod.mk.injEq]at a
    rw[<- a.1,Nat.add_zero]
  ·obtain⟨u,v,w,z⟩:=yB T C e
   have key:ct B (⟨m.I,m.I+m.N⟩,bN m 2,0) (Wd m X p Y,(j:Int))=some (.inr (.ret (cond (!b) (some ((⟨0,([]:(List Int)),([]:(List Int))⟩:U),0,false,5)) (some (s,(j:Int),false,0))))):=by
    simp only[ct]
    rw[r u v w z,D]
    rw[Bool.not_true,cond_false,decide_eq_true (by omega:(j:Int)=B),cond_true,hs,D]
    simp only[Out.elim,D,Bool.not_true,cond_false,o]
   cases b
   ·exact⟨_,_,_,_,aZ key,λh=>absurd h (by decide)⟩
   ·exact⟨_,_,_,_,aZ key,λ_ h=>by cases h⟩
 |succ k J=>
  intro j X p Y C A H E
  obtain⟨s,hs⟩:=D3 T C (by omega)
  obtain⟨b,o⟩:=Dx s
  obtain⟨F,r⟩:=wc T C A G
  by_cases e:rl m p Y=cn
  ·have hr:ax m (rj X p Y)=cn:=by rw[rX T C];exact e
   have key:ct B (⟨m.I,m.I+m.N⟩,bN m 2,0) (Wd m X p Y,(j:Int))=some (.inr (.ret (cond (!b) (some ((⟨0,([]:(List Int)),([]:(List Int))⟩:U),0,false,5)) (some (s,(j:Int),true,0))))):=by
    simp only[ct]
    rw[F e,D]
    rw[Bool.not_false,cond_true,hs,D]
    simp only[Out.elim,D,Bool.not_true,cond_false,o]
   cases b
   ·exact⟨_,_,_,_,aZ key,λh=>absurd h (by decide)⟩
   ·refine⟨_,_,_,_,aZ key,λ_ _ K t g a d=>?_⟩
    rw[uc hr]at a
    simp only[Option.some.injEq,Prod.mk.injEq]at a
    rw[<- a.1,Nat.add_zero]
  ·obtain⟨u,v,w,z⟩:=yB T C e
   have i:ax m (rj X p Y)≠cn:=by rw[rX T C];exact e
   by_cases l:(Wn m X p Y).length<=400
   ·obtain⟨c,n,h,code,g1,g2⟩:=J (j+1) (yY (rl m p Y) X) (rl m p Y).Next (za (rl m p Y) X Y) (C.next T e) l (by omega) (by omega)
    have key:ct B (⟨m.I,m.I+m.N⟩,bN m 2,0) (Wd m X p Y,(j:Int))=some (.inl (Wn m X p Y,((j+1:Nat):Int))):=by
     simp only[ct]
     rw[r u v w z,D]
     simp only
     rw[Bool.not_true,cond_false,decide_eq_false (by omega:¬(j:Int)=B),cond_false,D]
     simp only[Out.elim]
     rw[decide_eq_false (by omega),cond_false,dh (by omega)]
     rfl
    refine⟨c,n,h,code,(bZ key).trans g1,λL M K t g a d=>?_⟩
    cases K with
    |zero=>
     simp only[mg,Option.some.injEq,Prod.mk.injEq]at a
     rw[<- a.2]at d
     exact absurd d i
    |succ K=>
     rw[vL,if_neg i]at a
     split at a
     ·rw[rX T C,Hm T X Y p (Iz T e)]at a
      cases f:mg m K (rj (yY (rl m p Y) X) (rl m p Y).Next (za (rl m p Y) X Y))with
      |none=>rw[f]at a;cases a
      |some y=>
       rw[f]at a
       simp only[Option.map_some,Option.some.injEq,Prod.mk.injEq]at a
       have:=g2 L M K y.1 y.2 f (by rw[a.2];exact d)
       rw[this]
       congr 1
       omega
     ·cases a
   ·refine⟨_,_,_,_,aZ (x:=Out.ret (some ((⟨0,([]:(List Int)),([]:(List Int))⟩:U),0,false,5))) ?_,λh=>absurd h (by decide)⟩
    simp only[ct]
    rw[r u v w z,D]
    simp only
    rw[Bool.not_true,cond_false,decide_eq_false (by omega:¬(j:Int)=B),cond_false,D]
    simp only[Out.elim]
    rw[decide_eq_true (by omega),cond_true]
theorem CT {m:O}{q N:Nat}(M:jI m 2 q){c:U}(C:A1 2 q N c)(br:Bits c.ak): rI m c.State.toNat (cX c.ak)=ax m c/\c.State.toNat<q/\((c.State.toNat:Nat):Int)=c.State:=by
 obtain⟨p,a,b⟩:=C.st
 have h:=(yt br).1
 have b4:=M.b4
 have hs:=M.hs
 have d:=br.getD 0
 refine⟨?_,by omega,by omega⟩
 unfold rI ax
 have e1:ah ((p:Int)*((2:Nat):Int))=((2*p:Nat):Int):=by rw[bC (by omega) (by omega)];omega
 have e2:ah (((2*p:Nat):Int)+((cX c.ak%2:Nat):Int))=((2*p+cX c.ak%2:Nat):Int):=by rw[bC (by omega) (by omega)];omega
 rw[<- h,hs,a,e1,e2,Int.toNat_natCast,Int.toNat_natCast]
theorem MM {m:O}{q:Nat}{z:ab}{pl:List Int}(P:OV m q z pl)(M:jI m 2 q): ∀(k:Nat) (c:U) (b t:Nat) (l:U),Eg q b c->1<=b->b+k<=18->mg m k c=some (t,l)->ax m l=cn->
  ∃u,fy z.ins (sV m k c) (pl.getD c.State.toNat 0,fv (cX c.Left) (cX c.ak) 0)=some u/\u.1=(z.L.length:Int):=by
 have halt:∀(c:U) (b:Nat),Eg q b c->ax m c=cn->∃u,fy z.ins (nk (gO (ax m c)) (cX c.Left) (cX c.ak)) (pl.getD c.State.toNat 0,fv (cX c.Left) (cX c.ak) 0)=some u/\u.1=(z.L.length:Int):=by
  intro c b S f
  obtain⟨e,n,_⟩:=CT M S.cf.cf S.br
  obtain⟨x,h,hm⟩:=P.sec c.State.toNat n (cX c.Left) (cX c.ak)
  rw[e]at h hm
  have i:gO (ax m c)=.no:=by unfold gO;rw[if_pos f]
  rw[i]at hm
  exact⟨x,h,hm⟩
 intro k
 induction k with
 |zero=>
  intro c b t l S _ _ d hr
  simp only[mg,Option.some.injEq,Prod.mk.injEq]at d
  obtain⟨_,rfl⟩:=d
  exact halt c b S hr
 |succ k v=>
  intro c b t l S A C d hr
  by_cases f:ax m c=cn
  ·simp only[sV,if_pos f,Nat.add_zero]
   exact halt c b S f
  ·obtain⟨B,o⟩:=S.step M f A (by omega)
   rw[vL,if_neg f,if_pos o]at d
   cases g:mg m k (bI (ax m c) c)with
   |none=>rw[g]at d;cases d
   |some y=>
    rw[g]at d
    simp only[Option.map_some,Option.some.injEq,Prod.mk.injEq]at d
    obtain⟨u,hu,p⟩:=v (bI (ax m c) c) (b+1) y.1 y.2 B (by omega) (by omega) g (by rw[d.2];exact hr)
    obtain⟨e,n,_⟩:=CT M S.cf.cf S.br
    obtain⟨x,h,hm⟩:=P.sec c.State.toNat n (cX c.Left) (cX c.ak)
    rw[e]at h hm
    obtain⟨_,_,j,a⟩:=Bn M S.cf.cf S.bl S.br f
    have r:x=(pl.getD (bI (ax m c) c).State.toNat 0,fv (cX (bI (ax m c) c).Left) (cX (bI (ax m c) c).ak) 0):=by
     cases i:gO (ax m c)with
     |no=>rw[i]at a;exact a.elim
     |right w nx=>
      rw[i]at a hm
      obtain⟨s,a2,a3,_⟩:=a
      rw[hm.1,j,s,a2,<- a3,Int.toNat_natCast]
     |left w nx=>
      rw[i]at a hm
      obtain⟨s,a2,a3,_⟩:=a
      rw[hm.1,j,s,a2,<- a3,Int.toNat_natCast]
    rw[<- r]at hu
    refine⟨u,?_,p⟩
    simp only[sV,if_neg f]
    exact jz h hu
theorem Bv {n:Nat}(a:1<=n)(b:n<=20000): ie (n:Int)=some true:=by
 unfold ie
 rw[rh,D]
 congr 1
 exact ei.2 (by omega)
theorem Gy {m:O}{q:Nat}(hm:kG m=true)(M:jI m 2 q)(d:q<=2){c:U}(s:iM m c=true)(S:Eg q 5 c):
  ∃c1 n h code,lC m c 2000=some (c1,n,h,code)/\(code=0->h=true->∀k t b,k<=13->mg m k c=some (t,b)->ax m b=cn->n=(sV m k c:Nat)):=by
 obtain⟨z,pl,x,P⟩:=Ju M d
 obtain⟨e,v,y⟩:=CT M S.cf.cf S.br
 have hl:=vU S.bl 5 S.ll
 have hr:=vU S.br 5 S.lr
 have A:(2:Nat)^5=32:=rfl
 have hs:m.I=2:=M.hs
 have f:idx pl c.State=some (pl.getD c.State.toNat 0):=by
  unfold idx
  rw[if_neg (by omega),List.getD_eq_getElem?_getD,List.getElem?_eq_getElem (by rw[P.len];exact v)]
  rfl
 have g:mU m pl c=some (⟨pl.getD c.State.toNat 0,((List.replicate 24 (0:Int)).set 0 (cX c.Left:Int)).set 1 (cX c.ak:Int)⟩,0):=by
  unfold mU
  rw[hs,uo S.bl (by have:=S.ll;omega),D,uo S.br (by have:=S.lr;omega),D]
  simp only
  rw[decide_eq_false (λh=>h rfl:¬((0:Int)≠0)),cond_false,cond_false,D]
  simp only[Out.elim]
  rw[f,D]
  rfl
 have a:GB (fv (cX c.Left) (cX c.ak) 0) (((List.replicate 24 (0:Int)).set 0 (cX c.Left:Int)).set 1 (cX c.ak:Int)):=by
  refine⟨by simp,λi hi=>?_⟩
  by_cases j:i=0
  ·subst j
   exact⟨rfl,by show(0:Int)<=(cX c.Left:Int);omega,by show(cX c.Left:Int)<=_;omega⟩
  ·by_cases B:i=1
   ·subst B
    exact⟨rfl,by show(0:Int)<=(cX c.ak:Int);omega,by show(cX c.ak:Int)<=_;omega⟩
   ·have C:fv (cX c.Left) (cX c.ak) 0 (i:Int)=0:=by
     unfold fv
     rw[if_neg (by omega),if_neg (by omega)]
     split<;>rfl
    rw[C,List.getElem?_set_ne (by omega),List.getElem?_set_ne (by omega),List.getElem?_replicate,if_pos hi]
    exact⟨rfl,by omega,by omega⟩
 obtain⟨c1,n,h,code,g1,g2⟩:=KE P hs (by have:=M.b3;omega) 2000 2000 0 (pl.getD c.State.toNat 0,fv (cX c.Left) (cX c.ak) 0) _ 0 0 [] [] a rfl (by omega) (λt _=>Jy P t _ _ _ v)
 refine⟨c1,n,h,code,?_,λj E k t b G F l=>?_⟩
 ·unfold lC
  rw[kE m c (kT hm) (lO s),D,hm,s,Bool.and_self,Bool.not_true,cond_false,show(2000:Int)=((2000:Nat):Int)from rfl,Bv (by omega) (by omega),D,Bool.not_true,cond_false,x,D]
  simp only
  rw[decide_eq_false (λh=>h rfl:¬((0:Int)≠0)),cond_false,g,D]
  simp only
  rw[decide_eq_false (λh=>h rfl:¬((0:Int)≠0)),cond_false]
  have o:run (eN m ((2000:Nat):Int) (z.fin,pl,0)) (pl.getD c.State.toNat 0,((List.replicate 24 (0:Int)).set 0 (cX c.Left:Int)).set 1 (cX c.ak:Int),0,0,[],[],0)=some (.ret (some (c1,n,h,code))):=g1
  rw[o,D]
  rfl
 ·rcases g2 with g2|⟨H,u,w,a2,a3⟩
  ·exact absurd j g2
  ·obtain⟨J,hu,p⟩:=MM P M k c 5 t b S (by omega) (by omega) F l
   have r:u.1=(z.L.length:Int):=by
    rw[E]at a3
    exact of_decide_eq_true a3.symm
   have b1:=I1 hu p w
   have b2:=I1 w r hu
   rw[a2]
   congr 1
   omega
theorem FJ {m:O}{q:Nat}(M:jI m 2 q)(a:q<=2): iR m 2 q:=⟨M.hs,M.hq,M.b1,M.b3,by omega,M.hl,M.hr⟩
theorem H5 {m:O}{q:Nat}(M:jI m 2 q){c:U}(d:iM m c=true): tU m c.Left.reverse c.State c.ak/\ld m c=Wd m c.Left.reverse c.State c.ak/\rj c.Left.reverse c.State c.ak=c:=by
 have hs:=M.hs;have hq:=M.hq;have b4:=M.b4
 obtain⟨i,j,c1,c2⟩:=pX d
 have a:=d
 unfold iM at a
 simp only[Bool.and_eq_true]at a
 have e:=Tm.BY a.2.1
 have b:=Tm.BY a.2.2
 unfold rH at a
 simp only[Bool.and_eq_true,List.all_eq_true]at a
 have sy:∀xs:List Int,(∀x∈xs,mJ x 0 (m.I-1)=true)->sym m xs:=λxs h x f=>by have:=ei.1 (h x f);omega
 refine⟨⟨λy g=>sy c.Left a.2.1.1.2 y (List.mem_reverse.1 g),sy c.ak a.2.2.1.2,c1,by omega⟩,?_,?_⟩
 ·unfold ld Wd
  rw[bC (by omega) (by omega)]
  simp
 ·unfold rj
  rw[List.reverse_reverse,e,b]
theorem HJ {m:O}{q:Nat}(hm:kG m=true)(M:jI m 2 q)(l:q<=2){c:U}(o:iM m c=true)(hl:c.Left.length<=100/\c.ak.length<=100):
  ∃c1 n h code,iv m c 2000=some (c1,n,h,code)/\(code=0->h=true->∀k t j,mg m k c=some (t,j)->ax m j=cn->n=(t:Int)):=by
 obtain⟨C,z,p⟩:=H5 M o
 have T:=FJ M l
 have hs:=M.hs;have hq:=M.hq;have A:=M.hl
 have B:m.I=2:=hs
 have E:ah (m.I+m.N)=m.I+m.N:=(Fp hm).1
 have s:kR m=some (⟨m.I,m.I+m.N⟩,0):=by
  unfold kR
  rw[E,decide_eq_false (by omega),cond_false]
 have f:=G2 m hs hq (by omega) (by omega) (by omega)
 have P:(bN m 2).length<=60:=by
  have F:(cc m 2).length<=60:=zw (by omega)
  rw[rV,List.length_append]at F
  omega
 have g:∃b,dM ((bN m 2).length:Int) 1 60=some b:=by
  unfold dM
  cases decide ((1:Int)<=((bN m 2).length:Int))
  ·exact⟨_,rfl⟩
  ·exact⟨_,rfl⟩
 obtain⟨b,G⟩:=g
 have u:jf m=some (cond (!b) (⟨0,0⟩,[],5) (⟨m.I,m.I+m.N⟩,bN m 2,0)):=by
  unfold jf
  rw[s,D]
  simp only
  rw[decide_eq_false (λh=>h rfl:¬((0:Int)≠0)),cond_false,f,D]
  show Z (some ((bN m 2).length:Int)) _=_
  rw[D,G,D]
  cases b<;>rfl
 have v:eG ⟨m.I,m.I+m.N⟩ c=some (ld m c):=by
  unfold eG
  rw[fB _ (by omega)]
  simp only[D]
  rw[sU _ (by simp) (by simp;omega),D]
  have e:([[m.I+m.N],c.Left.reverse,[ah (m.I+c.State)],c.ak,[m.I+m.N]]:List (List Int)).flatten=ld m c:=by simp[ld]
  rw[e]
 have w:(Wd m c.Left.reverse c.State c.ak).length<=400:=by rw[ru,List.length_reverse];omega
 have i:jN (ld m c)=some (ld m c,0):=by
  unfold jN
  rw[z,decide_eq_false (by omega),cond_false]
 have top:iv m c 2000=(Z (jf m) λa=>(cond (decide (a.2.2≠0)) (some ((⟨0,([]:(List Int)),([]:(List Int))⟩:U),0,false,a.2.2)) (Z (eG a.1 c) λx=>Z (jN x) λd=>(cond (decide (d.2≠0)) (some ((⟨0,([]:(List Int)),([]:(List Int))⟩:U),0,false,d.2)) (Z (run (ct 2000 a) (d.1,0)) (Out.elim (λ(H:(List Int)×Int)=>none) (λ(r:Option (U×Int×Bool×Int))=>r))))))):=by
  unfold iv
  rw[kE m c (kT hm) (lO o),D,hm,o,Bool.and_self,Bool.not_true,cond_false,show(2000:Int)=((2000:Nat):Int)from rfl,Bv (by omega) (by omega),D,Bool.not_true,cond_false]
 rw[top,u,D]
 cases b
 ·rw[Bool.not_false,cond_true]
  exact⟨_,_,_,_,rfl,λh=>absurd h (by decide)⟩
 ·rw[Bool.not_true,cond_false]
  simp only
  rw[decide_eq_false (λh=>h rfl:¬((0:Int)≠0)),cond_false,v,D,i,D]
  simp only
  rw[decide_eq_false (λh=>h rfl:¬((0:Int)≠0)),cond_false,z]
  obtain⟨c1,n,h,code,g1,g2⟩:=N5 T (by omega) 2000 2000 0 c.Left.reverse c.State c.ak C w rfl (by omega)
  have y:run (ct 2000 (⟨m.I,m.I+m.N⟩,bN m 2,0)) (Wd m c.Left.reverse c.State c.ak,0)=some (.ret (some (c1,n,h,code))):=g1
  rw[y,D]
  refine⟨c1,n,h,code,rfl,λJ K k t j L hr=>?_⟩
  rw[p]at g2
  have:=g2 J K k t j L hr
  rw[this,Nat.zero_add]
def yz (n:Int)(h:Bool)(code:Int): Int:=if code≠0 then -1 else cond h n (-1)
theorem Ff (out:List Int)(e:out.length<=10)(n:Int)(h:Bool)(code i:Int){α:Type}:
  (cond (decide (code≠0)) (Z (app out ([(-1)]:List Int)) λb=>some (.inl (b,i))) (cond (!h) (Z (app out ([(-1)]:List Int)) λc=>some (.inl (c,i))) (Z (app out ([n]:List Int)) λd=>some (.inl (d,i)))):Option ((List Int×Int) ⊕ α))=some (.inl (out++[yz n h code],i)):=by
 unfold yz
 by_cases a:code≠0
 ·rw[decide_eq_true a,cond_true,de (by simp;omega),if_pos a]
  rfl
 ·rw[decide_eq_false a,cond_false,if_neg a]
  cases h
  ·rw[Bool.not_false,cond_true,de (by simp;omega)]
   rfl
  ·rw[Bool.not_true,cond_false,de (by simp;omega)]
   rfl
theorem JW {m:O}{q:Nat}(hm:kG m=true)(M:jI m 2 q)(o:q<=2){c:U}(s:iM m c=true)(S:Eg q 5 c):
  ∃r,pH m c 2000=some r/\(r.2=0\/r.2=5)/\(∀k t b,k<=13->mg m k c=some (t,b)->ax m b=cn->∃u a2,r=([(t:Int),u,a2,a2],0)/\(u=-1\/u=(sV m k c:Nat))/\(a2=-1\/a2=(t:Int))):=by
 have g:=Hi hm s (n:=2000) (by omega) (by omega)
 rw[show((2000:Nat):Int)=2000 from rfl]at g
 have halt:∀k t b,k<=13->mg m k c=some (t,b)->ax m b=cn->mg m 2000 c=some (t,b):=λk t b p i hr=>by
  rw[show 2000=k+(2000-k)by omega,I8,i]
  simp only[Option.bind_some]
  rw[uc hr]
  rfl
 unfold pH
 rw[g,D]
 cases j:mg m 2000 c with
 |none=>
  refine⟨([],5),rfl,.inr rfl,λk t b p i hr=>?_⟩
  rw[halt k t b p i hr]at j
  cases j
 |some y=>
  simp only
  rw[decide_eq_false (λh=>h rfl:¬((0:Int)≠0)),cond_false]
  obtain⟨c1,n1,e,d1,e1,f1⟩:=Gy hm M o s S
  obtain⟨c2,n2,d,d2,e2,f2⟩:=HJ hm M o s (by have:=S.ll;have:=S.lr;omega)
  have e3:lZ m c 2000=some (c2,n2,d,d2):=by
   unfold lZ
   rw[e2]
   rfl
  have f:((cond (!decide (ax m y.2=cn)) (some (.bf (-1))) (some (.bf (y.1:Int)))):Option (Out Int ((List Int)×Int)))=some (.bf (cond (decide (ax m y.2=cn)) (y.1:Int) (-1))):=by
   cases decide (ax m y.2=cn)<;>rfl
  have l:∀a:Int,run (fY m c 2000) (([a]:List Int),0)=some (.bf ([a,yz n1 e d1,yz n2 d d2,yz n2 d d2],3)):=by
   intro a
   have s1:fY m c 2000 ([a],0)=some (.inl ([a,yz n1 e d1],1)):=by
    simp only[fY]
    show cond true (Z (some (rG.mk 37)) _) _=_
    rw[cond_true,D]
    show cond true (Z (lC m c 2000) _) _=_
    rw[cond_true,e1,D]
    exact Ff [a] (by simp) n1 e d1 1
   have s2:fY m c 2000 ([a,yz n1 e d1],1)=some (.inl ([a,yz n1 e d1,yz n2 d d2],2)):=by
    simp only[fY]
    show cond true (Z (some (rG.mk 38)) _) _=_
    rw[cond_true,D]
    show cond false _ (cond true (Z (iv m c 2000) _) _)=_
    rw[cond_false,cond_true,e2,D]
    exact Ff [a,yz n1 e d1] (by simp) n2 d d2 2
   have v:fY m c 2000 ([a,yz n1 e d1,yz n2 d d2],2)=some (.inl ([a,yz n1 e d1,yz n2 d d2,yz n2 d d2],3)):=by
    simp only[fY]
    show cond true (Z (some (rG.mk 39)) _) _=_
    rw[cond_true,D]
    show cond false _ (cond false _ (cond true (Z (lZ m c 2000) _) _))=_
    rw[cond_false,cond_false,cond_true,e3,D]
    exact Ff [a,yz n1 e d1,yz n2 d d2] (by simp) n2 d d2 3
   exact(bZ s1).trans ((bZ s2).trans ((bZ v).trans (aZ rfl)))
  rw[f,D]
  simp only[Out.elim]
  rw[l,D]
  refine⟨_,rfl,.inl rfl,λk t b p i hr=>?_⟩
  have w:=(halt k t b p i hr).symm.trans j
  obtain rfl:=Option.some.inj w
  refine⟨_,_,by rw[decide_eq_true hr];rfl,?_,?_⟩
  ·unfold yz
   by_cases hd:d1≠0
   ·exact .inl (if_pos hd)
   ·rw[if_neg hd]
    cases e
    ·exact .inl rfl
    ·exact .inr (f1 (by omega) rfl k t b p i hr)
  ·unfold yz
   by_cases hd:d2≠0
   ·exact .inl (if_pos hd)
   ·rw[if_neg hd]
    cases d
    ·exact .inl rfl
    ·exact .inr (f2 (by omega) rfl k t b i hr)
theorem KA {m:O}{q:Nat}(hm:kG m=true)(M:jI m 2 q)(a:q<=2){c:U}(b:iM m c=true)(S:Eg q 5 c){t:Nat}{d:U}(e:mg m 8 c=some (t,d))(hr:ax m d=cn):
  rC m c 8=some (((sV m 8 c:Nat):Int),true,0):=by
 obtain⟨z,pl,f,P⟩:=Ju M a
 have h:=MB M (c.State,c.Left.reverse,c.ak.reverse) 8 8 0 c 0 5 0 t d S (by omega) (by omega) rfl (by omega) (by omega) e hr
 rw[Nat.zero_add]at h
 unfold rC o0
 rw[kE m c (kT hm) (lO b),D,hm,b,Bool.and_self,Bool.not_true,cond_false,show(8:Int)=((8:Nat):Int)from rfl,Bv (by omega) (by omega),D,Bool.not_true,cond_false,D,decide_eq_false (λh=>h rfl:¬((0:Int)≠0)),cond_false,f,D]
 simp only
 rw[decide_eq_false (λh=>h rfl:¬((0:Int)≠0)),cond_false,n9 b,D]
 show Z (run (jS 8 (m.I,m.N,m.aB,c.State,c.Left.reverse,c.ak.reverse)) (((0:Nat):Int),false,c.State,c.Left.reverse,c.ak.reverse,0,((0:Nat):Int))) _=_
 rw[h,D]
 rfl
section
variable {m:O}{s q:Nat}{rs:List V}{f t:List Int}{ss:List (List Int)}
theorem Gu (hm:kG m=true){c:U}(b:iM m c=true)(hs:m.I=s)(hq:m.N=q)(b1:2<=s)(b2:s<=6)(hl:m.aB.length<=6000)(j:¬5<m.I+m.N+1)(k:(cc m s).length<=60)(g:(ld m c).length<=400)(l:ua (cc m s)=true)(o:qf (ld m c)=true)(p:ss.length<=100)(hd:ox (cc m s) ss (ld m c)=(xf m,0)):
  je m c ss=some ((zg ((bN m s).length:Int) ss:Int),0):=by
 obtain⟨r,u,_⟩:=pX b
 have d:(xf m).length<=1048576:=by unfold xf;simp
 have a:=Hr (by rw[hd]:(ox (cc m s) ss (ld m c)).2=0)
 unfold je
 rw[kE m c (kT hm) (lO b),hm,b,D]
 simp only[Bool.and_self,Bool.not_true,cond_false]
 rw[DU m c hm r u,EY m hm hs hq b1 b2 hl]
 unfold EF
 rw[decide_eq_false j,cond_false,cond_false,decide_eq_false (by omega),cond_false,decide_eq_false (by omega),cond_false,D]
 simp only
 rw[decide_eq_false (λh=>h rfl:¬((0:Int)≠0)),cond_false,D]
 simp only
 have e:Lr (cc m s) ss (ld m c)=(xf m,0):=by
  unfold Lr
  rw[decide_eq_false (by omega),cond_false,hd]
 rw[decide_eq_false (λh=>h rfl:¬((0:Int)≠0)),cond_false,Gs (cc m s) (ld m c) ss l o (by omega),D,e]
 simp only
 rw[decide_eq_false (λh=>h rfl:¬((0:Int)≠0)),cond_false,DV _ _ d,D,decide_eq_true rfl]
 simp only[Bool.not_true,cond_false]
 rw[Nv (body:=gW ss (cc m s,((bN m s).length:Int),0)) ((bN m s).length:Int) ss (by omega) (λn i hi=>by
   obtain⟨g1,_⟩:=IW (a _ (List.getElem_mem hi))
   simp only[gW,Int.ofNat_lt,hi,decide_true,cond_true,eh hi,D,g1]
   cases decide (ss[i].getD 0 0<((bN m s).length:Int))<;>rfl) (λn=>by simp[gW])]
 unfold P8
 rw[BG _ ss 0 (by omega) (by omega),D,Int.zero_add]
 rfl
end
section
variable {m:O}
theorem KW {s:dI}{n:Int}(h:qV s n)(l:n<=1000000000){p1 p2:Int}(b:2<=p1/\p1<=6)(g:1<=p2/\p2<=100): ∃m a d,lT s p1 p2=some (m,(a,d))/\kG m=true/\m.I=p1/\m.N=p2/\qV ⟨s.code,a,d⟩ (n+2400):=by
 have o:0<=p1*p2:=Int.mul_nonneg (by omega) (by omega)
 have p:p1*p2<=600:=by
  have g1:p1*p2<=6*p2:=Int.mul_le_mul_of_nonneg_right b.2 (by omega)
  omega
 obtain⟨rs,i,c,e,q,f,j⟩:=GA (J:=s) rfl b g (p1*p2).toNat s.at_ s.ra [] n h (by omega) (by omega) (by simp;omega) (λx k=>by simp at k)
 rw[show(((p1*p2).toNat:Nat):Int)=p1*p2 by omega]at e
 rw[List.nil_append]at e f
 unfold lT
 rw[bC (by omega) (by omega),e,D]
 refine⟨⟨p1,p2,rs⟩,i,c,rfl,?_,rfl,rfl,j.mono (by omega)⟩
 unfold kG
 have g1:mJ p1 2 6=true:=ei.2 b
 have g2:mJ p2 1 1000=true:=ei.2 (by omega)
 simp only
 rw[g1,g2,decide_eq_true (by omega),Bool.true_and,Bool.true_and]
 exact List.all_eq_true.2 f
theorem DW (g:List (Ik .u8)×Int×Ik .u64): ∀(k:Nat) (a:Int) (c:Ik .u64) (out:List Int) (n:Int),qV ⟨g.1,a,c⟩ n->n+k<=1000000->out.length+k<=100->Let 2 out->
  ∃ws i b,run (jl g) (a,c,out,(k:Int))=some (.bf (i,b,out++ws,0))/\ws.length=k/\Let 2 (out++ws)/\qV ⟨g.1,i,b⟩ (n+k):=by
 intro k
 induction k with
 |zero=>
  intro a c out n h _ _ hl
  refine⟨[],a,c,aZ ?_,rfl,by rwa[List.append_nil],by simpa using h⟩
  simp only[jl]
  rw[decide_eq_false (by omega),cond_false,List.append_nil]
  rfl
 |succ k l=>
  intro a c out n h q r hl
  obtain⟨v,j,d,e,v0,v1,o⟩:=qJ 2 h (by omega) (by omega)
  have p:jl g (a,c,out,((k+1:Nat):Int))=some (.inl (j,d,out++[v],(k:Int))):=by
   simp only[jl]
   rw[decide_eq_true (by omega),cond_true,e,D]
   simp only
   rw[de (by simp;omega),D,bC (by omega) (by omega),show((k+1:Nat):Int)-1=(k:Int)by omega]
  obtain⟨ws,i,b,g1,g2,g3,g4⟩:=l j d (out++[v]) (n+1) o (by omega) (by rw[List.length_append,List.length_singleton];omega) (λx f=>by
   rcases List.mem_append.1 f with f|f
   ·exact hl x f
   ·rw[List.mem_singleton]at f
    omega)
  refine⟨v::ws,i,b,?_,by rw[List.length_cons,g2],?_,g4.mono (by omega)⟩
  ·rw[bZ p,g1,List.append_assoc]
   rfl
  ·rw[List.append_assoc]at g3
   exact g3
theorem Kh (a:List (Ik .u8)×Int×Ik .u64): qS a=jl a:=rfl
theorem Gh {c:List (Ik .u8)}(h:Bytes c): ∃m x,qD c=some (m,x)/\kG m=true/\iM m x=true/\m.I=2/\m.N<=2/\x.Left.length+x.ak.length<=5:=by
 unfold qD uT
 rw[D]
 obtain⟨u,a0,p,e,E,F,q⟩:=qJ (s:=⟨c,0,⟨0⟩⟩) (n:=0) 2 ⟨h,by simp,by simp⟩ (by omega) (by omega)
 simp only at e ⊢
 rw[e,D]
 simp only
 have r:ah (1+u)=1+u:=bC (by omega) (by omega)
 obtain⟨m,G,t,e1,w,f,H,k1⟩:=KW q (by omega) (p1:=2) (p2:=1+u) (by omega) (by omega)
 simp only at e1 k1
 rw[r,e1,D]
 simp only
 obtain⟨v,a2,A,e2,v0,v1,g⟩:=qJ m.N k1 (by omega) (by omega)
 simp only at e2 g
 rw[e2,D]
 simp only
 obtain⟨y,a3,a,e3,J,K,k3⟩:=qJ 3 g (by omega) (by omega)
 simp only at e3 k3
 rw[e3,D]
 simp only
 obtain⟨ls,a4,B,i,L,j,k4⟩:=DW (c,0,⟨0⟩) y.toNat a3 a [] _ k3 (by omega) (by simp;omega) (λx b=>by cases b)
 rw[show((y.toNat:Nat):Int)=y by omega]at i
 rw[i,D]
 simp only[Out.elim,List.nil_append]at j ⊢
 obtain⟨z,a5,d,k,z0,M,k5⟩:=qJ 4 k4 (by omega) (by omega)
 simp only at k k5
 rw[k,D]
 simp only
 obtain⟨rs,P,C,l,r1,o,k6⟩:=DW (c,0,⟨0⟩) z.toNat a5 d [] _ k5 (by omega) (by simp;omega) (λx b=>by cases b)
 rw[show((z.toNat:Nat):Int)=z by omega]at l
 rw[Kh,l,D]
 simp only[Out.elim,List.nil_append]at o ⊢
 rw[E5 _ (by omega),D,E5 _ (by omega),D]
 have t1:=jm ls
 have t2:=jm rs
 refine⟨m,_,rfl,w,?_,f,by omega,by simp only;omega⟩
 unfold iM
 simp only
 rw[f,Eb _ ls rfl (by omega) j,Eb _ rs rfl (by omega) o,Bool.and_true,Bool.and_true]
 exact ei.2 (by omega)
end
theorem JB {m:O}{s q:Nat}(hm:kG m=true)(M:jI m s q){c:U}(f:iM m c=true): lV m c=some (if ax m c=cn then (⟨0,[],[]⟩,6)else if small (bI (ax m c) c)=true then (bI (ax m c) c,0)else (⟨0,[],[]⟩,5)):=by
 have a:=ln.of M f
 unfold lV
 rw[kE m c (kT hm) (lO f),D,hm,f,n9 f]
 simp only[D,Bool.and_self,Bool.not_true,cond_false]
 have i:bU ⟨m.I,m.N,m.aB,c.State,c.Left.reverse,c.ak.reverse⟩=some (decide (ax m c=cn)):=mc M a.cf (by omega)
 have hs:dk ⟨m.I,m.N,m.aB,c.State,c.Left.reverse,c.ak.reverse⟩=_:=wN M a.cf (by omega) a.lt a.rt
 rw[i,D,hs]
 by_cases b:ax m c=cn
 ·rw[decide_eq_true b,if_pos b]
  rfl
 ·rw[decide_eq_false b,if_neg b,cond_false,D]
  by_cases d:small (bI (ax m c) c)=true
  ·have e:=a.step M b d
   have g:cZ ⟨m.I,m.N,m.aB,(bI (ax m c) c).State,(bI (ax m c) c).Left.reverse,(bI (ax m c) c).ak.reverse⟩=some (bI (ax m c) c):=qY m _ (by have:=e.cf.ll;omega) (by have:=e.cf.rl;omega)
   rw[if_pos d]
   simp only[d,Bool.not_true,cond_false]
   rw[g,D]
  ·have h:small (bI (ax m c) c)=false:=by simpa using d
   rw[if_neg d]
   simp only[h,Bool.not_false,cond_true]
theorem Mm {m:O}{q:Nat}(M:jI m 2 q)(b:q<=2): ∀r∈m.aB,jK r:=λr hr=>by
 by_cases a:r=cn
 ·exact .inl a
 ·obtain⟨d,c,e⟩:=oW M hr a
  exact .inr ⟨by omega,c,by omega⟩
theorem KL {m:O}{q:Nat}(hm:kG m=true)(M:jI m 2 q)(i:q<=2): ∃t,il m=some t/\jg t=some (m,true):=by
 have h:eF m=some true:=by rw[EJ m (kT hm),hm]
 have hs:=M.hs;have hq:=M.hq;have hl:=M.hl;have b3:=M.b3
 have e:=Mm M i
 rcases(show q=1\/q=2 by omega)with rfl|rfl
 ·match hr:m.aB,hl,e with
  |[a,b],_,e=>
   have f:=e a (by simp);have g:=e b (by simp)
   exact⟨_,Hq h hs hr f g,Nj h hs hq hr f g⟩
 ·match hr:m.aB,hl,e with
  |[a,b,c,d],_,e=>
   have f:=e a (by simp);have g:=e b (by simp);have j:=e c (by simp);have hd:=e d (by simp)
   exact⟨_,Hg h hs hr f g j hd,Ni h hs hq hr f g j hd⟩
theorem JH {m:O}{q:Nat}(hm:kG m=true)(M:jI m 2 q)(j:q<=2){x:U}(f:iM m x=true)(K:x.Left.length+x.ak.length<=5){t:Nat}{u:U}(w:mg m 8 x=some (t,u))(y:ax m u=cn): ∃c,l9 m x 8=some (c,0)/\je m x c=some ((t:Int),0):=by
 have hs:=M.hs;have hq:=M.hq;have b1:=M.b1;have b3:=M.b3;have k:=M.hl;have hr:=M.hr
 have T:=FJ M j
 obtain⟨C,g,l⟩:=H5 M f
 have v:¬5<m.I+m.N+1:=by omega
 have e:(cc m 2).length<=60:=zw (by omega)
 have z:=IJ hs hq (by omega) b1 k hr e
 obtain⟨A,E,c1,c2⟩:=pX f
 have F:=J3 m x
 have G:=Iu hs hq (by omega) b1 f (by omega)
 obtain⟨L,H,g1,g2,g3⟩:=Oa T e (B:=8) (by omega) 8 x.Left.reverse x.State x.ak [] C (by rw[List.length_reverse];omega) rfl
 rw[l,w]at g1
 obtain⟨rfl,rfl⟩:=Prod.mk.inj (Option.some.inj g1)
 obtain⟨c,a,b,J,d⟩:=g3 y
 rw[List.nil_append]at a
 rw[List.length_reverse]at d
 have n:c.length<=100:=by omega
 have o:ox (cc m 2) c (ld m x)=(xf m,0):=by rw[g];exact b
 have i:=Gu hm f hs hq b1 M.b2 (by omega) v e (by omega) z G n o
 rw[J]at i
 refine⟨c,?_,i⟩
 have p:run (c7 8 (cc m 2,((bN m 2).length:Int),0) (⟨m.I,m.I+m.N⟩,m.I+m.N+1,0) (bN m 2)) (Wd m x.Left.reverse x.State x.ak,[],0)=some (.ret (some (c,0))):=a
 have r:jV (cc m 2) 0 ((bN m 2).length:Int)=some (bN m 2):=by
  rw[Ht (by rw[rV,List.length_append];omega),rV,List.take_left]
 have s:mJ (8:Int) 1 20000=true:=rfl
 unfold l9 o0 ie
 rw[kE m x (kT hm) (lO f),D,hm,f,rh,D,s]
 simp only[Bool.and_self,Bool.not_true,cond_false,D]
 rw[decide_eq_false (λh=>h rfl:¬((0:Int)≠0)),cond_false,EY m hm hs hq b1 M.b2 (by omega),DU m x hm A E,yp m hm]
 unfold EF
 rw[decide_eq_false v,decide_eq_false (by omega:¬60<(cc m 2).length),decide_eq_false (by omega:¬400<(ld m x).length)]
 simp only[cond_false,D]
 rw[decide_eq_false (λh=>h rfl:¬((0:Int)≠0))]
 simp only[cond_false]
 rw[r,D,g,p,D]
 rfl
theorem Me {m:O}{q:Nat}(M:jI m 2 q)(a:q<=2){x:U}(e:iM m x=true)(f:x.Left.length+x.ak.length<=5): ∃t b,mg m 8 x=some (t,b):=by
 obtain⟨C,_,c⟩:=H5 M e
 have d:(cc m 2).length<=60:=zw (by have:=M.hl;omega)
 obtain⟨t,b,g1,_,_⟩:=Oa (FJ M a) d (B:=8) (by omega) 8 x.Left.reverse x.State x.ak [] C (by rw[List.length_reverse];omega) rfl
 rw[c]at g1
 exact⟨t,b,g1⟩
theorem JM {m:O}: ∀(n:Nat) (c:U) (t:Nat) (a:U),mg m n c=some (t,a)->t<=sV m n c
 |0,c,t,a,h=>by
  obtain⟨rfl,_⟩:=Prod.mk.inj (Option.some.inj h)
  exact Nat.zero_le _
 |n+1,c,t,a,h=>by
  unfold mg at h
  split at h
  ·obtain⟨rfl,_⟩:=Prod.mk.inj (Option.some.inj h)
   exact Nat.zero_le _
  ·rename_i d
   split at h
   ·cases b:mg m n (bI (ax m c) c)with
    |none=>rw[b]at h;cases h
    |some r=>
     rw[b]at h
     obtain⟨rfl,_⟩:=Prod.mk.inj (Option.some.inj h)
     have:=JM n _ r.1 r.2 b
     unfold sV nk
     rw[if_neg d]
     omega
   ·cases h
theorem LO {l:List U}(g:1<=l.length)(h:l.length<=600){T:List ByteArray}(a:T.length<=600)(f:Nat->Nat)(f0:f 0=0)(b:∀i,i+1<l.length->f i<f (i+1))(d:∀i,i<l.length->T[f i]?=(l.map ctx)[i]?): ∃at_,fk (l.map ctx) T=some (at_,0)/\fX (l.map ctx) T at_=some true:=by
 have hl:(l.map ctx).length=l.length:=List.length_map _
 refine NC a (by omega) (by omega) (λx e=>?_) f f0 (λi hi=>b i (by omega)) (λi hi=>d i (by omega))
 obtain⟨c,_,rfl⟩:=List.mem_map.1 e
 exact MY c
theorem FZ (c:List (Ik .u8))(w0:Wf.wf c): qO c=some true:=by
 unfold qO vd
 rw[D]
 by_cases hl:1048576<c.length
 ·rw[decide_eq_true (by omega),cond_true]
 rw[decide_eq_false (by omega),cond_false]
 obtain⟨m,x,e1,hm,u,hS,hQ,hX⟩:=Gh (Mw w0 (by omega))
 rw[e1,D]
 obtain⟨s,q,M⟩:=tI hm
 obtain rfl:s=2:=by have:=M.hs;omega
 have d:q<=2:=by have:=M.hq;omega
 have b3:=M.b3
 have Q:=ln.of M u
 obtain⟨tx,U,V⟩:=KL hm M d
 have W:m.aB.length<=1000000:=by rw[M.hl];omega
 simp only
 rw[U,D,V,D]
 simp only[Bool.not_true,cond_false]
 rw[Kx m W,D]
 simp only[Bool.not_true,cond_false,D,Out.elim]
 have bits:∀xs:List Int,(∀j,0<=xs.getD j 0/\xs.getD j 0<((2:Nat):Int))->Bits xs:=λxs h y hy=>by
  obtain⟨j,hj⟩:=List.mem_iff_getElem?.1 hy
  have:=h j
  rw[List.getD_eq_getElem?_getD,hj,Option.getD_some]at this
  omega
 have S:Eg q 5 x:=⟨Q,bits _ Q.cf.lf,bits _ Q.cf.rt,by omega,by omega⟩
 obtain⟨t,R,A⟩:=Me M d u hX
 have H:=(Da M 8 x Q _ A).1
 have e:=Hi hm u (n:=8) (by omega) (by omega)
 rw[A,show((8:Nat):Int)=8 from rfl]at e
 simp only at e H
 obtain⟨rt,X,Y,aa⟩:=JW hm M d u S
 rw[e,D,X,D]
 simp only
 have z0:decide ((0:Int)≠0)=false:=rfl
 have B:(cond (decide ((0:Int)≠0)) (some (.ret false)) (cond (decide (rt.2≠0)) (cond (decide (rt.2≠5)) (some (.ret false)) (some (.bf ()))) (some (.bf ()))):Option (Out Unit Bool))=some (.bf ()):=by
  rw[z0,cond_false]
  rcases Y with h|h<;>rw[h]<;>rfl
 rw[B,D]
 simp only[Out.elim]
 have I:=FA m 8 x
 rw[A]at I
 obtain⟨l,v,ag,_,_⟩:=I
 have J:=Bq 8 x l v
 have K:=JK hm u (n:=8) (by omega)
 rw[v,show((8:Nat):Int)=8 from rfl]at K
 obtain⟨rf,L,ab⟩:=Ej hm hS u (n:=100) (by omega)
 rw[show((100:Nat):Int)=100 from rfl]at L
 obtain⟨rb,N,ac⟩:=Fi hm hS u (n:=8) (by omega)
 rw[show((8:Nat):Int)=8 from rfl]at N
 have last:(Z (ly m x 8) λa=>Z (nF m x 100) λg=>Z (lR m x 8) λo=>Z ((cond (decide (a.2≠0)) (some (.ret false)) (cond (decide ((a.1.length:Int)=0)) (some (.ret false)) (some (.bf ())))):Option (Out (Unit) Bool)) (Out.elim (λ(_:Unit)=>Z ((cond (decide (g.2=0)) (Z (fk a.1 g.1) λw=>(cond (decide (w.2≠0)) (some (.ret false)) (Z (fX a.1 g.1 w.1) λO=>(cond (!O) (some (.ret false)) (some (.bf ())))))) (some (.bf ()))):Option (Out (Unit) Bool)) (Out.elim (λ(_:Unit)=>(cond (decide (o.2≠0)) (some true) (Z (fk a.1 o.1) λb=>(cond (decide (b.2=0)) (Z (fX a.1 o.1 b.1) λp=>some p) (some false))))) (λ(r:Bool)=>some r))) (λ(r:Bool)=>some r)))=some true:=by
  rw[K,D,L,D,N,D]
  simp only
  rw[z0,cond_false,decide_eq_false (by rw[List.length_map];omega),cond_false,D]
  simp only[Out.elim]
  have z:(cond (decide (rb.2≠0)) (some true) (Z (fk (l.map ctx) rb.1) λb=>(cond (decide (b.2=0)) (Z (fX (l.map ctx) rb.1 b.1) λp=>some p) (some false))))=some true:=by
   rcases ac with h|⟨l',F,rfl⟩
   ·rw[decide_eq_true h,cond_true]
   ·rw[v]at F
    obtain rfl:=Option.some.inj F
    obtain⟨at_,g1,g2⟩:=LO (l:=l) J.1 (by omega) (T:=l.map ctx) (by rw[List.length_map];omega) (λi=>i) rfl (λi _=>by omega) (λi _=>rfl)
    rw[z0,cond_false,g1,D,decide_eq_true rfl,cond_true,g2,D]
  rcases ab with h|⟨F,h2,h3⟩
  ·rw[decide_eq_false h,cond_false,D]
   exact z
  ·obtain⟨f,f0,fm,fT⟩:=h3 8 l (by omega) v
   obtain⟨at_,g1,g2⟩:=LO (l:=l) J.1 (by omega) (T:=rf.1) (by omega) f f0 fm fT
   rw[decide_eq_true F,cond_true,g1,D,z0,cond_false,g2,D,Bool.not_true,cond_false,D]
   exact z
 by_cases G:ax m R=cn
 rotate_left
 ·rw[decide_eq_false G,cond_false,D]
  exact last
 rw[decide_eq_true G,cond_true]
 obtain⟨P,a2,rfl,F,h2⟩:=aa 8 t R (by omega) A G
 have C:=KA hm M d u S A G
 have ah:t<=sV m 8 x:=JM 8 x t R A
 obtain⟨ss,ad,ae⟩:=JH hm M d u hX A G
 have E:lV m R=some (⟨0,[],[]⟩,6):=by
  rw[JB hm M (H.IX M),if_pos G]
 have i0:idx [(t:Int),P,a2,a2] 0=some (t:Int):=rfl
 have i1:idx [(t:Int),P,a2,a2] 1=some P:=rfl
 have i2:idx [(t:Int),P,a2,a2] 2=some a2:=rfl
 have i3:idx [(t:Int),P,a2,a2] 3=some a2:=rfl
 simp only[i0,i1,i2,i3,z0,cond_false,D,List.length_cons,List.length_nil,C,ad,ae,E]
 have n1:decide (0<=(-1:Int))=false:=rfl
 have nn:∀k:Nat,decide (0<=(k:Int))=true:=λk=>decide_eq_true (by omega)
 have same:∀k:Int,decide (k≠k)=false:=λk=>decide_eq_false (λh=>h rfl)
 have l4:decide (((0+1+1+1+1:Nat):Int)≠4)=false:=rfl
 have z1:decide ((0:Int)=0)=true:=rfl
 have af:decide (((sV m 8 x:Nat):Int)<(t:Int))=false:=decide_eq_false (by omega)
 rcases F with rfl|rfl<;>rcases h2 with rfl|rfl <;>
  (simp only[n1,nn,same,l4,z1,af,cond_false,cond_true,D,Out.elim,Bool.not_true];exact last)
end Go.Fn
