/-
  What each function of the program computes, as a plain Lean function: printed by program off the translation. No condition.
-/
import Derived.Test.YtapnabgdcndleaaGreatDoorAsmF
namespace Go.Fn
open Go Go.Tc
set_option linter.unusedVariables false
noncomputable def vd (J:(List (Ik .u8))): Option (Bool):=
 some (decide (1048576<(J.length:Int)))
noncomputable def uT (J:(List (Ik .u8))): Option (((List (Ik .u8))×Int×(Ik .u64))):=
 some (J,0,(⟨0⟩:Ik .u64))
noncomputable def kB (J:dI): Option ((Int)×(Int×(Ik .u64))):=
 Z ((cond (decide (J.at_<(J.code.length:Int))) (Z (idx J.code J.at_) λa=>some (.bf (ah a.val))) (some (.bf 0))):Option (Out (Int) ((Int)×(Int×(Ik .u64))))) (Out.elim (λ(s1:Int)=>(cond (decide ((ah (J.at_+1))<=(J.code.length:Int))) (some (s1,((ah (J.at_+1)),(⟨(wk .u64 ((wk .u64 ((wk .u64 (J.ra.val*6364136223846793005))+(wk .u64 s1)))+1442695040888963407))⟩:Ik .u64)))) (some ((ah (wx .u64 (Int.fdiv (wk .u64 ((wk .u64 ((wk .u64 (J.ra.val*6364136223846793005))+(wk .u64 s1)))+1442695040888963407)) (2^min (40:Int).toNat (IntKind.bits .u64))) 255)),((ah (J.at_+1)),(⟨(wk .u64 ((wk .u64 ((wk .u64 (J.ra.val*6364136223846793005))+(wk .u64 s1)))+1442695040888963407))⟩:Ik .u64)))))) (λ(r:(Int)×(Int×(Ik .u64)))=>some r))
noncomputable def dK (J:dI)(p1:Int): Option ((Int)×(Int×(Ik .u64))):=
 (cond (decide (p1<=1)) (some (0,(J.at_,J.ra))) (Z (kB J) λa=>(cond (decide (200<p1)) (Z (kB (⟨J.code,a.2.1,a.2.2⟩:dI)) λb=>Z (nz p1) λc=>some ((Int.tmod (ah ((ah (a.1*256))+b.1)) p1),(b.2.1,b.2.2))) (Z (nz p1) λd=>some ((Int.tmod a.1 p1),(a.2.1,a.2.2))))))
noncomputable def mD (J:dI)(p1:Int): Option ((Bool)×(Int×(Ik .u64))):=
 Z (dK J p1) λr1=>some ((decide (r1.1=0)),(r1.2.1,r1.2.2))
noncomputable def uV:Option (ai):=
 some (⟨0,0,(-1)⟩:ai)
noncomputable def fj (J:dI)(p1:Int)(p2:Int)(a:Int×(Ik .u64)×(List ai)×Int): Option ((Int×(Ik .u64)×(List ai)×Int) ⊕ Out (Int×(Ik .u64)×(List ai)×Int) ((O)×(Int×(Ik .u64)))):=
 (cond (decide (0<a.2.2.2)) (Z (dK (⟨J.code,a.1,a.2.1⟩:dI) p1) λd=>Z (dK (⟨J.code,d.2.1,d.2.2⟩:dI) 2) λe=>Z (dK (⟨J.code,e.2.1,e.2.2⟩:dI) p2) λc=>Z (mD (⟨J.code,c.2.1,c.2.2⟩:dI) 7) λb=>(cond b.1 (Z uV λf=>Z (app a.2.2.1 ([f]:List ai)) λg=>some (.inl (b.2.1,b.2.2,g,(ah (a.2.2.2-1))))) (Z (app a.2.2.1 ([(⟨d.1,(ah ((ah (2*e.1))-1)),c.1⟩:ai)]:List ai)) λh=>some (.inl (b.2.1,b.2.2,h,(ah (a.2.2.2-1))))))) (some (.inr (.bf (a.1,a.2.1,a.2.2.1,a.2.2.2)))))
noncomputable def lT (J:dI)(p1:Int)(p2:Int): Option ((O)×(Int×(Ik .u64))):=
 Z (run (fj J p1 p2) (J.at_,J.ra,([]:(List ai)),(ah (p1*p2)))) (Out.elim (λ(a:Int×(Ik .u64)×(List ai)×Int)=>some ((⟨p1,p2,a.2.2.1⟩:O),(a.1,a.2.1))) (λ(r:(O)×(Int×(Ik .u64)))=>some r))
noncomputable def tf (J:(List Int)): Option ((List Int)):=
 Z (app ([]:List Int) J) λz2=>some z2
noncomputable def oI (J:(List Int))(s1:Int): Option ((Int) ⊕ Out (Int) (List Int)):=
 (cond (decide (0<s1)) (Z (idx J (ah (s1-1))) λa=>(cond (decide (a=0)) (some (.inl (ah (s1-1)))) (some (.inr (.bf s1))))) (some (.inr (.bf s1))))
noncomputable def o6 (J:(List Int)): Option ((List Int)):=
 Z (run (oI J) (J.length:Int)) (Out.elim (λ(s1:Int)=>Z (jV J 0 s1) λz9=>Z (tf z9) λa=>some a) (λ(r:(List Int))=>some r))
noncomputable def jl (d:((List (Ik .u8))×Int×(Ik .u64)))(a:Int×(Ik .u64)×(List Int)×Int): Option ((Int×(Ik .u64)×(List Int)×Int) ⊕ Out (Int×(Ik .u64)×(List Int)×Int) (O×U)):=
 (cond (decide (0<a.2.2.2)) (Z (dK (⟨d.1,a.1,a.2.1⟩:dI) 2) λb=>Z (app a.2.2.1 ([b.1]:List Int)) λc=>some (.inl (b.2.1,b.2.2,c,(ah (a.2.2.2-1))))) (some (.inr (.bf (a.1,a.2.1,a.2.2.1,a.2.2.2)))))
noncomputable def qS (d:((List (Ik .u8))×Int×(Ik .u64)))(a:Int×(Ik .u64)×(List Int)×Int): Option ((Int×(Ik .u64)×(List Int)×Int) ⊕ Out (Int×(Ik .u64)×(List Int)×Int) (O×U)):=
 (cond (decide (0<a.2.2.2)) (Z (dK (⟨d.1,a.1,a.2.1⟩:dI) 2) λb=>Z (app a.2.2.1 ([b.1]:List Int)) λc=>some (.inl (b.2.1,b.2.2,c,(ah (a.2.2.2-1))))) (some (.inr (.bf (a.1,a.2.1,a.2.2.1,a.2.2.2)))))
noncomputable def qD (J:(List (Ik .u8))): Option (O×U):=
 Z (uT J) λa=>Z (dK (⟨a.1,a.2.1,a.2.2⟩:dI) 2) λg=>Z (lT (⟨a.1,g.2.1,g.2.2⟩:dI) 2 (ah (1+g.1))) λf=>Z (dK (⟨a.1,f.2.1,f.2.2⟩:dI) f.1.N) λb=>Z (dK (⟨a.1,b.2.1,b.2.2⟩:dI) 3) λc=>Z (run (jl a) (c.2.1,c.2.2,([]:(List Int)),c.1)) (Out.elim (λ(d:Int×(Ik .u64)×(List Int)×Int)=>Z (dK (⟨a.1,d.1,d.2.1⟩:dI) 4) λe=>Z (run (qS a) (e.2.1,e.2.2,([]:(List Int)),e.1)) (Out.elim (λ(h:Int×(Ik .u64)×(List Int)×Int)=>Z (o6 d.2.2.1) λi=>Z (o6 h.2.2.1) λj=>some (f.1,(⟨b.1,i,j⟩:U))) (λ(r:O×U)=>some r))) (λ(r:O×U)=>some r))
noncomputable def dM (J:Int)(p1:Int)(p2:Int): Option (Bool):=
 (cond (decide (p1<=J)) (some (decide (J<=p2))) (some false))
noncomputable def oS (J:(List ai)): Option (Int):=
 some (J.length:Int)
noncomputable def gV:Option (ai):=
 some (⟨0,0,(-1)⟩:ai)
noncomputable def fw (J:ai): Option (Bool):=
 Z gV λa=>some (!(decide (J=a)))
noncomputable def pJ (J:O)(p1:ai): Option (Bool):=
 Z (fw p1) λc=>(cond (!c) (some true) (Z (dM p1.Write 0 (ah (J.I-1))) λd=>(cond d (cond (decide (p1.Move=(-1))) (Z (dM p1.Next 0 (ah (J.N-1))) λa=>some a) (cond (decide (p1.Move=1)) (Z (dM p1.Next 0 (ah (J.N-1))) λb=>some b) (some false))) (some false))))
noncomputable def oG (J:ai)(p1:O): Option (Bool):=
 Z (pJ p1 J) λa=>some (!a)
noncomputable def eZ (J:(List ai))(p1:(ai->Option Bool))(s1:Int): Option ((Int) ⊕ Out (Int) Int):=
 (cond (decide (s1<(J.length:Int))) (Z (idx J s1) λa=>Z (p1 a) λb=>(cond b (some (.inr (.ret s1))) (some (.inl (ah (s1+1)))))) (some (.inr (.bf s1))))
noncomputable def iq (J:(List ai))(p1:(ai->Option Bool)): Option (Int):=
 Z (run (eZ J p1) 0) (Out.elim (λ(s1:Int)=>some (-1)) (λ(r:Int)=>some r))
noncomputable def gL (J:(List ai))(p1:(ai->Option Bool)): Option (Bool):=
 Z (iq J p1) λr1=>some (decide (0<=r1))
noncomputable def eF (J:O): Option (Bool):=
 Z (dM J.I 2 6) λc=>(cond (!c) (some false) (Z (dM J.N 1 1000) λd=>(cond (!d) (some false) (Z (oS J.aB) λa=>(cond (decide (a≠(ah (J.N*J.I)))) (some false) (Z (gL J.aB (λe=>oG e J)) λb=>some (!b)))))))
noncomputable def iP (J:Int): Option (ByteArray):=
 Z (fmtG J 10) λr1=>some r1
noncomputable def qH (J:ai): Option (ByteArray):=
 Z (fw J) λh=>(cond (!h) (some (⟨#[45,45,45]⟩:ByteArray)) (cond (decide (J.Move<0)) (Z (iP J.Write) λi=>Z (cat i (⟨#[76]⟩:ByteArray)) λa=>Z (iP J.Next) λb=>Z (cat a b) λc=>some c) (Z (iP J.Write) λd=>Z (cat d (⟨#[82]⟩:ByteArray)) λe=>Z (iP J.Next) λf=>Z (cat e f) λg=>some g)))
noncomputable def gT (b:(List ai))(a:(List ByteArray)×Int): Option (((List ByteArray)×Int) ⊕ Out ((List ByteArray)×Int) (Option ((Int×(List ByteArray)) ⊕ Out (Int×(List ByteArray)) (Option (ByteArray))))):=
 (cond (decide (a.2<(b.length:Int))) (Z (idx b a.2) λc=>Z (qH c) λd=>Z (app a.1 ([d]:List ByteArray)) λe=>some (.inl (e,(ah (a.2+1))))) (some (.inr (.bf (a.1,a.2)))))
noncomputable def dE (J:O)(a:Int×(List ByteArray)): Option ((Int×(List ByteArray)) ⊕ Out (Int×(List ByteArray)) (Option (ByteArray))):=
 (cond (decide (a.1<(J.aB.length:Int))) (Z (jV J.aB a.1 (J.aB.length:Int)) λz20=>Z (jV J.aB a.1 (ah (a.1+(if (z20.length:Int)<J.I then (z20.length:Int)else J.I)))) λb=>Z (run (gT b) (([]:List ByteArray),0)) (Out.elim (λ(c:(List ByteArray)×Int)=>Z (x7 c.1 (⟨#[44]⟩:ByteArray)) λd=>Z (app a.2 ([d]:List ByteArray)) λe=>some (.inl ((ah (a.1+J.I)),e))) (λ(r:Option ((Int×(List ByteArray)) ⊕ Out (Int×(List ByteArray)) (Option (ByteArray))))=>r))) (some (.inr (.bf (a.1,a.2)))))
noncomputable def il (J:O): Option (ByteArray):=
 Z (eF J) λc=>(cond (!c) (some (⟨#[]⟩:ByteArray)) (cond (decide (J.I<1)) none (Z (run (dE J) (0,([]:List ByteArray))) (Out.elim (λ(a:Int×(List ByteArray))=>Z (x7 a.2 (⟨#[59]⟩:ByteArray)) λb=>some b) (λ(r:Option (ByteArray))=>r)))))
noncomputable def jn (J:(List ByteArray)): Option (Int):=
 some (J.length:Int)
noncomputable def ng (J:ByteArray)(p1:ByteArray): Option (Bool):=
 (cond (decide ((p1.size:Int)<=(J.size:Int))) (Z (He J 0 (p1.size:Int)) λz2=>some (z2.toList==p1.toList)) (some false))
noncomputable def mP (J:ByteArray)(p1:ByteArray): Option (ByteArray):=
 Z (ng J p1) λr1=>(cond r1 (Z (He J (p1.size:Int) (J.size:Int)) λz4=>some z4) (some J))
noncomputable def tz (J:ByteArray)(p1:ByteArray): Option (ByteArray):=
 Z (mP J p1) λr1=>some r1
noncomputable def qR (J:ByteArray): Option (Int×Bool):=
 Z (EG J 10 64) λr1=>(cond (!r1.2) (some (0,false)) (Z (iP r1.1) λa=>(cond (!(a.toList==J.toList)) (some (0,false)) (Z (tz J (⟨#[45]⟩:ByteArray)) λb=>(cond (decide (18<(b.size:Int))) (some (0,false)) (some (r1.1,true)))))))
noncomputable def qG (J:ByteArray): Option (ai):=
 Z (LV J (⟨#[76,82]⟩:ByteArray)) λa=>(cond (decide (a<0)) (Z gV λg=>some g) (Z (Z (Ox J a) λb=>(cond (decide (b=76)) (some (.bf (-1))) (some (.bf 1))):Option (Out (Int) ai)) (Out.elim (λ(h:Int)=>Z (He J 0 a) λc=>Z (qR c) λd=>Z (He J (ah (a+1)) (J.size:Int)) λe=>Z (qR e) λf=>some (⟨d.1,h,f.1⟩:ai)) (λ(r:ai)=>some r))))
noncomputable def gS (b:(List ByteArray))(a:(List ai)×Int): Option (((List ai)×Int) ⊕ Out ((List ai)×Int) (O×Bool)):=
 (cond (decide (a.2<(b.length:Int))) (Z (idx b a.2) λc=>Z (qG c) λd=>Z (app a.1 ([d]:List ai)) λe=>some (.inl (e,(ah (a.2+1))))) (some (.inr (.bf (a.1,a.2)))))
noncomputable def ga (f:(List ByteArray))(a:Int×(List ai)×Int): Option ((Int×(List ai)×Int) ⊕ Out (Int×(List ai)×Int) (O×Bool)):=
 (cond (decide (a.2.2<(f.length:Int))) (Z (idx f a.2.2) λc=>Z (uq c (⟨#[44]⟩:ByteArray)) λb=>Z (jn b) λd=>Z (run (gS b) (a.2.1,0)) (Out.elim (λ(e:(List ai)×Int)=>some (.inl (d,e.1,(ah (a.2.2+1))))) (λ(r:O×Bool)=>some (.inr (.ret r))))) (some (.inr (.bf (a.1,a.2.1,a.2.2)))))
noncomputable def jg (J:ByteArray): Option (O×Bool):=
 Z (uq J (⟨#[59]⟩:ByteArray)) λe=>Z (jn e) λb=>Z (run (ga e) (0,([]:(List ai)),0)) (Out.elim (λ(a:Int×(List ai)×Int)=>Z (eF (⟨a.1,b,a.2.1⟩:O)) λc=>(cond (!c) (some ((⟨0,0,([]:(List ai))⟩:O),false)) (Z (il (⟨a.1,b,a.2.1⟩:O)) λd=>(cond (!(d.toList==J.toList)) (some ((⟨0,0,([]:(List ai))⟩:O),false)) (some ((⟨a.1,b,a.2.1⟩:O),true)))))) (λ(r:O×Bool)=>some r))
noncomputable def mA (J:O)(p1:O)(a:Int): Option ((Int) ⊕ Out (Int) Bool):=
 (cond (decide (a<(J.aB.length:Int))) (Z (idx J.aB a) λb=>Z (idx p1.aB a) λc=>(cond (!(decide (b=c))) (some (.inr (.ret false))) (some (.inl (ah (a+1)))))) (some (.inr (.bf a))))
noncomputable def uZ (J:O)(p1:O): Option (Bool):=
 Z ((cond (decide (J.I≠p1.I)) (some (.ret false)) (cond (decide (J.N≠p1.N)) (some (.ret false)) (cond (decide ((J.aB.length:Int)≠(p1.aB.length:Int))) (some (.ret false)) (some (.bf ()))))):Option (Out (Unit) Bool)) (Out.elim (λ(s1:Unit)=>Z (run (mA J p1) 0) (Out.elim (λ(a:Int)=>some true) (λ(r:Bool)=>some r))) (λ(r:Bool)=>some r))
noncomputable def nY (J:O)(p1:O): Option (Bool):=
 Z (uZ J p1) λa=>some a
noncomputable def eW (J:(List Int)): Option (Int):=
 some (J.length:Int)
noncomputable def lA (J:(List Int))(p1:Int)(p2:Int)(s1:Int): Option ((Int) ⊕ Out (Int) Bool):=
 (cond (decide (s1<(J.length:Int))) (Z (idx J s1) λa=>Z (dM a p1 p2) λb=>(cond (!b) (some (.inr (.ret false))) (some (.inl (ah (s1+1)))))) (some (.inr (.bf s1))))
noncomputable def iB (J:(List Int))(p1:Int)(p2:Int): Option (Bool):=
 Z (run (lA J p1 p2) 0) (Out.elim (λ(s1:Int)=>some true) (λ(r:Bool)=>some r))
noncomputable def nC (J:(List Int))(p1:Int)(p2:Int): Option (Bool):=
 Z (eW J) λr1=>(cond (decide (r1<=p2)) (Z (iB J 0 (ah (p1-1))) λa=>(cond a (cond (decide ((J.length:Int)=0)) (some true) (Z (idx J (ah ((J.length:Int)-1))) λb=>some (decide (b≠0)))) (some false))) (some false))
noncomputable def mz (J:O)(p1:U): Option (Bool):=
 Z (dM p1.State 0 (ah (J.N-1))) λa=>(cond a (Z (nC p1.Left J.I 200) λb=>(cond b (Z (nC p1.ak J.I 200) λc=>some c) (some false))) (some false))
noncomputable def dJ (J:O)(p1:U): Option (Bool):=
 Z (eF J) λa=>(cond a (Z (mz J p1) λb=>some b) (some false))
noncomputable def ie (J:Int): Option (Bool):=
 Z (dM J 1 20000) λr1=>some r1
noncomputable def cE (J:(List Int)): Option ((List Int)):=
 Z (app ([]:List Int) J) λz3=>some z3
noncomputable def l5 (s5:(List Int)×Int×Int): Option (((List Int)×Int×Int) ⊕ Out ((List Int)×Int×Int) (Option ((List Int)))):=
 (cond (decide (s5.2.1<s5.2.2)) (Z (idx s5.1 s5.2.2) λb=>Z (idx s5.1 s5.2.1) λa=>Z (idx s5.1 s5.2.1) λc=>Z (idx (s5.1.set s5.2.1.toNat b) s5.2.2) λd=>some (.inl (((s5.1.set s5.2.1.toNat b).set s5.2.2.toNat a),(ah (s5.2.1+1)),(ah (s5.2.2-1))))) (some (.inr (.bf (s5.1,s5.2.1,s5.2.2)))))
noncomputable def ek (J:(List Int)): Option ((List Int)):=
 Z (cE J) λr1=>Z (run (l5) (r1,0,(ah ((r1.length:Int)-1)))) (Out.elim (λ(s5:(List Int)×Int×Int)=>some s5.1) (λ(r:Option ((List Int)))=>r))
noncomputable def iW (J:O)(p1:U): Option ((Int×Int×(List ai)×Int×(List Int)×(List Int))):=
 Z (ek p1.Left) λa=>Z (ek p1.ak) λb=>some (J.I,J.N,J.aB,p1.State,a,b)
noncomputable def lQ (J:(List Int)): Option (Int):=
 (cond (decide ((J.length:Int)=0)) (some 0) (Z (idx J (ah ((J.length:Int)-1))) λa=>some a))
noncomputable def pA (J:aQ): Option (Int):=
 Z (lQ J.right) λa=>some a
noncomputable def sK (J:aQ): Option (Int):=
 Z (pA J) λa=>some (ah ((ah (J.state*(⟨J.cp,J.cL,J.gY⟩:O).I))+a))
noncomputable def ji (J:aQ): Option (ai):=
 Z (sK J) λb=>Z (idx ((⟨J.cp,J.cL,J.gY⟩:O).aB) b) λa=>some a
noncomputable def bU (J:aQ): Option (Bool):=
 Z (ji J) λr1=>Z (fw r1) λa=>some (!a)
noncomputable def dk (J:aQ): Option ((Bool)×(Int×(List Int)×(List Int))):=
 Z (ji J) λr1=>Z (jV J.right 0 (if (ah ((J.right.length:Int)-1))>0 then (ah ((J.right.length:Int)-1))else 0)) λz5=>Z ((cond (decide (0<r1.Move)) (cond (decide (r1.Write=0)) (cond (decide ((J.left.length:Int)=0)) (some (.bf (J.left,z5))) (Z (app J.left ([r1.Write]:List Int)) λh=>some (.bf (h,z5)))) (Z (app J.left ([r1.Write]:List Int)) λi=>some (.bf (i,z5)))) (Z ((cond (decide (r1.Write=0)) (cond (decide ((z5.length:Int)=0)) (Z (lQ J.left) λf=>(cond (decide (f=0)) (some (.bf z5)) (Z (app z5 ([f]:List Int)) λj=>some (.bf j)))) (Z (app z5 ([r1.Write]:List Int)) λa=>Z (lQ J.left) λc=>(cond (decide (c=0)) (cond (decide ((a.length:Int)=0)) (some (.bf a)) (Z (app a ([c]:List Int)) λk=>some (.bf k))) (Z (app a ([c]:List Int)) λz59=>some (.bf z59))))) (Z (app z5 ([r1.Write]:List Int)) λb=>Z (lQ J.left) λd=>(cond (decide (d=0)) (cond (decide ((b.length:Int)=0)) (some (.bf b)) (Z (app b ([d]:List Int)) λl=>some (.bf l))) (Z (app b ([d]:List Int)) λm=>some (.bf m))))):Option (Out ((List Int)) ((Bool)×(Int×(List Int)×(List Int))))) (Out.elim (λ(n:(List Int))=>Z (jV J.left 0 (if (ah ((J.left.length:Int)-1))>0 then (ah ((J.left.length:Int)-1))else 0)) λg=>some (.bf (g,n))) (λ(r:(Bool)×(Int×(List Int)×(List Int)))=>some (.ret r))))):Option (Out ((List Int)×(List Int)) ((Bool)×(Int×(List Int)×(List Int))))) (Out.elim (λ(e:(List Int)×(List Int))=>(cond (decide ((e.1.length:Int)<=200)) (some ((decide ((e.2.length:Int)<=200)),(r1.Next,e.1,e.2))) (some (false,(r1.Next,e.1,e.2))))) (λ(r:(Bool)×(Int×(List Int)×(List Int)))=>some r))
noncomputable def eU (J:aQ)(p1:Int)(a:Int×(List Int)×(List Int)×Int×Int): Option ((Int×(List Int)×(List Int)×Int×Int) ⊕ Out (Int×(List Int)×(List Int)×Int×Int) (Option ((Int×Bool×Int)×(Int×(List Int)×(List Int))))):=
 (cond (decide (a.2.2.2.1<p1)) (Z (bU (⟨J.cp,J.cL,J.gY,a.1,a.2.1,a.2.2.1⟩:aQ)) λc=>(cond (!c) (Z (dk (⟨J.cp,J.cL,J.gY,a.1,a.2.1,a.2.2.1⟩:aQ)) λb=>(cond (!b.1) (some (.inr (.ret (some ((0,false,5),(b.2.1,b.2.2.1,b.2.2.2)))))) (some (.inl (b.2.1,b.2.2.1,b.2.2.2,(ah (a.2.2.2.1+1)),a.2.2.2.1))))) (some (.inr (.bf (a.1,a.2.1,a.2.2.1,a.2.2.2.1,a.2.2.2.1)))))) (some (.inr (.bf (a.1,a.2.1,a.2.2.1,a.2.2.2.1,a.2.2.2.1)))))
noncomputable def oJ (J:aQ)(p1:Int): Option ((Int×Bool×Int)×(Int×(List Int)×(List Int))):=
 Z (run (eU J p1) (J.state,J.left,J.right,0,0)) (Out.elim (λ(a:Int×(List Int)×(List Int)×Int×Int)=>Z (bU (⟨J.cp,J.cL,J.gY,a.1,a.2.1,a.2.2.1⟩:aQ)) λb=>some ((a.2.2.2.2,b,0),(a.1,a.2.1,a.2.2.1))) (λ(r:Option ((Int×Bool×Int)×(Int×(List Int)×(List Int))))=>r))
noncomputable def cZ (J:aQ): Option (U):=
 Z (ek J.left) λa=>Z (ek J.right) λb=>some (⟨J.state,a,b⟩:U)
noncomputable def mB (J:O)(p1:U)(p2:Int): Option (U×Int×Bool×Int):=
 Z (dJ J p1) λd=>(cond (!d) (some ((⟨0,([]:(List Int)),([]:(List Int))⟩:U),0,false,1)) (Z (ie p2) λe=>(cond (!e) (some ((⟨0,([]:(List Int)),([]:(List Int))⟩:U),0,false,2)) (Z (iW J p1) λa=>Z (oJ (⟨a.1,a.2.1,a.2.2.1,a.2.2.2.1,a.2.2.2.2.1,a.2.2.2.2.2⟩:aQ) p2) λb=>(cond (decide (b.1.2.2≠0)) (some ((⟨0,([]:(List Int)),([]:(List Int))⟩:U),0,false,b.1.2.2)) (Z (cZ (⟨a.1,a.2.1,a.2.2.1,b.2.1,b.2.2.1,b.2.2.2⟩:aQ)) λc=>some (c,b.1.1,b.1.2.1,0)))))))
noncomputable def bW (J:(List bX)): Option (Int):=
 some (J.length:Int)
noncomputable def wi (J:(Ik .u64))(p1:(Ik .u64)): Option ((Ik .u64)×(Ik .u64)):=
 some ((⟨(wk .u64 ((wk .u64 ((wk .u64 ((Int.fdiv J.val (2^min (32:Int).toNat (IntKind.bits .u64)))*(Int.fdiv p1.val (2^min (32:Int).toNat (IntKind.bits .u64)))))+(Int.fdiv (wk .u64 ((wk .u64 ((Int.fdiv J.val (2^min (32:Int).toNat (IntKind.bits .u64)))*(wx .u64 p1.val 4294967295)))+(Int.fdiv (wk .u64 ((wx .u64 J.val 4294967295)*(wx .u64 p1.val 4294967295))) (2^min (32:Int).toNat (IntKind.bits .u64))))) (2^min (32:Int).toNat (IntKind.bits .u64)))))+(Int.fdiv (wk .u64 ((wx .u64 (wk .u64 ((wk .u64 ((Int.fdiv J.val (2^min (32:Int).toNat (IntKind.bits .u64)))*(wx .u64 p1.val 4294967295)))+(Int.fdiv (wk .u64 ((wx .u64 J.val 4294967295)*(wx .u64 p1.val 4294967295))) (2^min (32:Int).toNat (IntKind.bits .u64))))) 4294967295)+(wk .u64 ((wx .u64 J.val 4294967295)*(Int.fdiv p1.val (2^min (32:Int).toNat (IntKind.bits .u64))))))) (2^min (32:Int).toNat (IntKind.bits .u64)))))⟩:Ik .u64),(⟨(wk .u64 (J.val*p1.val))⟩:Ik .u64))
noncomputable def qx (J:(Ik .u64))(p1:(Ik .u64)): Option ((Ik .u64)×(Ik .u64)):=
 Z (wi J p1) λr1=>some (r1.1,r1.2)
noncomputable def fc (a:(List Raw)×Int): Option (((List Raw)×Int) ⊕ Out ((List Raw)×Int) (List Raw)):=
 (cond (decide (a.2<(a.1.length:Int))) (Z (jV a.1 a.2 (a.1.length:Int)) λb=>Z (jV a.1 0 a.2) λz21=>some (.inl ((xc a.1 a.2 (a.1.length:Int) z21),(ah (a.2+((min b.length z21.length:Nat):Int)))))) (some (.inr (.bf (a.1,a.2)))))
noncomputable def fJ (J:(List Raw))(p1:Int): Option ((List Raw)):=
 Z ((cond (decide (p1<0)) none (some (.bf ()))):Option (Out (Unit) (List Raw))) (Out.elim (λ(s1:Unit)=>Z (qx (⟨(wk .u64 (J.length:Int))⟩:Ik .u64) (⟨(wk .u64 p1)⟩:Ik .u64)) λb=>Z ((cond (decide (0<b.1.val)) none (cond (decide (9223372036854775807<b.2.val)) none (some (.bf ())))):Option (Out (Unit) (List Raw))) (Out.elim (λ(d:Unit)=>Z (Fg (ah b.2.val) (Raw.mk .nilFunc)) λa=>Z (run (fc) ((yK a J),((min a.length J.length:Nat):Int))) (Out.elim (λ(c:(List Raw)×Int)=>some c.1) (λ(r:(List Raw))=>some r))) (λ(r:(List Raw))=>some r))) (λ(r:(List Raw))=>some r))
noncomputable def jy (J:(List Int))(p1:Int)(s1:Int×Int): Option ((Int×Int) ⊕ Out (Int×Int) (Int×Int)):=
 (cond (decide (0<=s1.2)) (Z (idx J s1.2) λa=>(cond (decide (1000000<(ah ((ah (s1.1*p1))+a)))) (some (.inr (.ret (0,5)))) (some (.inl ((ah ((ah (s1.1*p1))+a)),(ah (s1.2-1))))))) (some (.inr (.bf (s1.1,s1.2)))))
noncomputable def jT (J:(List Int))(p1:Int): Option (Int×Int):=
 Z (run (jy J p1) (0,(ah ((J.length:Int)-1)))) (Out.elim (λ(s1:Int×Int)=>some (s1.1,0)) (λ(r:Int×Int)=>some r))
noncomputable def mU (J:O)(p1:(List Int))(p2:U): Option (eK×Int):=
 Z (jT p2.Left J.I) λb=>Z (jT p2.ak J.I) λd=>Z ((cond (decide (b.2≠0)) (some (.ret ((⟨0,([]:(List Int))⟩:eK),5))) (cond (decide (d.2≠0)) (some (.ret ((⟨0,([]:(List Int))⟩:eK),5))) (some (.bf ())))):Option (Out (Unit) (eK×Int))) (Out.elim (λ(g:Unit)=>Z (idx p1 p2.State) λc=>Z (Fg 24 (0:Int)) λa=>Z (idx a 0) λe=>Z (idx (a.set (0:Int).toNat b.1) 1) λf=>some ((⟨c,((a.set (0:Int).toNat b.1).set (1:Int).toNat d.1)⟩:eK),0)) (λ(r:eK×Int)=>some r))
noncomputable def oU (J:Int): Option (Bool):=
 some (decide (J≠J))
noncomputable def pG (J:Int)(p1:Int): Option (Bool):=
 Z (oU J) λr1=>(cond r1 (Z (oU p1) λa=>(cond (!a) (some true) (some (decide (J<p1))))) (some (decide (J<p1))))
noncomputable def kM (J:Int): Option (Bool):=
 some (decide (J≠J))
noncomputable def cx (J:(List Int))(p1:Int)(s1:Int×Int): Option ((Int×Int) ⊕ Out (Int×Int) (Int×Bool)):=
 (cond (decide (s1.1<s1.2)) (Z (idx J (ah (Int.fdiv (wk .u64 (ah (s1.1+s1.2))) (2^min (1:Int).toNat (IntKind.bits .u64))))) λa=>Z (pG a p1) λb=>(cond b (some (.inl ((ah ((ah (Int.fdiv (wk .u64 (ah (s1.1+s1.2))) (2^min (1:Int).toNat (IntKind.bits .u64))))+1)),s1.2))) (some (.inl (s1.1,(ah (Int.fdiv (wk .u64 (ah (s1.1+s1.2))) (2^min (1:Int).toNat (IntKind.bits .u64))))))))) (some (.inr (.bf (s1.1,s1.2)))))
noncomputable def eg (J:(List Int))(p1:Int): Option (Int×Bool):=
 Z (run (cx J p1) (0,(J.length:Int))) (Out.elim (λ(s1:Int×Int)=>(cond (decide (s1.1<(J.length:Int))) (Z (idx J s1.1) λa=>(cond (decide (a=p1)) (some (s1.1,true)) (Z (idx J s1.1) λb=>Z (kM b) λc=>(cond c (Z (kM p1) λd=>some (s1.1,d)) (some (s1.1,false)))))) (some (s1.1,false)))) (λ(r:Int×Bool)=>some r))
noncomputable def me (p1:Int)(s2:Int×(List Int)): Option ((Int×(List Int)) ⊕ Out (Int×(List Int)) (List Int)):=
 (cond (decide (0<s2.1)) (Z (nz p1) λc=>Z (app s2.2 ([(Int.tmod s2.1 p1)]:List Int)) λa=>Z (nz p1) λb=>some (.inl ((ah (Int.tdiv s2.1 p1)),a))) (some (.inr (.bf (s2.1,s2.2)))))
noncomputable def n7 (J:Int)(p1:Int): Option ((List Int)):=
 Z (run (me p1) (J,([]:List Int))) (Out.elim (λ(s2:Int×(List Int))=>some s2.2) (λ(r:(List Int))=>some r))
noncomputable def cC (J:O)(p1:Int)(p2:eK): Option (U):=
 Z (idx p2.pd 0) λc=>Z (idx p2.pd 1) λd=>Z (n7 c J.I) λa=>Z (n7 d J.I) λb=>some (⟨p1,a,b⟩:U)
noncomputable def iw (J:O)(p1:(List Int))(p2:eK): Option (U×Bool):=
 Z (eg p1 p2.At) λc=>(cond (!c.2) (some ((⟨0,([]:(List Int)),([]:(List Int))⟩:U),false)) (Z (jV p2.pd 2 (p2.pd.length:Int)) λd=>Z (iB d 0 0) λa=>(cond (!a) (some ((⟨0,([]:(List Int)),([]:(List Int))⟩:U),false)) (Z (cC J c.1 p2) λb=>some (b,true)))))
noncomputable def eN (J:O)(p2:Int)(b:(List bX)×(List Int)×Int)(a:Int×(List Int)×Int×Int×(List Int)×(List Int)×Int): Option ((Int×(List Int)×Int×Int×(List Int)×(List Int)×Int) ⊕ Out (Int×(List Int)×Int×Int×(List Int)×(List Int)×Int) (Option (U×Int×Bool×Int))):=
 Z (eg b.2.1 a.1) λe=>(cond e.2 (Z (iw J b.2.1 (⟨a.1,a.2.1⟩:eK)) λd=>(cond d.2 (Z (bW b.1) λC=>(cond (decide (a.1=C)) (Z (bW b.1) λs=>some (.inr (.ret (cond (decide (a.1=s)) (Z (cC J e.1 (⟨a.1,a.2.1⟩:eK)) λD=>some (D,a.2.2.2.2.2.2,(decide (a.1=s)),0)) (some (d.1,a.2.2.2.2.2.2,(decide (a.1=s)),0)))))) (cond (decide (a.2.2.2.2.2.2=p2)) (Z (bW b.1) λt=>some (.inr (.ret (cond (decide (a.1=t)) (Z (cC J e.1 (⟨a.1,a.2.1⟩:eK)) λE=>some (E,a.2.2.2.2.2.2,(decide (a.1=t)),0)) (some (d.1,a.2.2.2.2.2.2,(decide (a.1=t)),0)))))) (Z (idx b.1 a.1) λl=>Z (idx a.2.1 l.cd) λm=>(cond (decide (l.Kind=0)) (cond (!(decide ((ah (m+1))<=1000000))) (some (.inr (.ret (some ((⟨0,([]:(List Int)),([]:(List Int))⟩:U),0,false,5))))) (some (.inl (l.qa,(a.2.1.set l.cd.toNat (ah (m+1))),e.1,d.1.State,d.1.Left,d.1.ak,(ah (a.2.2.2.2.2.2+1)))))) (cond (decide (0<m)) (cond (!(decide ((ah (m-1))<=1000000))) (some (.inr (.ret (some ((⟨0,([]:(List Int)),([]:(List Int))⟩:U),0,false,5))))) (some (.inl (l.qa,(a.2.1.set l.cd.toNat (ah (m-1))),e.1,d.1.State,d.1.Left,d.1.ak,(ah (a.2.2.2.2.2.2+1)))))) (cond (!(decide (m<=1000000))) (some (.inr (.ret (some ((⟨0,([]:(List Int)),([]:(List Int))⟩:U),0,false,5))))) (some (.inl (l.uQ,a.2.1,e.1,d.1.State,d.1.Left,d.1.ak,(ah (a.2.2.2.2.2.2+1)))))))))))) (Z (bW b.1) λF=>(cond (decide (a.1=F)) (Z (bW b.1) λu=>some (.inr (.ret (cond (decide (a.1=u)) (Z (cC J e.1 (⟨a.1,a.2.1⟩:eK)) λG=>some (G,a.2.2.2.2.2.2,(decide (a.1=u)),0)) (some ((⟨a.2.2.2.1,a.2.2.2.2.1,a.2.2.2.2.2.1⟩:U),a.2.2.2.2.2.2,(decide (a.1=u)),0)))))) (cond (decide (a.2.2.2.2.2.2=p2)) (Z (bW b.1) λn=>some (.inr (.ret (cond (decide (a.1=n)) (Z (cC J e.1 (⟨a.1,a.2.1⟩:eK)) λv=>some (v,a.2.2.2.2.2.2,(decide (a.1=n)),0)) (some ((⟨a.2.2.2.1,a.2.2.2.2.1,a.2.2.2.2.2.1⟩:U),a.2.2.2.2.2.2,(decide (a.1=n)),0)))))) (Z (idx b.1 a.1) λf=>Z (idx a.2.1 f.cd) λi=>(cond (decide (f.Kind=0)) (cond (!(decide ((ah (i+1))<=1000000))) (some (.inr (.ret (some ((⟨0,([]:(List Int)),([]:(List Int))⟩:U),0,false,5))))) (some (.inl (f.qa,(a.2.1.set f.cd.toNat (ah (i+1))),e.1,a.2.2.2.1,a.2.2.2.2.1,a.2.2.2.2.2.1,(ah (a.2.2.2.2.2.2+1)))))) (cond (decide (0<i)) (cond (!(decide ((ah (i-1))<=1000000))) (some (.inr (.ret (some ((⟨0,([]:(List Int)),([]:(List Int))⟩:U),0,false,5))))) (some (.inl (f.qa,(a.2.1.set f.cd.toNat (ah (i-1))),e.1,a.2.2.2.1,a.2.2.2.2.1,a.2.2.2.2.2.1,(ah (a.2.2.2.2.2.2+1)))))) (cond (!(decide (i<=1000000))) (some (.inr (.ret (some ((⟨0,([]:(List Int)),([]:(List Int))⟩:U),0,false,5))))) (some (.inl (f.uQ,a.2.1,e.1,a.2.2.2.1,a.2.2.2.2.1,a.2.2.2.2.2.1,(ah (a.2.2.2.2.2.2+1)))))))))))))) (Z (iw J b.2.1 (⟨a.1,a.2.1⟩:eK)) λc=>(cond c.2 (Z (bW b.1) λw=>(cond (decide (a.1=w)) (Z (bW b.1) λo=>some (.inr (.ret (cond (decide (a.1=o)) (Z (cC J a.2.2.1 (⟨a.1,a.2.1⟩:eK)) λx=>some (x,a.2.2.2.2.2.2,(decide (a.1=o)),0)) (some (c.1,a.2.2.2.2.2.2,(decide (a.1=o)),0)))))) (cond (decide (a.2.2.2.2.2.2=p2)) (Z (bW b.1) λp=>some (.inr (.ret (cond (decide (a.1=p)) (Z (cC J a.2.2.1 (⟨a.1,a.2.1⟩:eK)) λy=>some (y,a.2.2.2.2.2.2,(decide (a.1=p)),0)) (some (c.1,a.2.2.2.2.2.2,(decide (a.1=p)),0)))))) (Z (idx b.1 a.1) λg=>Z (idx a.2.1 g.cd) λj=>(cond (decide (g.Kind=0)) (cond (!(decide ((ah (j+1))<=1000000))) (some (.inr (.ret (some ((⟨0,([]:(List Int)),([]:(List Int))⟩:U),0,false,5))))) (some (.inl (g.qa,(a.2.1.set g.cd.toNat (ah (j+1))),a.2.2.1,c.1.State,c.1.Left,c.1.ak,(ah (a.2.2.2.2.2.2+1)))))) (cond (decide (0<j)) (cond (!(decide ((ah (j-1))<=1000000))) (some (.inr (.ret (some ((⟨0,([]:(List Int)),([]:(List Int))⟩:U),0,false,5))))) (some (.inl (g.qa,(a.2.1.set g.cd.toNat (ah (j-1))),a.2.2.1,c.1.State,c.1.Left,c.1.ak,(ah (a.2.2.2.2.2.2+1)))))) (cond (!(decide (j<=1000000))) (some (.inr (.ret (some ((⟨0,([]:(List Int)),([]:(List Int))⟩:U),0,false,5))))) (some (.inl (g.uQ,a.2.1,a.2.2.1,c.1.State,c.1.Left,c.1.ak,(ah (a.2.2.2.2.2.2+1)))))))))))) (Z (bW b.1) λz=>(cond (decide (a.1=z)) (Z (bW b.1) λq=>some (.inr (.ret (cond (decide (a.1=q)) (Z (cC J a.2.2.1 (⟨a.1,a.2.1⟩:eK)) λA=>some (A,a.2.2.2.2.2.2,(decide (a.1=q)),0)) (some ((⟨a.2.2.2.1,a.2.2.2.2.1,a.2.2.2.2.2.1⟩:U),a.2.2.2.2.2.2,(decide (a.1=q)),0)))))) (cond (decide (a.2.2.2.2.2.2=p2)) (Z (bW b.1) λr=>some (.inr (.ret (cond (decide (a.1=r)) (Z (cC J a.2.2.1 (⟨a.1,a.2.1⟩:eK)) λB=>some (B,a.2.2.2.2.2.2,(decide (a.1=r)),0)) (some ((⟨a.2.2.2.1,a.2.2.2.2.1,a.2.2.2.2.2.1⟩:U),a.2.2.2.2.2.2,(decide (a.1=r)),0)))))) (Z (idx b.1 a.1) λh=>Z (idx a.2.1 h.cd) λk=>(cond (decide (h.Kind=0)) (cond (!(decide ((ah (k+1))<=1000000))) (some (.inr (.ret (some ((⟨0,([]:(List Int)),([]:(List Int))⟩:U),0,false,5))))) (some (.inl (h.qa,(a.2.1.set h.cd.toNat (ah (k+1))),a.2.2.1,a.2.2.2.1,a.2.2.2.2.1,a.2.2.2.2.2.1,(ah (a.2.2.2.2.2.2+1)))))) (cond (decide (0<k)) (cond (!(decide ((ah (k-1))<=1000000))) (some (.inr (.ret (some ((⟨0,([]:(List Int)),([]:(List Int))⟩:U),0,false,5))))) (some (.inl (h.qa,(a.2.1.set h.cd.toNat (ah (k-1))),a.2.2.1,a.2.2.2.1,a.2.2.2.2.1,a.2.2.2.2.2.1,(ah (a.2.2.2.2.2.2+1)))))) (cond (!(decide (k<=1000000))) (some (.inr (.ret (some ((⟨0,([]:(List Int)),([]:(List Int))⟩:U),0,false,5))))) (some (.inl (h.uQ,a.2.1,a.2.2.1,a.2.2.2.1,a.2.2.2.2.1,a.2.2.2.2.2.1,(ah (a.2.2.2.2.2.2+1)))))))))))))))
noncomputable def lC (J:O)(p1:U)(p2:Int): Option (U×Int×Bool×Int):=
 Z (dJ J p1) λc=>(cond (!c) (some ((⟨0,([]:(List Int)),([]:(List Int))⟩:U),0,false,1)) (Z (ie p2) λd=>(cond (!d) (some ((⟨0,([]:(List Int)),([]:(List Int))⟩:U),0,false,2)) (Z (dU J) λa=>(cond (decide (a.2.2≠0)) (some ((⟨0,([]:(List Int)),([]:(List Int))⟩:U),0,false,a.2.2)) (Z (mU J a.2.1 p1) λb=>(cond (decide (b.2≠0)) (some ((⟨0,([]:(List Int)),([]:(List Int))⟩:U),0,false,b.2)) (Z (run (eN J p2 a) (b.1.At,b.1.pd,0,0,([]:(List Int)),([]:(List Int)),0)) (Out.elim (λ(e:Int×(List Int)×Int×Int×(List Int)×(List Int)×Int)=>none) (λ(r:Option (U×Int×Bool×Int))=>r))))))))))
noncomputable def kR (J:O): Option (bo×Int):=
 (cond (decide (9<(ah (J.I+J.N)))) (some ((⟨0,0⟩:bo),5)) (some ((⟨J.I,(ah (J.I+J.N))⟩:bo),0)))
noncomputable def gG (J:bo)(p1:O)(p2:Int)(c:Int)(b:ai)(a:(List V)×Int): Option (((List V)×Int) ⊕ Out ((List V)×Int) (List V)):=
 (cond (decide (a.2<p1.I)) (Z (app a.1 ([(⟨([a.2,(ah (J.state+p2)),c]:List Int),([(ah (J.state+b.Next)),a.2,b.Write]:List Int)⟩:V)]:List V)) λz31=>some (.inl (z31,(ah (a.2+1))))) (some (.inr (.bf (a.1,a.2)))))
noncomputable def gE (J:bo)(p1:O)(p2:Int)(b:ai)(a:(List V)×Int): Option (((List V)×Int) ⊕ Out ((List V)×Int) (List V)):=
 (cond (decide (a.2<p1.I)) (Z (app a.1 ([(⟨([a.2,(ah (J.state+p2)),J.bE]:List Int),([(ah (J.state+b.Next)),a.2,b.Write,J.bE]:List Int)⟩:V)]:List V)) λz49=>some (.inl (z49,(ah (a.2+1))))) (some (.inr (.bf (a.1,a.2)))))
noncomputable def j6 (J:bo)(p1:O)(p2:Int)(b:Int)(a:ai): Option ((List V)):=
 (cond (decide (a.Move=1)) (Z (app ([]:List V) ([(⟨([(ah (J.state+p2)),b]:List Int),([a.Write,(ah (J.state+a.Next))]:List Int)⟩:V)]:List V)) λc=>Z ((cond (decide (b=0)) (Z (app c ([(⟨([(ah (J.state+p2)),J.bE]:List Int),([a.Write,(ah (J.state+a.Next)),J.bE]:List Int)⟩:V)]:List V)) λz21=>some (.bf z21)) (some (.bf c))):Option (Out ((List V)) (List V))) (Out.elim (λ(e:(List V))=>some e) (λ(r:(List V))=>some r))) (Z (run (gG J p1 p2 b a) (([]:List V),0)) (Out.elim (λ(f:(List V)×Int)=>Z (app f.1 ([(⟨([J.bE,(ah (J.state+p2)),b]:List Int),([J.bE,(ah (J.state+a.Next)),0,a.Write]:List Int)⟩:V)]:List V)) λd=>(cond (decide (b=0)) (Z (run (gE J p1 p2 a) (d,0)) (Out.elim (λ(g:(List V)×Int)=>Z (app g.1 ([(⟨([J.bE,(ah (J.state+p2)),J.bE]:List Int),([J.bE,(ah (J.state+a.Next)),0,a.Write,J.bE]:List Int)⟩:V)]:List V)) λh=>some h) (λ(r:(List V))=>some r))) (some d))) (λ(r:(List V))=>some r))))
noncomputable def fp (J:bo)(p1:O)(a:(List V)×Int): Option (((List V)×Int) ⊕ Out ((List V)×Int) (List V)):=
 (cond (decide (a.2<(p1.aB.length:Int))) (Z (idx p1.aB a.2) λe=>Z (fw e) λb=>(cond b (Z (nz p1.I) λf=>Z (nz p1.I) λg=>Z (j6 J p1 (ah (Int.tdiv a.2 p1.I)) (Int.tmod a.2 p1.I) e) λc=>Z (app a.1 c) λd=>some (.inl (d,(ah (a.2+1))))) (some (.inl (a.1,(ah (a.2+1))))))) (some (.inr (.bf (a.1,a.2)))))
noncomputable def fV (J:bo)(p1:O): Option ((List V)):=
 Z (run (fp J p1) (([]:List V),0)) (Out.elim (λ(a:(List V)×Int)=>some a.1) (λ(r:(List V))=>some r))
noncomputable def kI (J:(List V)): Option (Int):=
 some (J.length:Int)
noncomputable def jf (J:O): Option (bo×(List V)×Int):=
 Z (kR J) λa=>(cond (decide (a.2≠0)) (some ((⟨0,0⟩:bo),([]:(List V)),a.2)) (Z (fV a.1 J) λd=>Z (kI d) λb=>Z (dM b 1 60) λc=>(cond (!c) (some ((⟨0,0⟩:bo),([]:(List V)),5)) (some (a.1,d,0)))))
noncomputable def fW (J:(List (List Int)))(s1:Int×Int): Option ((Int×Int) ⊕ Out (Int×Int) (List Int)):=
 (cond (decide (s1.2<(J.length:Int))) (Z (idx J s1.2) λa=>(cond (decide ((ah (s1.1+(a.length:Int)))<0)) none (some (.inl ((ah (s1.1+(a.length:Int))),(ah (s1.2+1))))))) (some (.inr (.bf (s1.1,s1.2)))))
noncomputable def fS (J:(List (List Int)))(a:(List Int)×Int): Option (((List Int)×Int) ⊕ Out ((List Int)×Int) (List Int)):=
 (cond (decide (a.2<(J.length:Int))) (Z (idx J a.2) λb=>Z (app a.1 b) λc=>some (.inl (c,(ah (a.2+1))))) (some (.inr (.bf (a.1,a.2)))))
noncomputable def fZ (J:(List (List Int)))(a:(List Int)×Int): Option (((List Int)×Int) ⊕ Out ((List Int)×Int) (List Int)):=
 (cond (decide (a.2<(J.length:Int))) (Z (idx J a.2) λb=>Z (app a.1 b) λz37=>some (.inl (z37,(ah (a.2+1))))) (some (.inr (.bf (a.1,a.2)))))
noncomputable def jt (J:(List (List Int))): Option ((List Int)):=
 Z (run (fW J) (0,0)) (Out.elim (λ(s1:Int×Int)=>Z ((cond (decide (s1.1<0)) none (some (.bf ()))):Option (Out (Unit) (Option ((List Int))))) (Out.elim (λ(e:Unit)=>(cond (decide (0<(ah (s1.1-(ah (((0:Nat):Int)-((0:Nat):Int))))))) (Z (Fg (ah (s1.1-(ah (((0:Nat):Int)-((0:Nat):Int))))) (0:Int)) λa=>Z (jV a 0 ((0:Nat):Int)) λb=>Z (run (fS J) (b,0)) (Out.elim (λ(c:(List Int)×Int)=>some c.1) (λ(r:(List Int))=>some r))) (Z (run (fZ J) (([]:(List Int)),0)) (Out.elim (λ(d:(List Int)×Int)=>some d.1) (λ(r:(List Int))=>some r))))) (λ(r:Option ((List Int)))=>r))) (λ(r:(List Int))=>some r))
noncomputable def lx (J:(List (List Int))): Option ((List Int)):=
 Z (jt J) λr1=>some r1
noncomputable def eG (J:bo)(p1:U): Option ((List Int)):=
 Z (ek p1.Left) λb=>Z (lx ([([J.bE]:List Int),b,([(ah (J.state+p1.State))]:List Int),p1.ak,([J.bE]:List Int)]:List (List Int))) λa=>some a
noncomputable def jN (J:(List Int)): Option ((List Int)×Int):=
 (cond (decide (400<(J.length:Int))) (some (([]:(List Int)),5)) (some (J,0)))
noncomputable def gj (J:Int)(p1:bo): Option (Bool):=
 (cond (decide (p1.state<=J)) (some (decide (J<p1.bE))) (some false))
noncomputable def gJ (J:(List Int))(p1:(Int->Option Bool))(s1:Int): Option ((Int) ⊕ Out (Int) Int):=
 (cond (decide (s1<(J.length:Int))) (Z (idx J s1) λa=>Z (p1 a) λb=>(cond b (some (.inr (.ret s1))) (some (.inl (ah (s1+1)))))) (some (.inr (.bf s1))))
noncomputable def dz (J:(List Int))(p1:(Int->Option Bool)): Option (Int):=
 Z (run (gJ J p1) 0) (Out.elim (λ(s1:Int)=>some (-1)) (λ(r:Int)=>some r))
noncomputable def gl (J:(List Int))(p1:(List Int))(s2:Int): Option ((Int) ⊕ Out (Int) Bool):=
 (cond (decide (s2<(J.length:Int))) (Z (idx J s2) λa=>Z (idx p1 s2) λb=>(cond (decide (a≠b)) (some (.inr (.ret false))) (some (.inl (ah (s2+1)))))) (some (.inr (.bf s2))))
noncomputable def gZ (J:(List Int))(p1:(List Int)): Option (Bool):=
 (cond (decide ((J.length:Int)≠(p1.length:Int))) (some false) (Z (run (gl J p1) 0) (Out.elim (λ(s2:Int)=>some true) (λ(r:Bool)=>some r))))
noncomputable def mH (J:(List Int))(p1:(List Int)): Option (Bool):=
 (cond (decide ((p1.length:Int)<=(J.length:Int))) (Z (jV J 0 (p1.length:Int)) λz2=>Z (gZ z2 p1) λa=>some a) (some false))
noncomputable def iZ (J:(List Int))(p1:Int)(p2:Int)(b:(List Int)): Option ((List Int)):=
 Z (jV J 0 p1) λc=>Z (jV J (ah (p1+p2)) (J.length:Int)) λz4=>Z (lx ([c,b,z4]:List (List Int))) λa=>some a
noncomputable def eY (J:bo)(p1:(List V))(p2:(List Int))(b:Int)(s5:Int): Option ((Int) ⊕ Out (Int) (iN×Bool)):=
 (cond (decide (s5<(p1.length:Int))) (Z (idx p1 s5) λc=>Z (dz c.dS (λh=>gj h J)) λa=>Z ((cond (decide (0<=(ah (b-a)))) (Z (jV p2 (ah (b-a)) (p2.length:Int)) λd=>Z (mH d c.dS) λe=>some (.bf e)) (some (.bf false))):Option (Out (Bool) (iN×Bool))) (Out.elim (λ(f:Bool)=>(cond f (Z (iZ p2 (ah (b-a)) (c.dS.length:Int) c.To) λg=>some (.inr (.ret ((⟨s5,(ah (b-a)),g⟩:iN),true)))) (some (.inl (ah (s5+1)))))) (λ(r:iN×Bool)=>some (.inr (.ret r))))) (some (.inr (.bf s5))))
noncomputable def fN (J:bo)(p1:(List V))(p2:(List Int)): Option (iN×Bool):=
 Z (dz p2 (λa=>gj a J)) λb=>Z (run (eY J p1 p2 b) 0) (Out.elim (λ(s5:Int)=>some ((⟨0,0,([]:(List Int))⟩:iN),false)) (λ(r:iN×Bool)=>some r))
noncomputable def ig (J:Int)(p1:bo): Option (Bool):=
 some (decide (p1.state<=J))
noncomputable def mO (s1:(List Int)): Option (((List Int)) ⊕ Out ((List Int)) (List Int)):=
 (cond (decide (0<(s1.length:Int))) (Z (idx s1 (ah ((s1.length:Int)-1))) λa=>(cond (decide (a=0)) (Z (jV s1 0 (ah ((s1.length:Int)-1))) λz9=>some (.inl z9)) (some (.inr (.bf s1))))) (some (.inr (.bf s1))))
noncomputable def gA (J:(List Int)): Option ((List Int)):=
 Z (run (mO) J) (Out.elim (λ(s1:(List Int))=>some s1) (λ(r:(List Int))=>some r))
noncomputable def fg (J:bo)(p1:(List Int)): Option (U×Bool):=
 Z ((cond (decide ((ah ((p1.length:Int)-1))<2)) (some (.ret ((⟨0,([]:(List Int)),([]:(List Int))⟩:U),false))) (Z (idx p1 0) λn=>(cond (decide (n≠J.bE)) (some (.ret ((⟨0,([]:(List Int)),([]:(List Int))⟩:U),false))) (Z (idx p1 (ah ((p1.length:Int)-1))) λc=>(cond (decide (c≠J.bE)) (some (.ret ((⟨0,([]:(List Int)),([]:(List Int))⟩:U),false))) (some (.bf ()))))))):Option (Out (Unit) (U×Bool))) (Out.elim (λ(q:Unit)=>Z (jV p1 1 (ah ((p1.length:Int)-1))) λa=>Z (dz a (λo=>ig o J)) λb=>Z ((cond (decide (b<0)) (some (.ret ((⟨0,([]:(List Int)),([]:(List Int))⟩:U),false))) (Z (idx a b) λd=>(cond (decide (J.bE<=d)) (some (.ret ((⟨0,([]:(List Int)),([]:(List Int))⟩:U),false))) (Z (jV a (ah (b+1)) (a.length:Int)) λe=>Z (iB e 0 (ah (J.state-1))) λf=>(cond (!f) (some (.ret ((⟨0,([]:(List Int)),([]:(List Int))⟩:U),false))) (some (.bf ()))))))):Option (Out (Unit) (U×Bool))) (Out.elim (λ(p:Unit)=>Z (jV a 0 b) λg=>Z (jV a (ah (b+1)) (a.length:Int)) λh=>Z (ek g) λi=>Z (cE h) λj=>Z (idx a b) λk=>Z (gA i) λl=>Z (gA j) λm=>some ((⟨(ah (k-J.state)),l,m⟩:U),true)) (λ(r:U×Bool)=>some r))) (λ(r:U×Bool)=>some r))
noncomputable def lq (J:U): Option (Bool):=
 (cond (decide ((J.Left.length:Int)<=200)) (some (decide ((J.ak.length:Int)<=200))) (some false))
noncomputable def rW (J:iN): Option (Unit):=
 some ()
noncomputable def ct (p2:Int)(c:bo×(List V)×Int)(a:(List Int)×Int): Option (((List Int)×Int) ⊕ Out ((List Int)×Int) (Option (U×Int×Bool×Int))):=
 Z (fN c.1 c.2.1 a.1) λb=>Z ((cond (!b.2) (some (.ret (Z (fg c.1 a.1) λd=>(cond (!d.2) (some ((⟨0,([]:(List Int)),([]:(List Int))⟩:U),0,false,5)) (Z (lq d.1) λf=>(cond (!f) (some ((⟨0,([]:(List Int)),([]:(List Int))⟩:U),0,false,5)) (some (d.1,a.2,(!b.2),0)))))))) (cond (decide (a.2=p2)) (some (.ret (Z (fg c.1 a.1) λe=>(cond (!e.2) (some ((⟨0,([]:(List Int)),([]:(List Int))⟩:U),0,false,5)) (Z (lq e.1) λg=>(cond (!g) (some ((⟨0,([]:(List Int)),([]:(List Int))⟩:U),0,false,5)) (some (e.1,a.2,(!b.2),0)))))))) (some (.bf ())))):Option (Out (Unit) (Option (U×Int×Bool×Int)))) (Out.elim (λ(h:Unit)=>(cond (decide (400<(b.1.word.length:Int))) (some (.inr (.ret (some ((⟨0,([]:(List Int)),([]:(List Int))⟩:U),0,false,5))))) (Z (rW b.1) λi=>some (.inl (b.1.word,(ah (a.2+1))))))) (λ(r:Option (U×Int×Bool×Int))=>some (.inr (.ret r))))
noncomputable def iv (J:O)(p1:U)(p2:Int): Option (U×Int×Bool×Int):=
 Z (dJ J p1) λd=>(cond (!d) (some ((⟨0,([]:(List Int)),([]:(List Int))⟩:U),0,false,1)) (Z (ie p2) λe=>(cond (!e) (some ((⟨0,([]:(List Int)),([]:(List Int))⟩:U),0,false,2)) (Z (jf J) λa=>(cond (decide (a.2.2≠0)) (some ((⟨0,([]:(List Int)),([]:(List Int))⟩:U),0,false,a.2.2)) (Z (eG a.1 p1) λc=>Z (jN c) λb=>(cond (decide (b.2≠0)) (some ((⟨0,([]:(List Int)),([]:(List Int))⟩:U),0,false,b.2)) (Z (run (ct p2 a) (b.1,0)) (Out.elim (λ(f:(List Int)×Int)=>none) (λ(r:Option (U×Int×Bool×Int))=>r))))))))))
noncomputable def lZ (J:O)(p1:U)(p2:Int): Option (U×Int×Bool×Int):=
 Z (iv J p1 p2) λa=>some (a.1,a.2.1,a.2.2.1,a.2.2.2)
noncomputable def fY (J:O)(p1:U)(p2:Int)(a:(List Int)×Int): Option (((List Int)×Int) ⊕ Out ((List Int)×Int) ((List Int)×Int)):=
 (cond (decide (a.2<(([(rG.mk 37),(rG.mk 38),(rG.mk 39)]:List rG).length:Int))) (Z (idx ([(rG.mk 37),(rG.mk 38),(rG.mk 39)]:List rG) a.2) λb=>(cond (decide (b.id=37)) (Z (lC J p1 p2) λc=>(cond (decide (c.2.2.2≠0)) (Z (app a.1 ([(-1)]:List Int)) λf=>some (.inl (f,(ah (a.2+1))))) (cond (!c.2.2.1) (Z (app a.1 ([(-1)]:List Int)) λg=>some (.inl (g,(ah (a.2+1))))) (Z (app a.1 ([c.2.1]:List Int)) λh=>some (.inl (h,(ah (a.2+1)))))))) (cond (decide (b.id=38)) (Z (iv J p1 p2) λd=>(cond (decide (d.2.2.2≠0)) (Z (app a.1 ([(-1)]:List Int)) λi=>some (.inl (i,(ah (a.2+1))))) (cond (!d.2.2.1) (Z (app a.1 ([(-1)]:List Int)) λz49=>some (.inl (z49,(ah (a.2+1))))) (Z (app a.1 ([d.2.1]:List Int)) λz53=>some (.inl (z53,(ah (a.2+1)))))))) (cond (decide (b.id=39)) (Z (lZ J p1 p2) λe=>(cond (decide (e.2.2.2≠0)) (Z (app a.1 ([(-1)]:List Int)) λj=>some (.inl (j,(ah (a.2+1))))) (cond (!e.2.2.1) (Z (app a.1 ([(-1)]:List Int)) λk=>some (.inl (k,(ah (a.2+1))))) (Z (app a.1 ([e.2.1]:List Int)) λz72=>some (.inl (z72,(ah (a.2+1)))))))) none)))) (some (.inr (.bf (a.1,a.2)))))
noncomputable def pH (J:O)(p1:U)(p2:Int): Option ((List Int)×Int):=
 Z (mB J p1 p2) λa=>(cond (decide (a.2.2.2≠0)) (some (([]:(List Int)),a.2.2.2)) (Z ((cond (!a.2.2.1) (some (.bf (-1))) (some (.bf a.2.1))):Option (Out (Int) ((List Int)×Int))) (Out.elim (λ(c:Int)=>Z (run (fY J p1 p2) (([c]:List Int),0)) (Out.elim (λ(b:(List Int)×Int)=>some (b.1,0)) (λ(r:(List Int)×Int)=>some r))) (λ(r:(List Int)×Int)=>some r))))
noncomputable def o0 (J:O)(p1:U)(p2:Int): Option (Int):=
 Z (dJ J p1) λa=>(cond (!a) (some 1) (Z (ie p2) λb=>(cond (!b) (some 2) (some 0))))
noncomputable def ov (J:O)(p1:U): Option (Int×Int):=
 Z (jT p1.Left J.I) λc=>Z (jT p1.ak J.I) λa=>Z ((cond (decide (c.2≠0)) (some (.ret (0,5))) (cond (decide (a.2≠0)) (some (.ret (0,5))) (some (.bf ())))):Option (Out (Unit) (Int×Int))) (Out.elim (λ(i:Unit)=>Z (nz J.I) λe=>Z (nz J.I) λf=>Z (idx J.aB (ah ((ah (p1.State*J.I))+(Int.tmod a.1 J.I)))) λb=>Z (fw b) λd=>(cond (!d) (some ((ah ((ah ((ah ((ah ((ah ((ah ((ah (J.I+1))*(ah (Int.tdiv a.1 J.I))))+(Int.tmod a.1 J.I)))+1))+(ah ((ah (J.I+1))*(ah (Int.tdiv a.1 J.I))))))+1))+(Int.tmod a.1 J.I))),0)) (cond (decide (b.Move=1)) (some ((ah ((ah ((ah ((ah ((ah ((ah ((ah ((ah ((ah ((ah ((ah (J.I+1))*(ah (Int.tdiv a.1 J.I))))+(Int.tmod a.1 J.I)))+1))+(ah (2*(ah (Int.tdiv a.1 J.I))))))+1))+(ah ((ah (J.I+1))*c.1))))+1))+(ah ((ah (2*J.I))*c.1))))+1))+b.Write)),0)) (Z (nz J.I) λg=>Z (nz J.I) λh=>some ((ah ((ah ((ah ((ah ((ah ((ah ((ah ((ah ((ah ((ah ((ah ((ah ((ah ((ah ((ah ((ah ((ah (J.I+1))*(ah (Int.tdiv a.1 J.I))))+(Int.tmod a.1 J.I)))+1))+(ah ((ah (J.I+1))*(ah (Int.tdiv a.1 J.I))))))+1))+b.Write))+(ah ((ah (J.I+1))*(ah (Int.tdiv c.1 J.I))))))+(Int.tmod c.1 J.I)))+1))+(ah (2*(ah (Int.tdiv c.1 J.I))))))+1))+(ah ((ah (J.I+1))*(ah ((ah ((ah (Int.tdiv a.1 J.I))*J.I))+b.Write))))))+1))+(ah ((ah (2*J.I))*(ah ((ah ((ah (Int.tdiv a.1 J.I))*J.I))+b.Write))))))+1))+(Int.tmod c.1 J.I))),0))))) (λ(r:Int×Int)=>some r))
noncomputable def kY (J:qc)(p1:aQ): Option ((Unit)×(Int×Bool)):=
 Z (cZ p1) λb=>Z (ov (⟨p1.cp,p1.cL,p1.gY⟩:O) b) λa=>(cond J.full (some ((),((ah (J.sum+a.1)),true))) (cond (decide (a.2≠0)) (some ((),((ah (J.sum+a.1)),true))) (some ((),((ah (J.sum+a.1)),(decide (1000000000000<(ah (J.sum+a.1)))))))))
noncomputable def gu (J:qc)(p1:aQ)(p2:Int): Option ((Unit)×(Int×Bool)):=
 Z (bU p1) λr1=>(cond r1 (Z (kY J p1) λa=>some ((),(a.2.1,a.2.2))) (some ((),(J.sum,J.full))))
noncomputable def lW (J:qc)(p1:aQ)(p2:Int)(b:ai): Option ((Unit)×(Int×Bool)):=
 Z (kY J p1) λa=>some ((),(a.2.1,a.2.2))
noncomputable def jS (p2:Int)(b:(Int×Int×(List ai)×Int×(List Int)×(List Int)))(a:Int×Bool×Int×(List Int)×(List Int)×Int×Int): Option ((Int×Bool×Int×(List Int)×(List Int)×Int×Int) ⊕ Out (Int×Bool×Int×(List Int)×(List Int)×Int×Int) (Option (Int×Bool×Int))):=
 Z (gu (⟨a.1,a.2.1⟩:qc) (⟨b.1,b.2.1,b.2.2.1,a.2.2.1,a.2.2.2.1,a.2.2.2.2.1⟩:aQ) a.2.2.2.2.2.1) λc=>Z ((cond (decide (a.2.2.2.2.2.2=p2)) (Z (bU (⟨b.1,b.2.1,b.2.2.1,a.2.2.1,a.2.2.2.1,a.2.2.2.2.1⟩:aQ)) λg=>some (.ret (cond c.2.2 (some (0,false,5)) (some (c.2.1,g,0))))) (Z (bU (⟨b.1,b.2.1,b.2.2.1,a.2.2.1,a.2.2.2.1,a.2.2.2.2.1⟩:aQ)) λh=>(cond h (Z (bU (⟨b.1,b.2.1,b.2.2.1,a.2.2.1,a.2.2.2.1,a.2.2.2.2.1⟩:aQ)) λi=>some (.ret (cond c.2.2 (some (0,false,5)) (some (c.2.1,i,0))))) (some (.bf ()))))):Option (Out (Unit) (Option (Int×Bool×Int)))) (Out.elim (λ(j:Unit)=>Z (ji (⟨b.1,b.2.1,b.2.2.1,a.2.2.1,a.2.2.2.1,a.2.2.2.2.1⟩:aQ)) λe=>Z (lW (⟨c.2.1,c.2.2⟩:qc) (⟨b.1,b.2.1,b.2.2.1,a.2.2.1,a.2.2.2.1,a.2.2.2.2.1⟩:aQ) a.2.2.2.2.2.1 e) λf=>Z (dk (⟨b.1,b.2.1,b.2.2.1,a.2.2.1,a.2.2.2.1,a.2.2.2.2.1⟩:aQ)) λd=>(cond (!d.1) (some (.inr (.ret (some (0,false,5))))) (some (.inl (f.2.1,f.2.2,d.2.1,d.2.2.1,d.2.2.2,(ah (a.2.2.2.2.2.1+e.Move)),(ah (a.2.2.2.2.2.2+1))))))) (λ(r:Option (Int×Bool×Int))=>some (.inr (.ret r))))
noncomputable def rC (J:O)(p1:U)(p2:Int): Option (Int×Bool×Int):=
 Z (o0 J p1 p2) λb=>(cond (decide (b≠0)) (some (0,false,b)) (Z (dU J) λc=>(cond (decide (c.2.2≠0)) (some (0,false,c.2.2)) (Z (iW J p1) λa=>Z (run (jS p2 a) (0,false,a.2.2.2.1,a.2.2.2.2.1,a.2.2.2.2.2,0,0)) (Out.elim (λ(d:Int×Bool×Int×(List Int)×(List Int)×Int×Int)=>none) (λ(r:Option (Int×Bool×Int))=>r))))))
noncomputable def mw (J:O): Option (bo×Int×Int):=
 Z (kR J) λa=>(cond (decide (a.2≠0)) (some ((⟨0,0⟩:bo),0,5)) (cond (decide (5<(ah (a.1.bE+1)))) (some ((⟨0,0⟩:bo),0,5)) (some (a.1,(ah (a.1.bE+1)),0))))
noncomputable def lv (J:O)(a:(List Int)×Int): Option (((List Int)×Int) ⊕ Out ((List Int)×Int) (List Int)):=
 (cond (decide (a.2<(J.aB.length:Int))) (Z (idx J.aB a.2) λd=>Z (fw d) λb=>(cond (!b) (Z (app a.1 ([a.2]:List Int)) λc=>some (.inl (c,(ah (a.2+1))))) (some (.inl (a.1,(ah (a.2+1))))))) (some (.inr (.bf (a.1,a.2)))))
noncomputable def pI (J:O): Option ((List Int)):=
 Z (run (lv J) (([]:List Int),0)) (Out.elim (λ(a:(List Int)×Int)=>some a.1) (λ(r:(List Int))=>some r))
noncomputable def j5 (J:O)(c:bo×Int×Int)(d:(List Int))(a:(List V)×Int): Option (((List V)×Int) ⊕ Out ((List V)×Int) ((List V)×Int×Int)):=
 (cond (decide (a.2<(d.length:Int))) (Z (idx d a.2) λb=>Z (nz J.I) λf=>Z (nz J.I) λg=>Z (app a.1 ([(⟨([(ah (c.1.state+(ah (Int.tdiv b J.I)))),(Int.tmod b J.I)]:List Int),([c.2.1]:List Int)⟩:V)]:List V)) λe=>(cond (decide ((Int.tmod b J.I)=0)) (Z (app e ([(⟨([(ah (c.1.state+(ah (Int.tdiv b J.I)))),c.1.bE]:List Int),([c.2.1,c.1.bE]:List Int)⟩:V)]:List V)) λz37=>some (.inl (z37,(ah (a.2+1))))) (some (.inl (e,(ah (a.2+1))))))) (some (.inr (.bf (a.1,a.2)))))
noncomputable def jW (J:O)(b:bo×Int×Int)(a:(List V)×Int): Option (((List V)×Int) ⊕ Out ((List V)×Int) ((List V)×Int×Int)):=
 (cond (decide (a.2<J.I)) (Z (app a.1 ([(⟨([b.2.1,a.2]:List Int),([b.2.1]:List Int)⟩:V)]:List V)) λc=>Z (app c ([(⟨([a.2,b.2.1]:List Int),([b.2.1]:List Int)⟩:V)]:List V)) λd=>some (.inl (d,(ah (a.2+1))))) (some (.inr (.bf (a.1,a.2)))))
noncomputable def lD (J:O): Option ((List V)×Int×Int):=
 Z (mw J) λa=>(cond (decide (a.2.2≠0)) (some (([]:(List V)),0,a.2.2)) (Z (fV a.1 J) λe=>Z (pI J) λc=>Z (run (j5 J a c) (e,0)) (Out.elim (λ(d:(List V)×Int)=>Z (run (jW J a) (d.1,0)) (Out.elim (λ(b:(List V)×Int)=>(cond (decide (60<(b.1.length:Int))) (some (([]:(List V)),0,5)) (some (b.1,(e.length:Int),0)))) (λ(r:(List V)×Int×Int)=>some r))) (λ(r:(List V)×Int×Int)=>some r))))
noncomputable def nQ (J:O)(p1:U): Option ((List Int)×(List Int)×Int):=
 Z (mw J) λb=>(cond (decide (b.2.2≠0)) (some (([]:(List Int)),([]:(List Int)),b.2.2)) (Z (eG b.1 p1) λc=>Z (jN c) λa=>(cond (decide (a.2≠0)) (some (([]:(List Int)),([]:(List Int)),a.2)) (some (a.1,([b.1.bE,b.2.1,b.1.bE]:List Int),0)))))
noncomputable def iI (J:(List Int))(p1:Int)(s1:Int): Option ((Int) ⊕ Out (Int) Int):=
 (cond (decide (s1<(J.length:Int))) (Z (idx J s1) λa=>(cond (decide (p1=a)) (some (.inr (.ret s1))) (some (.inl (ah (s1+1)))))) (some (.inr (.bf s1))))
noncomputable def bY (J:(List Int))(p1:Int): Option (Int):=
 Z (run (iI J p1) 0) (Out.elim (λ(s1:Int)=>some (-1)) (λ(r:Int)=>some r))
noncomputable def gh (J:(List V))(p2:(List Int))(o:Int)(d:Int)(b:Int): Option ((Int) ⊕ Out (Int) (iN×Bool)):=
 (cond (decide (b<(J.length:Int))) (Z (idx J b) λc=>(cond (decide (d<0)) (Z (idx c.dS 0) λe=>Z (bY p2 e) λa=>Z ((cond (decide (0<=a)) (Z (jV p2 a (p2.length:Int)) λf=>Z (mH f c.dS) λg=>some (.bf g)) (some (.bf false))):Option (Out (Bool) (iN×Bool))) (Out.elim (λ(h:Bool)=>(cond h (Z (iZ p2 a (c.dS.length:Int) c.To) λi=>some (.inr (.ret ((⟨b,a,i⟩:iN),true)))) (some (.inl (ah (b+1)))))) (λ(r:iN×Bool)=>some (.inr (.ret r))))) (Z (idx c.dS 0) λj=>(cond (decide (j≠o)) (some (.inl (ah (b+1)))) (Z ((cond (decide (0<=d)) (Z (jV p2 d (p2.length:Int)) λk=>Z (mH k c.dS) λl=>some (.bf l)) (some (.bf false))):Option (Out (Bool) (iN×Bool))) (Out.elim (λ(m:Bool)=>(cond m (Z (iZ p2 d (c.dS.length:Int) c.To) λn=>some (.inr (.ret ((⟨b,d,n⟩:iN),true)))) (some (.inl (ah (b+1)))))) (λ(r:iN×Bool)=>some (.inr (.ret r))))))))) (some (.inr (.bf b))))
noncomputable def jP (J:(List V))(p2:(List Int))(i:Int)(c:Int)(a:Int): Option ((Int) ⊕ Out (Int) (iN×Bool)):=
 (cond (decide (a<(J.length:Int))) (cond (decide (0<c)) (Z (idx J a) λb=>Z (Z (idx b.dS 1) λd=>(cond (decide (d=i)) (Z (idx b.dS 0) λe=>Z (idx p2 (ah (c-1))) λf=>some (.bf (decide (e=f)))) (some (.bf false))):Option (Out (Bool) (iN×Bool))) (Out.elim (λ(g:Bool)=>(cond g (Z (iZ p2 (ah (c-1)) 2 b.To) λh=>some (.inr (.ret ((⟨a,(ah (c-1)),h⟩:iN),true)))) (some (.inl (ah (a+1)))))) (λ(r:iN×Bool)=>some (.inr (.ret r))))) (some (.inr (.bf a)))) (some (.inr (.bf a))))
noncomputable def iO (J:(List V))(p1:Int)(p2:(List Int))(a:Int): Option (iN×Bool):=
 Z (bY p2 a) λb=>Z (run (gh J p2 a b) p1) (Out.elim (λ(d:Int)=>Z (run (jP J p2 a b) p1) (Out.elim (λ(c:Int)=>some ((⟨0,0,([]:(List Int))⟩:iN),false)) (λ(r:iN×Bool)=>some r))) (λ(r:iN×Bool)=>some r))
noncomputable def lK (J:(List (List Int))): Option ((List (List Int))×Int):=
 (cond (decide (100<(J.length:Int))) (some (([]:(List (List Int))),5)) (some (J,0)))
noncomputable def c8 (f:(List V)×Int×Int)(d:bo×Int×Int)(b:(List (List Int))×(List Int)): Option (((List (List Int))×(List Int)) ⊕ Out ((List (List Int))×(List Int)) ((List (List Int))×Int)):=
 Z (iO f.1 f.2.1 b.2 d.2.1) λa=>(cond (!a.2) (Z (lK b.1) λc=>some (.inr (.ret (c.1,c.2)))) (Z (app b.1 ([([a.1.im,a.1.at_]:List Int)]:List (List Int))) λe=>some (.inl (e,a.1.word))))
noncomputable def c7 (p2:Int)(j:(List V)×Int×Int)(c:bo×Int×Int)(d:(List V))(a:(List Int)×(List (List Int))×Int): Option (((List Int)×(List (List Int))×Int) ⊕ Out ((List Int)×(List (List Int))×Int) (Option ((List (List Int))×Int))):=
 Z (fN c.1 d a.1) λb=>Z ((cond (!b.2) (some (.ret (Z (fg c.1 a.1) λe=>Z (lq e.1) λf=>(cond (!f) (some (([]:(List (List Int))),5)) (Z (run (c8 j c) (a.2.1,a.1)) (Out.elim (λ(k:(List (List Int))×(List Int))=>none) (λ(r:(List (List Int))×Int)=>some r))))))) (cond (decide (a.2.2=p2)) (some (.ret (Z (fg c.1 a.1) λg=>Z (lq g.1) λh=>(cond (!h) (some (([]:(List (List Int))),5)) (some (([]:(List (List Int))),3)))))) (some (.bf ())))):Option (Out (Unit) (Option ((List (List Int))×Int)))) (Out.elim (λ(l:Unit)=>(cond (decide (400<(b.1.word.length:Int))) (some (.inr (.ret (some (([]:(List (List Int))),5))))) (Z (app a.2.1 ([([b.1.im,b.1.at_]:List Int)]:List (List Int))) λi=>some (.inl (b.1.word,i,(ah (a.2.2+1))))))) (λ(r:Option ((List (List Int))×Int))=>some (.inr (.ret r))))
noncomputable def l9 (J:O)(p1:U)(p2:Int): Option ((List (List Int))×Int):=
 Z (o0 J p1 p2) λe=>(cond (decide (e≠0)) (some (([]:(List (List Int))),e)) (Z (lD J) λb=>(cond (decide (b.2.2≠0)) (some (([]:(List (List Int))),b.2.2)) (Z (nQ J p1) λa=>(cond (decide (a.2.2≠0)) (some (([]:(List (List Int))),a.2.2)) (Z (mw J) λc=>Z (jV b.1 0 b.2.1) λd=>Z (run (c7 p2 b c d) (a.1,([]:List (List Int)),0)) (Out.elim (λ(f:(List Int)×(List (List Int))×Int)=>none) (λ(r:Option ((List (List Int))×Int))=>r))))))))
noncomputable def nN (J:(List V))(p1:(List Int))(p2:Int)(c:Int): Option ((List Int)×Int):=
 Z (Z (kI J) λh=>Z (dM p2 0 (ah (h-1))) λi=>(cond (!i) (some (.ret (([]:(List Int)),2))) (Z (eW p1) λj=>Z (dM c 0 j) λd=>(cond (!d) (some (.ret (([]:(List Int)),2))) (some (.bf ()))))):Option (Out (Unit) ((List Int)×Int))) (Out.elim (λ(s1:Unit)=>Z (idx J p2) λa=>Z (jV p1 c (p1.length:Int)) λe=>Z (mH e a.dS) λf=>(cond (!f) (some (([]:(List Int)),3)) (Z (iZ p1 c (a.dS.length:Int) a.To) λg=>Z (jN g) λb=>some (b.1,b.2)))) (λ(r:(List Int)×Int)=>some r))
noncomputable def mM (J:(List V))(p2:(List (List Int)))(s5:(List Int)×Int): Option (((List Int)×Int) ⊕ Out ((List Int)×Int) ((List Int)×Int)):=
 (cond (decide (s5.2<(p2.length:Int))) (Z (idx p2 s5.2) λb=>(cond (decide ((b.length:Int)≠2)) (some (.inr (.ret (([]:(List Int)),7)))) (Z (idx b 0) λc=>Z (idx b 1) λd=>Z (nN J s5.1 c d) λa=>(cond (decide (a.2≠0)) (some (.inr (.ret (([]:(List Int)),7)))) (some (.inl (a.1,(ah (s5.2+1))))))))) (some (.inr (.bf (s5.1,s5.2)))))
noncomputable def rD (J:(List V))(p1:(List Int))(p2:(List (List Int))): Option ((List Int)×Int):=
 (cond (decide (100<(p2.length:Int))) (some (([]:(List Int)),2)) (Z (cE p1) λa=>Z (run (mM J p2) (a,0)) (Out.elim (λ(s5:(List Int)×Int)=>some (s5.1,0)) (λ(r:(List Int)×Int)=>some r))))
noncomputable def gW (p2:(List (List Int)))(b:(List V)×Int×Int)(a:Int×Int): Option ((Int×Int) ⊕ Out (Int×Int) (Int×Int)):=
 (cond (decide (a.2<(p2.length:Int))) (Z (idx p2 a.2) λc=>Z (idx c 0) λd=>(cond (decide (d<b.2.1)) (some (.inl ((ah (a.1+1)),(ah (a.2+1))))) (some (.inl (a.1,(ah (a.2+1))))))) (some (.inr (.bf (a.1,a.2)))))
noncomputable def je (J:O)(p1:U)(p2:(List (List Int))): Option (Int×Int):=
 Z (dJ J p1) λf=>(cond (!f) (some (0,1)) (Z (nQ J p1) λc=>(cond (decide (c.2.2≠0)) (some (0,c.2.2)) (Z (lD J) λa=>(cond (decide (a.2.2≠0)) (some (0,a.2.2)) (Z (rD a.1 c.1 p2) λb=>(cond (decide (b.2≠0)) (some (0,b.2)) (Z (gZ b.1 c.2.1) λd=>(cond (!d) (some (0,6)) (Z (run (gW p2 a) (0,0)) (Out.elim (λ(e:Int×Int)=>some (e.1,0)) (λ(r:Int×Int)=>some r))))))))))))
noncomputable def lV (J:O)(p1:U): Option (U×Int):=
 Z (dJ J p1) λe=>(cond (!e) (some ((⟨0,([]:(List Int)),([]:(List Int))⟩:U),1)) (Z (iW J p1) λa=>Z (bU (⟨a.1,a.2.1,a.2.2.1,a.2.2.2.1,a.2.2.2.2.1,a.2.2.2.2.2⟩:aQ)) λc=>(cond c (some ((⟨0,([]:(List Int)),([]:(List Int))⟩:U),6)) (Z (dk (⟨a.1,a.2.1,a.2.2.1,a.2.2.2.1,a.2.2.2.2.1,a.2.2.2.2.2⟩:aQ)) λb=>(cond (!b.1) (some ((⟨0,([]:(List Int)),([]:(List Int))⟩:U),5)) (Z (cZ (⟨a.1,a.2.1,a.2.2.1,b.2.1,b.2.2.1,b.2.2.2⟩:aQ)) λd=>some (d,0)))))))
noncomputable def lI (J:Bool)(p1:Int): Option (Int):=
 (cond (!J) (some 1) (Z (dM p1 0 599) λa=>(cond (!a) (some 2) (some 0))))
noncomputable def kK (J:(List Int))(s2:Bool×(List (Ik .u8))×Int): Option ((Bool×(List (Ik .u8))×Int) ⊕ Out (Bool×(List (Ik .u8))×Int) ByteArray):=
 (cond (decide (s2.2.2<(J.length:Int))) (Z (idx J s2.2.2) λa=>(cond s2.1 (cond (decide ((wk .u32 (wk .i32 (48+(wk .i32 a))))<=127)) (Z (app s2.2.1 ([(⟨(wk .u8 (wk .i32 (48+(wk .i32 a))))⟩:Ik .u8)]:List (Ik .u8))) λb=>some (.inl (false,b,(ah (s2.2.2+1))))) none) (cond (decide ((wk .u32 (wk .i32 (48+(wk .i32 a))))<=127)) (Z (app s2.2.1 ([(⟨(wk .u8 (wk .i32 (48+(wk .i32 a))))⟩:Ik .u8)]:List (Ik .u8))) λz21=>some (.inl (s2.1,z21,(ah (s2.2.2+1))))) none))) (some (.inr (.bf (s2.1,s2.2.1,s2.2.2)))))
noncomputable def mR (J:(List Int)): Option (ByteArray):=
 Z (run (kK J) (true,([]:(List (Ik .u8))),0)) (Out.elim (λ(s2:Bool×(List (Ik .u8))×Int)=>some (strOf s2.2.1)) (λ(r:ByteArray)=>some r))
noncomputable def jR (J:U)(p1:Int): Option (ByteArray):=
 (cond (decide (p1≠0)) (some (⟨#[]⟩:ByteArray)) (Z (ek J.Left) λf=>Z (mR f) λg=>Z (cat g (⟨#[40]⟩:ByteArray)) λa=>Z (iP J.State) λb=>Z (cat a b) λc=>Z (cat c (⟨#[41]⟩:ByteArray)) λd=>Z (mR J.ak) λe=>Z (cat d e) λz21=>some z21))
noncomputable def kg (J:U): Option (ByteArray):=
 Z (jR J 0) λa=>some a
noncomputable def rT (p2:Int)(b:(Int×Int×(List ai)×Int×(List Int)×(List Int)))(a:Int×(List Int)×(List Int)×Int×(List ByteArray)): Option ((Int×(List Int)×(List Int)×Int×(List ByteArray)) ⊕ Out (Int×(List Int)×(List Int)×Int×(List ByteArray)) (Option ((List ByteArray)×Int))):=
 Z (cZ (⟨b.1,b.2.1,b.2.2.1,a.1,a.2.1,a.2.2.1⟩:aQ)) λe=>Z (kg e) λf=>Z (app a.2.2.2.2 ([f]:List ByteArray)) λd=>(cond (decide (a.2.2.2.1<p2)) (Z (bU (⟨b.1,b.2.1,b.2.2.1,a.1,a.2.1,a.2.2.1⟩:aQ)) λg=>(cond (!g) (Z (dk (⟨b.1,b.2.1,b.2.2.1,a.1,a.2.1,a.2.2.1⟩:aQ)) λc=>(cond (!c.1) (some (.inr (.ret (some (([]:(List ByteArray)),5))))) (some (.inl (c.2.1,c.2.2.1,c.2.2.2,(ah (a.2.2.2.1+1)),d))))) (some (.inr (.bf (a.1,a.2.1,a.2.2.1,a.2.2.2.1,d)))))) (some (.inr (.bf (a.1,a.2.1,a.2.2.1,a.2.2.2.1,d)))))
noncomputable def ly (J:O)(p1:U)(p2:Int): Option ((List ByteArray)×Int):=
 Z (dJ J p1) λd=>Z (lI d p2) λc=>(cond (decide (c≠0)) (some (([]:(List ByteArray)),c)) (Z (iW J p1) λa=>Z (run (rT p2 a) (a.2.2.2.1,a.2.2.2.2.1,a.2.2.2.2.2,0,([]:List ByteArray))) (Out.elim (λ(b:Int×(List Int)×(List Int)×Int×(List ByteArray))=>some (b.2.2.2.2,0)) (λ(r:Option ((List ByteArray)×Int))=>r))))
noncomputable def iL (J:Int)(p1:Int)(p2:Int)(a:Int)(b:C): Option (bK):=
 some (⟨a,J,p1,b.q,p2,false⟩:bK)
noncomputable def kP (J:O)(p1:Int)(p2:Int)(b:Int): Option (bK):=
 Z (idx J.aB (ah ((ah (p1*J.I))+b))) λa=>Z (fw a) λc=>(cond (!c) (some (⟨0,0,0,0,0,true⟩:bK)) (cond ((decide (a.Move=1))==(decide (p2=0))) (some (⟨a.Write,1,1,a.Next,p2,false⟩:bK)) (cond (decide (p2=0)) (some (⟨a.Write,(-1),2,a.Next,0,false⟩:bK)) (some (⟨a.Write,(-1),4,a.Next,0,false⟩:bK)))))
noncomputable def oN (J:O)(p1:C)(p2:Int): Option (bK):=
 Z ((cond (decide (p1.kind=0)) (some (.bf (!(decide (p2=J.I))))) (some (.bf false))):Option (Out (Bool) bK)) (Out.elim (λ(s5:Bool)=>(cond s5 (Z (kP J p1.q p1.half p2) λm=>some m) (Z ((cond (decide (p1.kind=1)) (some (.bf (!(decide (p2=J.I))))) (some (.bf false))):Option (Out (Bool) bK)) (Out.elim (λ(a:Bool)=>(cond a (Z (iL 1 0 p1.half p2 p1) λb=>some b) (Z ((cond (decide (p1.kind=2)) (some (.bf (decide (p2=J.I)))) (some (.bf false))):Option (Out (Bool) bK)) (Out.elim (λ(c:Bool)=>(cond c (Z (iL 1 3 0 p2 p1) λd=>some d) (cond (decide (p1.kind=2)) (Z (iL (-1) 0 0 p2 p1) λe=>some e) (Z ((cond (decide (p1.kind=3)) (some (.bf (!(decide (p2=J.I))))) (some (.bf false))):Option (Out (Bool) bK)) (Out.elim (λ(f:Bool)=>(cond f (Z (iL 1 0 1 p2 p1) λg=>some g) (Z ((cond (decide (p1.kind=4)) (some (.bf (!(decide (p2=J.I))))) (some (.bf false))):Option (Out (Bool) bK)) (Out.elim (λ(h:Bool)=>(cond h (Z (iL (-1) 5 0 p2 p1) λi=>some i) (Z ((cond (decide (p1.kind=5)) (some (.bf (decide (p2=J.I)))) (some (.bf false))):Option (Out (Bool) bK)) (Out.elim (λ(j:Bool)=>(cond j (Z (iL 1 0 0 p2 p1) λk=>some k) (cond (decide (p1.kind=5)) (Z (kP J p1.q 1 p2) λl=>some l) (some (⟨0,0,0,0,0,true⟩:bK))))) (λ(r:bK)=>some r))))) (λ(r:bK)=>some r))))) (λ(r:bK)=>some r)))))) (λ(r:bK)=>some r))))) (λ(r:bK)=>some r))))) (λ(r:bK)=>some r))
noncomputable def jZ (J:C)(p1:Int)(p2:O): Option (bK):=
 Z (oN p2 J p1) λa=>some a
noncomputable def dO (J:(List C)): Option (Int):=
 some (J.length:Int)
noncomputable def my (J:(List Int))(p1:Int): Option (Int):=
 (cond (decide ((J.length:Int)<=p1)) (some 0) (Z (idx J p1) λa=>some a))
noncomputable def tC (J:O)(f:(List ai)×(List C)×List (C×Int)×Int)(a:(List ai)×(List C)×List (C×Int)×Int): Option (((List ai)×(List C)×List (C×Int)×Int) ⊕ Out ((List ai)×(List C)×List (C×Int)×Int) (Option (U×Int))):=
 (cond (decide (a.2.2.2<(ah (J.I+1)))) (Z gV λd=>Z (Z (idx a.2.1 f.2.2.2) λg=>Z (jZ g a.2.2.2 J) λb=>(cond (!b.none) (cond (!((fA a.2.2.1 (⟨b.bS,b.iJ,b.ef⟩:C)).isSome)) (Z (dO a.2.1) λe=>Z (app a.2.1 ([(⟨b.bS,b.iJ,b.ef⟩:C)]:List C)) λh=>some (.bf (h,(lY a.2.2.1 (⟨b.bS,b.iJ,b.ef⟩:C) e),b.write,b.move,e))) (some (.bf (a.2.1,a.2.2.1,b.write,b.move,((fA a.2.2.1 (⟨b.bS,b.iJ,b.ef⟩:C)).getD 0))))) (some (.bf (a.2.1,a.2.2.1,d.Write,d.Move,d.Next)))):Option (Out ((List C)×List (C×Int)×Int×Int×Int) (Option (U×Int)))) (Out.elim (λ(c:(List C)×List (C×Int)×Int×Int×Int)=>Z (app a.1 ([(⟨c.2.2.1,c.2.2.2.1,c.2.2.2.2⟩:ai)]:List ai)) λi=>some (.inl (i,c.1,c.2.1,(ah (a.2.2.2+1))))) (λ(r:Option (U×Int))=>some (.inr (.ret r))))) (some (.inr (.bf (a.1,a.2.1,a.2.2.1,a.2.2.2)))))
noncomputable def pw (J:O)(a:(List ai)×(List C)×List (C×Int)×Int): Option (((List ai)×(List C)×List (C×Int)×Int) ⊕ Out ((List ai)×(List C)×List (C×Int)×Int) (Option (U×Int))):=
 (cond (decide (a.2.2.2<(a.2.1.length:Int))) (Z (run (tC J a) (a.1,a.2.1,a.2.2.1,0)) (Out.elim (λ(b:(List ai)×(List C)×List (C×Int)×Int)=>(cond (decide (1000<(b.2.1.length:Int))) (some (.inr (.ret (some ((⟨0,([]:(List Int)),([]:(List Int))⟩:U),5))))) (some (.inl (b.1,b.2.1,b.2.2.1,(ah (a.2.2.2+1))))))) (λ(r:Option (U×Int))=>some (.inr (.ret r))))) (some (.inr (.bf (a.1,a.2.1,a.2.2.1,a.2.2.2)))))
noncomputable def jw (p1:U)(a:(List Int)×Int): Option (((List Int)×Int) ⊕ Out ((List Int)×Int) (U×Int)):=
 (cond (decide (a.2<(if (p1.ak.length:Int)>(p1.Left.length:Int)then (p1.ak.length:Int)else (p1.Left.length:Int)))) (Z (my p1.ak a.2) λd=>Z (my p1.Left a.2) λb=>Z (app a.1 ([d,b]:List Int)) λc=>some (.inl (c,(ah (a.2+1))))) (some (.inr (.bf (a.1,a.2)))))
noncomputable def oP (J:O)(p1:U): Option (U×Int):=
 Z (dJ J p1) λi=>(cond (!i) (some ((⟨0,([]:(List Int)),([]:(List Int))⟩:U),1)) (cond (decide (J.I=6)) (some ((⟨0,([]:(List Int)),([]:(List Int))⟩:U),5)) (Z ((cond (!((fA ([]:List (C×Int)) (⟨0,0,0⟩:C)).isSome)) (Z (dO ([]:(List C))) λd=>Z (app ([]:(List C)) ([(⟨0,0,0⟩:C)]:List C)) λz28=>some (.bf (d,z28,(lY ([]:List (C×Int)) (⟨0,0,0⟩:C) d)))) (some (.bf (((fA ([]:List (C×Int)) (⟨0,0,0⟩:C)).getD 0),([]:(List C)),([]:List (C×Int)))))):Option (Out (Int×(List C)×List (C×Int)) (Option (U×Int)))) (Out.elim (λ(e:Int×(List C)×List (C×Int))=>Z (run (pw J) (([]:(List ai)),e.2.1,e.2.2,0)) (Out.elim (λ(a:(List ai)×(List C)×List (C×Int)×Int)=>Z (dO a.2.1) λg=>Z (run (jw p1) (([]:List Int),0)) (Out.elim (λ(h:(List Int)×Int)=>(cond (!((fA a.2.2.1 (⟨0,p1.State,0⟩:C)).isSome)) (some ((⟨0,([]:(List Int)),([]:(List Int))⟩:U),6)) (Z (gA ([J.I]:List Int)) λb=>Z (gA h.1) λc=>Z (mz (⟨(ah (J.I+1)),g,a.1⟩:O) (⟨((fA a.2.2.1 (⟨0,p1.State,0⟩:C)).getD 0),b,c⟩:U)) λf=>(cond (!f) (some ((⟨0,([]:(List Int)),([]:(List Int))⟩:U),5)) (some ((⟨((fA a.2.2.1 (⟨0,p1.State,0⟩:C)).getD 0),b,c⟩:U),0)))))) (λ(r:U×Int)=>some r))) (λ(r:Option (U×Int))=>r))) (λ(r:Option (U×Int))=>r)))))
noncomputable def lJ (J:O)(p1:dm)(p2:U): Option (Int×Int×Bool):=
 Z (idx p1.places p2.State) λa=>(cond (decide (a.kind=0)) (some (a.q,a.half,true)) (cond (decide (a.kind=5)) (Z (my p2.ak 0) λb=>(cond (decide (b≠J.I)) (some (a.q,1,true)) (some (0,0,false)))) (some (0,0,false))))
noncomputable def iG (J:(List Int))(p1:Int): Option (Bool):=
 Z (bY J p1) λr1=>some (decide (0<=r1))
noncomputable def mN (J:Int): Option (Int):=
 (cond (decide ((Int.tmod J 2)=0)) (some (ah (Int.tdiv (ah (0-J)) 2))) (some (ah (Int.tdiv (ah (J-1)) 2))))
noncomputable def kA (p1:(List Int))(s5:List (Int×Int)×Int): Option ((List (Int×Int)×Int) ⊕ Out (List (Int×Int)×Int) (U×Int)):=
 (cond (decide (s5.2<(p1.length:Int))) (Z (idx p1 s5.2) λb=>Z (mN s5.2) λa=>some (.inl ((lY s5.1 a b),(ah (s5.2+1))))) (some (.inr (.bf (s5.1,s5.2)))))
noncomputable def kx (p1:(List Int))(d:Int)(s5:List (Int×Int)×Int)(a:(List Int)×(List Int)×Int): Option (((List Int)×(List Int)×Int) ⊕ Out ((List Int)×(List Int)×Int) (U×Int)):=
 (cond (decide (a.2.2<(ah ((p1.length:Int)+1)))) (Z (app a.2.1 ([((fA s5.1 (ah (d+a.2.2))).getD 0)]:List Int)) λb=>Z (app a.1 ([((fA s5.1 (ah ((ah (d-1))-a.2.2))).getD 0)]:List Int)) λc=>some (.inl (c,b,(ah (a.2.2+1))))) (some (.inr (.bf (a.1,a.2.1,a.2.2)))))
noncomputable def qL (J:Int)(p1:(List Int))(p2:Int): Option (U×Int):=
 Z (mN p2) λe=>Z (run (kA p1) (([]:List (Int×Int)),1)) (Out.elim (λ(s5:List (Int×Int)×Int)=>Z (run (kx p1 e s5) (([]:(List Int)),([]:(List Int)),0)) (Out.elim (λ(b:(List Int)×(List Int)×Int)=>Z (Z (gA b.1) λc=>Z (gA b.2.1) λd=>some (.bf (c,d)):Option (Out ((List Int)×(List Int)) (U×Int))) (Out.elim (λ(a:(List Int)×(List Int))=>(cond (decide (200<(a.1.length:Int))) (some ((⟨0,([]:(List Int)),([]:(List Int))⟩:U),5)) (cond (decide (200<(a.2.length:Int))) (some ((⟨0,([]:(List Int)),([]:(List Int))⟩:U),5)) (some ((⟨J,a.1,a.2⟩:U),0))))) (λ(r:U×Int)=>some r))) (λ(r:U×Int)=>some r))) (λ(r:U×Int)=>some r))
noncomputable def kX (J:O)(p1:dm)(p2:U): Option (U×Int):=
 Z (lJ J p1 p2) λc=>(cond (!c.2.2) (some ((⟨0,([]:(List Int)),([]:(List Int))⟩:U),6)) (Z (ek p2.Left) λd=>Z (lx ([d,p2.ak]:List (List Int))) λa=>Z (bY a J.I) λe=>(cond (decide (e≠0)) (some ((⟨0,([]:(List Int)),([]:(List Int))⟩:U),9)) (cond (decide ((p2.Left.length:Int)<1)) (some ((⟨0,([]:(List Int)),([]:(List Int))⟩:U),9)) (Z (jV a 1 (a.length:Int)) λz21=>Z (iG z21 J.I) λf=>(cond f (some ((⟨0,([]:(List Int)),([]:(List Int))⟩:U),9)) (cond (decide ((Int.tmod (p2.Left.length:Int) 2)=c.2.1)) (some ((⟨0,([]:(List Int)),([]:(List Int))⟩:U),9)) (Z (qL c.1 a (p2.Left.length:Int)) λb=>some (b.1,b.2)))))))))
noncomputable def gw (J:U)(p1:O)(p2:dm): Option (ByteArray):=
 Z (kX p1 p2 J) λa=>Z (jR a.1 a.2) λb=>some b
noncomputable def uE (J:O)(f:(List ai)×(List C)×List (C×Int)×Int)(a:(List ai)×(List C)×List (C×Int)×Int): Option (((List ai)×(List C)×List (C×Int)×Int) ⊕ Out ((List ai)×(List C)×List (C×Int)×Int) (Option ((List ByteArray)×Int))):=
 (cond (decide (a.2.2.2<(ah (J.I+1)))) (Z gV λd=>Z (Z (idx a.2.1 f.2.2.2) λg=>Z (jZ g a.2.2.2 J) λb=>(cond (!b.none) (cond (!((fA a.2.2.1 (⟨b.bS,b.iJ,b.ef⟩:C)).isSome)) (Z (dO a.2.1) λe=>Z (app a.2.1 ([(⟨b.bS,b.iJ,b.ef⟩:C)]:List C)) λh=>some (.bf (h,(lY a.2.2.1 (⟨b.bS,b.iJ,b.ef⟩:C) e),b.write,b.move,e))) (some (.bf (a.2.1,a.2.2.1,b.write,b.move,((fA a.2.2.1 (⟨b.bS,b.iJ,b.ef⟩:C)).getD 0))))) (some (.bf (a.2.1,a.2.2.1,d.Write,d.Move,d.Next)))):Option (Out ((List C)×List (C×Int)×Int×Int×Int) (Option ((List ByteArray)×Int)))) (Out.elim (λ(c:(List C)×List (C×Int)×Int×Int×Int)=>Z (app a.1 ([(⟨c.2.2.1,c.2.2.2.1,c.2.2.2.2⟩:ai)]:List ai)) λi=>some (.inl (i,c.1,c.2.1,(ah (a.2.2.2+1))))) (λ(r:Option ((List ByteArray)×Int))=>some (.inr (.ret r))))) (some (.inr (.bf (a.1,a.2.1,a.2.2.1,a.2.2.2)))))
noncomputable def p7 (J:O)(a:(List ai)×(List C)×List (C×Int)×Int): Option (((List ai)×(List C)×List (C×Int)×Int) ⊕ Out ((List ai)×(List C)×List (C×Int)×Int) (Option ((List ByteArray)×Int))):=
 (cond (decide (a.2.2.2<(a.2.1.length:Int))) (Z (run (uE J a) (a.1,a.2.1,a.2.2.1,0)) (Out.elim (λ(b:(List ai)×(List C)×List (C×Int)×Int)=>(cond (decide (1000<(b.2.1.length:Int))) (some (.inr (.ret none))) (some (.inl (b.1,b.2.1,b.2.2.1,(ah (a.2.2.2+1))))))) (λ(r:Option ((List ByteArray)×Int))=>some (.inr (.ret r))))) (some (.inr (.bf (a.1,a.2.1,a.2.2.1,a.2.2.2)))))
noncomputable def qj (J:O)(p2:Int)(d:(List ai)×(List C)×List (C×Int)×Int)(h:Int)(b:(Int×Int×(List ai)×Int×(List Int)×(List Int)))(a:Int×(List Int)×(List Int)×Int×(List ByteArray)): Option ((Int×(List Int)×(List Int)×Int×(List ByteArray)) ⊕ Out (Int×(List Int)×(List Int)×Int×(List ByteArray)) (Option ((List ByteArray)×Int))):=
 Z (cZ (⟨b.1,b.2.1,b.2.2.1,a.1,a.2.1,a.2.2.1⟩:aQ)) λe=>Z (gw e J (⟨(ah (J.I+1)),h,d.1,d.2.1,sI.mk⟩:dm)) λf=>Z (app a.2.2.2.2 ([f]:List ByteArray)) λz139=>(cond (decide (a.2.2.2.1<p2)) (Z (bU (⟨b.1,b.2.1,b.2.2.1,a.1,a.2.1,a.2.2.1⟩:aQ)) λg=>(cond (!g) (Z (dk (⟨b.1,b.2.1,b.2.2.1,a.1,a.2.1,a.2.2.1⟩:aQ)) λc=>(cond (!c.1) (some (.inr (.ret (some (([]:(List ByteArray)),5))))) (some (.inl (c.2.1,c.2.2.1,c.2.2.2,(ah (a.2.2.2.1+1)),z139))))) (some (.inr (.bf (a.1,a.2.1,a.2.2.1,a.2.2.2.1,z139)))))) (some (.inr (.bf (a.1,a.2.1,a.2.2.1,a.2.2.2.1,z139)))))
noncomputable def nF (J:O)(p1:U)(p2:Int): Option ((List ByteArray)×Int):=
 Z (dJ J p1) λj=>Z (lI j p2) λi=>(cond (decide (i≠0)) (some (([]:(List ByteArray)),i)) (Z (oP J p1) λg=>(cond (decide (g.2≠0)) (some (([]:(List ByteArray)),g.2)) (cond (decide (J.I=6)) none (Z ((cond (!((fA ([]:List (C×Int)) (⟨0,0,0⟩:C)).isSome)) (Z (dO ([]:(List C))) λc=>Z (app ([]:(List C)) ([(⟨0,0,0⟩:C)]:List C)) λh=>some (.bf (c,h,(lY ([]:List (C×Int)) (⟨0,0,0⟩:C) c)))) (some (.bf (((fA ([]:List (C×Int)) (⟨0,0,0⟩:C)).getD 0),([]:(List C)),([]:List (C×Int)))))):Option (Out (Int×(List C)×List (C×Int)) (Option ((List ByteArray)×Int)))) (Out.elim (λ(d:Int×(List C)×List (C×Int))=>Z (run (p7 J) (([]:(List ai)),d.2.1,d.2.2,0)) (Out.elim (λ(b:(List ai)×(List C)×List (C×Int)×Int)=>Z (dO b.2.1) λe=>Z (iW (⟨(ah (J.I+1)),e,b.1⟩:O) g.1) λa=>Z (run (qj J p2 b e a) (a.2.2.2.1,a.2.2.2.2.1,a.2.2.2.2.2,0,([]:List ByteArray))) (Out.elim (λ(f:Int×(List Int)×(List Int)×Int×(List ByteArray))=>some (f.2.2.2.2,0)) (λ(r:Option ((List ByteArray)×Int))=>r))) (λ(r:Option ((List ByteArray)×Int))=>r))) (λ(r:Option ((List ByteArray)×Int))=>r)))))))
noncomputable def sW (J:O)(s2:Int): Option ((Int) ⊕ Out (Int) Int):=
 Z (uB s2) λa=>(cond (decide ((ah (1*2^min (s2:Int).toNat 64))<J.I)) (some (.inl (ah (s2+1)))) (some (.inr (.bf s2))))
noncomputable def j9 (J:O): Option (Int):=
 Z (run (sW J) 1) (Out.elim (λ(s2:Int)=>some s2) (λ(r:Int)=>some r))
noncomputable def hD (J:Int): Option (L):=
 some (⟨0,J,0,0⟩:L)
noncomputable def pj (J:Int)(p1:Int)(p2:Int): Option (Int):=
 Z (uB (ah ((ah (p1-1))-p2))) λa=>some (LN (Int.fdiv J (2^min ((ah ((ah (p1-1))-p2)):Int).toNat 64)) 1)
noncomputable def uW (J:O)(p1:Int)(p2:L)(f:Int): Option (dY):=
 (cond (decide (p2.b<(ah (p1-1)))) (some (⟨f,1,0,p2.a,(ah (p2.b+1)),(ah ((ah (2*p2.c))+f)),false⟩:dY)) (Z ((cond (decide (J.I<=(ah ((ah (2*p2.c))+f)))) (some (.ret (⟨0,0,0,0,0,0,true⟩:dY))) (Z (idx J.aB (ah ((ah (p2.a*J.I))+(ah ((ah (2*p2.c))+f))))) λi=>Z (fw i) λg=>(cond (!g) (some (.ret (⟨0,0,0,0,0,0,true⟩:dY))) (some (.bf ()))))):Option (Out (Unit) dY)) (Out.elim (λ(s5:Unit)=>Z (idx J.aB (ah ((ah (p2.a*J.I))+(ah ((ah (2*p2.c))+f))))) λd=>(cond (decide (p1=1)) (Z (hD d.Next) λe=>some (⟨d.Write,d.Move,e.kind,e.a,e.b,e.c,false⟩:dY)) (Z (pj d.Write p1 (ah (p1-1))) λh=>some (⟨h,(-1),1,(ah ((ah (p2.a*J.I))+(ah ((ah (2*p2.c))+f)))),(ah (p1-2)),0,false⟩:dY)))) (λ(r:dY)=>some r))))
noncomputable def jb (J:L)(p1:Int)(p2:O)(h:Int): Option (dY):=
 (cond (decide (J.kind=0)) (Z (uW p2 h J p1) λi=>some i) (cond (decide (J.kind=1)) (Z (idx p2.aB J.a) λf=>Z (pj f.Write h J.b) λg=>(cond (decide (0<J.b)) (some (⟨g,(-1),1,J.a,(ah (J.b-1)),0,false⟩:dY)) (some (⟨g,f.Move,2,J.a,(ah (h-1)),0,false⟩:dY)))) (Z (idx p2.aB J.a) λe=>(cond (decide (J.b=1)) (Z (hD e.Next) λd=>some (⟨p1,e.Move,d.kind,d.a,d.b,d.c,false⟩:dY)) (some (⟨p1,e.Move,2,J.a,(ah (J.b-1)),0,false⟩:dY))))))
noncomputable def dX (J:(List L)): Option (Int):=
 some (J.length:Int)
noncomputable def mq (p1:Int)(d:Int)(a:(List Int)×Int): Option (((List Int)×Int) ⊕ Out ((List Int)×Int) (List Int)):=
 (cond (decide (a.2<p1)) (Z (pj d p1 a.2) λb=>Z (app a.1 ([b]:List Int)) λc=>some (.inl (c,(ah (a.2+1))))) (some (.inr (.bf (a.1,a.2)))))
noncomputable def og (J:(List Int))(p1:Int)(s2:(List Int)×Int): Option (((List Int)×Int) ⊕ Out ((List Int)×Int) (List Int)):=
 (cond (decide (s2.2<(J.length:Int))) (Z (idx J s2.2) λa=>Z (run (mq p1 a) (s2.1,0)) (Out.elim (λ(b:(List Int)×Int)=>some (.inl (b.1,(ah (s2.2+1))))) (λ(r:(List Int))=>some (.inr (.ret r))))) (some (.inr (.bf (s2.1,s2.2)))))
noncomputable def rq (J:(List Int))(p1:Int): Option ((List Int)):=
 Z (run (og J p1) (([]:List Int),0)) (Out.elim (λ(s2:(List Int)×Int)=>some s2.1) (λ(r:(List Int))=>some r))
noncomputable def rZ (J:O)(i:Int)(f:(List ai)×(List L)×List (L×Int)×Int)(b:(List ai)×(List L)×List (L×Int)×Int): Option (((List ai)×(List L)×List (L×Int)×Int) ⊕ Out ((List ai)×(List L)×List (L×Int)×Int) (Option (U×Int))):=
 (cond (decide (b.2.2.2<2)) (Z gV λd=>Z (Z (idx b.2.1 f.2.2.2) λg=>Z (jb g b.2.2.2 J i) λa=>(cond (!a.none) (cond (!((fA b.2.2.1 (⟨a.bS,a.jH,a.jL,a.jM⟩:L)).isSome)) (Z (dX b.2.1) λe=>Z (app b.2.1 ([(⟨a.bS,a.jH,a.jL,a.jM⟩:L)]:List L)) λz75=>some (.bf (z75,(lY b.2.2.1 (⟨a.bS,a.jH,a.jL,a.jM⟩:L) e),a.write,a.move,e))) (some (.bf (b.2.1,b.2.2.1,a.write,a.move,((fA b.2.2.1 (⟨a.bS,a.jH,a.jL,a.jM⟩:L)).getD 0))))) (some (.bf (b.2.1,b.2.2.1,d.Write,d.Move,d.Next)))):Option (Out ((List L)×List (L×Int)×Int×Int×Int) (Option (U×Int)))) (Out.elim (λ(c:(List L)×List (L×Int)×Int×Int×Int)=>Z (app b.1 ([(⟨c.2.2.1,c.2.2.2.1,c.2.2.2.2⟩:ai)]:List ai)) λh=>some (.inl (h,c.1,c.2.1,(ah (b.2.2.2+1))))) (λ(r:Option (U×Int))=>some (.inr (.ret r))))) (some (.inr (.bf (b.1,b.2.1,b.2.2.1,b.2.2.2)))))
noncomputable def oh (J:O)(c:Int)(a:(List ai)×(List L)×List (L×Int)×Int): Option (((List ai)×(List L)×List (L×Int)×Int) ⊕ Out ((List ai)×(List L)×List (L×Int)×Int) (Option (U×Int))):=
 (cond (decide (a.2.2.2<(a.2.1.length:Int))) (Z (run (rZ J c a) (a.1,a.2.1,a.2.2.1,0)) (Out.elim (λ(b:(List ai)×(List L)×List (L×Int)×Int)=>(cond (decide (1000<(b.2.1.length:Int))) (some (.inr (.ret (some ((⟨0,([]:(List Int)),([]:(List Int))⟩:U),5))))) (some (.inl (b.1,b.2.1,b.2.2.1,(ah (a.2.2.2+1))))))) (λ(r:Option (U×Int))=>some (.inr (.ret r))))) (some (.inr (.bf (a.1,a.2.1,a.2.2.1,a.2.2.2)))))
noncomputable def nE (J:O)(p1:U): Option (U×Int):=
 Z (dJ J p1) λp=>(cond (!p) (some ((⟨0,([]:(List Int)),([]:(List Int))⟩:U),1)) (Z (j9 J) λq=>Z (hD 0) λc=>Z ((cond (!((fA ([]:List (L×Int)) c).isSome)) (Z (dX ([]:(List L))) λf=>Z (app ([]:(List L)) ([c]:List L)) λn=>some (.bf (f,n,(lY ([]:List (L×Int)) c f)))) (some (.bf (((fA ([]:List (L×Int)) c).getD 0),([]:(List L)),([]:List (L×Int)))))):Option (Out (Int×(List L)×List (L×Int)) (Option (U×Int)))) (Out.elim (λ(g:Int×(List L)×List (L×Int))=>Z (run (oh J q) (([]:(List ai)),g.2.1,g.2.2,0)) (Out.elim (λ(a:(List ai)×(List L)×List (L×Int)×Int)=>Z (dX a.2.1) λo=>Z (j9 J) λh=>Z (hD p1.State) λb=>Z (ek p1.Left) λi=>Z (rq i h) λj=>Z (ek j) λk=>Z (rq p1.ak h) λl=>(cond (!((fA a.2.2.1 b).isSome)) (some ((⟨0,([]:(List Int)),([]:(List Int))⟩:U),6)) (Z (gA k) λd=>Z (gA l) λe=>Z (mz (⟨2,o,a.1⟩:O) (⟨((fA a.2.2.1 b).getD 0),d,e⟩:U)) λm=>(cond (!m) (some ((⟨0,([]:(List Int)),([]:(List Int))⟩:U),5)) (some ((⟨((fA a.2.2.1 b).getD 0),d,e⟩:U),0)))))) (λ(r:Option (U×Int))=>r))) (λ(r:Option (U×Int))=>r))))
noncomputable def kc (J:(List Int))(p1:Int)(s2:(List Int)×Int)(s5:Int×Int): Option ((Int×Int) ⊕ Out (Int×Int) ((List Int)×Bool)):=
 (cond (decide (s5.2<p1)) (cond (decide ((ah (s2.2+s5.2))<(J.length:Int))) (Z (idx J (ah (s2.2+s5.2))) λa=>some (.inl ((ah ((ah (s5.1*2))+a)),(ah (s5.2+1))))) (some (.inl ((ah (s5.1*2)),(ah (s5.2+1)))))) (some (.inr (.bf (s5.1,s5.2)))))
noncomputable def ma (J:(List Int))(p1:Int)(p2:Int)(s2:(List Int)×Int): Option (((List Int)×Int) ⊕ Out ((List Int)×Int) ((List Int)×Bool)):=
 (cond (decide (s2.2<(J.length:Int))) (Z (run (kc J p1 s2) (0,0)) (Out.elim (λ(s5:Int×Int)=>(cond (decide (p2<=s5.1)) (some (.inr (.ret (([]:(List Int)),false)))) (Z (app s2.1 ([s5.1]:List Int)) λa=>some (.inl (a,(ah (s2.2+p1))))))) (λ(r:(List Int)×Bool)=>some (.inr (.ret r))))) (some (.inr (.bf (s2.1,s2.2)))))
noncomputable def kq (a:(List Int)): Option (((List Int)) ⊕ Out ((List Int)) (Option ((List Int)×Bool))):=
 (cond (decide (0<(a.length:Int))) (Z (idx a (ah ((a.length:Int)-1))) λb=>(cond (decide (b=0)) (Z (jV a 0 (ah ((a.length:Int)-1))) λz28=>some (.inl z28)) (some (.inr (.bf a))))) (some (.inr (.bf a))))
noncomputable def lX (J:(List Int))(p1:Int)(p2:Int): Option ((List Int)×Bool):=
 Z (run (ma J p1 p2) (([]:List Int),0)) (Out.elim (λ(s2:(List Int)×Int)=>Z (run (kq) s2.1) (Out.elim (λ(a:(List Int))=>some (a,true)) (λ(r:Option ((List Int)×Bool))=>r))) (λ(r:(List Int)×Bool)=>some r))
noncomputable def ku (p1:Int)(a:(List Int)): Option (((List Int)) ⊕ Out ((List Int)) ((List Int)×Bool)):=
 Z (eW a) λb=>Z (nz p1) λu8=>(cond (decide ((Int.tmod b p1)≠0)) (Z (app a ([0]:List Int)) λz12=>some (.inl z12)) (some (.inr (.bf a))))
noncomputable def kh (p1:Int)(e:(List Int))(a:(List Int)): Option (((List Int)) ⊕ Out ((List Int)) ((List Int)×Bool)):=
 Z (eW a) λb=>Z (eW e) λc=>Z (nz p1) λf=>(cond (decide (b<(ah (Int.tdiv c p1)))) (Z (app a ([0]:List Int)) λd=>some (.inl d)) (some (.inr (.bf a))))
noncomputable def n0 (J:(List Int))(p1:Int)(p2:Int): Option ((List Int)×Bool):=
 Z (cE J) λr1=>Z (run (ku p1) r1) (Out.elim (λ(f:(List Int))=>Z (ek f) λb=>Z (lX b p1 p2) λa=>(cond (!a.2) (some (([]:(List Int)),false)) (Z (run (kh p1 f) a.1) (Out.elim (λ(c:(List Int))=>Z (ek c) λd=>Z (gA d) λe=>some (e,true)) (λ(r:(List Int)×Bool)=>some r))))) (λ(r:(List Int)×Bool)=>some r))
noncomputable def ou (f:Int×Int×Int×Int×Int)(a:(List Int)×(List Int)×Int): Option (((List Int)×(List Int)×Int) ⊕ Out ((List Int)×(List Int)×Int) (U×Int)):=
 (cond (decide (a.2.2<f.2.2.1)) (cond (decide (0<(a.1.length:Int))) (Z (idx a.1 0) λb=>Z (jV a.1 1 (a.1.length:Int)) λc=>Z (lx ([([b]:List Int),a.2.1]:List (List Int))) λd=>some (.inl (c,d,(ah (a.2.2+1))))) (Z (lx ([([0]:List Int),a.2.1]:List (List Int))) λe=>some (.inl (a.1,e,(ah (a.2.2+1)))))) (some (.inr (.bf (a.1,a.2.1,a.2.2)))))
noncomputable def nL (J:O)(p1:dV)(p2:U): Option (U×Int):=
 Z (Z (idx p1.places p2.State) λg=>Z (j9 J) λi=>some (.bf (g.kind,g.a,g.b,g.c,i)):Option (Out (Int×Int×Int×Int×Int) (U×Int))) (Out.elim (λ(h:Int×Int×Int×Int×Int)=>Z (cE p2.Left) λj=>Z (cE p2.ak) λk=>Z (run (ou h) (j,k,0)) (Out.elim (λ(d:(List Int)×(List Int)×Int)=>Z (n0 d.1 h.2.2.2.2 J.I) λe=>Z (lX d.2.1 h.2.2.2.2 J.I) λf=>(cond (!e.2) (some ((⟨0,([]:(List Int)),([]:(List Int))⟩:U),9)) (cond (!f.2) (some ((⟨0,([]:(List Int)),([]:(List Int))⟩:U),9)) (some ((⟨h.2.1,e.1,f.1⟩:U),0))))) (λ(r:U×Int)=>some r))) (λ(r:U×Int)=>some r))
noncomputable def jx (J:U)(p1:dV)(p2:O): Option (ByteArray):=
 Z (idx p1.places J.State) λe=>Z (hD e.a) λc=>(cond (!(decide (e=c))) (some (⟨#[]⟩:ByteArray)) (Z (nL p2 p1 J) λb=>Z (jR b.1 b.2) λd=>some d))
noncomputable def sA (J:O)(f:Int)(g:(List ai)×(List L)×List (L×Int)×Int)(b:(List ai)×(List L)×List (L×Int)×Int): Option (((List ai)×(List L)×List (L×Int)×Int) ⊕ Out ((List ai)×(List L)×List (L×Int)×Int) (Option ((List ByteArray)×Int))):=
 (cond (decide (b.2.2.2<2)) (Z gV λd=>Z (Z (idx b.2.1 g.2.2.2) λh=>Z (jb h b.2.2.2 J f) λa=>(cond (!a.none) (cond (!((fA b.2.2.1 (⟨a.bS,a.jH,a.jL,a.jM⟩:L)).isSome)) (Z (dX b.2.1) λe=>Z (app b.2.1 ([(⟨a.bS,a.jH,a.jL,a.jM⟩:L)]:List L)) λi=>some (.bf (i,(lY b.2.2.1 (⟨a.bS,a.jH,a.jL,a.jM⟩:L) e),a.write,a.move,e))) (some (.bf (b.2.1,b.2.2.1,a.write,a.move,((fA b.2.2.1 (⟨a.bS,a.jH,a.jL,a.jM⟩:L)).getD 0))))) (some (.bf (b.2.1,b.2.2.1,d.Write,d.Move,d.Next)))):Option (Out ((List L)×List (L×Int)×Int×Int×Int) (Option ((List ByteArray)×Int)))) (Out.elim (λ(c:(List L)×List (L×Int)×Int×Int×Int)=>Z (app b.1 ([(⟨c.2.2.1,c.2.2.2.1,c.2.2.2.2⟩:ai)]:List ai)) λj=>some (.inl (j,c.1,c.2.1,(ah (b.2.2.2+1))))) (λ(r:Option ((List ByteArray)×Int))=>some (.inr (.ret r))))) (some (.inr (.bf (b.1,b.2.1,b.2.2.1,b.2.2.2)))))
noncomputable def oM (J:O)(c:Int)(a:(List ai)×(List L)×List (L×Int)×Int): Option (((List ai)×(List L)×List (L×Int)×Int) ⊕ Out ((List ai)×(List L)×List (L×Int)×Int) (Option ((List ByteArray)×Int))):=
 (cond (decide (a.2.2.2<(a.2.1.length:Int))) (Z (run (sA J c a) (a.1,a.2.1,a.2.2.1,0)) (Out.elim (λ(b:(List ai)×(List L)×List (L×Int)×Int)=>(cond (decide (1000<(b.2.1.length:Int))) (some (.inr (.ret none))) (some (.inl (b.1,b.2.1,b.2.2.1,(ah (a.2.2.2+1))))))) (λ(r:Option ((List ByteArray)×Int))=>some (.inr (.ret r))))) (some (.inr (.bf (a.1,a.2.1,a.2.2.1,a.2.2.2)))))
noncomputable def oH (J:O)(p2:Int)(e:(List ai)×(List L)×List (L×Int)×Int)(f:Int)(b:(Int×Int×(List ai)×Int×(List Int)×(List Int)))(a:Int×(List Int)×(List Int)×Int×(List ByteArray)): Option ((Int×(List Int)×(List Int)×Int×(List ByteArray)) ⊕ Out (Int×(List Int)×(List Int)×Int×(List ByteArray)) (Option ((List ByteArray)×Int))):=
 Z (cZ (⟨b.1,b.2.1,b.2.2.1,a.1,a.2.1,a.2.2.1⟩:aQ)) λg=>Z (jx g (⟨2,f,e.1,e.2.1,sI.mk⟩:dV) J) λh=>Z (app a.2.2.2.2 ([h]:List ByteArray)) λd=>(cond (decide (a.2.2.2.1<p2)) (Z (bU (⟨b.1,b.2.1,b.2.2.1,a.1,a.2.1,a.2.2.1⟩:aQ)) λi=>(cond (!i) (Z (dk (⟨b.1,b.2.1,b.2.2.1,a.1,a.2.1,a.2.2.1⟩:aQ)) λc=>(cond (!c.1) (some (.inr (.ret (some (([]:(List ByteArray)),5))))) (some (.inl (c.2.1,c.2.2.1,c.2.2.2,(ah (a.2.2.2.1+1)),d))))) (some (.inr (.bf (a.1,a.2.1,a.2.2.1,a.2.2.2.1,d)))))) (some (.inr (.bf (a.1,a.2.1,a.2.2.1,a.2.2.2.1,d)))))
noncomputable def lR (J:O)(p1:U)(p2:Int): Option ((List ByteArray)×Int):=
 Z (dJ J p1) λl=>Z (lI l p2) λk=>(cond (decide (k≠0)) (some (([]:(List ByteArray)),k)) (Z (nE J p1) λh=>(cond (decide (h.2≠0)) (some (([]:(List ByteArray)),h.2)) (Z (j9 J) λi=>Z (hD 0) λb=>Z ((cond (!((fA ([]:List (L×Int)) b).isSome)) (Z (dX ([]:(List L))) λe=>Z (app ([]:(List L)) ([b]:List L)) λj=>some (.bf (e,j,(lY ([]:List (L×Int)) b e)))) (some (.bf (((fA ([]:List (L×Int)) b).getD 0),([]:(List L)),([]:List (L×Int)))))):Option (Out (Int×(List L)×List (L×Int)) (Option ((List ByteArray)×Int)))) (Out.elim (λ(f:Int×(List L)×List (L×Int))=>Z (run (oM J i) (([]:(List ai)),f.2.1,f.2.2,0)) (Out.elim (λ(d:(List ai)×(List L)×List (L×Int)×Int)=>Z (dX d.2.1) λc=>Z (iW (⟨2,c,d.1⟩:O) h.1) λa=>Z (run (oH J p2 d c a) (a.2.2.2.1,a.2.2.2.2.1,a.2.2.2.2.2,0,([]:List ByteArray))) (Out.elim (λ(g:Int×(List Int)×(List Int)×Int×(List ByteArray))=>some (g.2.2.2.2,0)) (λ(r:Option ((List ByteArray)×Int))=>r))) (λ(r:Option ((List ByteArray)×Int))=>r))) (λ(r:Option ((List ByteArray)×Int))=>r))))))
noncomputable def fG (J:(List ByteArray))(p1:ByteArray)(s1:Int): Option ((Int) ⊕ Out (Int) Int):=
 (cond (decide (s1<(J.length:Int))) (Z (idx J s1) λa=>(cond (p1.toList==a.toList) (some (.inr (.ret s1))) (some (.inl (ah (s1+1)))))) (some (.inr (.bf s1))))
noncomputable def kQ (J:(List ByteArray))(p1:ByteArray): Option (Int):=
 Z (run (fG J p1) 0) (Out.elim (λ(s1:Int)=>some (-1)) (λ(r:Int)=>some r))
noncomputable def ia (J:(List ByteArray))(p1:ByteArray): Option (Bool):=
 Z (kQ J p1) λr1=>some (decide (0<=r1))
noncomputable def nH (J:(List ByteArray)): Option (Bool):=
 Z (jn J) λr1=>Z (dM r1 1 600) λa=>(cond a (Z (ia J (⟨#[]⟩:ByteArray)) λb=>some (!b)) (some false))
noncomputable def fM (J:(List ByteArray))(p1:(List ByteArray))(a:(List Int)×Int): Option (((List Int)×Int) ⊕ Out ((List Int)×Int) ((List Int)×Int)):=
 (cond (decide (a.2<(p1.length:Int))) (cond (decide ((a.1.length:Int)<(J.length:Int))) (Z (idx p1 a.2) λc=>Z (idx J (a.1.length:Int)) λd=>(cond (c.toList==d.toList) (Z (app a.1 ([a.2]:List Int)) λb=>(cond (decide ((b.length:Int)=0)) (some (.inr (.ret (([]:(List Int)),3)))) (some (.inl (b,(ah (a.2+1))))))) (cond (decide ((a.1.length:Int)=0)) (some (.inr (.ret (([]:(List Int)),3)))) (some (.inl (a.1,(ah (a.2+1)))))))) (some (.inr (.bf (a.1,a.2))))) (some (.inr (.bf (a.1,a.2)))))
noncomputable def fk (J:(List ByteArray))(p1:(List ByteArray)): Option ((List Int)×Int):=
 Z (Z (nH J) λb=>(cond (!b) (some (.ret (([]:(List Int)),2))) (cond (decide (600<(p1.length:Int))) (some (.ret (([]:(List Int)),2))) (some (.bf ())))):Option (Out (Unit) ((List Int)×Int))) (Out.elim (λ(s1:Unit)=>Z (run (fM J p1) (([]:List Int),0)) (Out.elim (λ(a:(List Int)×Int)=>(cond (decide ((a.1.length:Int)<(J.length:Int))) (some (([]:(List Int)),3)) (some (a.1,0)))) (λ(r:(List Int)×Int)=>some r))) (λ(r:(List Int)×Int)=>some r))
noncomputable def nA (J:(List Int))(s1:Int): Option ((Int) ⊕ Out (Int) Bool):=
 (cond (decide (s1<(J.length:Int))) (Z (idx J (ah (s1-1))) λa=>Z (idx J s1) λb=>(cond (decide (b<=a)) (some (.inr (.ret false))) (some (.inl (ah (s1+1)))))) (some (.inr (.bf s1))))
noncomputable def so (J:(List Int)): Option (Bool):=
 Z (run (nA J) 1) (Out.elim (λ(s1:Int)=>some true) (λ(r:Bool)=>some r))
noncomputable def qq (J:(List Int)): Option (Bool):=
 (cond (decide (0<(J.length:Int))) (Z (idx J 0) λa=>(cond (decide (a=0)) (Z (so J) λb=>some b) (some false))) (some false))
noncomputable def jY (J:(List ByteArray))(p1:(List ByteArray))(p2:(List Int))(a:Int): Option ((Int) ⊕ Out (Int) Bool):=
 (cond (decide (a<(p2.length:Int))) (Z (idx p2 a) λb=>Z (idx p1 b) λc=>Z (idx J a) λd=>(cond (!(c.toList==d.toList)) (some (.inr (.ret false))) (some (.inl (ah (a+1)))))) (some (.inr (.bf a))))
noncomputable def fX (J:(List ByteArray))(p1:(List ByteArray))(p2:(List Int)): Option (Bool):=
 Z (Z (nH J) λc=>(cond (!c) (some (.ret false)) (cond (decide (600<(p1.length:Int))) (some (.ret false)) (cond (decide ((p2.length:Int)≠(J.length:Int))) (some (.ret false)) (Z (qq p2) λd=>(cond (!d) (some (.ret false)) (Z (jn p1) λa=>Z (iB p2 0 (ah (a-1))) λb=>(cond (!b) (some (.ret false)) (some (.bf ()))))))))):Option (Out (Unit) Bool)) (Out.elim (λ(s1:Unit)=>Z (run (jY J p1 p2) 0) (Out.elim (λ(e:Int)=>some true) (λ(r:Bool)=>some r))) (λ(r:Bool)=>some r))
noncomputable def qO (J:(List (Ik .u8))): Option (Bool):=
 Z (vd J) λr1=>(cond r1 (some true) (Z (qD J) λc=>Z (il c.1) λM=>Z (jg M) λl=>Z ((cond (!l.2) (some (.ret false)) (Z (nY l.1 c.1) λu=>(cond (!u) (some (.ret false)) (some (.bf ()))))):Option (Out (Unit) Bool)) (Out.elim (λ(N:Unit)=>Z (mB c.1 c.2 8) λd=>Z (pH c.1 c.2 2000) λa=>Z ((cond (decide (d.2.2.2≠0)) (some (.ret false)) (cond (decide (a.2≠0)) (cond (decide (a.2≠5)) (some (.ret false)) (some (.bf ()))) (some (.bf ())))):Option (Out (Unit) Bool)) (Out.elim (λ(O:Unit)=>Z ((cond d.2.2.1 (Z ((cond (decide (a.2≠0)) (some (.ret false)) (cond (decide ((a.1.length:Int)≠4)) (some (.ret false)) (Z (idx a.1 0) λv=>(cond (decide (v≠d.2.1)) (some (.ret false)) (Z (idx a.1 1) λw=>(cond (decide (0<=w)) (Z (idx a.1 1) λx=>(cond (decide (x<d.2.1)) (some (.ret false)) (Z (idx a.1 2) λy=>(cond (decide (0<=y)) (Z (idx a.1 2) λz=>(cond (decide (z≠d.2.1)) (some (.ret false)) (Z (idx a.1 3) λA=>Z (idx a.1 2) λB=>(cond (decide (A≠B)) (some (.ret false)) (some (.bf ())))))) (Z (idx a.1 3) λC=>Z (idx a.1 2) λD=>(cond (decide (C≠D)) (some (.ret false)) (some (.bf ())))))))) (Z (idx a.1 2) λE=>(cond (decide (0<=E)) (Z (idx a.1 2) λF=>(cond (decide (F≠d.2.1)) (some (.ret false)) (Z (idx a.1 3) λG=>Z (idx a.1 2) λH=>(cond (decide (G≠H)) (some (.ret false)) (some (.bf ())))))) (Z (idx a.1 3) λm=>Z (idx a.1 2) λn=>(cond (decide (m≠n)) (some (.ret false)) (some (.bf ())))))))))))):Option (Out (Unit) Bool)) (Out.elim (λ(P:Unit)=>Z (rC c.1 c.2 8) λe=>Z ((cond (decide (e.2.2=0)) (cond (!e.2.1) (some (.ret false)) (Z (idx a.1 1) λo=>(cond (decide (0<=o)) (Z (idx a.1 1) λp=>(cond (decide (p≠e.1)) (some (.ret false)) (some (.bf ())))) (some (.bf ()))))) (some (.bf ()))):Option (Out (Unit) Bool)) (Out.elim (λ(I:Unit)=>Z (l9 c.1 c.2 8) λh=>Z (je c.1 c.2 h.1) λi=>Z (lV c.1 d.1) λq=>(cond (decide (h.2≠0)) (some (.ret false)) (cond (decide (i.2≠0)) (some (.ret false)) (cond (decide (q.2≠6)) (some (.ret false)) (cond (decide (i.1≠d.2.1)) (some (.ret false)) (some (.bf ()))))))) (λ(r:Bool)=>some (.ret r)))) (λ(r:Bool)=>some (.ret r)))) (some (.bf ()))):Option (Out (Unit) Bool)) (Out.elim (λ(Q:Unit)=>Z (ly c.1 c.2 8) λb=>Z (nF c.1 c.2 100) λf=>Z (lR c.1 c.2 8) λg=>Z ((cond (decide (b.2≠0)) (some (.ret false)) (cond (decide ((b.1.length:Int)=0)) (some (.ret false)) (some (.bf ())))):Option (Out (Unit) Bool)) (Out.elim (λ(K:Unit)=>Z ((cond (decide (f.2=0)) (Z (fk b.1 f.1) λj=>(cond (decide (j.2≠0)) (some (.ret false)) (Z (fX b.1 f.1 j.1) λs=>(cond (!s) (some (.ret false)) (some (.bf ())))))) (some (.bf ()))):Option (Out (Unit) Bool)) (Out.elim (λ(L:Unit)=>(cond (decide (g.2≠0)) (some true) (Z (fk b.1 g.1) λk=>(cond (decide (k.2=0)) (Z (fX b.1 g.1 k.1) λt=>some t) (some false))))) (λ(r:Bool)=>some r))) (λ(r:Bool)=>some r))) (λ(r:Bool)=>some r))) (λ(r:Bool)=>some r))) (λ(r:Bool)=>some r))))
end Go.Fn
