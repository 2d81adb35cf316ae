/-
  The program of a small machine, as the assembler builds it: a plain function. No condition.
-/
import Derived.Test.YtapnabgdcndleaaGreatDoorTy
namespace Go.Fn
open Go Go.Tc
structure ab where
 L:List bX
 Ps:List (Nat×Option Nat×Option Nat)
 S:List Int
def ab.here (a:ab)(s:Nat): ab:=⟨a.L,a.Ps,a.S.set s (a.L.length:Int)⟩
def ab.new (a:ab): ab:=⟨a.L,a.Ps,a.S++[0]⟩
def ab.emit (a:ab)(kind b:Int)(th el:Option Nat): ab:=⟨a.L++[⟨kind,b,(a.L.length:Int)+1,0⟩],a.Ps++[(a.L.length,th,el)],a.S⟩
def ab.j7 (a:ab)(b:Int): Nat->ab
 |0=>a
 |n+1=>(a.emit 0 b none none).j7 b n
inductive Pc where
 |loop (f t k:Int)
 |inc (r:Int)
def ab.loop (a:ab)(f t:Int)(k:Nat)(exit:Nat): ab:=
 ((((a.new.here a.S.length).emit 1 f none (some exit)).j7 t (k-1)).emit 0 t (some a.S.length) none)
def ab.piece (a:ab)(exit:Nat): Pc->ab
 |.loop f t k=>a.loop f t k.toNat exit
 |.inc r=>a.emit 0 r (some exit) none
def ab.chain (a:ab)(target:Nat): List Pc->ab
 |[]=>a
 |[p]=>a.piece target p
 |p::q::ps=>((a.new.piece a.S.length p).here a.S.length).chain target (q::ps)
def ju (r k:Int): List Pc:=List.replicate k.toNat (.inc r)
def ab.eJ (a:ab)(f:Int): Nat->ab
 |0=>a
 |n+1=>(a.new.emit 1 f none (some a.S.length)).eJ f n
def ab.qE (a:ab)(at_:Nat): List (ab->ab)->ab
 |[]=>a
 |c::cs=>(c (a.here at_)).qE (at_+1) cs
def ab.split (a:ab)(f t:Int)(cs:List (ab->ab)): ab:=
 (((a.new.here a.S.length).eJ f cs.length).emit 0 t (some a.S.length) none).qE (a.S.length+1) cs
def kd (s:Int)(target:Nat)(x:Int)(a:ab): ab:=a.chain target ([.loop 2 0 1,.loop 1 2 s,.loop 2 1 1]++ju 1 x)
def ab.mI (a:ab)(s:Int)(target:Nat): ab:=a.split 0 2 [kd s target 0,kd s target 1]
def cJ (r:ai)(b s v:Int)(a:ab): ab:=
 if r=⟨0,0,-1⟩then a.chain b.toNat ([.loop 2 1 s]++ju 1 v)
 else if r.Move=1 then a.chain r.Next.toNat ([.loop 2 1 1,.loop 0 2 s,.loop 2 0 1]++ju 0 r.Write)
 else ((a.new.chain a.S.length ([.loop 2 1 s]++ju 1 r.Write)).here a.S.length).mI s r.Next.toNat
def ab.ka (a:ab)(b s:Int)(r0 r1:ai): ab:=a.split 1 2 [cJ r0 b s 0,cJ r1 b s 1]
def patch (S:List Int)(L:List bX)(p:Nat×Option Nat×Option Nat): List bX:=
 L.modify p.1 λx=>⟨x.Kind,x.cd,(match p.2.1 with|some t=>S.getD t 0|none=>x.qa),(match p.2.2 with|some t=>S.getD t 0|none=>x.uQ)⟩
def ab.fin (a:ab): List bX:=a.Ps.foldl (patch a.S) a.L
def yu (a:Int)(r:ai): Bool:=r=⟨0,0,-1⟩ || (decide (0<=r.Write)&&decide (r.Write<=1)&&(r.Move==1 || r.Move==-1)&&decide (0<=r.Next)&&decide (r.Next<a))
def dU (m:O): Option (List bX×List Int×Int):=
 if m.I=2/\m.aB.all (yu m.N)=true then
  match m.aB with
  |[r0,r1]=>if m.N=1 then
    let a:=(((ab.mk [] [] [0,0]).here 0).ka 1 2 r0 r1).here 1
    some (a.fin,[a.S.getD 0 0],0)else none
  |[r0,r1,b,c]=>if m.N=2 then
    let a:=(((((ab.mk [] [] [0,0,0]).here 0).ka 2 2 r0 r1).here 1).ka 2 2 b c).here 2
    some (a.fin,[a.S.getD 0 0,a.S.getD 1 0],0)else none
  |_=>none
 else none
end Go.Fn
