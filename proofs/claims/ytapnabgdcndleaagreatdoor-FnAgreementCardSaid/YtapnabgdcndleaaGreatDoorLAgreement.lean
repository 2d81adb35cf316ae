/-
  The law FnAgreement returns true for every input, and leaves its arguments as they were. No condition.
-/
import Derived.Test.YtapnabgdcndleaaGreatDoorRows
import Derived.Test.YtapnabgdcndleaaGreatDoorJn
import Derived.Test.YtapnabgdcndleaaGreatDoorTr
import Derived.Test.YtapnabgdcndleaaGreatDoorCon14
import Derived.Test.YtapnabgdcndleaaGreatDoorPM2
import Derived.WalkKit
import Derived.ProofKit
import Derived.OpenShut
import Derived.ShutString
import Derived.ChangeOld
import Derived.Below
import Derived.Stop.LaidErr
import Derived.HandedShaped
import Derived.Shelf.Vars
import Derived.LaidMore
import Derived.Lay
import Derived.SevenTiedAt
import Derived.Test.YtapnabgdcndleaaGreatDoorTie
import Derived.Test.YtapnabgdcndleaaGreatDoorCards
namespace Go.Proofs.YtapnabgdcndleaaGreatDoor.fnAgreement
open Go.ChangeShapes Go.WideShapes Go.ChangeAt Go.RowKit Go.Tc Go.Fn
theorem walk (v0:Value)(a:(List (Ik .u8)))(w:World)(b:kZ Tryz.prog w)(r0:Rd cw w v0 a)(w0:Wf.wf a):
  Calls Tryz.prog 3 #[v0] w λe c=>e=.returned (.bool true)/\Below w.heap.size w c:=by
 exact OB (AY (A:=cw) b r0 true (FZ a w0)) rfl
theorem KC {P:Program}{x:String×DataW Unit}{r:List (String×DataW Unit)}{w:World}(h:laidMet P (x::r) w): laidMet P r w:=by
 obtain⟨ps,⟨g,t,cs,fuel,p,q,_,_,_,_,hr,rfl⟩,c,a⟩:=h
 exact⟨q,hr,(List.nodup_append.1 c).2.1,λb off d=>a b off (List.mem_append_right _ d)⟩
theorem xZ {P:Program}{w:World}: ∀(k:Nat) (l:List (String×DataW Unit)),laidMet P l w->laidMet P (l.drop k) w
 |0,_,h=>h
 |_+1,[],h=>h
 |k+1,_::r,h=>xZ k r (KC h)
theorem OM:Rows.fnAgreementRow.laid.drop 2=("internal/strconv.uint64pow10",Lib.tabData .u64 Lib.pow10Tab)::Rows.fnAgreementRow.laid.drop 3:=by kernel_rfl
theorem Nh:Rows.fnAgreementRow.laid.drop 5=("strconv.ErrSyntax",Rows.laid_strconv_ErrSyntax)::Rows.fnAgreementRow.laid.drop 6:=by kernel_rfl
theorem My:Rows.fnAgreementRow.laid.drop 4=("strconv.ErrRange",Rows.laid_strconv_ErrRange)::Rows.fnAgreementRow.laid.drop 5:=by kernel_rfl
theorem star: "*"++ "errors.errorString"= "*errors.errorString":=by decide
theorem Ma (u:TypeId)(h:Tryz.prog.typeName? 3 u=some "*errors.errorString"): u=335:=
 typeName_ptr_named (nm:= "errors.errorString") (by rw[star];kernel_rfl) (by kernel_rfl) (by decide) u (by rw[star];exact h)
theorem Jr {H:Type}{enc:TypeId×Value->H}{C:Checked}{os:Os}{f:FuncId}{fn:Func}{s:ChangeSpec}{X:World->Prop}(p:∀w n:World,w.heap=n.heap->X w->X n)(own:ownKnob C.prog.godebug=none)(started:os.Started)(b:C.prog.inits.idxOf? f=none)(h:C.prog.funcs[f]?=some fn)(witness:∃(w:World) (tape:Tape) (i:Input),w.os=os/\(w.forCall tape i).Shaped C.prog/\i.vars=[]/\Input.okWide C.prog (w.forCall tape i) .any w.heap.size f i/\
   ((s.pre enc C.prog fn [] false (w.forCall tape i).memory i.args/\X (w.forCall tape i).memory)/\sizedMet enc C.prog fn (OpenSpec.ofChange s) false (w.forCall tape i).memory i.args)/\Assume.holds {} C.prog (lone (Frame.enter C.prog f i.args .normal) [] (w.forCall tape i)))(a:∀(W:World) (base:Nat) (args:Array Value) (ds gs:List (DataW H)) (before:List MemPlace),
   (∀(j:Nat) t v,fn.params[j]?=some t->args[j]?=some v->Value.okWide C.prog W .any base t v)->DataW.Whole enc C.prog fn.params.toList s.vars false W args.toList ds gs before->W.ShapedOpen C.prog->X W->
   Calls C.prog f args W λe o=>∃v,e=.returned v/\s.post enc C.prog fn false true false false W args v o):
  ReturnsInHanded {} C os f .any (λw args=>(s.pre enc C.prog fn [] false w args/\X w)/\sizedMet enc C.prog fn (OpenSpec.ofChange s) false w args) (s.post enc C.prog fn false true false false):=by
 refine returnsInHanded_of_calls own started b witness ?_
 intro w tape i _ k _ l c _
 obtain⟨_,_,_,m,d,_,_,_,_,g⟩:=l
 obtain rfl:m=fn:=Option.some.inj (d.symm.trans h)
 obtain⟨⟨⟨ds,gs,before,hw,_⟩,q⟩,_⟩:=c
 refine(a (w.forCall tape i) w.heap.size i.args ds gs before g (DataW.Whole.of_heap (by rfl) hw) k (p _ _ (by rfl) q)).mono λe o ⟨v,he,r⟩=>?_
 subst he
 exact ChangeSpec.post_blind r
theorem M7 (os:Os)(args:Array Value): laidMetH Tryz.prog Rows.fnAgreementRow.laid ((World.laidAll Tryz.prog os Rows.fnAgreementRow.laid).forCall (λ_ _=>0) ⟨#[],args,[]⟩).memory:=by
 rw[MakeChecks.laidMetH_plain _ _ _ (by kernel_rfl)]
 exact laidMet_laidAll _ (by kernel_rfl) (by kernel_rfl)
set_option maxRecDepth 100000 in
theorem lifted (os:Os) (started:os.Started) (H:Type) (enc:TypeId×Value->H) :
  ReturnsInHanded {} Tryz.checked os 3 .any (λw args=>(Rows.fnAgreementSpec.pre enc Tryz.prog Tryz.f3 [] false w args/\laidMetH Tryz.prog Rows.fnAgreementRow.laid w)/\sizedMet enc Tryz.prog Tryz.f3 (OpenSpec.ofChange Rows.fnAgreementSpec) false w args) (Rows.fnAgreementSpec.post enc Tryz.prog Tryz.f3 false true false false):=by
 refine Jr (C:=Tryz.checked) (X:=λw=>laidMetH Tryz.prog Rows.fnAgreementRow.laid w) (λ_ _ G h=>h.of_heap G) own started (by kernel_rfl) Tryz.func3
  (ChangeSpec.witness_shaped (enc:=enc) (C:=Tryz.checked) (os:=os) (X:=λw _=>laidMetH Tryz.prog Rows.fnAgreementRow.laid w) false (World.laidAll Tryz.prog os Rows.fnAgreementRow.laid) #[.slice none 0 0] 8 (World.laidAll_os _ _ _) (World.shaped_of_ZipB (by kernel_rfl) (by kernel_rfl)) (by kernel_rfl) (by kernel_rfl) (by kernel_rfl) (M7 os _)) ?_
 intro W base args ds gs before c E r b
 have f:Mq Tryz.prog W:=by
  have b:=b
  rw[MakeChecks.laidMetH_plain _ _ _ (by kernel_rfl)]at b
  have hd:=xZ 2 _ b
  rw[OM]at hd
  exact Lib.tabIs_of_head (g:=5) (t:=329) (e:=136) (n:=20) (by kernel_rfl) (by kernel_rfl) (by kernel_rfl) (by kernel_rfl) (by kernel_rfl) (by kernel_rfl) hd
 have s:Nk Tryz.prog W:=⟨0,by kernel_rfl,Go.Proofs.cell_of_shapedOpen_int (t:=3) (zero:=#[.int .i64 0]) r (of_decide_eq_true (by kernel_rfl)) (by kernel_rfl) rfl (by kernel_rfl) (by kernel_rfl) (by kernel_rfl)⟩
 have i:H9 Tryz.prog "strconv.ErrSyntax" W:=by
  have b:=b
  rw[MakeChecks.laidMetH_plain _ _ _ (by kernel_rfl)]at b
  have hd:=xZ 5 _ b
  rw[Nh]at hd
  obtain⟨a,_,u,_⟩:=laid_sentinel (g:=3) (ti:=157) (tp:=335) (te:=337) (ts:=9) hd (by kernel_rfl) (by kernel_rfl) Tryz.underlying157 Ma Tryz.underlying335 Tryz.underlying337 rfl rfl Tryz.underlying9 (by kernel_rfl) (by kernel_rfl)
  have y:=World.var?_cell (show Tryz.prog.globalNamed "strconv.ErrSyntax"=some 3 by kernel_rfl) u 0
  exact⟨3,by kernel_rfl,_,_,by simpa using y⟩
 have k:H9 Tryz.prog "strconv.ErrRange" W:=by
  have b:=b
  rw[MakeChecks.laidMetH_plain _ _ _ (by kernel_rfl)]at b
  have hd:=xZ 4 _ b
  rw[My]at hd
  obtain⟨a,_,u,_⟩:=laid_sentinel (g:=4) (ti:=157) (tp:=335) (te:=337) (ts:=9) hd (by kernel_rfl) (by kernel_rfl) Tryz.underlying157 Ma Tryz.underlying335 Tryz.underlying337 rfl rfl Tryz.underlying9 (by kernel_rfl) (by kernel_rfl)
  have y:=World.var?_cell (show Tryz.prog.globalNamed "strconv.ErrRange"=some 4 by kernel_rfl) u 0
  exact⟨4,by kernel_rfl,_,_,by simpa using y⟩
 have I:kZ Tryz.prog W:=⟨⟨s,f⟩,i,k⟩
 have d:∀(j:Nat) t v,Tryz.f3.params[j]?=some t->args[j]?=some v->Value.okWide Tryz.prog W .any base t v:=c
 have z:=E
 obtain⟨p,q,l,K,rfl,L,M⟩:=E
 have F:DataW.TrodAll enc Tryz.prog W 0 (λ_=>true) true Tryz.f3.params.toList args.toList ds p:=l
 rw[Tryz.params3]at F d
 obtain⟨v0,N,d0,O,J,R,A,rfl,rfl,B,r0⟩:=trodAll_cons F
 obtain⟨rfl,rfl,rfl⟩:=trodAll_nil r0
 obtain rfl:args=#[v0]:=by cases args;simp_all
 obtain⟨rfl,rfl⟩:=trodVars_none K
 have D:∀x∈J,x.block<W.heap.size:=by obtain⟨m,hm⟩:=B;exact DataW.trod_lt m _ _ _ hm
 obtain⟨P,Q,w0⟩:=Qa PQ Qj (d 0 22 v0 rfl rfl) B
 clear l c
 refine(walk v0 P W I Q w0).mono λe S ⟨he,o⟩=>?_
 subst he
 exact⟨_,rfl,_,_,_,[],_,[],z,trodAll_mk1 (shut_bool Tryz.underlying4 _),(trodAll_cons_mk (Below.trod laidOut (by kernel_rfl) (of_decide_eq_true (by kernel_rfl)) B o D) trodAll_mk0),rfl,o.frame _,λh=>by cases h⟩
theorem k1:Rows.fnAgreementRow.wf (OpenSpec.ofChange Rows.fnAgreementSpec)=true:=by kernel_rfl
theorem k3:(mapsRowed Tryz.prog&&Tryz.f3.params.all (Tryz.prog.readableRec ·)&&namedTie Tryz.prog Rows.fnAgreementRow.named Rows.fnAgreementSpec.vars)=true:=by kernel_rfl
theorem k4:((Rows.fnAgreementRow.stops==[])&&(Tryz.prog.stops==[])&&(Rows.fnAgreementRow.knobs==[])&&(Tryz.prog.stopKnobs==[]))=true:=by kernel_rfl
theorem k5:(Rows.fnAgreementRow.inPlace==Tryz.prog.inPlace 3)=true:=by kernel_rfl
theorem k6:(Rows.fnAgreementRow.unfollowed==Tryz.prog.unfollowed 3)=true:=by kernel_rfl
theorem k7:(Rows.fnAgreementRow.recurses==Tryz.prog.recurses 3)=true:=by kernel_rfl
theorem k8:(Rows.fnAgreementRow.named==Tryz.prog.varsNamed 3)=true:=by kernel_rfl
theorem k9:((Rows.fnAgreementRow.maps==(Tryz.f3.params.toList++Rows.fnAgreementSpec.plain.varTypes Tryz.prog).any (Tryz.prog.mapsRec ·))&&(Rows.fnAgreementRow.ifaces==(Tryz.f3.params.toList++Rows.fnAgreementSpec.plain.varTypes Tryz.prog).any (Tryz.prog.ifacesRec ·))&&(Rows.fnAgreementRow.mapsOut==Tryz.prog.mapsAmong Tryz.f3.resultTypes.toList))=true:=by kernel_rfl
theorem QQ:((Rows.fnAgreementRow.loops==(Tryz.f3.params.toList++Rows.fnAgreementSpec.plain.varTypes Tryz.prog).any (Tryz.prog.loopsFrom ·))&&(Rows.fnAgreementRow.wideKeys==(Tryz.f3.params.toList++Rows.fnAgreementSpec.plain.varTypes Tryz.prog++Tryz.f3.resultTypes.toList).any (Tryz.prog.wideKeysFrom ·)))=true:=by kernel_rfl
theorem QL:(Rows.fnAgreementSpec.vars.all (Tryz.prog.varReadable ·)&&Tryz.f3.resultTypes.all (λt=>Tryz.prog.readableRec t&&decide (t<Tryz.prog.types.size))&&(Rows.fnAgreementRow.ifacesOut==Tryz.f3.resultTypes.toList.any (Tryz.prog.ifacesRec ·))&&(Rows.fnAgreementRow.loopsOut==Tryz.f3.resultTypes.toList.any (Tryz.prog.loopsFrom ·))&&(Rows.fnAgreementRow.plainKeys==Tryz.prog.plainKeys)&&Rows.fnAgreementRow.shortTexts.isNone)=true:=by kernel_rfl
theorem QO:FD Tryz.prog Tryz.f3 Rows.fnAgreementRow=true:=by kernel_rfl
theorem QM:((Rows.fnAgreementRow.veiled==(Tryz.f3.params.toList++Rows.fnAgreementSpec.plain.varTypes Tryz.prog++Tryz.f3.resultTypes.toList).any (Tryz.prog.veiledRec ·))&&Rows.fnAgreementRow.veiledFits Tryz.prog Tryz.f3.params.toList (Tryz.f3.params.toList++Rows.fnAgreementSpec.plain.varTypes Tryz.prog++Tryz.f3.resultTypes.toList))=true:=by kernel_rfl
theorem kn:Tryz.prog.funcNamed Rows.fnAgreementRow.func=some 3:=by kernel_rfl
theorem ki:Tryz.f3.isInstance Tryz.prog Rows.fnAgreementRow.origin Rows.fnAgreementRow.targs:=of_decide_eq_true (by kernel_rfl)
theorem kl:(Rows.fnAgreementRow.lifted==Tryz.prog.liftsFinal)=true:=Qb
theorem km:(Tryz.prog.make==some Rows.fnAgreementRow.make)=true:=makes
theorem kj:joinedFacts Tryz.prog 3 Tryz.f3 Rows.fnAgreementSpec Rows.fnAgreementRow=true:=KG k1 laidOut k3 k4 k5 k6 k7 k8 k9 QQ QL heard enters kl km QO QM
theorem over:Rows.fnAgreementRow.holds Tryz.pinned (OpenSpec.ofChange Rows.fnAgreementSpec):=
 OpenClaim.holds_of_wide 3 Tryz.f3 rfl rfl rfl rfl rfl rfl rfl ⟨rfl,rfl,rfl,rfl,rfl⟩ rfl rfl rfl rfl rfl kn Tryz.func3 kj
  ki (by unfold Func.isWrapper;first|(rw[if_pos (by decide +kernel)];kernel_rfl)|(rw[if_neg (by decide +kernel)];exact⟨rfl,rfl⟩))
  (λos started H enc _=>lifted os started H enc)
theorem proved:Rows.FnAgreementCardSaid:=
 Claim7.holds_tied_plain_at .later [] [.data,.data,.data,.data,.sentinel,.sentinel,.pinned] true (true,"fad4c4ae4fa2c0728801922f9093a37e7c4ffc354e281f758e61b56b063a6bcd") true over (λ_ h=>by cases h) (by kernel_rfl) (λ_ h=>by cases h) fnAgreement_row_tie rfl ⟨rfl,rfl⟩ (by kernel_rfl) rfl
  (λf fn d b=>by
   obtain rfl:f=3:=Option.some.inj (kn.symm.trans d) |>.symm
   obtain rfl:fn=Tryz.f3:=(Option.some.inj (Tryz.func3.symm.trans b)).symm
   exact⟨by kernel_rfl,λj t c=>by
    rw[Tryz.params3]at c
    have hm:t∈[22]:=by simpa using Array.mem_of_getElem? c
    have a:([22].all λu=>!Tryz.prog.wantsStandIn u)=true:=by kernel_rfl
    exact(show Tryz.prog.wantsStandIn t=false by simpa using List.all_eq_true.1 a t hm)⟩)
  (by kernel_rfl)
end Go.Proofs.YtapnabgdcndleaaGreatDoor.fnAgreement
