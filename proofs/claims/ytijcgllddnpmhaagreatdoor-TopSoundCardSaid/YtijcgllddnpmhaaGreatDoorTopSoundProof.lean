/- TopSound: TopSound: for every input the law returns true and leaves its arguments as they were; no condition.. -/
import Derived.Test.YtijcgllddnpmhaaGreatDoorRows
import Derived.Test.YtijcgllddnpmhaaGreatDoorTopSoundT45
import Derived.Test.YtijcgllddnpmhaaGreatDoorTie
import Derived.Test.YtijcgllddnpmhaaGreatDoorCards
import Derived.LaidLaws
import Derived.LaidHandle
import Derived.Stop.Joined
import Derived.SevenTiedAt
namespace Go.Proofs.YtijcgllddnpmhaaGreatDoor.topSoundP
open Go.ChangeShapes Go.WideShapes Go.ChangeAt Go.RowKit
open Go.ChangeMaps (open_string shut_string)
set_option linter.unusedVariables false
theorem own:ownKnob Tryz.prog.godebug=none:=by kernel_rfl
theorem laidOut:laidOutB Tryz.prog=true:=by kernel_rfl
theorem et:Tryz.prog.globalNamed "errors.errorType" =some 0:=by kernel_rfl
theorem oneRow:((List.range Tryz.prog.types.size).filter fun t=>Tryz.prog.rowNamed t [101,114,114,111,114])=[32]:=by kernel_rfl
theorem Gh{W:World}(h:laidMetH Tryz.prog [("errors.errorType",Rows.laid_errors_errorType)] W):W.cell? ⟨0,0,none⟩=some (.iface 309 (.agg #[.pointer (some ⟨1,32,none⟩)])):=by
 have h':laidMet Tryz.prog [] W/\handlesMet Tryz.prog [("errors.errorType",Rows.laid_errors_errorType)] W:=h
 obtain⟨name,u,ty,e1,e2,e3,e4,e5⟩:=h'.2 _ (Lf.2 rfl)
 have en:name=[101,114,114,111,114]:=(Nd e1).symm
 subst en
 obtain rfl:u=309:=Nd (e2.symm.trans (by kernel_rfl))
 have hm:ty∈(List.range Tryz.prog.types.size).filter fun t=>Tryz.prog.rowNamed t [101,114,114,111,114]:=List.mem_filter.2 ⟨LR.2 e3,e4⟩
 rw[oneRow] at hm
 obtain rfl:=List.mem_singleton.1 hm
 have hh:typeHandle Tryz.prog 32= .pointer (some ⟨1,32,none⟩):=by kernel_rfl
 rw[hh] at e5
 simpa using World.var?_cell et e5 0
noncomputable def EB(os:Os):World:=
 let w0:=World.holding Tryz.prog os ⟨#[],#[],[]⟩
 {w0 with heap:=w0.heap.modify 0 fun
   | .cells _ t frozen=> .cells #[.iface 309 (.agg #[.pointer (some ⟨1,32,none⟩)])] t frozen
   |o=>o}
theorem GO(os:Os)(args:Array Value):laidMetH Tryz.prog [("errors.errorType",Rows.laid_errors_errorType)] ((EB os).forCall (fun _ _=>0) ⟨#[],args,[]⟩).memory:=
 laidMetH_of_parts (laidMet_nil _ _) (by kernel_rfl)
set_option maxRecDepth 100000 in
theorem lifted(os:Os)(started:os.Started)(H:Type)(enc:TypeId×Value->H):
  ReturnsInHanded {} Tryz.checked os 3 .any (fun w args=>(Rows.topSoundSpec.pre enc Tryz.prog Tryz.f3 [] false w args/\laidMetH Tryz.prog [("errors.errorType",Rows.laid_errors_errorType)] w)/\sizedMet enc Tryz.prog Tryz.f3 (OpenSpec.ofChange Rows.topSoundSpec) false w args)
   (Rows.topSoundSpec.post enc Tryz.prog Tryz.f3 false true false false):=by
 refine returnsInHanded_of_change_and (C:=Tryz.checked) (X:=fun w _=>laidMetH Tryz.prog [("errors.errorType",Rows.laid_errors_errorType)] w) (fun _ _ _ hh h=>h.of_heap hh) own started (by kernel_rfl) Tryz.func3
  (ChangeSpec.witness_at (enc:=enc) (C:=Tryz.checked) (os:=os) (X:=fun w _=>laidMetH Tryz.prog [("errors.errorType",Rows.laid_errors_errorType)] w) false (EB os) #[.slice none 0 0] 8 rfl (by kernel_rfl) (by kernel_rfl) (by kernel_rfl) (by kernel_rfl) (by kernel_rfl) (GO os _)) ?_
 intro W base args ds gs before hval0 hW hcnd hsz0 hL _
 have hval:∀(j:Nat) t v,Tryz.f3.params[j]?=some t->args[j]?=some v->Value.okWide Tryz.prog W .any base t v:=hval0
 have hW':=hW
 obtain⟨p,q,hA0,hV,rfl,hfz,hnd⟩:=hW
 have hA:DataW.TrodAll enc Tryz.prog W 0 (fun _=>true) true Tryz.f3.params.toList args.toList ds p:=hA0
 have hsz:(DataW.weightsEach Tryz.prog (Tryz.f3.params.toList++Rows.topSoundSpec.plain.varTypes Tryz.prog) (ds++gs)).all (·<=reachBytes)=true:=hsz0
 rw[Tryz.params3] at hA hval hsz
 obtain⟨v0,vs0,d0,ds0,p0,q0,hargs,rfl,rfl,h0,r_0⟩:=trodAll_cons hA
 obtain⟨rfl,rfl,rfl⟩:=trodAll_nil r_0
 obtain rfl:args=#[v0]:=by cases args;simp_all
 obtain⟨rfl,rfl⟩:=trodVars_none hV
 have k0:=h0
 have lt0:∀x∈p0,x.block<W.heap.size:=by obtain⟨m,hm⟩:=k0;exact DataW.trod_lt m _ _ _ hm
 obtain⟨A0,c0,l0,rfl,q0,m0,r0⟩:=arg_bytes Tryz.underlying22 Tryz.underlying5 (by kernel_rfl) (by kernel_rfl) (hval 0 22 v0 rfl rfl) h0 (fit_of hsz 0 22 _ rfl (by rfl))
 clear hA0 hval0 hsz0
 refine(law_TopSound A0 c0 l0 W q0 m0 r0 (Gh hL)).mono fun e W' ⟨he,bel⟩=>?_
 subst he
 exact⟨_,rfl,_,_,_,[],_,[],hW',trodAll_mk1 (shut_bool Tryz.underlying4 _),(trodAll_cons_mk (Below.trod laidOut (by kernel_rfl) (of_decide_eq_true (by kernel_rfl)) k0 bel lt0) trodAll_mk0),rfl,bel.frame _,fun h=>by cases h⟩
theorem q1:(Rows.topSoundRow.wf (OpenSpec.ofChange Rows.topSoundSpec))=true:=by kernel_rfl
theorem q2:(laidOutB Tryz.prog)=true:=by kernel_rfl
theorem q3:(mapsRowed Tryz.prog)=true:=by kernel_rfl
theorem q4:(Tryz.f3.params.all (Tryz.prog.readableRec ·))=true:=by kernel_rfl
theorem q5:(namedTie Tryz.prog Rows.topSoundRow.named Rows.topSoundSpec.vars)=true:=by kernel_rfl
theorem q6:((Rows.topSoundRow.stops==[]))=true:=by kernel_rfl
theorem q7:((Tryz.prog.stops==[]))=true:=by kernel_rfl
theorem q8:((Rows.topSoundRow.knobs==[]))=true:=by kernel_rfl
theorem q9:((Tryz.prog.stopKnobs==[]))=true:=by kernel_rfl
theorem q10:((Rows.topSoundRow.inPlace==Tryz.prog.inPlace 3))=true:=by kernel_rfl
theorem q11:((Rows.topSoundRow.unfollowed==Tryz.prog.unfollowed 3))=true:=by kernel_rfl
theorem q12:((Rows.topSoundRow.recurses==Tryz.prog.recurses 3))=true:=by kernel_rfl
theorem q13:((Rows.topSoundRow.named==Tryz.prog.varsNamed 3))=true:=by kernel_rfl
theorem q14:((Rows.topSoundRow.maps==(Tryz.f3.params.toList++Rows.topSoundSpec.plain.varTypes Tryz.prog).any (Tryz.prog.mapsRec ·)))=true:=by kernel_rfl
theorem q15:((Rows.topSoundRow.ifaces==(Tryz.f3.params.toList++Rows.topSoundSpec.plain.varTypes Tryz.prog).any (Tryz.prog.ifacesRec ·)))=true:=by kernel_rfl
theorem q16:((Rows.topSoundRow.mapsOut==Tryz.prog.mapsAmong Tryz.f3.resultTypes.toList))=true:=by kernel_rfl
theorem q17:((Rows.topSoundRow.loops==(Tryz.f3.params.toList++Rows.topSoundSpec.plain.varTypes Tryz.prog).any (Tryz.prog.loopsFrom ·)))=true:=by kernel_rfl
theorem q18:((Rows.topSoundRow.wideKeys==(Tryz.f3.params.toList++Rows.topSoundSpec.plain.varTypes Tryz.prog++Tryz.f3.resultTypes.toList).any (Tryz.prog.wideKeysFrom ·)))=true:=by kernel_rfl
theorem q19:(Rows.topSoundSpec.vars.all (Tryz.prog.varReadable ·))=true:=by kernel_rfl
theorem q20:(Tryz.f3.resultTypes.all (fun t=>Tryz.prog.readableRec t&&decide (t<Tryz.prog.types.size)))=true:=by kernel_rfl
theorem q21:((Rows.topSoundRow.ifacesOut==Tryz.f3.resultTypes.toList.any (Tryz.prog.ifacesRec ·)))=true:=by kernel_rfl
theorem q22:((Rows.topSoundRow.loopsOut==Tryz.f3.resultTypes.toList.any (Tryz.prog.loopsFrom ·)))=true:=by kernel_rfl
theorem q23:((Rows.topSoundRow.plainKeys==Tryz.prog.plainKeys))=true:=by kernel_rfl
theorem q24:(Rows.topSoundRow.shortTexts.isNone)=true:=by kernel_rfl
theorem q25:(Tryz.prog.stopsHeard)=true:=by kernel_rfl
theorem q26:(Tryz.prog.mayEnter)=true:=by kernel_rfl
theorem q27:((Rows.topSoundRow.lifted==Tryz.prog.liftsFinal))=true:=by kernel_rfl
theorem q28:((Tryz.prog.make==some Rows.topSoundRow.make))=true:=by kernel_rfl
theorem q29:((Rows.topSoundRow.kinds==(if Rows.topSoundRow.domain.isEmpty then [] else Tryz.f3.params.toList.map fun t=>match Tryz.prog.underlying t with|some (.int k)=>some k|_=>none)))=true:=by kernel_rfl
theorem q30:((Rows.topSoundRow.pinned==Rows.topSoundRow.pinnedBy))=true:=by kernel_rfl
theorem q31:((Rows.topSoundRow.veiled==(Tryz.f3.params.toList++Rows.topSoundSpec.plain.varTypes Tryz.prog++Tryz.f3.resultTypes.toList).any (Tryz.prog.veiledRec ·)))=true:=by kernel_rfl
theorem q32:(Rows.topSoundRow.veiledFits Tryz.prog Tryz.f3.params.toList (Tryz.f3.params.toList++Rows.topSoundSpec.plain.varTypes Tryz.prog++Tryz.f3.resultTypes.toList))=true:=by kernel_rfl
set_option maxRecDepth 100000 in
theorem closed:joinedFacts Tryz.prog 3 Tryz.f3 Rows.topSoundSpec Rows.topSoundRow=true:=by
 unfold joinedFacts
 exact Nj.2 ⟨Nj.2 ⟨Nj.2 ⟨Nj.2 ⟨Nj.2 ⟨Nj.2 ⟨Nj.2 ⟨Nj.2 ⟨Nj.2 ⟨Bool.and_eq_true_iff.2 ⟨Nj.2 ⟨Nj.2 ⟨Nj.2 ⟨Nj.2 ⟨Nj.2 ⟨Nj.2 ⟨Nj.2 ⟨Nj.2 ⟨Nj.2 ⟨Nj.2 ⟨Nj.2 ⟨Nj.2 ⟨Nj.2 ⟨Nj.2 ⟨Nj.2 ⟨Nj.2 ⟨Nj.2 ⟨Nj.2 ⟨Nj.2 ⟨Nj.2 ⟨Nj.2 ⟨q1,q2⟩,q3⟩,q4⟩,q5⟩,q6⟩,q7⟩,q8⟩,q9⟩,q10⟩,q11⟩,q12⟩,q13⟩,q14⟩,q15⟩,q16⟩,q17⟩,q18⟩,q19⟩,q20⟩,q21⟩,q22⟩,q23⟩,q24⟩,q25⟩,q26⟩,q27⟩,q28⟩,q29⟩,q30⟩,q31⟩,q32⟩
theorem named_:Tryz.prog.funcNamed Rows.topSoundRow.func=some 3:=by kernel_rfl
set_option maxRecDepth 100000 in
theorem row:Rows.TopSoundSaid:=
 OpenClaim.holds_of_wide 3 Tryz.f3 rfl rfl rfl rfl rfl rfl rfl ⟨rfl,rfl,rfl,rfl,rfl⟩ rfl rfl rfl rfl rfl named_ Tryz.func3 closed
  (of_decide_eq_true (by kernel_rfl)) (by unfold Func.isWrapper;first|(rw[if_pos (by decide+kernel)];kernel_rfl)|(rw[if_neg (by decide+kernel)];exact⟨rfl,rfl⟩))
  (fun os started H enc _=>lifted os started H enc)
theorem proved:Rows.TopSoundCardSaid:=
 Claim7.holds_tied_plain_at .later [] [.handle] true (true, "99f8c00c083e1ae627de0ef2608da93e0a8e4f3be75c19d0fc19d3b982b98e19") true
  row (fun _ h=>by cases h) (by kernel_rfl) (fun _ h=>by cases h) topSound_row_tie rfl ⟨rfl,rfl⟩ (by kernel_rfl) rfl
  (fun f fn hf hfn=>by
   obtain rfl:f=3:=Nd (hf.symm.trans (by kernel_rfl))
   obtain rfl:fn=Tryz.f3:=(Nd (Tryz.func3.symm.trans hfn)).symm
   exact⟨by kernel_rfl,fun j t ht=>by
    rw[Tryz.params3] at ht
    rcases j with _|j
    ·obtain rfl:=Nd ht;exact(show Tryz.prog.wantsStandIn _=false by kernel_rfl)
    ·exact absurd ht (by simp)⟩)
  (by kernel_rfl)
#print axioms proved
end Go.Proofs.YtijcgllddnpmhaaGreatDoor.topSoundP
