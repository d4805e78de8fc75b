/- The law SchemaWrites answers true: schema.Write answers of a sheet what the document answers: the same tree, its notes and places apart, or the same refusal; what is written is read again as the sheet, its places apart. Conditions: the arguments hold together at most 2^20 values and letters (the second form's bound); the listed package-level variables start as the program's text lays them (the card ties them). -/
import Derived.Test.YtmfejjlmflgnbaaGreatDoorVLaid
import Derived.Test.YtmfejjlmflgnbaaGreatDoorVScLw
import Derived.Test.YtmfejjlmflgnbaaGreatDoorVScTs
import Derived.SevenTiedAt
import Derived.ShutString
set_option linter.unusedVariables false
set_option linter.unusedSimpArgs false
set_option maxRecDepth 100000
namespace Go.Proofs.YtmfejjlmflgnbaaGreatDoor.SchemaWritesP
open ChangeShapes WideShapes ChangeAt RowKit Sc Tok PA YtmfejjlmflgnbaaGreatDoorW.PrintWords YtmfejjlmflgnbaaGreatDoorW.PrintLast
open ChangeMaps (open_string shut_string)
theorem own:ownKnob Tryz.prog.godebug=none:=by kernel_rfl
theorem contract (H:Type) (enc:TypeId × Value→H) (W:World) (base:Nat) (args:Array Value) (ds gs:List (DataW H)) (before:List MemPlace)
  (hval0:∀ (j:Nat) t v,Tryz.f9.params[j]?=some t→args[j]?=some v→Value.okWide Tryz.prog W .any base t v)
  (hW:DataW.Whole enc Tryz.prog Tryz.f9.params.toList Rows.schemaWritesSpec.vars false W args.toList ds gs before) (hk:Rows.uptoSmall H (ds++gs)=true) (hL:laidMetH Tryz.prog laidS W) (hS:W.ShapedOpen Tryz.prog) :
  Calls Tryz.prog 9 args W fun e W'=>∃ v,e=.returned v∧Rows.schemaWritesSpec.post enc Tryz.prog Tryz.f9 false true false false W args v W':=by
 have hval:∀ (j:Nat) t v,Tryz.f9.params[j]?=some t→args[j]?=some v→Value.okWide Tryz.prog W .any base t v:=hval0
 have hW':=hW
 obtain ⟨p,q,hA0,hV,rfl,hfz,hnd⟩:=hW
 have hA:DataW.TrodAll enc Tryz.prog W 0 (fun _=>true) true Tryz.f9.params.toList args.toList ds p:=hA0
 rw [Tryz.params9] at hA hval
 obtain ⟨v0,vs0,d0,ds0,p0,q0,hargs,rfl,rfl,h0,r0⟩:=trodAll_cons hA
 obtain ⟨rfl,rfl,rfl⟩:=trodAll_nil r0
 obtain rfl:args=#[v0]:=by cases args;simp_all
 obtain ⟨rfl,rfl⟩:=trodVars_none hV
 have kk0:=h0
 obtain ⟨s,A,c,rfl,hC0,hb0⟩:=open_sheetV (hval 0 64 v0 rfl rfl) h0

 have hbw:wtIs s.items≤1048576:=by
  have h1:=of_decide_eq_true hk
  simp only [List.cons_append,List.nil_append,List.append_nil,Rows.uptoBulkAll] at h1
  omega

 obtain ⟨eb,hEG⟩:=eglob_of_laid hL
 refine (writes_calls eb s A c W (sheetV_sz s hbw) (sheetV_len s hbw) hC0 hEG (glob_of_laid hL hS) (type_of_laid hL)).mono fun e W' ⟨he,bel⟩=>?_
 subst he
 refine ⟨_,rfl,_,_,_,[],p0,[],hW',?_,?_,?_,bel.frame _,fun h=>by cases h⟩
 ·exact trodAll_mk1 (shut_bool Tryz.underlying4 _)
 ·exact trodAll_mk1 (shut_below (of_decide_eq_true (by kernel_rfl)) kk0 bel (by kernel_rfl))
 ·rfl
theorem reads (os:Os) {H:Type} (enc:TypeId × Value→H):∃ places,DataW.whole enc Tryz.prog ((laidWorld os).forCall (fun _ _=>0) ⟨#[],#[Value.agg #[.string ⟨#[]⟩,.slice none 0 0]],[]⟩).memory Tryz.f9.params.toList Rows.schemaWritesSpec.vars false #[Value.agg #[.string ⟨#[]⟩,.slice none 0 0]].toList 8=some ([.agg [.lit (.string []),.nil]],[],places) :=
 ⟨[],by kernel_rfl⟩
theorem hv (os:Os):((laidWorld os).forCall (fun _ _=>0) ⟨#[],#[Value.agg #[.string ⟨#[]⟩,.slice none 0 0]],[]⟩).variablesRefB Tryz.prog=true:=by kernel_rfl
theorem hr (os:Os):(((laidWorld os).forCall (fun _ _=>0) ⟨#[],#[Value.agg #[.string ⟨#[]⟩,.slice none 0 0]],[]⟩).heap.toList.drop Tryz.prog.globals.size).take ((begin Tryz.prog (fun _ _=>0) default).world.heap.size - Tryz.prog.globals.size) =
  (begin Tryz.prog (fun _ _=>0) default).world.heap.toList.drop Tryz.prog.globals.size:=by kernel_rfl
theorem hok (os:Os):Input.okWideB Tryz.prog ((laidWorld os).forCall (fun _ _=>0) ⟨#[],#[Value.agg #[.string ⟨#[]⟩,.slice none 0 0]],[]⟩) 9 ⟨#[],#[Value.agg #[.string ⟨#[]⟩,.slice none 0 0]],[]⟩=true:=by kernel_rfl
theorem laidE:Rows.schemaWritesUptoRow.laid=laidS:=rfl
theorem hcond {H:Type}:∀ k,(Rows.OpenSpec.upto Rows.schemaWritesSpec).cond=some k→k H ([.agg [.lit (.string []),.nil]]++[])=true:=by
 intro k hk
 cases hk
 rfl
theorem hpre (os:Os) {H:Type} (enc:TypeId × Value→H):(Rows.OpenSpec.upto Rows.schemaWritesSpec).preRow enc Tryz.prog Tryz.f9 Rows.schemaWritesUptoRow.domain false Rows.schemaWritesUptoRow.laid ((laidWorld os).forCall (fun _ _=>0) ⟨#[],#[Value.agg #[.string ⟨#[]⟩,.slice none 0 0]],[]⟩).memory #[Value.agg #[.string ⟨#[]⟩,.slice none 0 0]]:=by
 obtain ⟨places,hx⟩:=reads os enc
 rw [laidE]
 have hlaid:=wit_laid os #[Value.agg #[.string ⟨#[]⟩,.slice none 0 0]]
 unfold wit at hlaid
 exact OpenSpec.preRow_of_cond 8 hx (by kernel_rfl) hcond (by kernel_rfl) hlaid
theorem liftedUpto (os:Os) (started:os.Started) (H:Type) (enc:TypeId × Value→H) (F:Stop.Interp) :
  ReturnsInHanded {} Tryz.checked os 9 .any ((Rows.OpenSpec.upto Rows.schemaWritesSpec).preRow enc Tryz.prog Tryz.f9 Rows.schemaWritesUptoRow.domain false Rows.schemaWritesUptoRow.laid) (((Rows.OpenSpec.upto Rows.schemaWritesSpec).at F).post enc Tryz.prog Tryz.f9 false true false false):=by
 refine returnsInHanded_of_row (C:=Tryz.checked) (s:=Rows.OpenSpec.upto Rows.schemaWritesSpec) own started (by kernel_rfl) Tryz.func9
  (witness_row_atRef (enc:=enc) (C:=Tryz.checked) false (laidWorld os) #[Value.agg #[.string ⟨#[]⟩,.slice none 0 0]] rfl (hv os) (hr os) (hok os) (hpre os enc)) ?_
 intro W base args ds gs before hval hW _ hcond _ hL hS _
 exact contract H enc W base args ds gs before hval hW (hcond _ rfl) hL hS
theorem band {a b:Bool} (h:a=true) (k:b=true):(a&&b)=true:=by rw [h,k];rfl
theorem k0:(Rows.schemaWritesUptoRow.wf (OpenSpec.ofChange (Rows.OpenSpec.upto Rows.schemaWritesSpec).bare))=true:=by kernel_rfl
theorem k1:(laidOutB Tryz.prog)=true:=by kernel_rfl
theorem k2:(mapsRowed Tryz.prog)=true:=by kernel_rfl
theorem k3:(Tryz.f9.params.all (Tryz.prog.readableRec ·))=true:=by kernel_rfl
theorem k4:(namedTie Tryz.prog Rows.schemaWritesUptoRow.named (Rows.OpenSpec.upto Rows.schemaWritesSpec).bare.vars)=true:=by kernel_rfl
theorem k5:((Rows.schemaWritesUptoRow.stops == []))=true:=by kernel_rfl
theorem k6:((Tryz.prog.stops == []))=true:=by kernel_rfl
theorem k7:((Rows.schemaWritesUptoRow.knobs == []))=true:=by kernel_rfl
theorem k8:((Tryz.prog.stopKnobs == []))=true:=by kernel_rfl
theorem k9:((Rows.schemaWritesUptoRow.inPlace == Tryz.prog.inPlace 9))=true:=by kernel_rfl
theorem k10:((Rows.schemaWritesUptoRow.unfollowed == Tryz.prog.unfollowed 9))=true:=by kernel_rfl
theorem k11:((Rows.schemaWritesUptoRow.recurses == Tryz.prog.recurses 9))=true:=by kernel_rfl
theorem k12:((Rows.schemaWritesUptoRow.named == Tryz.prog.varsNamed 9))=true:=by kernel_rfl
theorem k13:((Rows.schemaWritesUptoRow.maps == (Tryz.f9.params.toList++(Rows.OpenSpec.upto Rows.schemaWritesSpec).bare.plain.varTypes Tryz.prog).any (Tryz.prog.mapsRec ·)))=true:=by kernel_rfl
theorem k14:((Rows.schemaWritesUptoRow.ifaces == (Tryz.f9.params.toList++(Rows.OpenSpec.upto Rows.schemaWritesSpec).bare.plain.varTypes Tryz.prog).any (Tryz.prog.ifacesRec ·)))=true:=by kernel_rfl
theorem k15:((Rows.schemaWritesUptoRow.mapsOut == Tryz.prog.mapsAmong Tryz.f9.resultTypes.toList))=true:=by kernel_rfl
theorem k16:((Rows.schemaWritesUptoRow.loops == (Tryz.f9.params.toList++(Rows.OpenSpec.upto Rows.schemaWritesSpec).bare.plain.varTypes Tryz.prog).any (Tryz.prog.loopsFrom ·)))=true:=by kernel_rfl
theorem k17:((Rows.schemaWritesUptoRow.wideKeys == (Tryz.f9.params.toList++(Rows.OpenSpec.upto Rows.schemaWritesSpec).bare.plain.varTypes Tryz.prog++Tryz.f9.resultTypes.toList).any (Tryz.prog.wideKeysFrom ·)))=true:=by kernel_rfl
theorem k18:((Rows.OpenSpec.upto Rows.schemaWritesSpec).bare.vars.all (Tryz.prog.varReadable ·))=true:=by kernel_rfl
theorem k19:(Tryz.f9.resultTypes.all (fun t=>Tryz.prog.readableRec t&&decide (t<Tryz.prog.types.size)))=true:=by kernel_rfl
theorem k20:((Rows.schemaWritesUptoRow.ifacesOut == Tryz.f9.resultTypes.toList.any (Tryz.prog.ifacesRec ·)))=true:=by kernel_rfl
theorem k21:((Rows.schemaWritesUptoRow.loopsOut == Tryz.f9.resultTypes.toList.any (Tryz.prog.loopsFrom ·)))=true:=by kernel_rfl
theorem k22:((Rows.schemaWritesUptoRow.plainKeys == Tryz.prog.plainKeys))=true:=by kernel_rfl
theorem k23:(Rows.schemaWritesUptoRow.shortTexts.isNone)=true:=by kernel_rfl
theorem k24:(Tryz.prog.stopsHeard)=true:=by kernel_rfl
theorem k25:(Tryz.prog.mayEnter)=true:=by kernel_rfl
theorem k26:((Rows.schemaWritesUptoRow.lifted == Tryz.prog.liftsFinal))=true:=by kernel_rfl
theorem k27:((Tryz.prog.make == some Rows.schemaWritesUptoRow.make))=true:=by kernel_rfl
theorem k28:((Rows.schemaWritesUptoRow.kinds == (if Rows.schemaWritesUptoRow.domain.isEmpty then [] else Tryz.f9.params.toList.map fun t=>match Tryz.prog.underlying t with | some (.int k)=>some k | _=>none)))=true:=by kernel_rfl
theorem k29:((Rows.schemaWritesUptoRow.pinned == Rows.schemaWritesUptoRow.pinnedBy))=true:=by kernel_rfl
theorem k30:((Rows.schemaWritesUptoRow.veiled == (Tryz.f9.params.toList++(Rows.OpenSpec.upto Rows.schemaWritesSpec).bare.plain.varTypes Tryz.prog++Tryz.f9.resultTypes.toList).any (Tryz.prog.veiledRec ·)))=true:=by kernel_rfl
theorem k31:(Rows.schemaWritesUptoRow.veiledFits Tryz.prog Tryz.f9.params.toList (Tryz.f9.params.toList++(Rows.OpenSpec.upto Rows.schemaWritesSpec).bare.plain.varTypes Tryz.prog++Tryz.f9.resultTypes.toList))=true:=by kernel_rfl
theorem closed:joinedFacts Tryz.prog 9 Tryz.f9 (Rows.OpenSpec.upto Rows.schemaWritesSpec).bare Rows.schemaWritesUptoRow=true:=by
 unfold joinedFacts
 exact (band (band (band (band (band (band (band (band (band (band (band (band (band (band (band (band (band (band (band (band (band (band (band (band (band (band (band (band (band (band (band k0 k1) k2) k3) k4) k5) k6) k7) k8) k9) k10) k11) k12) k13) k14) k15) k16) k17) k18) k19) k20) k21) k22) k23) k24) k25) k26) k27) k28) k29) k30) k31)
theorem saidUpto:Rows.SchemaWritesUptoSaid :=
 OpenClaim.holds_of_cond 9 Tryz.f9 rfl rfl rfl rfl rfl rfl rfl ⟨rfl,rfl,rfl,rfl,rfl⟩ rfl rfl rfl rfl rfl (by kernel_rfl) Tryz.func9 closed
  (of_decide_eq_true (by kernel_rfl)) (by unfold Func.isWrapper;first | (rw [if_pos (by decide +kernel)];kernel_rfl) | (rw [if_neg (by decide +kernel)];exact ⟨rfl,rfl⟩))
  (fun os started H enc _ F=>by rw [OpenClaim.pre_eq_preRow];exact liftedUpto os started H enc F)
theorem plain (f : FuncId) (fn : Func) (hf : Tryz.pinned.checked.prog.funcNamed "tappet/tappetlaw05.SchemaWrites" = some f) (hfn : Tryz.pinned.checked.prog.funcs[f]? = some fn) :
  true=Tryz.pinned.checked.prog.looks []∧∀ (j:Nat) t,fn.params[j]?=some t→Tryz.pinned.checked.prog.wantsStandIn t=false:=by
 obtain rfl : f = 9 := Option.some.inj ((show Tryz.prog.funcNamed "tappet/tappetlaw05.SchemaWrites" = some 9 by kernel_rfl).symm.trans hf) |>.symm
 obtain rfl:fn=Tryz.f9:=(Option.some.inj (Tryz.func9.symm.trans hfn)).symm
 refine ⟨by kernel_rfl,fun j t ht=>?_⟩
 rw [Tryz.params9] at ht
 have hm:=Array.mem_of_getElem? ht
 simp only [List.mem_toArray,List.mem_cons,List.mem_nil_iff,or_false] at hm
 rcases hm with rfl
 ·exact (show Tryz.prog.wantsStandIn 64=false by kernel_rfl)
theorem cardUpto:Rows.SchemaWritesUptoCardSaid :=
 Claim7.holds_tied_plain_at .later [] _ _ _ _ saidUpto (fun _ h=>by cases h) (by kernel_rfl) (fun _ h=>by cases h) schemaWritesUpto_row_tie rfl ⟨rfl,rfl⟩ (by kernel_rfl) rfl plain (by kernel_rfl)
end Go.Proofs.YtmfejjlmflgnbaaGreatDoor.SchemaWritesP
namespace Go.Proofs.YtmfejjlmflgnbaaGreatDoor
/-- The card, under a short name, for the claim. -/
theorem schemaWritesUpto_card_holds:Rows.SchemaWritesUptoCardSaid:=SchemaWritesP.cardUpto
#print axioms schemaWritesUpto_card_holds
end Go.Proofs.YtmfejjlmflgnbaaGreatDoor
