/- The law SchemaReads answers true: schema.Read answers of a tree what the document answers: the same sheet, spots too, or the same first fault. Conditions: the arguments hold together at most 2^20 values and letters (the second form's bound); the listed package-level variables start as the program's text lays them (the card ties them). -/
import Derived.Test.YtmfejjlmflgnbaaGreatDoorZLaid
import Derived.Test.YtmfejjlmflgnbaaGreatDoorZScLr
import Derived.Test.YtmfejjlmflgnbaaGreatDoorZScTo
import Derived.SevenTiedAt
import Derived.ShutString
namespace Go.Proofs.YtmfejjlmflgnbaaGreatDoor.SchemaReadsP
open Go.ChangeShapes Go.WideShapes Go.ChangeAt Go.RowKit Go.Proofs.YtmfejjlmflgnbaaGreatDoor.Sc Go.Proofs.YtmfejjlmflgnbaaGreatDoor.Tok Go.Proofs.YtmfejjlmflgnbaaGreatDoor.PA Go.Proofs.YtmfejjlmflgnbaaGreatDoorW.PrintWords Go.Proofs.YtmfejjlmflgnbaaGreatDoorW.PrintLast
open Go.ChangeMaps (open_string shut_string)
set_option linter.unusedVariables false
set_option linter.unusedSimpArgs false
set_option maxRecDepth 100000

theorem own:ownKnob Tryz.prog.godebug=none:=by kernel_rfl
theorem contract (H:Type) (enc:TypeId × Value→H) (W:World) (base:Nat) (args:Array Value) (ds gs:List (DataW H)) (before:List MemPlace)
  (hval0:∀ (j:Nat) t v,Tryz.f8.params[j]?=some t→args[j]?=some v→Value.okWide Tryz.prog W .any base t v)
  (hW:DataW.Whole enc Tryz.prog Tryz.f8.params.toList Rows.schemaReadsSpec.vars false W args.toList ds gs before) (hk:Rows.uptoSmall H (ds++gs)=true) (hL:laidMetH Tryz.prog laidS W) (hS:W.ShapedOpen Tryz.prog) :
  Calls Tryz.prog 8 args W fun e W'=>∃ v,e=.returned v∧Rows.schemaReadsSpec.post enc Tryz.prog Tryz.f8 false true false false W args v W':=by
 have hval:∀ (j:Nat) t v,Tryz.f8.params[j]?=some t→args[j]?=some v→Value.okWide Tryz.prog W .any base t v:=hval0
 have hW':=hW
 obtain ⟨p,q,hA0,hV,rfl,hfz,hnd⟩:=hW
 have hA:DataW.TrodAll enc Tryz.prog W 0 (fun _=>true) true Tryz.f8.params.toList args.toList ds p:=hA0
 rw [Tryz.params8] at hA hval
 obtain ⟨v0,vs0,d0,ds0,p0,q0,hargs,rfl,rfl,h0,r0⟩:=trodAll_cons hA
 obtain ⟨rfl,rfl,rfl⟩:=trodAll_nil r0
 obtain rfl:args=#[v0]:=by cases args;simp_all
 obtain ⟨rfl,rfl⟩:=trodVars_none hV
 have kk0:=h0
 obtain ⟨t,A,c,rfl,hC0,hl0,hr0,hb0⟩:=open_treeV (hval 0 24 v0 rfl rfl) h0

 have hbk:∀ o ∈ t.f2,szL o.f3≤1048576:=fun o ho=>tree_szL t (by
  have h1:=of_decide_eq_true hk
  simp only [List.cons_append,List.nil_append,List.append_nil,Rows.uptoBulkAll] at h1
  omega) o ho
 have hbn:t.f2.length≤1048576:=tree_len t (by
  have h1:=of_decide_eq_true hk
  simp only [List.cons_append,List.nil_append,List.append_nil,Rows.uptoBulkAll] at h1
  omega)

 obtain ⟨eb,hEG⟩:=eglob_of_laid hL
 refine (reads_calls eb t A c W hbk hbn hC0 hEG (glob_of_laid hL hS) (type_of_laid hL)).mono fun e W' ⟨he,bel⟩=>?_
 subst he
 refine ⟨_,rfl,_,_,_,[],p0,[],hW',?_,?_,?_,bel.frame _,fun h=>by cases h⟩
 ·exact trodAll_mk1 (shut_bool Tryz.underlying4 _)
 ·exact trodAll_mk1 (shut_below (of_decide_eq_true (by kernel_rfl)) kk0 bel (by kernel_rfl))
 ·rfl
theorem reads (os:Os) {H:Type} (enc:TypeId × Value→H):∃ places,DataW.whole enc Tryz.prog ((laidWorld os).forCall (fun _ _=>0) ⟨#[],#[Value.agg #[.string ⟨#[]⟩,.string ⟨#[]⟩,.slice none 0 0,.bool false,.string ⟨#[]⟩]],[]⟩).memory Tryz.f8.params.toList Rows.schemaReadsSpec.vars false #[Value.agg #[.string ⟨#[]⟩,.string ⟨#[]⟩,.slice none 0 0,.bool false,.string ⟨#[]⟩]].toList 8=some ([.agg [.lit (.string []),.lit (.string []),.nil,.lit (.bool false),.lit (.string [])]],[],places) :=
 ⟨[],by kernel_rfl⟩
theorem hv (os:Os):((laidWorld os).forCall (fun _ _=>0) ⟨#[],#[Value.agg #[.string ⟨#[]⟩,.string ⟨#[]⟩,.slice none 0 0,.bool false,.string ⟨#[]⟩]],[]⟩).variablesRefB Tryz.prog=true:=by kernel_rfl
theorem hr (os:Os):(((laidWorld os).forCall (fun _ _=>0) ⟨#[],#[Value.agg #[.string ⟨#[]⟩,.string ⟨#[]⟩,.slice none 0 0,.bool false,.string ⟨#[]⟩]],[]⟩).heap.toList.drop Tryz.prog.globals.size).take ((begin Tryz.prog (fun _ _=>0) default).world.heap.size - Tryz.prog.globals.size) =
  (begin Tryz.prog (fun _ _=>0) default).world.heap.toList.drop Tryz.prog.globals.size:=by kernel_rfl
theorem hok (os:Os):Input.okWideB Tryz.prog ((laidWorld os).forCall (fun _ _=>0) ⟨#[],#[Value.agg #[.string ⟨#[]⟩,.string ⟨#[]⟩,.slice none 0 0,.bool false,.string ⟨#[]⟩]],[]⟩) 8 ⟨#[],#[Value.agg #[.string ⟨#[]⟩,.string ⟨#[]⟩,.slice none 0 0,.bool false,.string ⟨#[]⟩]],[]⟩=true:=by kernel_rfl
theorem laidE:Rows.schemaReadsUptoRow.laid=laidS:=rfl
theorem hcond {H:Type}:∀ k,(Rows.OpenSpec.upto Rows.schemaReadsSpec).cond=some k→k H ([.agg [.lit (.string []),.lit (.string []),.nil,.lit (.bool false),.lit (.string [])]]++[])=true:=by
 intro k hk
 cases hk
 rfl
theorem hpre (os:Os) {H:Type} (enc:TypeId × Value→H):(Rows.OpenSpec.upto Rows.schemaReadsSpec).preRow enc Tryz.prog Tryz.f8 Rows.schemaReadsUptoRow.domain false Rows.schemaReadsUptoRow.laid ((laidWorld os).forCall (fun _ _=>0) ⟨#[],#[Value.agg #[.string ⟨#[]⟩,.string ⟨#[]⟩,.slice none 0 0,.bool false,.string ⟨#[]⟩]],[]⟩).memory #[Value.agg #[.string ⟨#[]⟩,.string ⟨#[]⟩,.slice none 0 0,.bool false,.string ⟨#[]⟩]]:=by
 obtain ⟨places,hx⟩:=reads os enc
 rw [laidE]
 have hlaid:=wit_laid os #[Value.agg #[.string ⟨#[]⟩,.string ⟨#[]⟩,.slice none 0 0,.bool false,.string ⟨#[]⟩]]
 unfold wit at hlaid
 exact OpenSpec.preRow_of_cond 8 hx (by kernel_rfl) hcond (by kernel_rfl) hlaid
theorem liftedUpto (os:Os) (started:os.Started) (H:Type) (enc:TypeId × Value→H) (F:Stop.Interp) :
  ReturnsInHanded {} Tryz.checked os 8 .any ((Rows.OpenSpec.upto Rows.schemaReadsSpec).preRow enc Tryz.prog Tryz.f8 Rows.schemaReadsUptoRow.domain false Rows.schemaReadsUptoRow.laid) (((Rows.OpenSpec.upto Rows.schemaReadsSpec).at F).post enc Tryz.prog Tryz.f8 false true false false):=by
 refine returnsInHanded_of_row (C:=Tryz.checked) (s:=Rows.OpenSpec.upto Rows.schemaReadsSpec) own started (by kernel_rfl) Tryz.func8
  (witness_row_atRef (enc:=enc) (C:=Tryz.checked) false (laidWorld os) #[Value.agg #[.string ⟨#[]⟩,.string ⟨#[]⟩,.slice none 0 0,.bool false,.string ⟨#[]⟩]] rfl (hv os) (hr os) (hok os) (hpre os enc)) ?_
 intro W base args ds gs before hval hW _ hcond _ hL hS _
 exact contract H enc W base args ds gs before hval hW (hcond _ rfl) hL hS
theorem band {a b:Bool} (h:a=true) (k:b=true):(a&&b)=true:=by rw [h,k];rfl
theorem k0:(Rows.schemaReadsUptoRow.wf (OpenSpec.ofChange (Rows.OpenSpec.upto Rows.schemaReadsSpec).bare))=true:=by kernel_rfl
theorem k1:(laidOutB Tryz.prog)=true:=by kernel_rfl
theorem k2:(mapsRowed Tryz.prog)=true:=by kernel_rfl
theorem k3:(Tryz.f8.params.all (Tryz.prog.readableRec ·))=true:=by kernel_rfl
theorem k4:(namedTie Tryz.prog Rows.schemaReadsUptoRow.named (Rows.OpenSpec.upto Rows.schemaReadsSpec).bare.vars)=true:=by kernel_rfl
theorem k5:((Rows.schemaReadsUptoRow.stops == []))=true:=by kernel_rfl
theorem k6:((Tryz.prog.stops == []))=true:=by kernel_rfl
theorem k7:((Rows.schemaReadsUptoRow.knobs == []))=true:=by kernel_rfl
theorem k8:((Tryz.prog.stopKnobs == []))=true:=by kernel_rfl
theorem k9:((Rows.schemaReadsUptoRow.inPlace == Tryz.prog.inPlace 8))=true:=by kernel_rfl
theorem k10:((Rows.schemaReadsUptoRow.unfollowed == Tryz.prog.unfollowed 8))=true:=by kernel_rfl
theorem k11:((Rows.schemaReadsUptoRow.recurses == Tryz.prog.recurses 8))=true:=by kernel_rfl
theorem k12:((Rows.schemaReadsUptoRow.named == Tryz.prog.varsNamed 8))=true:=by kernel_rfl
theorem k13:((Rows.schemaReadsUptoRow.maps == (Tryz.f8.params.toList++(Rows.OpenSpec.upto Rows.schemaReadsSpec).bare.plain.varTypes Tryz.prog).any (Tryz.prog.mapsRec ·)))=true:=by kernel_rfl
theorem k14:((Rows.schemaReadsUptoRow.ifaces == (Tryz.f8.params.toList++(Rows.OpenSpec.upto Rows.schemaReadsSpec).bare.plain.varTypes Tryz.prog).any (Tryz.prog.ifacesRec ·)))=true:=by kernel_rfl
theorem k15:((Rows.schemaReadsUptoRow.mapsOut == Tryz.prog.mapsAmong Tryz.f8.resultTypes.toList))=true:=by kernel_rfl
theorem k16:((Rows.schemaReadsUptoRow.loops == (Tryz.f8.params.toList++(Rows.OpenSpec.upto Rows.schemaReadsSpec).bare.plain.varTypes Tryz.prog).any (Tryz.prog.loopsFrom ·)))=true:=by kernel_rfl
theorem k17:((Rows.schemaReadsUptoRow.wideKeys == (Tryz.f8.params.toList++(Rows.OpenSpec.upto Rows.schemaReadsSpec).bare.plain.varTypes Tryz.prog++Tryz.f8.resultTypes.toList).any (Tryz.prog.wideKeysFrom ·)))=true:=by kernel_rfl
theorem k18:((Rows.OpenSpec.upto Rows.schemaReadsSpec).bare.vars.all (Tryz.prog.varReadable ·))=true:=by kernel_rfl
theorem k19:(Tryz.f8.resultTypes.all (fun t=>Tryz.prog.readableRec t&&decide (t<Tryz.prog.types.size)))=true:=by kernel_rfl
theorem k20:((Rows.schemaReadsUptoRow.ifacesOut == Tryz.f8.resultTypes.toList.any (Tryz.prog.ifacesRec ·)))=true:=by kernel_rfl
theorem k21:((Rows.schemaReadsUptoRow.loopsOut == Tryz.f8.resultTypes.toList.any (Tryz.prog.loopsFrom ·)))=true:=by kernel_rfl
theorem k22:((Rows.schemaReadsUptoRow.plainKeys == Tryz.prog.plainKeys))=true:=by kernel_rfl
theorem k23:(Rows.schemaReadsUptoRow.shortTexts.isNone)=true:=by kernel_rfl
theorem k24:(Tryz.prog.stopsHeard)=true:=by kernel_rfl
theorem k25:(Tryz.prog.mayEnter)=true:=by kernel_rfl
theorem k26:((Rows.schemaReadsUptoRow.lifted == Tryz.prog.liftsFinal))=true:=by kernel_rfl
theorem k27:((Tryz.prog.make == some Rows.schemaReadsUptoRow.make))=true:=by kernel_rfl
theorem k28:((Rows.schemaReadsUptoRow.kinds == (if Rows.schemaReadsUptoRow.domain.isEmpty then [] else Tryz.f8.params.toList.map fun t=>match Tryz.prog.underlying t with | some (.int k)=>some k | _=>none)))=true:=by kernel_rfl
theorem k29:((Rows.schemaReadsUptoRow.pinned == Rows.schemaReadsUptoRow.pinnedBy))=true:=by kernel_rfl
theorem k30:((Rows.schemaReadsUptoRow.veiled == (Tryz.f8.params.toList++(Rows.OpenSpec.upto Rows.schemaReadsSpec).bare.plain.varTypes Tryz.prog++Tryz.f8.resultTypes.toList).any (Tryz.prog.veiledRec ·)))=true:=by kernel_rfl
theorem k31:(Rows.schemaReadsUptoRow.veiledFits Tryz.prog Tryz.f8.params.toList (Tryz.f8.params.toList++(Rows.OpenSpec.upto Rows.schemaReadsSpec).bare.plain.varTypes Tryz.prog++Tryz.f8.resultTypes.toList))=true:=by kernel_rfl
theorem closed:joinedFacts Tryz.prog 8 Tryz.f8 (Rows.OpenSpec.upto Rows.schemaReadsSpec).bare Rows.schemaReadsUptoRow=true:=by
 unfold joinedFacts
 exact (band (band (band (band (band (band (band (band (band (band (band (band (band (band (band (band (band (band (band (band (band (band (band (band (band (band (band (band (band (band (band k0 k1) k2) k3) k4) k5) k6) k7) k8) k9) k10) k11) k12) k13) k14) k15) k16) k17) k18) k19) k20) k21) k22) k23) k24) k25) k26) k27) k28) k29) k30) k31)
theorem saidUpto:Rows.SchemaReadsUptoSaid :=
 OpenClaim.holds_of_cond 8 Tryz.f8 rfl rfl rfl rfl rfl rfl rfl ⟨rfl,rfl,rfl,rfl,rfl⟩ rfl rfl rfl rfl rfl (by kernel_rfl) Tryz.func8 closed
  (of_decide_eq_true (by kernel_rfl)) (by unfold Func.isWrapper;first | (rw [if_pos (by decide +kernel)];kernel_rfl) | (rw [if_neg (by decide +kernel)];exact ⟨rfl,rfl⟩))
  (fun os started H enc _ F=>by rw [OpenClaim.pre_eq_preRow];exact liftedUpto os started H enc F)
theorem plain (f : FuncId) (fn : Func) (hf : Tryz.pinned.checked.prog.funcNamed "tappet/tappetlaw05.SchemaReads" = some f) (hfn : Tryz.pinned.checked.prog.funcs[f]? = some fn) :
  true=Tryz.pinned.checked.prog.looks []∧∀ (j:Nat) t,fn.params[j]?=some t→Tryz.pinned.checked.prog.wantsStandIn t=false:=by
 obtain rfl : f = 8 := Option.some.inj ((show Tryz.prog.funcNamed "tappet/tappetlaw05.SchemaReads" = some 8 by kernel_rfl).symm.trans hf) |>.symm
 obtain rfl:fn=Tryz.f8:=(Option.some.inj (Tryz.func8.symm.trans hfn)).symm
 refine ⟨by kernel_rfl,fun j t ht=>?_⟩
 rw [Tryz.params8] at ht
 have hm:=Array.mem_of_getElem? ht
 simp only [List.mem_toArray,List.mem_cons,List.mem_nil_iff,or_false] at hm
 rcases hm with rfl
 ·exact (show Tryz.prog.wantsStandIn 24=false by kernel_rfl)
theorem cardUpto:Rows.SchemaReadsUptoCardSaid :=
 Claim7.holds_tied_plain_at .later [] _ _ _ _ saidUpto (fun _ h=>by cases h) (by kernel_rfl) (fun _ h=>by cases h) schemaReadsUpto_row_tie rfl ⟨rfl,rfl⟩ (by kernel_rfl) rfl plain (by kernel_rfl)
end Go.Proofs.YtmfejjlmflgnbaaGreatDoor.SchemaReadsP
namespace Go.Proofs.YtmfejjlmflgnbaaGreatDoor
/-- The card, under a short name, for the claim. -/
theorem schemaReadsUpto_card_holds:Rows.SchemaReadsUptoCardSaid:=SchemaReadsP.cardUpto
#print axioms schemaReadsUpto_card_holds
end Go.Proofs.YtmfejjlmflgnbaaGreatDoor
