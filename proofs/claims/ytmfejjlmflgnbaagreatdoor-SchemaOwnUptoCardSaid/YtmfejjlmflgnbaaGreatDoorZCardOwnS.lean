/- The law SchemaOwn answers true: what schema.Read and schema.Write answer shares nothing with what was handed in, nor with one another: a sheet that is written over leaves the tree, the document's sheet and the tree that was written of it as they were. Conditions: the arguments hold together at most 2^20 values and letters (the second form's bound); the listed package-level variables start as the program's text lays them (the card ties them). -/
import Derived.Test.YtmfejjlmflgnbaaGreatDoorZLaid
import Derived.Test.YtmfejjlmflgnbaaGreatDoorZScLq
import Derived.Test.YtmfejjlmflgnbaaGreatDoorZScTo
import Derived.SevenTiedAt
import Derived.ShutString
namespace Go.Proofs.YtmfejjlmflgnbaaGreatDoor.SchemaOwnP
open Go.ChangeShapes Go.WideShapes Go.ChangeAt Go.RowKit Go.Proofs.YtmfejjlmflgnbaaGreatDoor.Sc Go.Proofs.YtmfejjlmflgnbaaGreatDoor.Tok Go.Proofs.YtmfejjlmflgnbaaGreatDoor.PA Go.Proofs.YtmfejjlmflgnbaaGreatDoorW.PrintWords Go.Proofs.YtmfejjlmflgnbaaGreatDoorW.PrintLast
open Go.ChangeMaps (open_string shut_string)
set_option linter.unusedVariables false
set_option linter.unusedSimpArgs false
set_option maxRecDepth 100000

theorem own:ownKnob Tryz.prog.godebug=none:=by kernel_rfl
theorem contract (H:Type) (enc:TypeId × Value→H) (W:World) (base:Nat) (args:Array Value) (ds gs:List (DataW H)) (before:List MemPlace)
  (hval0:∀ (j:Nat) t v,Tryz.f11.params[j]?=some t→args[j]?=some v→Value.okWide Tryz.prog W .any base t v)
  (hW:DataW.Whole enc Tryz.prog Tryz.f11.params.toList Rows.schemaOwnSpec.vars false W args.toList ds gs before) (hk:Rows.uptoSmall H (ds++gs)=true) (hL:laidMetH Tryz.prog laidS W) (hS:W.ShapedOpen Tryz.prog) :
  Calls Tryz.prog 11 args W fun e W'=>∃ v,e=.returned v∧Rows.schemaOwnSpec.post enc Tryz.prog Tryz.f11 false true false false W args v W':=by
 have hval:∀ (j:Nat) t v,Tryz.f11.params[j]?=some t→args[j]?=some v→Value.okWide Tryz.prog W .any base t v:=hval0
 have hW':=hW
 obtain ⟨p,q,hA0,hV,rfl,hfz,hnd⟩:=hW
 have hA:DataW.TrodAll enc Tryz.prog W 0 (fun _=>true) true Tryz.f11.params.toList args.toList ds p:=hA0
 rw [Tryz.params11] at hA hval
 obtain ⟨v0,vs0,d0,ds0,p0,q0,hargs,rfl,rfl,h0,r0⟩:=trodAll_cons hA
 obtain ⟨rfl,rfl,rfl⟩:=trodAll_nil r0
 obtain rfl:args=#[v0]:=by cases args;simp_all
 obtain ⟨rfl,rfl⟩:=trodVars_none hV
 have kk0:=h0
 obtain ⟨t,A,c,rfl,hC0,hl0,hr0,hb0⟩:=open_treeV (hval 0 24 v0 rfl rfl) h0

 have hbk:∀ o ∈ t.f2,szL o.f3≤1048576:=fun o ho=>tree_szL t (by
  have h1:=of_decide_eq_true hk
  simp only [List.cons_append,List.nil_append,List.append_nil,Rows.uptoBulkAll] at h1
  omega) o ho
 have hbn:t.f2.length≤1048576:=tree_len t (by
  have h1:=of_decide_eq_true hk
  simp only [List.cons_append,List.nil_append,List.append_nil,Rows.uptoBulkAll] at h1
  omega)

 obtain ⟨eb,hEG⟩:=eglob_of_laid hL
 refine (own_calls eb t A c W hbk hbn hC0 hEG (glob_of_laid hL hS) (type_of_laid hL)).mono fun e W' ⟨he,bel⟩=>?_
 subst he
 refine ⟨_,rfl,_,_,_,[],p0,[],hW',?_,?_,?_,bel.frame _,fun h=>by cases h⟩
 ·exact trodAll_mk1 (shut_bool Tryz.underlying4 _)
 ·exact trodAll_mk1 (shut_below (of_decide_eq_true (by kernel_rfl)) kk0 bel (by kernel_rfl))
 ·rfl
theorem reads (os:Os) {H:Type} (enc:TypeId × Value→H):∃ places,DataW.whole enc Tryz.prog ((laidWorld os).forCall (fun _ _=>0) ⟨#[],#[Value.agg #[.string ⟨#[]⟩,.string ⟨#[]⟩,.slice none 0 0,.bool false,.string ⟨#[]⟩]],[]⟩).memory Tryz.f11.params.toList Rows.schemaOwnSpec.vars false #[Value.agg #[.string ⟨#[]⟩,.string ⟨#[]⟩,.slice none 0 0,.bool false,.string ⟨#[]⟩]].toList 8=some ([.agg [.lit (.string []),.lit (.string []),.nil,.lit (.bool false),.lit (.string [])]],[],places) :=
 ⟨[],by kernel_rfl⟩
theorem hv (os:Os):((laidWorld os).forCall (fun _ _=>0) ⟨#[],#[Value.agg #[.string ⟨#[]⟩,.string ⟨#[]⟩,.slice none 0 0,.bool false,.string ⟨#[]⟩]],[]⟩).variablesRefB Tryz.prog=true:=by kernel_rfl
theorem hr (os:Os):(((laidWorld os).forCall (fun _ _=>0) ⟨#[],#[Value.agg #[.string ⟨#[]⟩,.string ⟨#[]⟩,.slice none 0 0,.bool false,.string ⟨#[]⟩]],[]⟩).heap.toList.drop Tryz.prog.globals.size).take ((begin Tryz.prog (fun _ _=>0) default).world.heap.size - Tryz.prog.globals.size) =
  (begin Tryz.prog (fun _ _=>0) default).world.heap.toList.drop Tryz.prog.globals.size:=by kernel_rfl
theorem hok (os:Os):Input.okWideB Tryz.prog ((laidWorld os).forCall (fun _ _=>0) ⟨#[],#[Value.agg #[.string ⟨#[]⟩,.string ⟨#[]⟩,.slice none 0 0,.bool false,.string ⟨#[]⟩]],[]⟩) 11 ⟨#[],#[Value.agg #[.string ⟨#[]⟩,.string ⟨#[]⟩,.slice none 0 0,.bool false,.string ⟨#[]⟩]],[]⟩=true:=by kernel_rfl
theorem laidE:Rows.schemaOwnUptoRow.laid=laidS:=rfl
theorem hcond {H:Type}:∀ k,(Rows.OpenSpec.upto Rows.schemaOwnSpec).cond=some k→k H ([.agg [.lit (.string []),.lit (.string []),.nil,.lit (.bool false),.lit (.string [])]]++[])=true:=by
 intro k hk
 cases hk
 rfl
theorem hpre (os:Os) {H:Type} (enc:TypeId × Value→H):(Rows.OpenSpec.upto Rows.schemaOwnSpec).preRow enc Tryz.prog Tryz.f11 Rows.schemaOwnUptoRow.domain false Rows.schemaOwnUptoRow.laid ((laidWorld os).forCall (fun _ _=>0) ⟨#[],#[Value.agg #[.string ⟨#[]⟩,.string ⟨#[]⟩,.slice none 0 0,.bool false,.string ⟨#[]⟩]],[]⟩).memory #[Value.agg #[.string ⟨#[]⟩,.string ⟨#[]⟩,.slice none 0 0,.bool false,.string ⟨#[]⟩]]:=by
 obtain ⟨places,hx⟩:=reads os enc
 rw [laidE]
 have hlaid:=wit_laid os #[Value.agg #[.string ⟨#[]⟩,.string ⟨#[]⟩,.slice none 0 0,.bool false,.string ⟨#[]⟩]]
 unfold wit at hlaid
 exact OpenSpec.preRow_of_cond 8 hx (by kernel_rfl) hcond (by kernel_rfl) hlaid
theorem liftedUpto (os:Os) (started:os.Started) (H:Type) (enc:TypeId × Value→H) (F:Stop.Interp) :
  ReturnsInHanded {} Tryz.checked os 11 .any ((Rows.OpenSpec.upto Rows.schemaOwnSpec).preRow enc Tryz.prog Tryz.f11 Rows.schemaOwnUptoRow.domain false Rows.schemaOwnUptoRow.laid) (((Rows.OpenSpec.upto Rows.schemaOwnSpec).at F).post enc Tryz.prog Tryz.f11 false true false false):=by
 refine returnsInHanded_of_row (C:=Tryz.checked) (s:=Rows.OpenSpec.upto Rows.schemaOwnSpec) own started (by kernel_rfl) Tryz.func11
  (witness_row_atRef (enc:=enc) (C:=Tryz.checked) false (laidWorld os) #[Value.agg #[.string ⟨#[]⟩,.string ⟨#[]⟩,.slice none 0 0,.bool false,.string ⟨#[]⟩]] rfl (hv os) (hr os) (hok os) (hpre os enc)) ?_
 intro W base args ds gs before hval hW _ hcond _ hL hS _
 exact contract H enc W base args ds gs before hval hW (hcond _ rfl) hL hS
theorem band {a b:Bool} (h:a=true) (k:b=true):(a&&b)=true:=by rw [h,k];rfl
theorem k0:(Rows.schemaOwnUptoRow.wf (OpenSpec.ofChange (Rows.OpenSpec.upto Rows.schemaOwnSpec).bare))=true:=by kernel_rfl
theorem k1:(laidOutB Tryz.prog)=true:=by kernel_rfl
theorem k2:(mapsRowed Tryz.prog)=true:=by kernel_rfl
theorem k3:(Tryz.f11.params.all (Tryz.prog.readableRec ·))=true:=by kernel_rfl
theorem k4:(namedTie Tryz.prog Rows.schemaOwnUptoRow.named (Rows.OpenSpec.upto Rows.schemaOwnSpec).bare.vars)=true:=by kernel_rfl
theorem k5:((Rows.schemaOwnUptoRow.stops == []))=true:=by kernel_rfl
theorem k6:((Tryz.prog.stops == []))=true:=by kernel_rfl
theorem k7:((Rows.schemaOwnUptoRow.knobs == []))=true:=by kernel_rfl
theorem k8:((Tryz.prog.stopKnobs == []))=true:=by kernel_rfl
theorem k9:((Rows.schemaOwnUptoRow.inPlace == Tryz.prog.inPlace 11))=true:=by kernel_rfl
theorem k10:((Rows.schemaOwnUptoRow.unfollowed == Tryz.prog.unfollowed 11))=true:=by kernel_rfl
theorem k11:((Rows.schemaOwnUptoRow.recurses == Tryz.prog.recurses 11))=true:=by kernel_rfl
theorem k12:((Rows.schemaOwnUptoRow.named == Tryz.prog.varsNamed 11))=true:=by kernel_rfl
theorem k13:((Rows.schemaOwnUptoRow.maps == (Tryz.f11.params.toList++(Rows.OpenSpec.upto Rows.schemaOwnSpec).bare.plain.varTypes Tryz.prog).any (Tryz.prog.mapsRec ·)))=true:=by kernel_rfl
theorem k14:((Rows.schemaOwnUptoRow.ifaces == (Tryz.f11.params.toList++(Rows.OpenSpec.upto Rows.schemaOwnSpec).bare.plain.varTypes Tryz.prog).any (Tryz.prog.ifacesRec ·)))=true:=by kernel_rfl
theorem k15:((Rows.schemaOwnUptoRow.mapsOut == Tryz.prog.mapsAmong Tryz.f11.resultTypes.toList))=true:=by kernel_rfl
theorem k16:((Rows.schemaOwnUptoRow.loops == (Tryz.f11.params.toList++(Rows.OpenSpec.upto Rows.schemaOwnSpec).bare.plain.varTypes Tryz.prog).any (Tryz.prog.loopsFrom ·)))=true:=by kernel_rfl
theorem k17:((Rows.schemaOwnUptoRow.wideKeys == (Tryz.f11.params.toList++(Rows.OpenSpec.upto Rows.schemaOwnSpec).bare.plain.varTypes Tryz.prog++Tryz.f11.resultTypes.toList).any (Tryz.prog.wideKeysFrom ·)))=true:=by kernel_rfl
theorem k18:((Rows.OpenSpec.upto Rows.schemaOwnSpec).bare.vars.all (Tryz.prog.varReadable ·))=true:=by kernel_rfl
theorem k19:(Tryz.f11.resultTypes.all (fun t=>Tryz.prog.readableRec t&&decide (t<Tryz.prog.types.size)))=true:=by kernel_rfl
theorem k20:((Rows.schemaOwnUptoRow.ifacesOut == Tryz.f11.resultTypes.toList.any (Tryz.prog.ifacesRec ·)))=true:=by kernel_rfl
theorem k21:((Rows.schemaOwnUptoRow.loopsOut == Tryz.f11.resultTypes.toList.any (Tryz.prog.loopsFrom ·)))=true:=by kernel_rfl
theorem k22:((Rows.schemaOwnUptoRow.plainKeys == Tryz.prog.plainKeys))=true:=by kernel_rfl
theorem k23:(Rows.schemaOwnUptoRow.shortTexts.isNone)=true:=by kernel_rfl
theorem k24:(Tryz.prog.stopsHeard)=true:=by kernel_rfl
theorem k25:(Tryz.prog.mayEnter)=true:=by kernel_rfl
theorem k26:((Rows.schemaOwnUptoRow.lifted == Tryz.prog.liftsFinal))=true:=by kernel_rfl
theorem k27:((Tryz.prog.make == some Rows.schemaOwnUptoRow.make))=true:=by kernel_rfl
theorem k28:((Rows.schemaOwnUptoRow.kinds == (if Rows.schemaOwnUptoRow.domain.isEmpty then [] else Tryz.f11.params.toList.map fun t=>match Tryz.prog.underlying t with | some (.int k)=>some k | _=>none)))=true:=by kernel_rfl
theorem k29:((Rows.schemaOwnUptoRow.pinned == Rows.schemaOwnUptoRow.pinnedBy))=true:=by kernel_rfl
theorem k30:((Rows.schemaOwnUptoRow.veiled == (Tryz.f11.params.toList++(Rows.OpenSpec.upto Rows.schemaOwnSpec).bare.plain.varTypes Tryz.prog++Tryz.f11.resultTypes.toList).any (Tryz.prog.veiledRec ·)))=true:=by kernel_rfl
theorem k31:(Rows.schemaOwnUptoRow.veiledFits Tryz.prog Tryz.f11.params.toList (Tryz.f11.params.toList++(Rows.OpenSpec.upto Rows.schemaOwnSpec).bare.plain.varTypes Tryz.prog++Tryz.f11.resultTypes.toList))=true:=by kernel_rfl
theorem closed:joinedFacts Tryz.prog 11 Tryz.f11 (Rows.OpenSpec.upto Rows.schemaOwnSpec).bare Rows.schemaOwnUptoRow=true:=by
 unfold joinedFacts
 exact (band (band (band (band (band (band (band (band (band (band (band (band (band (band (band (band (band (band (band (band (band (band (band (band (band (band (band (band (band (band (band k0 k1) k2) k3) k4) k5) k6) k7) k8) k9) k10) k11) k12) k13) k14) k15) k16) k17) k18) k19) k20) k21) k22) k23) k24) k25) k26) k27) k28) k29) k30) k31)
theorem saidUpto:Rows.SchemaOwnUptoSaid :=
 OpenClaim.holds_of_cond 11 Tryz.f11 rfl rfl rfl rfl rfl rfl rfl ⟨rfl,rfl,rfl,rfl,rfl⟩ rfl rfl rfl rfl rfl (by kernel_rfl) Tryz.func11 closed
  (of_decide_eq_true (by kernel_rfl)) (by unfold Func.isWrapper;first | (rw [if_pos (by decide +kernel)];kernel_rfl) | (rw [if_neg (by decide +kernel)];exact ⟨rfl,rfl⟩))
  (fun os started H enc _ F=>by rw [OpenClaim.pre_eq_preRow];exact liftedUpto os started H enc F)
theorem plain (f : FuncId) (fn : Func) (hf : Tryz.pinned.checked.prog.funcNamed "tappet/tappetlaw05.SchemaOwn" = some f) (hfn : Tryz.pinned.checked.prog.funcs[f]? = some fn) :
  true=Tryz.pinned.checked.prog.looks []∧∀ (j:Nat) t,fn.params[j]?=some t→Tryz.pinned.checked.prog.wantsStandIn t=false:=by
 obtain rfl : f = 11 := Option.some.inj ((show Tryz.prog.funcNamed "tappet/tappetlaw05.SchemaOwn" = some 11 by kernel_rfl).symm.trans hf) |>.symm
 obtain rfl:fn=Tryz.f11:=(Option.some.inj (Tryz.func11.symm.trans hfn)).symm
 refine ⟨by kernel_rfl,fun j t ht=>?_⟩
 rw [Tryz.params11] at ht
 have hm:=Array.mem_of_getElem? ht
 simp only [List.mem_toArray,List.mem_cons,List.mem_nil_iff,or_false] at hm
 rcases hm with rfl
 ·exact (show Tryz.prog.wantsStandIn 24=false by kernel_rfl)
theorem cardUpto:Rows.SchemaOwnUptoCardSaid :=
 Claim7.holds_tied_plain_at .later [] _ _ _ _ saidUpto (fun _ h=>by cases h) (by kernel_rfl) (fun _ h=>by cases h) schemaOwnUpto_row_tie rfl ⟨rfl,rfl⟩ (by kernel_rfl) rfl plain (by kernel_rfl)
end Go.Proofs.YtmfejjlmflgnbaaGreatDoor.SchemaOwnP
namespace Go.Proofs.YtmfejjlmflgnbaaGreatDoor
/-- The card, under a short name, for the claim. -/
theorem schemaOwnUpto_card_holds:Rows.SchemaOwnUptoCardSaid:=SchemaOwnP.cardUpto
#print axioms schemaOwnUpto_card_holds
end Go.Proofs.YtmfejjlmflgnbaaGreatDoor
