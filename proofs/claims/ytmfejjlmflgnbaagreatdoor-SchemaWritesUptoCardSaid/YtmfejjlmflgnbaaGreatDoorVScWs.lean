/- THE DOCUMENT'S WRITER, its spec; and the plain law: it writes what package schema writes. -/
import Derived.Test.YtmfejjlmflgnbaaGreatDoorVVal
set_option linter.unusedVariables false
set_option linter.unusedSimpArgs false
set_option maxRecDepth 100000
namespace Go.Proofs.YtmfejjlmflgnbaaGreatDoor.Sc
open RowKit PA YtmfejjlmflgnbaaGreatDoorW.PrintWords Sp Tr
abbrev sNone:ByteArray:=⟨#[110,111,110,101]⟩
abbrev noA:SA:=⟨sNone,z41,⟨0,⟨#[]⟩,0,false⟩,false,[],false,⟨#[]⟩⟩
mutual
def ladE (rows:List SR) (obj:ByteArray) (l:List SR):SE->Option SA
 | ⟨n,_,m,au,wd,ps⟩ =>
  match findR l n with
  | none=>none
  | some x=>some ⟨n,z41,layV x m au wd,!(innerR rows obj x n wd).isEmpty,if (innerR rows obj x n wd).isEmpty then [] else ladL rows obj (innerR rows obj x n wd) ps,false,⟨#[]⟩⟩
def ladL (rows:List SR) (obj:ByteArray) (l:List SR):List SE->List SA
 | []=>[]
 | e :: r=>match ladE rows obj l e with
  | none=>[noA]
  | some a=>a :: ladL rows obj l r
end
mutual
def spA:SA->Bool
 | ⟨_,_,v,_,ps,_,_⟩=>!((decide (v.f0=1)&&!nameB (bs v.f1))||(decide (v.f0=3)&&!stringB (bs v.f1))||!spL ps)
def spL:List SA->Bool
 | []=>true
 | a :: r=>spA a&&spL r
end
mutual
def unkE (rows:List SR) (obj:ByteArray) (l:List SR):SE->Bool
 | ⟨n,_,m,au,wd,ps⟩ =>
  match findR l n with
  | none=>true
  | some x=>if (innerR rows obj x n wd).isEmpty then false else unkL rows obj (innerR rows obj x n wd) ps
def unkL (rows:List SR) (obj:ByteArray) (l:List SR):List SE->Bool
 | []=>false
 | e :: r=>unkE rows obj l e||unkL rows obj l r
end
def ladI (i:SI):SO:=⟨i.kind,i.name,z41,ladL tab i.kind (underR tab i.kind ⟨#[]⟩ ⟨#[]⟩) i.ents,false,⟨#[]⟩⟩
def ladT (s:SS):ST:=⟨⟨#[50,46,53]⟩,s.cpu,s.items.map ladI,false,⟨#[]⟩⟩
def okT (s:SS):Bool:=nameB (bs s.cpu)&&s.items.all (fun i=>nameB (bs i.name)&&spL (ladI i).f3)
def rwriteS (s:SS):Option ST:=match readT (ladT s) with
 | .error _=>none
 | .ok b=>if !okT s||!sameS false b s then none else some (ladT s)
theorem layV_bad (x:SR) (m:Int) (au:Bool) (wd:ByteArray):((decide ((layV x m au wd).f0=1)&&!nameB (bs (layV x m au wd).f1))||(decide ((layV x m au wd).f0=3)&&!stringB (bs (layV x m au wd).f1)))=badV x wd:=by
 unfold layV badV
 by_cases h1:x.want=1
 ·rw [if_pos h1,if_pos h1]
  cases au with
  | true =>
   have h:nameB (bs sAuto)=true:=by decide
   simp [h]
  | false=>simp
 ·rw [if_neg h1,if_neg h1]
  by_cases h4:x.want=4
  ·rw [if_pos h4,if_pos h4];simp
  ·rw [if_neg h4,if_neg h4];simp
mutual
theorem lad_knownE (rows:List SR) (obj:ByteArray):∀ (l:List SR) (e:SE),unkE rows obj l e=false->∃ a,ladE rows obj l e=some a/\layE rows obj l e=some (a,!spA a)
 | l,⟨n,sp,m,au,wd,ps⟩,h=>by
  simp only [unkE] at h;simp only [ladE,layE];cases hf:findR l n with
  | none=>rw [hf] at h;cases h
  | some x =>
   rw [hf] at h;dsimp only at h ⊢
   refine ⟨_,rfl,?_⟩
   cases hi:(innerR rows obj x n wd).isEmpty with
   | true =>
    simp only [if_true,Bool.not_true];simp only [spA,spL,Bool.not_true,Bool.or_false,Bool.not_not,layV_bad]
   | false =>
    rw [hi] at h;simp only [Bool.false_eq_true,if_false,Bool.not_false] at h ⊢;rw [lad_knownL rows obj _ ps [] false h];simp only [spA,Bool.not_not,layV_bad,List.nil_append,Bool.false_or]
theorem lad_knownL (rows:List SR) (obj:ByteArray):∀ (l:List SR) (es:List SE) (out:List SA) (bad:Bool),unkL rows obj l es=false->layL rows obj l out bad es=(out++ladL rows obj l es,bad||!spL (ladL rows obj l es))
 | l,[],out,bad,h=>by simp [layL,ladL,spL]
 | l,e :: r,out,bad,h=>by
  simp only [unkL,Bool.or_eq_false_iff] at h;obtain ⟨a,h1,h2⟩:=lad_knownE rows obj l e h.1;simp only [layL,ladL,h1,h2];rw [lad_knownL rows obj l r (out++[a]) (bad||!spA a) h.2];simp [spL,Bool.or_assoc]
end
theorem layL_mono (rows:List SR) (obj:ByteArray) (l:List SR):∀ (es:List SE) (out:List SA),(layL rows obj l out true es).2=true
 | [],out=>by simp [layL]
 | e :: r,out=>by
  simp only [layL];cases layE rows obj l e with
  | none=>rfl
  | some p =>
   obtain ⟨a,b⟩:=p;dsimp only;rw [Bool.true_or];exact layL_mono rows obj l r _
mutual
theorem lay_unkE (rows:List SR) (obj:ByteArray):∀ (l:List SR) (e:SE),unkE rows obj l e=true->layE rows obj l e=none∨∃ a,layE rows obj l e=some (a,true)
 | l,⟨n,sp,m,au,wd,ps⟩,h=>by
  simp only [unkE] at h;simp only [layE];cases hf:findR l n with
  | none=>exact .inl rfl
  | some x =>
   rw [hf] at h;dsimp only at h ⊢;cases hi:(innerR rows obj x n wd).isEmpty with
   | true=>rw [hi] at h;simp at h
   | false =>
    rw [hi] at h;simp only [Bool.false_eq_true,if_false] at h ⊢
    refine .inr ⟨_,by rw [lay_unkL rows obj _ ps [] false h,Bool.or_true]⟩
theorem lay_unkL (rows:List SR) (obj:ByteArray):∀ (l:List SR) (es:List SE) (out:List SA) (bad:Bool),unkL rows obj l es=true->(layL rows obj l out bad es).2=true
 | l,[],out,bad,h=>by simp [unkL] at h
 | l,e :: r,out,bad,h=>by
  simp only [unkL,Bool.or_eq_true] at h;simp only [layL]
  by_cases he:unkE rows obj l e=true
  ·rcases lay_unkE rows obj l e he with h1 | ⟨a,h1⟩
   ·rw [h1]
   ·rw [h1]
    dsimp only;rw [Bool.or_true];exact layL_mono rows obj l r _
  ·have hr:=h.resolve_left he
   cases layE rows obj l e with
   | none=>rfl
   | some p =>
    obtain ⟨a,b⟩:=p;exact lay_unkL rows obj l r _ _ hr
end
def NoN (l:List SR):Prop:=∀ x ∈ l,¬ x.name=sNone
theorem non_find {l:List SR} (h:NoN l):findR l sNone=none:=by
 unfold findR;exact List.find?_eq_none.2 (fun x hx=>by simpa using h x hx)
theorem non_under {l:List SR} (h:NoN l) (obj nm wd:ByteArray):NoN (underR l obj nm wd):=fun x hx=>h x (List.mem_filter.1 hx).1
theorem non_inner {l:List SR} (h:NoN l) (obj:ByteArray) (x:SR) (n wd:ByteArray):NoN (innerR l obj x n wd):=by
 unfold innerR
 split
 ·exact non_under h _ _ _
 ·exact fun x hx=>absurd hx List.not_mem_nil
theorem tab_non:NoN tab:=by
 intro x hx;have h:∀ x ∈ tab,¬ x.name=sNone:=by decide
 exact h x hx
theorem inner_want {rows:List SR} {obj:ByteArray} {x:SR} {n wd:ByteArray} (h:(innerR rows obj x n wd).isEmpty=false):x.want=2/\x.un=⟨#[]⟩:=by
 unfold innerR at h
 split at h
 ·assumption
 ·cases h
mutual
theorem read_unkE (rows:List SR) (obj:ByteArray) (hrows:NoN rows):∀ (l:List SR) (e:SE) (a:SA) (got:List SE),unkE rows obj l e=true->ladE rows obj l e=some a->∃ f,readA rows obj l got a=.error f
 | l,⟨n,sp,m,au,wd,ps⟩,a,got,h,ha=>by
  simp only [unkE] at h;simp only [ladE] at ha;cases hf:findR l n with
  | none=>rw [hf] at ha;cases ha
  | some x =>
   rw [hf] at h ha;dsimp only at h ha;cases hi:(innerR rows obj x n wd).isEmpty with
   | true=>rw [hi] at h;simp at h
   | false =>
    rw [hi] at h ha;simp only [Bool.false_eq_true,if_false,Bool.not_false] at h ha;injection ha with ha
    subst ha;rw [readA_eq];dsimp only;rw [hf];dsimp only
    split
    ·exact ⟨_,rfl⟩
    ·unfold attrR
     obtain ⟨hw,hu⟩:=inner_want hi;have hlv:layV x m au wd=⟨1,wd,0,false⟩:=by unfold layV;rw [hw];rfl
     dsimp only;rw [hlv];cases hv:valR x ⟨1,wd,0,false⟩ n z41 with
     | error c=>exact ⟨_,rfl⟩
     | ok e =>
      have hew:e.word=wd:=by
       unfold valR at hv;rw [hw] at hv;simp only [show ¬ ((2:Int)=1) by decide,show ¬ ((2:Int)=4) by decide,if_false] at hv
       split at hv
       ·cases hv
       ·cases hv;rfl
      dsimp only;rw [hew,hi];obtain ⟨f,hf2⟩:=read_unkL rows obj hrows (innerR rows obj x n wd) ps [] (non_inner hrows _ _ _ _) h;unfold listedR;simp only [Bool.and_false,Bool.not_true,Bool.false_and,Bool.or_self,Bool.false_eq_true,if_false,if_true,hf2];exact ⟨_,rfl⟩
theorem read_unkL (rows:List SR) (obj:ByteArray) (hrows:NoN rows):∀ (l:List SR) (es:List SE) (got:List SE),NoN l->unkL rows obj l es=true->∃ f,readL rows obj l got (ladL rows obj l es)=.error f
 | l,[],got,hl,h=>by simp [unkL] at h
 | l,e :: r,got,hl,h=>by
  simp only [unkL,Bool.or_eq_true] at h;simp only [ladL];cases ha:ladE rows obj l e with
  | none =>
   dsimp only;rw [readL_cons,readA_eq];dsimp only;rw [non_find hl];exact ⟨_,rfl⟩
  | some a =>
   dsimp only;rw [readL_cons]
   by_cases he:unkE rows obj l e=true
   ·obtain ⟨f,hf⟩:=read_unkE rows obj hrows l e a got he ha
    rw [hf];exact ⟨_,rfl⟩
   ·have hr:=h.resolve_left he
    cases readA rows obj l got a with
    | error f=>exact ⟨_,rfl⟩
    | ok e'=>exact read_unkL rows obj hrows l r (got++[e']) hl hr
end
def unkI (i:SI):Bool:=unkL tab i.kind (underR tab i.kind ⟨#[]⟩ ⟨#[]⟩) i.ents
theorem ladI_known {i:SI} (h:unkI i=false):layI i=(ladI i,!(nameB (bs i.name)&&spL (ladI i).f3)):=by
 unfold layI ladI;rw [lad_knownL tab i.kind _ i.ents [] false h];simp only [List.nil_append,Bool.false_or,Bool.not_and]
theorem readO_unk {i:SI} (h:unkI i=true):∃ f,readO tab (ladI i)=.error f:=by
 unfold readO
 split
 ·exact ⟨_,rfl⟩
 ·obtain ⟨f,hf⟩:=read_unkL tab i.kind tab_non (underR tab i.kind ⟨#[]⟩ ⟨#[]⟩) i.ents [] (non_under tab_non _ _ _) h
  unfold listedR;have hf2:readL tab (ladI i).f0 (underR tab (ladI i).f0 ⟨#[]⟩ ⟨#[]⟩) [] (ladI i).f3=Except.error f:=hf;rw [hf2];exact ⟨_,rfl⟩
theorem readOs_unk:∀ (l:List SI) (acc:List SI),l.any unkI=true->∃ f,readOs tab acc (l.map ladI)=.error f
 | [],acc,h=>by simp at h
 | i :: r,acc,h=>by
  simp only [List.any_cons,Bool.or_eq_true] at h;simp only [List.map_cons,readOs]
  by_cases hi:unkI i=true
  ·obtain ⟨f,hf⟩:=readO_unk hi
   rw [hf];exact ⟨_,rfl⟩
  ·cases readO tab (ladI i) with
   | error f=>exact ⟨_,rfl⟩
   | ok x=>exact readOs_unk r (acc++[x]) (h.resolve_left hi)
theorem rwrite_eq (s:SS):rwriteS s=writeS s:=by
 cases hu:s.items.any unkI with
 | true =>
  have h1:badS s=true:=by
   unfold badS;obtain ⟨i,hi,hk⟩:=List.any_eq_true.1 hu
   have h2:(layI i).2=true:=by
    unfold layI;dsimp only;rw [lay_unkL tab i.kind _ i.ents [] false hk,Bool.or_true]
   rw [List.any_eq_true.2 ⟨i,hi,h2⟩,Bool.or_true]
  have h2:rwriteS s=none:=by
   unfold rwriteS;obtain ⟨f,hf⟩:=readOs_unk s.items [] hu
   have h3:readT (ladT s)=Except.error f:=by
    unfold readT;rw [show readOs tab [] (ladT s).f2=Except.error f from hf]
   rw [h3]
  rw [h2];unfold writeS;cases readT (layT s) with
  | error f=>rfl
  | ok b=>simp [h1]
 | false =>
  have hk:∀ i ∈ s.items,unkI i=false:=fun i hi=>by
   cases h:unkI i with
   | false=>rfl
   | true=>rw [List.any_eq_true.2 ⟨i,hi,h⟩] at hu;cases hu
  have h1:layT s=ladT s:=by
   unfold layT ladT
   congr 1
   exact List.map_congr_left (fun i hi=>by rw [ladI_known (hk i hi)])
  have h2:badS s=!okT s:=by
   unfold badS okT;rw [Bool.not_and]
   congr 1
   rw [List.not_all_eq_any_not]
   have key:∀ l:List SI,(∀ i ∈ l,unkI i=false)->l.any (fun i=>(layI i).2)=l.any (fun i=>!(nameB (bs i.name)&&spL (ladI i).f3)):=by
    intro l
    induction l with
    | nil=>intro _;rfl
    | cons i r ih =>
     intro h;rw [List.any_cons,List.any_cons,ladI_known (h i List.mem_cons_self),ih (fun j hj=>h j (List.mem_cons_of_mem _ hj))]
   exact key s.items hk
  unfold rwriteS writeS;rw [h1,h2];cases hr:readT (ladT s) with
  | error f=>rfl
  | ok b =>
   have hc:b.cpu=s.cpu:=(readT_get hr).1;dsimp only
   have h3:sameS false b s=sameIs false b.items s.items:=by
    unfold sameS;rw [hc];simp
   rw [h3]
end Go.Proofs.YtmfejjlmflgnbaaGreatDoor.Sc
