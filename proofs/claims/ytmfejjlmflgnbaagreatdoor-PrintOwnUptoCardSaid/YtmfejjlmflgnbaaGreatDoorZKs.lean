/- KINDS: rows of attributes, and of objects, of a call's own, no two elements of one leading to one block. -/
import Derived.Test.YtmfejjlmflgnbaaGreatDoorZMore
import Derived.Test.YtmfejjlmflgnbaaGreatDoorZPlainP
namespace Go.Proofs.YtmfejjlmflgnbaaGreatDoor.Tok
open Go.RowKit Go.Proofs.YtmfejjlmflgnbaaGreatDoor.PA Go.Proofs.YtmfejjlmflgnbaaGreatDoorW.PrintWords Go.Proofs.YtmfejjlmflgnbaaGreatDoorW.PrintLast Go.Proofs.YtmfejjlmflgnbaaGreatDoor.Sp Go.Proofs.YtmfejjlmflgnbaaGreatDoor.Tr
set_option linter.unusedVariables false
set_option linter.unusedSimpArgs false
set_option maxRecDepth 100000

/-- A slice whose row's elements are apart. -/
def sliceS {α : Type} (e : Nat) (d : Kd α) : Kd (List α) where
  sz := 1
  E := e :: d.E
  K := (Kd.slice e d).K
  M := fun w base ok xs cs => ∃ v, cs = [v] ∧ Kd.S d e w base ok v xs
  K_len := (Kd.slice e d).K_len
  K_one := (Kd.slice e d).K_one
  K_below := (Kd.slice e d).K_below
  K_of_M := by
    rintro w base ok x cs ⟨v, rfl, h⟩
    obtain ⟨A, c, rfl, hl, hr⟩ := Kd.S_reads h
    exact ⟨A, c, rfl, hl, hr⟩
  M_mono := by
    rintro w base ok ok' x cs hok ⟨v, rfl, h⟩
    exact ⟨v, rfl, Kd.S_mono h hok⟩
  M_bound := by
    rintro w base ok x cs ⟨v, rfl, h⟩
    exact ⟨v, rfl, Kd.S_bound h⟩
  M_move := by
    rintro w w1 base ok x cs hm ⟨v, rfl, h⟩
    exact ⟨v, rfl, Kd.S_move h hm⟩
  M_lower := by
    rintro w base base' ok x cs hb ⟨v, rfl, h⟩
    exact ⟨v, rfl, Kd.S_lower h hb⟩
theorem S_imp {α : Type} {d d' : Kd α} (hs : d.sz = d'.sz) (h : ∀ w base ok x cs, d.M w base ok x cs → d'.M w base ok x cs) {e : Nat} {w : World} {base : Nat} {ok : Nat → Prop} {v : Value} {xs : List α} (hr : Kd.S d e w base ok v xs) : Kd.S d' e w base ok v xs := by
  obtain ⟨f, hr⟩ := hr
  exact ⟨f, Kd.R_imp (d := Kd.tag f d) (d' := Kd.tag f d') hs (fun w base ok x cs hp => h _ _ _ _ _ hp) hr⟩
theorem mono_sliceS {α β : Type} (e : Nat) {G : Kd α → Kd β} (hG : Kd.Mono G) : Kd.Mono (fun d => sliceS e (G d)) := by
  refine ⟨fun _ _ _ => rfl, (Kd.mono_slice e hG).K, ?_⟩
  rintro d d' hs h w base ok x cs ⟨v, rfl, hr⟩
  exact ⟨v, rfl, S_imp (hG.sz d d' hs) (hG.M d d' hs h) hr⟩
theorem sub_sliceS {α β : Type} {E : List Nat} (e : Nat) {G : Kd α → Kd β} (he : e ∈ E) (hG : Kd.Sub G E) : Kd.Sub (fun d => sliceS e (G d)) E := fun d h q hq => by
  rcases List.mem_cons.1 hq with rfl | hq
  · exact he
  · exact hG d h q hq
section
variable {α : Type} {F : Kd α → Kd α} {sz : Nat} {E : List Nat} {hs : ∀ n, (Kd.upto F sz E n).sz = sz} {hE : ∀ n q, q ∈ (Kd.upto F sz E n).E → q ∈ E}
theorem fix_S {n : Nat} {e : Nat} {w : World} {base : Nat} {ok : Nat → Prop} {v : Value} {xs : List α} (h : Kd.S (Kd.upto F sz E n) e w base ok v xs) : Kd.S (Kd.fix F sz E hs hE) e w base ok v xs :=
  S_imp (d' := Kd.fix F sz E hs hE) (hs n) (fun w base ok x cs hp => (⟨n, hp⟩ : ∃ n, (Kd.upto F sz E n).M w base ok x cs)) h
theorem fix_S_back (hm : Kd.Mono F) {e : Nat} {w : World} {base : Nat} {ok : Nat → Prop} {v : Value} {xs : List α} (h : Kd.S (Kd.fix F sz E hs hE) e w base ok v xs) : ∃ n, Kd.S (Kd.upto F sz E n) e w base ok v xs := by
  obtain ⟨f, h0, inner, ho, hr⟩ := h
  obtain ⟨N, hN⟩ := Kd.reps_bounded (R := fun n p c => (Kd.tag f (Kd.upto F sz E n)).M w base (fun k => ok k ∧ some k ≠ v.ownBlock) p c) (fun n m p c hnm hp => Kd.upto_M_le hm hs hnm hp) hr
  refine ⟨N, f, h0, inner, ?_, ?_⟩
  · show w.ownsRow base e (Kd.upto F sz E N).sz v _ inner
    rw [hs N]; exact ho
  · show Reps _ (Kd.upto F sz E N).sz _ _
    rw [hs N]; exact hN
theorem upto_S_le (hm : Kd.Mono F) (hs : ∀ n, (Kd.upto F sz E n).sz = sz) {n m : Nat} (hnm : n ≤ m) {e : Nat} {w : World} {base : Nat} {ok : Nat → Prop} {v : Value} {xs : List α} (h : Kd.S (Kd.upto F sz E n) e w base ok v xs) : Kd.S (Kd.upto F sz E m) e w base ok v xs :=
  S_imp (by rw [hs n, hs m]) (fun _ _ _ _ _ hp => Kd.upto_M_le hm hs hnm hp) h
end
def Fs (d : Kd SA) : Kd SA := Kd.iso (Kd.pair Kd.string (Kd.pair k41 (Kd.pair k48 (Kd.pair Kd.bool (Kd.pair (sliceS 50 d) (Kd.pair Kd.bool Kd.string)))))) (fun x : SA => (x.f0, x.f1, x.f2, x.f3, x.f4, x.f5, x.f6))
theorem monoS : Kd.Mono Fs := Kd.mono_iso _ (Kd.mono_pair (Kd.mono_const _) (Kd.mono_pair (Kd.mono_const _) (Kd.mono_pair (Kd.mono_const _) (Kd.mono_pair (Kd.mono_const _) (Kd.mono_pair (mono_sliceS 50 Kd.mono_id) (Kd.mono_pair (Kd.mono_const _) (Kd.mono_const _)))))))
theorem subS : Kd.Sub Fs [50] := Kd.sub_iso _ (Kd.sub_pair (Kd.sub_const _ (by decide)) (Kd.sub_pair (Kd.sub_const _ (by decide)) (Kd.sub_pair (Kd.sub_const _ (by decide)) (Kd.sub_pair (Kd.sub_const _ (by decide)) (Kd.sub_pair (sub_sliceS 50 (by decide) Kd.sub_id) (Kd.sub_pair (Kd.sub_const _ (by decide)) (Kd.sub_const _ (by decide))))))))
theorem szS : ∀ n, (Kd.upto Fs 12 [50] n).sz = 12 := Kd.upto_sz (fun _ => rfl)
/-- An attribute, its rows apart. -/
def ks : Kd SA := Kd.fix Fs 12 [50] szS (Kd.upto_E subS)
theorem ks_openM {w : World} {base : Nat} {ok : Nat → Prop} {x : SA} {cs : List Value} (h : ks.M w base ok x cs) : ∃ v9, cs = [.string x.f0, .int .i64 x.f1.f0, .int .i64 x.f1.f1, .int .i64 x.f1.f2, .int .i64 x.f2.f0, .string x.f2.f1, .int .u32 x.f2.f2, .bool x.f2.f3, .bool x.f3, v9, .bool x.f5, .string x.f6] ∧ Kd.S ks 50 w base ok v9 x.f4 := by
  obtain ⟨n, h⟩ := h
  cases n with
  | zero => exact h.elim
  | succ n =>
    obtain ⟨_, _, rfl, rfl, ⟨_, _, rfl, s1, ⟨_, _, rfl, s4, ⟨_, _, rfl, rfl, ⟨_, _, rfl, ⟨v9, rfl, g9⟩, ⟨_, _, rfl, rfl, rfl⟩⟩⟩⟩⟩⟩ := h
    obtain rfl := k41_openM s1
    obtain rfl := k48_openM s4
    exact ⟨v9, rfl, fix_S g9⟩
theorem ks_mkM (w : World) (base : Nat) (ok : Nat → Prop) (x : SA) {v9 : Value} (g9 : Kd.S ks 50 w base ok v9 x.f4) : ks.M w base ok x [.string x.f0, .int .i64 x.f1.f0, .int .i64 x.f1.f1, .int .i64 x.f1.f2, .int .i64 x.f2.f0, .string x.f2.f1, .int .u32 x.f2.f2, .bool x.f2.f3, .bool x.f3, v9, .bool x.f5, .string x.f6] := by
  obtain ⟨n9, q9⟩ := fix_S_back monoS g9
  exact ⟨n9 + 1, ⟨[.string x.f0], _, rfl, rfl, ⟨[.int .i64 x.f1.f0, .int .i64 x.f1.f1, .int .i64 x.f1.f2], _, rfl, (k41_mkM w base ok x.f1), ⟨[.int .i64 x.f2.f0, .string x.f2.f1, .int .u32 x.f2.f2, .bool x.f2.f3], _, rfl, (k48_mkM w base ok x.f2), ⟨[.bool x.f3], _, rfl, rfl, ⟨[v9], _, rfl, ⟨v9, rfl, q9⟩, ⟨[.bool x.f5], [.string x.f6], rfl, rfl, rfl⟩⟩⟩⟩⟩⟩⟩
theorem upto_ks : ∀ (n : Nat) (w : World) (x : SA) (cs : List Value), (Kd.upto Fs 12 [50] n).K w x cs → (Kd.upto F50 12 [50] n).K w x cs
  | 0, _, _, _, h => h.elim
  | n + 1, w, x, cs, h => mono50.K (Kd.upto Fs 12 [50] n) (Kd.upto F50 12 [50] n) ((szS n).trans (sz50 n).symm) (upto_ks n) w x cs h
theorem ks_K {w : World} {x : SA} {cs : List Value} (h : ks.K w x cs) : k50.K w x cs := by
  obtain ⟨n, h⟩ := h
  exact ⟨n, upto_ks n w x cs h⟩
/-- An object, its rows apart. -/
def kso : Kd SO := Kd.iso (Kd.pair Kd.string (Kd.pair Kd.string (Kd.pair k41 (Kd.pair (sliceS 50 ks) (Kd.pair Kd.bool Kd.string))))) (fun x : SO => (x.f0, x.f1, x.f2, x.f3, x.f4, x.f5))
theorem kso_openM {w : World} {base : Nat} {ok : Nat → Prop} {x : SO} {cs : List Value} (h : kso.M w base ok x cs) : ∃ v5, cs = [.string x.f0, .string x.f1, .int .i64 x.f2.f0, .int .i64 x.f2.f1, .int .i64 x.f2.f2, v5, .bool x.f4, .string x.f5] ∧ Kd.S ks 50 w base ok v5 x.f3 := by
  obtain ⟨_, _, rfl, rfl, ⟨_, _, rfl, rfl, ⟨_, _, rfl, s2, ⟨_, _, rfl, ⟨v5, rfl, g5⟩, ⟨_, _, rfl, rfl, rfl⟩⟩⟩⟩⟩ := h
  obtain rfl := k41_openM s2
  exact ⟨v5, rfl, g5⟩
theorem kso_mkM (w : World) (base : Nat) (ok : Nat → Prop) (x : SO) {v5 : Value} (g5 : Kd.S ks 50 w base ok v5 x.f3) : kso.M w base ok x [.string x.f0, .string x.f1, .int .i64 x.f2.f0, .int .i64 x.f2.f1, .int .i64 x.f2.f2, v5, .bool x.f4, .string x.f5] :=
  ⟨[.string x.f0], _, rfl, rfl, ⟨[.string x.f1], _, rfl, rfl, ⟨[.int .i64 x.f2.f0, .int .i64 x.f2.f1, .int .i64 x.f2.f2], _, rfl, (k41_mkM w base ok x.f2), ⟨[v5], _, rfl, ⟨v5, rfl, g5⟩, ⟨[.bool x.f4], [.string x.f5], rfl, rfl, rfl⟩⟩⟩⟩⟩
theorem kso_K {w : World} {x : SO} {cs : List Value} (h : kso.K w x cs) : k44.K w x cs := by
  obtain ⟨_, _, rfl, rfl, ⟨_, _, rfl, rfl, ⟨_, _, rfl, s2, ⟨_, _, rfl, ⟨A, c, rfl, hl, hC⟩, ⟨_, _, rfl, rfl, rfl⟩⟩⟩⟩⟩ := h
  exact ⟨_, _, rfl, rfl, ⟨_, _, rfl, rfl, ⟨_, _, rfl, s2, ⟨_, _, rfl, ⟨A, c, rfl, hl, Kd.C_imp (d := ks) (d' := k50) rfl (fun _ _ _ h => ks_K h) hC⟩, ⟨_, _, rfl, rfl, rfl⟩⟩⟩⟩⟩
theorem kso_C {w : World} {A : Option Addr} {n : Nat} {xs : List SO} (h : Kd.C kso w A n xs) : Kd.C k44 w A n xs := Kd.C_imp (d := kso) (d' := k44) rfl (fun _ _ _ h => kso_K h) h
theorem S_form2 {α : Type} {d : Kd α} {e : TypeId} {w : World} {B : Nat} {ok : Nat → Prop} {v : Value} {xs : List α} (h : Kd.S d e w B ok v xs) : ∃ A c, v = .slice A xs.length c := R_form2 (Kd.S_R h)
theorem Swide {α : Type} {d : Kd α} {e : TypeId} {w w1 : World} {B B' : Nat} {v : Value} {xs : List α} (h : Kd.S d e w B (fun _ => True) v xs) (hk : ∀ k, B ≤ k → k < w.heap.size → w1.heap[k]? = w.heap[k]?) (hB : B' ≤ B) : Kd.S d e w1 B' (fun k => B ≤ k) v xs := by
  have h1 := Kd.S_move (w1 := w1) (Kd.S_bound h) (fun k hk2 => hk k hk2.2.1 hk2.2.2.1)
  exact Kd.S_lower (Kd.S_mono h1 (fun k hk2 => hk2.2.1)) hB
theorem Smove {α : Type} {d : Kd α} {e : TypeId} {w w1 : World} {B B' : Nat} {v : Value} {xs : List α} (h : Kd.S d e w B (fun _ => True) v xs) (hk : ∀ k, B ≤ k → k < w.heap.size → w1.heap[k]? = w.heap[k]?) (hB : B' ≤ B) : Kd.S d e w1 B' (fun _ => True) v xs :=
  Kd.S_mono (Swide h hk hB) (fun _ _ => trivial)
end Go.Proofs.YtmfejjlmflgnbaaGreatDoor.Tok
