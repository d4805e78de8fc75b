/- A part of the set. -/
import Derived.Test.YtmfejjlmflgnbaaGreatDoorVBase
set_option linter.unusedVariables false
set_option linter.unusedSimpArgs false
set_option maxHeartbeats 64000000
namespace Go.Proofs.YtmfejjlmflgnbaaGreatDoor.PA
open RowKit YtmfejjlmflgnbaaGreatDoorW.PrintWords YtmfejjlmflgnbaaGreatDoorW.PrintLast YtmfejjlmflgnbaaGreatDoorW.PrintMore
attribute [local go_sem] max2_int min2_int max_two min_two max_three min_three max_four min_four   -- for this text's walks alone
def tappetref02_String.l0:Nat->ByteArray->Int->Option (Bool)
  | 0,_,_=>none
  | k + 1,x0,x3=>if x3<(x0.size:Int) then (if 0<=x3 then (if (bt x0 x3)<32 then (some false) else (if (bt x0 x3) > 126 then (some false) else (tappetref02_String.l0 k x0 (wrap64 (x3 + 1))))) else (none)) else (some (decide ((x0.size:Int)<=255)))
def tappetref02_String.f (k:Nat) (a0:ByteArray):Option (Bool):=tappetref02_String.l0 k a0 0
set_option maxRecDepth 100000 in
theorem tappetref02_String.calls (k:Nat) (a0:ByteArray) (r:Bool) (w:World) (h:tappetref02_String.f k a0=some r) :
    Calls Tryz.prog 38 #[.string a0] w fun e w'=>e=.returned (.bool r)/\Drawn0 w w':=by
  have H:(tappetref02_String.l0 k a0 0)=some r:=h;clear h;have H':=Aside0.mk H;clear H
  go_enter Tryz.func38,Tryz.ntmps38
  go_wp2
  go_loopg [3] k (fun kq v3 w'=>∃ (x3_1:Int),v3=.int .i64 x3_1/\Aside0 (tappetref02_String.l0 kq a0 x3_1=some r)/\Aside0 (kq<=k)/\Drawn0 w w')
  case atStart=>exact ⟨(0),(by first | rfl | (simp;done) | (simp [*];done)),H',⟨Nat.le_refl _⟩,by repeat (first | exact Drawn0.refl _ | apply Drawn0.step)⟩
  case round =>
    clear H';obtain ⟨x3_1,rfl,HA,HK1,⟨m1,rfl⟩⟩:=hrel;cases gk with
    | zero=>exact absurd HA.out (by simp [tappetref02_String.l0])
    | succ k1 =>
      have H:=HA.out;clear HA;simp only [tappetref02_String.l0] at H
      by_cases c2:x3_1<(a0.size:Int)
      · rw [if_pos c2] at H
        have c2b0:decide (x3_1<(a0.size:Int))=true:=decide_eq_true c2;clear c2
        by_cases c3:0<=x3_1
        · rw [if_pos c3] at H
          have c3b0:decide (0<=x3_1)=true:=decide_eq_true c3;clear c3
          by_cases c5:(bt a0 x3_1)<32
          · rw [if_pos c5] at H
            have c5b0:decide ((bt a0 x3_1)<32)=true:=decide_eq_true c5;clear c5;obtain rfl:=Option.some.inj H;have p4:0<=(x3_1:Int):=of_decide_eq_true (by first | (with_reducible assumption) | assumption);have q4:x3_1<(a0.size:Int):=of_decide_eq_true (by first | (with_reducible assumption) | assumption);have hx4:=bt_at a0 x3_1;replace p4:=eq_true p4;replace q4:=eq_true q4
            go_wp2
            go_ret
            exact ⟨by first | rfl | (simp;done) | (simp [*];done),by repeat (first | exact Drawn0.refl _ | apply Drawn0.step)⟩
          · rw [if_neg c5] at H
            have c5b0:decide ((bt a0 x3_1)<32)=false:=decide_eq_false c5;clear c5
            by_cases c7:(bt a0 x3_1) > 126
            · rw [if_pos c7] at H
              have c7b0:decide (126<(bt a0 x3_1))=true:=decide_eq_true c7;clear c7;obtain rfl:=Option.some.inj H;have p4:0<=(x3_1:Int):=of_decide_eq_true (by first | (with_reducible assumption) | assumption);have q4:x3_1<(a0.size:Int):=of_decide_eq_true (by first | (with_reducible assumption) | assumption);have hx4:=bt_at a0 x3_1;replace p4:=eq_true p4;replace q4:=eq_true q4;have p6:0<=(x3_1:Int):=of_decide_eq_true (by first | (with_reducible assumption) | assumption);have q6:x3_1<(a0.size:Int):=of_decide_eq_true (by first | (with_reducible assumption) | assumption);have hx6:=bt_at a0 x3_1;replace p6:=eq_true p6;replace q6:=eq_true q6
              go_wp2
              go_ret
              exact ⟨by first | rfl | (simp;done) | (simp [*];done),by repeat (first | exact Drawn0.refl _ | apply Drawn0.step)⟩
            · rw [if_neg c7] at H
              have c7b0:decide (126<(bt a0 x3_1))=false:=decide_eq_false c7;clear c7;have H':=Aside0.mk H;clear H;have p4:0<=(x3_1:Int):=of_decide_eq_true (by first | (with_reducible assumption) | assumption);have q4:x3_1<(a0.size:Int):=of_decide_eq_true (by first | (with_reducible assumption) | assumption);have hx4:=bt_at a0 x3_1;replace p4:=eq_true p4;replace q4:=eq_true q4;have p6:0<=(x3_1:Int):=of_decide_eq_true (by first | (with_reducible assumption) | assumption);have q6:x3_1<(a0.size:Int):=of_decide_eq_true (by first | (with_reducible assumption) | assumption);have hx6:=bt_at a0 x3_1;replace p6:=eq_true p6;replace q6:=eq_true q6
              go_wp2
              go_roundg k1
              case measure=>have:=HK1.out;omega
              case rel=>exact ⟨(wrap64 (x3_1 + 1)),(by first | rfl | (simp;done) | (simp [*];done)),H',⟨by have:=HK1.out;omega⟩,by repeat (first | exact Drawn0.refl _ | apply Drawn0.step)⟩
        · rw [if_neg c3] at H
          exact absurd H (by simp)
      · rw [if_neg c2] at H
        have c2b0:decide (x3_1<(a0.size:Int))=false:=decide_eq_false c2;clear c2;obtain rfl:=Option.some.inj H
        go_wp2
        go_ret
        exact ⟨by first | rfl | (simp;done) | (simp [*];done),by repeat (first | exact Drawn0.refl _ | apply Drawn0.step)⟩
def tappetref04_note.f (k:Nat) (a0:Bool) (a1:ByteArray):Option (Bool):=if a0=true then ((tappetref02_String.f k a1).bind fun t136=>(if t136=true then (some true) else (some false))) else (some (a1.toList == ([]:List UInt8)))
def tappetref02_first.f (a0:Int):Option (Bool):=if a0 ≥ 65 then (if a0<=90 then (some true) else (if a0 ≥ 97 then (if a0<=122 then (some true) else (some (a0 == 95))) else (some (a0 == 95)))) else (if a0 ≥ 97 then (if a0<=122 then (some true) else (some (a0 == 95))) else (some (a0 == 95)))
set_option maxRecDepth 100000 in
theorem tappetref02_first.calls (a0:Int) (r:Bool) (w:World) (h:tappetref02_first.f a0=some r) :
    Calls Tryz.prog 89 #[.int .u8 a0] w fun e w'=>e=.returned (.bool r)/\Drawn0 w w':=by
  have H:(if a0 ≥ 65 then (if a0<=90 then (some true) else (if a0 ≥ 97 then (if a0<=122 then (some true) else (some (a0 == 95))) else (some (a0 == 95)))) else (if a0 ≥ 97 then (if a0<=122 then (some true) else (some (a0 == 95))) else (some (a0 == 95))))=some r:=h;clear h
  by_cases c2:a0 ≥ 65
  · rw [if_pos c2] at H
    have c2b0:decide (65<=a0)=true:=decide_eq_true c2;clear c2
    by_cases c3:a0<=90
    · rw [if_pos c3] at H
      have c3b0:decide (a0<=90)=true:=decide_eq_true c3;clear c3;obtain rfl:=Option.some.inj H
      go_enter Tryz.func89,Tryz.ntmps89
      go_wp2
      go_ret
      exact ⟨by first | rfl | (simp;done) | (simp [*];done),by repeat (first | exact Drawn0.refl _ | apply Drawn0.step)⟩
    · rw [if_neg c3] at H
      have c3b0:decide (a0<=90)=false:=decide_eq_false c3;clear c3
      by_cases c4:a0 ≥ 97
      · rw [if_pos c4] at H
        have c4b0:decide (97<=a0)=true:=decide_eq_true c4;clear c4
        by_cases c5:a0<=122
        · rw [if_pos c5] at H
          have c5b0:decide (a0<=122)=true:=decide_eq_true c5;clear c5;obtain rfl:=Option.some.inj H
          go_enter Tryz.func89,Tryz.ntmps89
          go_wp2
          go_ret
          exact ⟨by first | rfl | (simp;done) | (simp [*];done),by repeat (first | exact Drawn0.refl _ | apply Drawn0.step)⟩
        · rw [if_neg c5] at H
          have c5b0:decide (a0<=122)=false:=decide_eq_false c5;clear c5;obtain rfl:=Option.some.inj H
          go_enter Tryz.func89,Tryz.ntmps89
          go_wp2
          go_ret
          exact ⟨by first | rfl | (simp;done) | (simp [*];done),by repeat (first | exact Drawn0.refl _ | apply Drawn0.step)⟩
      · rw [if_neg c4] at H
        have c4b0:decide (97<=a0)=false:=decide_eq_false c4;clear c4;obtain rfl:=Option.some.inj H
        go_enter Tryz.func89,Tryz.ntmps89
        go_wp2
        go_ret
        exact ⟨by first | rfl | (simp;done) | (simp [*];done),by repeat (first | exact Drawn0.refl _ | apply Drawn0.step)⟩
  · rw [if_neg c2] at H
    have c2b0:decide (65<=a0)=false:=decide_eq_false c2;clear c2
    by_cases c6:a0 ≥ 97
    · rw [if_pos c6] at H
      have c6b0:decide (97<=a0)=true:=decide_eq_true c6;clear c6
      by_cases c7:a0<=122
      · rw [if_pos c7] at H
        have c7b0:decide (a0<=122)=true:=decide_eq_true c7;clear c7;obtain rfl:=Option.some.inj H
        go_enter Tryz.func89,Tryz.ntmps89
        go_wp2
        go_ret
        exact ⟨by first | rfl | (simp;done) | (simp [*];done),by repeat (first | exact Drawn0.refl _ | apply Drawn0.step)⟩
      · rw [if_neg c7] at H
        have c7b0:decide (a0<=122)=false:=decide_eq_false c7;clear c7;obtain rfl:=Option.some.inj H
        go_enter Tryz.func89,Tryz.ntmps89
        go_wp2
        go_ret
        exact ⟨by first | rfl | (simp;done) | (simp [*];done),by repeat (first | exact Drawn0.refl _ | apply Drawn0.step)⟩
    · rw [if_neg c6] at H
      have c6b0:decide (97<=a0)=false:=decide_eq_false c6;clear c6;obtain rfl:=Option.some.inj H
      go_enter Tryz.func89,Tryz.ntmps89
      go_wp2
      go_ret
      exact ⟨by first | rfl | (simp;done) | (simp [*];done),by repeat (first | exact Drawn0.refl _ | apply Drawn0.step)⟩
def tappetref02_digit.f (a0:Int):Option (Bool):=if a0 ≥ 48 then (some (decide (a0<=57))) else (some false)
set_option maxRecDepth 100000 in
theorem tappetref02_digit.calls (a0:Int) (r:Bool) (w:World) (h:tappetref02_digit.f a0=some r) :
    Calls Tryz.prog 142 #[.int .u8 a0] w fun e w'=>e=.returned (.bool r)/\Drawn0 w w':=by
  have H:(if a0 ≥ 48 then (some (decide (a0<=57))) else (some false))=some r:=h;clear h
  by_cases c2:a0 ≥ 48
  · rw [if_pos c2] at H
    have c2b0:decide (48<=a0)=true:=decide_eq_true c2;clear c2;obtain rfl:=Option.some.inj H
    go_enter Tryz.func142,Tryz.ntmps142
    go_wp2
    go_ret
    exact ⟨by first | rfl | (simp;done) | (simp [*];done),by repeat (first | exact Drawn0.refl _ | apply Drawn0.step)⟩
  · rw [if_neg c2] at H
    have c2b0:decide (48<=a0)=false:=decide_eq_false c2;clear c2;obtain rfl:=Option.some.inj H
    go_enter Tryz.func142,Tryz.ntmps142
    go_wp2
    go_ret
    exact ⟨by first | rfl | (simp;done) | (simp [*];done),by repeat (first | exact Drawn0.refl _ | apply Drawn0.step)⟩
def tappetref02_part.f (a0:Int):Option (Bool):=(tappetref02_first.f a0).bind fun t137=>(if t137=true then (some true) else ((tappetref02_digit.f a0).bind fun t138=>(some t138)))
set_option maxRecDepth 100000 in
theorem tappetref02_part.calls (a0:Int) (r:Bool) (w:World) (h:tappetref02_part.f a0=some r) :
    Calls Tryz.prog 120 #[.int .u8 a0] w fun e w'=>e=.returned (.bool r)/\Drawn0 w w':=by
  have H:((tappetref02_first.f a0).bind fun t137=>(if t137=true then (some true) else ((tappetref02_digit.f a0).bind fun t138=>(some t138))))=some r:=h;clear h;replace H:=Option.bind_eq_some_iff.mp H;obtain ⟨t137,A20,H⟩:=H;replace H:(if t137=true then (some true) else ((tappetref02_digit.f a0).bind fun t138=>(some t138)))=some r:=H;have A2:=Aside0.mk A20;clear A20
  by_cases c3:t137=true
  · subst c3
    have H1:(some true)=some r:=by rw [if_pos rfl] at H;exact H
    clear H;have H:=H1;clear H1;obtain rfl:=Option.some.inj H
    go_enter Tryz.func120,Tryz.ntmps120
    go_wp2_with (first | ((with_reducible refine gate_callee (f:=89) rfl ?_);refine goesL_ (some 4) rfl rfl Tryz.func89 (by kernel_rfl) rfl #[.int .u8 a0] rfl (by (try simp only [List.map_toArray,List.map_cons,List.map_nil]);first | done | rfl | (simp only [List.length_drop,List.length_take];rfl)) ?_;(with_reducible refine (tappetref02_first.calls a0 true _ A2.out).mono ?_);rintro e w' ⟨rfl,⟨nd,rfl⟩⟩;refine ⟨_,rfl,?_⟩))
    go_ret
    exact ⟨by first | rfl | (simp;done) | (simp [*];done),by repeat (first | exact Drawn0.refl _ | apply Drawn0.step)⟩
  · replace c3:=Bool.eq_false_iff.mpr c3
    subst c3;have H1:((tappetref02_digit.f a0).bind fun t138=>(some t138))=some r:=by rw [if_neg (show ¬ (false=true) by decide)] at H;exact H
    clear H;have H:=H1;clear H1;replace H:=Option.bind_eq_some_iff.mp H;obtain ⟨t138,A40,H⟩:=H;replace H:(some t138)=some r:=H;have A4:=Aside0.mk A40;clear A40;obtain rfl:=Option.some.inj H
    go_enter Tryz.func120,Tryz.ntmps120
    go_wp2_with (first | ((with_reducible refine gate_callee (f:=89) rfl ?_);refine goesL_ (some 4) rfl rfl Tryz.func89 (by kernel_rfl) rfl #[.int .u8 a0] rfl (by (try simp only [List.map_toArray,List.map_cons,List.map_nil]);first | done | rfl | (simp only [List.length_drop,List.length_take];rfl)) ?_;(with_reducible refine (tappetref02_first.calls a0 false _ A2.out).mono ?_);rintro e w' ⟨rfl,⟨nd,rfl⟩⟩;refine ⟨_,rfl,?_⟩) | (go_at_call 142;(with_reducible refine (tappetref02_digit.calls a0 t138 _ A4.out).mono ?_);rintro e w' ⟨rfl,⟨nd,rfl⟩⟩))
    go_ret
    exact ⟨by first | rfl | (simp;done) | (simp [*];done),by repeat (first | exact Drawn0.refl _ | apply Drawn0.step)⟩
def tappetref02_word.l0:Nat->ByteArray->Int->Option (Int)
  | 0,_,_=>none
  | k + 1,x0,x1=>if x1<(x0.size:Int) then (if 0<=x1 then ((tappetref02_part.f (bt x0 x1)).bind fun t139=>(if t139=true then (tappetref02_word.l0 k x0 (wrap64 (x1 + 1))) else (some x1))) else (none)) else (some x1)
def tappetref02_word.f (k:Nat) (a0:ByteArray) (a1:Int):Option (Int):=tappetref02_word.l0 k a0 a1
set_option maxRecDepth 100000 in
theorem tappetref02_word.calls (k:Nat) (a0:ByteArray) (a1:Int) (r:Int) (w:World) (h:tappetref02_word.f k a0 a1=some r) :
    Calls Tryz.prog 90 #[.string a0,.int .i64 a1] w fun e w'=>e=.returned (.int .i64 r)/\Drawn0 w w':=by
  have H:(tappetref02_word.l0 k a0 a1)=some r:=h;clear h;have H':=Aside0.mk H;clear H
  go_enter Tryz.func90,Tryz.ntmps90
  go_wp2
  go_loopg [1] k (fun kq v1 w'=>∃ (x1_1:Int),v1=.int .i64 x1_1/\Aside0 (tappetref02_word.l0 kq a0 x1_1=some r)/\Aside0 (kq<=k)/\Drawn0 w w')
  case atStart=>exact ⟨(a1),(by first | rfl | (simp;done) | (simp [*];done)),H',⟨Nat.le_refl _⟩,by repeat (first | exact Drawn0.refl _ | apply Drawn0.step)⟩
  case round =>
    clear H'
    try clear p2
    obtain ⟨x1_1,rfl,HA,HK1,⟨m1,rfl⟩⟩:=hrel;cases gk with
    | zero=>exact absurd HA.out (by simp [tappetref02_word.l0])
    | succ k1 =>
      have H:=HA.out;clear HA;simp only [tappetref02_word.l0] at H
      by_cases c3:x1_1<(a0.size:Int)
      · rw [if_pos c3] at H
        have c3b0:decide (x1_1<(a0.size:Int))=true:=decide_eq_true c3;clear c3
        by_cases c4:0<=x1_1
        · rw [if_pos c4] at H
          have c4b0:decide (0<=x1_1)=true:=decide_eq_true c4;clear c4;replace H:=Option.bind_eq_some_iff.mp H;obtain ⟨t139,A60,H⟩:=H;replace H:(if t139=true then (tappetref02_word.l0 k1 a0 (wrap64 (x1_1 + 1))) else (some x1_1))=some r:=H;have A6:=Aside0.mk A60;clear A60
          by_cases c7:t139=true
          · subst c7
            have H1:(tappetref02_word.l0 k1 a0 (wrap64 (x1_1 + 1)))=some r:=by rw [if_pos rfl] at H;exact H
            clear H;have H:=H1;clear H1;have H':=Aside0.mk H;clear H;have p5:0<=(x1_1:Int):=of_decide_eq_true (by first | (with_reducible assumption) | assumption);have q5:x1_1<(a0.size:Int):=of_decide_eq_true (by first | (with_reducible assumption) | assumption);have hx5:=bt_at a0 x1_1;replace p5:=eq_true p5;replace q5:=eq_true q5
            go_wp2_with (first | (go_at_call 120;(with_reducible refine (tappetref02_part.calls (bt a0 x1_1) true _ A6.out).mono ?_);rintro e w' ⟨rfl,⟨nd,rfl⟩⟩))
            go_roundg k1
            case measure=>have:=HK1.out;omega
            case rel=>exact ⟨(wrap64 (x1_1 + 1)),(by first | rfl | (simp;done) | (simp [*];done)),H',⟨by have:=HK1.out;omega⟩,by repeat (first | exact Drawn0.refl _ | apply Drawn0.step)⟩
          · replace c7:=Bool.eq_false_iff.mpr c7
            subst c7;have H1:(some x1_1)=some r:=by rw [if_neg (show ¬ (false=true) by decide)] at H;exact H
            clear H;have H:=H1;clear H1;obtain rfl:=Option.some.inj H;have p5:0<=(x1_1:Int):=of_decide_eq_true (by first | (with_reducible assumption) | assumption);have q5:x1_1<(a0.size:Int):=of_decide_eq_true (by first | (with_reducible assumption) | assumption);have hx5:=bt_at a0 x1_1;replace p5:=eq_true p5;replace q5:=eq_true q5
            go_wp2_with (first | (go_at_call 120;(with_reducible refine (tappetref02_part.calls (bt a0 x1_1) false _ A6.out).mono ?_);rintro e w' ⟨rfl,⟨nd,rfl⟩⟩))
            go_ret
            exact ⟨by first | rfl | (simp;done) | (simp [*];done),by repeat (first | exact Drawn0.refl _ | apply Drawn0.step)⟩
        · rw [if_neg c4] at H
          exact absurd H (by simp)
      · rw [if_neg c3] at H
        have c3b0:decide (x1_1<(a0.size:Int))=false:=decide_eq_false c3;clear c3;obtain rfl:=Option.some.inj H
        go_wp2
        go_ret
        exact ⟨by first | rfl | (simp;done) | (simp [*];done),by repeat (first | exact Drawn0.refl _ | apply Drawn0.step)⟩
def tappetref02_Name.f (k:Nat) (a0:ByteArray):Option (Bool):=if (a0.size:Int) > 0 then (if (a0.size:Int)<=63 then (if 0<(a0.size:Int) then ((tappetref02_first.f (bt a0 0)).bind fun t140=>(if t140=true then ((tappetref02_word.f k a0 0).bind fun t141=>(some (t141 == (a0.size:Int)))) else (some false))) else (none)) else (some false)) else (some false)
set_option maxRecDepth 100000 in
theorem tappetref02_Name.calls (k:Nat) (a0:ByteArray) (r:Bool) (w:World) (h:tappetref02_Name.f k a0=some r) :
    Calls Tryz.prog 39 #[.string a0] w fun e w'=>e=.returned (.bool r)/\Drawn0 w w':=by
  have H:(if (a0.size:Int) > 0 then (if (a0.size:Int)<=63 then (if 0<(a0.size:Int) then ((tappetref02_first.f (bt a0 0)).bind fun t140=>(if t140=true then ((tappetref02_word.f k a0 0).bind fun t141=>(some (t141 == (a0.size:Int)))) else (some false))) else (none)) else (some false)) else (some false))=some r:=h;clear h
  by_cases c2:(a0.size:Int) > 0
  · rw [if_pos c2] at H
    have c2b0:decide (0<(a0.size:Int))=true:=decide_eq_true c2;have c2b1:decide (0<a0.size)=true:=decide_eq_true (by omega);clear c2
    by_cases c3:(a0.size:Int)<=63
    · rw [if_pos c3] at H
      have c3b0:decide ((a0.size:Int)<=63)=true:=decide_eq_true c3;have c3b1:decide (a0.size<=63)=true:=decide_eq_true (by omega);clear c3
      by_cases c4:0<(a0.size:Int)
      · rw [if_pos c4] at H
        have c4b0:decide (0<(a0.size:Int))=true:=decide_eq_true c4;have c4b1:decide (0<a0.size)=true:=decide_eq_true (by omega);clear c4;replace H:=Option.bind_eq_some_iff.mp H;obtain ⟨t140,A60,H⟩:=H;replace H:(if t140=true then ((tappetref02_word.f k a0 0).bind fun t141=>(some (t141 == (a0.size:Int)))) else (some false))=some r:=H;have A6:=Aside0.mk A60;clear A60
        by_cases c7:t140=true
        · subst c7
          have H1:((tappetref02_word.f k a0 0).bind fun t141=>(some (t141 == (a0.size:Int))))=some r:=by rw [if_pos rfl] at H;exact H
          clear H;have H:=H1;clear H1;replace H:=Option.bind_eq_some_iff.mp H;obtain ⟨t141,A80,H⟩:=H;replace H:(some (t141 == (a0.size:Int)))=some r:=H;have A8:=Aside0.mk A80;clear A80;obtain rfl:=Option.some.inj H;have p5:0<=(0:Int):=(by omega);have q5:0<a0.size:=(by have:(0:Int)<(a0.size:Int):=of_decide_eq_true (by first | (with_reducible assumption) | assumption);omega);have hx5:∀ h:0<a0.size,((a0[0]'h).toNat:Int)=bt a0 0:=bt_at a0 0;clear p5;have qi5:(0<(a0.size:Int))=True:=eq_true (of_decide_eq_true (by first | (with_reducible assumption) | assumption));replace q5:=eq_true q5
          go_enter Tryz.func39,Tryz.ntmps39
          go_wp2_with (first | (go_at_call 89;(with_reducible refine (tappetref02_first.calls (bt a0 0) true _ A6.out).mono ?_);rintro e w' ⟨rfl,⟨nd,rfl⟩⟩) | (go_at_call 90;(with_reducible refine (tappetref02_word.calls k a0 0 t141 _ A8.out).mono ?_);rintro e w' ⟨rfl,⟨nd,rfl⟩⟩))
          go_ret
          exact ⟨by first | rfl | (simp;done) | (simp [*];done),by repeat (first | exact Drawn0.refl _ | apply Drawn0.step)⟩
        · replace c7:=Bool.eq_false_iff.mpr c7
          subst c7;have H1:(some false)=some r:=by rw [if_neg (show ¬ (false=true) by decide)] at H;exact H
          clear H;have H:=H1;clear H1;obtain rfl:=Option.some.inj H;have p5:0<=(0:Int):=(by omega);have q5:0<a0.size:=(by have:(0:Int)<(a0.size:Int):=of_decide_eq_true (by first | (with_reducible assumption) | assumption);omega);have hx5:∀ h:0<a0.size,((a0[0]'h).toNat:Int)=bt a0 0:=bt_at a0 0;clear p5;have qi5:(0<(a0.size:Int))=True:=eq_true (of_decide_eq_true (by first | (with_reducible assumption) | assumption));replace q5:=eq_true q5
          go_enter Tryz.func39,Tryz.ntmps39
          go_wp2_with (first | (go_at_call 89;(with_reducible refine (tappetref02_first.calls (bt a0 0) false _ A6.out).mono ?_);rintro e w' ⟨rfl,⟨nd,rfl⟩⟩))
          go_ret
          exact ⟨by first | rfl | (simp;done) | (simp [*];done),by repeat (first | exact Drawn0.refl _ | apply Drawn0.step)⟩
      · rw [if_neg c4] at H
        exact absurd H (by simp)
    · rw [if_neg c3] at H
      have c3b0:decide ((a0.size:Int)<=63)=false:=decide_eq_false c3;have c3b1:decide (a0.size<=63)=false:=decide_eq_false (by omega);clear c3;obtain rfl:=Option.some.inj H
      go_enter Tryz.func39,Tryz.ntmps39
      go_wp2
      go_ret
      exact ⟨by first | rfl | (simp;done) | (simp [*];done),by repeat (first | exact Drawn0.refl _ | apply Drawn0.step)⟩
  · rw [if_neg c2] at H
    have c2b0:decide (0<(a0.size:Int))=false:=decide_eq_false c2;have c2b1:decide (0<a0.size)=false:=decide_eq_false (by omega);clear c2;obtain rfl:=Option.some.inj H
    go_enter Tryz.func39,Tryz.ntmps39
    go_wp2
    go_ret
    exact ⟨by first | rfl | (simp;done) | (simp [*];done),by repeat (first | exact Drawn0.refl _ | apply Drawn0.step)⟩
def tappetref04_right.f (k:Nat) (a0_0:Int) (a0_1:ByteArray) (a0_2:Int) (a0_3:Bool):Option (Bool):=if a0_0=1 then ((tappetref02_Name.f k a0_1).bind fun t143=>(if t143=true then (if a0_2=0 then (some (!a0_3)) else (some false)) else (some false))) else (if a0_0=2 then (some (a0_1.toList == ([]:List UInt8))) else (if a0_0=3 then ((tappetref02_String.f k a0_1).bind fun t144=>(if t144=true then (if a0_2=0 then (some (!a0_3)) else (some false)) else (some false))) else (some false)))
end Go.Proofs.YtmfejjlmflgnbaaGreatDoor.PA
