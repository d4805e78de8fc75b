/- A part of the set. -/
import Derived.Test.YtmfejjlmflgnbaaGreatDoorVBase
import Derived.Lib.Strings
import Derived.Test.YtmfejjlmflgnbaaGreatDoorVTxt
import Derived.Deep.RegionLaw
import Derived.Deep.RegionHeld3
set_option linter.unusedVariables false
set_option linter.unusedSimpArgs false
set_option maxRecDepth 100000
set_option maxHeartbeats 64000000
namespace Go.Proofs.YtmfejjlmflgnbaaGreatDoor.PA
open RowKit YtmfejjlmflgnbaaGreatDoorW.PrintWords YtmfejjlmflgnbaaGreatDoorW.PrintLast YtmfejjlmflgnbaaGreatDoorW.PrintMore
attribute [local go_sem] max2_int min2_int max_two min_two max_three min_three max_four min_four   -- for this text's walks alone
def tappetlaw04_num.f (a0:Int):Option (Int):=some a0
def token_letter.f (a0:Int):Option (Bool):=if a0 ≥ 97 then (if a0<=122 then (some true) else (if a0 ≥ 65 then (if a0<=90 then (some true) else (some (a0 == 95))) else (some (a0 == 95)))) else (if a0 ≥ 65 then (if a0<=90 then (some true) else (some (a0 == 95))) else (some (a0 == 95)))
set_option maxRecDepth 100000 in
theorem token_letter.calls (a0:Int) (r:Bool) (w:World) (h:token_letter.f a0=some r) :
    Calls Tryz.prog 148 #[.int .u8 a0] w fun e w'=>e=.returned (.bool r)/\Drawn0 w w':=by
  have H:(if a0 ≥ 97 then (if a0<=122 then (some true) else (if a0 ≥ 65 then (if a0<=90 then (some true) else (some (a0 == 95))) else (some (a0 == 95)))) else (if a0 ≥ 65 then (if a0<=90 then (some true) else (some (a0 == 95))) else (some (a0 == 95))))=some r:=h;clear h
  by_cases c2:a0 ≥ 97
  · rw [if_pos c2] at H
    have c2b0:decide (97<=a0)=true:=decide_eq_true c2;clear c2
    by_cases c3:a0<=122
    · rw [if_pos c3] at H
      have c3b0:decide (a0<=122)=true:=decide_eq_true c3;clear c3;obtain rfl:=Option.some.inj H
      go_enter Tryz.func148,Tryz.ntmps148
      go_wp2
      go_ret
      exact ⟨by first | rfl | (simp;done) | (simp [*];done),by repeat (first | exact Drawn0.refl _ | apply Drawn0.step)⟩
    · rw [if_neg c3] at H
      have c3b0:decide (a0<=122)=false:=decide_eq_false c3;clear c3
      by_cases c4:a0 ≥ 65
      · rw [if_pos c4] at H
        have c4b0:decide (65<=a0)=true:=decide_eq_true c4;clear c4
        by_cases c5:a0<=90
        · rw [if_pos c5] at H
          have c5b0:decide (a0<=90)=true:=decide_eq_true c5;clear c5;obtain rfl:=Option.some.inj H
          go_enter Tryz.func148,Tryz.ntmps148
          go_wp2
          go_ret
          exact ⟨by first | rfl | (simp;done) | (simp [*];done),by repeat (first | exact Drawn0.refl _ | apply Drawn0.step)⟩
        · rw [if_neg c5] at H
          have c5b0:decide (a0<=90)=false:=decide_eq_false c5;clear c5;obtain rfl:=Option.some.inj H
          go_enter Tryz.func148,Tryz.ntmps148
          go_wp2
          go_ret
          exact ⟨by first | rfl | (simp;done) | (simp [*];done),by repeat (first | exact Drawn0.refl _ | apply Drawn0.step)⟩
      · rw [if_neg c4] at H
        have c4b0:decide (65<=a0)=false:=decide_eq_false c4;clear c4;obtain rfl:=Option.some.inj H
        go_enter Tryz.func148,Tryz.ntmps148
        go_wp2
        go_ret
        exact ⟨by first | rfl | (simp;done) | (simp [*];done),by repeat (first | exact Drawn0.refl _ | apply Drawn0.step)⟩
  · rw [if_neg c2] at H
    have c2b0:decide (97<=a0)=false:=decide_eq_false c2;clear c2
    by_cases c6:a0 ≥ 65
    · rw [if_pos c6] at H
      have c6b0:decide (65<=a0)=true:=decide_eq_true c6;clear c6
      by_cases c7:a0<=90
      · rw [if_pos c7] at H
        have c7b0:decide (a0<=90)=true:=decide_eq_true c7;clear c7;obtain rfl:=Option.some.inj H
        go_enter Tryz.func148,Tryz.ntmps148
        go_wp2
        go_ret
        exact ⟨by first | rfl | (simp;done) | (simp [*];done),by repeat (first | exact Drawn0.refl _ | apply Drawn0.step)⟩
      · rw [if_neg c7] at H
        have c7b0:decide (a0<=90)=false:=decide_eq_false c7;clear c7;obtain rfl:=Option.some.inj H
        go_enter Tryz.func148,Tryz.ntmps148
        go_wp2
        go_ret
        exact ⟨by first | rfl | (simp;done) | (simp [*];done),by repeat (first | exact Drawn0.refl _ | apply Drawn0.step)⟩
    · rw [if_neg c6] at H
      have c6b0:decide (65<=a0)=false:=decide_eq_false c6;clear c6;obtain rfl:=Option.some.inj H
      go_enter Tryz.func148,Tryz.ntmps148
      go_wp2
      go_ret
      exact ⟨by first | rfl | (simp;done) | (simp [*];done),by repeat (first | exact Drawn0.refl _ | apply Drawn0.step)⟩
def token_digit.f (a0:Int):Option (Bool):=if a0 ≥ 48 then (some (decide (a0<=57))) else (some false)
set_option maxRecDepth 100000 in
theorem token_digit.calls (a0:Int) (r:Bool) (w:World) (h:token_digit.f a0=some r) :
    Calls Tryz.prog 156 #[.int .u8 a0] w fun e w'=>e=.returned (.bool r)/\Drawn0 w w':=by
  have H:(if a0 ≥ 48 then (some (decide (a0<=57))) else (some false))=some r:=h;clear h
  by_cases c2:a0 ≥ 48
  · rw [if_pos c2] at H
    have c2b0:decide (48<=a0)=true:=decide_eq_true c2;clear c2;obtain rfl:=Option.some.inj H
    go_enter Tryz.func156,Tryz.ntmps156
    go_wp2
    go_ret
    exact ⟨by first | rfl | (simp;done) | (simp [*];done),by repeat (first | exact Drawn0.refl _ | apply Drawn0.step)⟩
  · rw [if_neg c2] at H
    have c2b0:decide (48<=a0)=false:=decide_eq_false c2;clear c2;obtain rfl:=Option.some.inj H
    go_enter Tryz.func156,Tryz.ntmps156
    go_wp2
    go_ret
    exact ⟨by first | rfl | (simp;done) | (simp [*];done),by repeat (first | exact Drawn0.refl _ | apply Drawn0.step)⟩
def token_word.l0:Nat->ByteArray->Int->Option (Int)
  | 0,_,_=>none
  | k + 1,x0,x1=>if x1<(x0.size:Int) then (if 0<=x1 then ((token_letter.f (bt x0 x1)).bind fun t180=>(if t180=true then (token_word.l0 k x0 (wrap64 (x1 + 1))) else ((token_digit.f (bt x0 x1)).bind fun t181=>(if t181=true then (token_word.l0 k x0 (wrap64 (x1 + 1))) else (some x1))))) else (none)) else (some x1)
def token_word.f (k:Nat) (a0:ByteArray) (a1:Int):Option (Int):=token_word.l0 k a0 a1
set_option maxRecDepth 100000 in
theorem token_word.calls (k:Nat) (a0:ByteArray) (a1:Int) (r:Int) (w:World) (h:token_word.f k a0 a1=some r) :
    Calls Tryz.prog 149 #[.string a0,.int .i64 a1] w fun e w'=>e=.returned (.int .i64 r)/\Drawn0 w w':=by
  have H:(token_word.l0 k a0 a1)=some r:=h;clear h;have H':=Aside0.mk H;clear H
  go_enter Tryz.func149,Tryz.ntmps149
  go_wp2
  go_loopg [1] k (fun kq v1 w'=>∃ (x1_1:Int),v1=.int .i64 x1_1/\Aside0 (token_word.l0 kq a0 x1_1=some r)/\Aside0 (kq<=k)/\Drawn0 w w')
  case atStart=>exact ⟨(a1),(by first | rfl | (simp;done) | (simp [*];done)),H',⟨Nat.le_refl _⟩,by repeat (first | exact Drawn0.refl _ | apply Drawn0.step)⟩
  case round =>
    clear H'
    try clear c1
    try clear p2
    obtain ⟨x1_1,rfl,HA,HK1,⟨m1,rfl⟩⟩:=hrel;cases gk with
    | zero=>exact absurd HA.out (by simp [token_word.l0])
    | succ k1 =>
      have H:=HA.out;clear HA;simp only [token_word.l0] at H
      by_cases c3:x1_1<(a0.size:Int)
      · rw [if_pos c3] at H
        have c3b0:decide (x1_1<(a0.size:Int))=true:=decide_eq_true c3;clear c3
        by_cases c4:0<=x1_1
        · rw [if_pos c4] at H
          have c4b0:decide (0<=x1_1)=true:=decide_eq_true c4;clear c4;replace H:=Option.bind_eq_some_iff.mp H;obtain ⟨t180,A60,H⟩:=H;replace H:(if t180=true then (token_word.l0 k1 a0 (wrap64 (x1_1 + 1))) else ((token_digit.f (bt a0 x1_1)).bind fun t181=>(if t181=true then (token_word.l0 k1 a0 (wrap64 (x1_1 + 1))) else (some x1_1))))=some r:=H;have A6:=Aside0.mk A60;clear A60
          by_cases c7:t180=true
          · subst c7
            have H1:(token_word.l0 k1 a0 (wrap64 (x1_1 + 1)))=some r:=by rw [if_pos rfl] at H;exact H
            clear H;have H:=H1;clear H1;have H':=Aside0.mk H;clear H;have p5:0<=(x1_1:Int):=of_decide_eq_true (by first | (with_reducible assumption) | assumption);have q5:x1_1<(a0.size:Int):=of_decide_eq_true (by first | (with_reducible assumption) | assumption);have hx5:=bt_at a0 x1_1;replace p5:=eq_true p5;replace q5:=eq_true q5
            go_wp2_with (first | (go_at_call 148;(with_reducible refine (token_letter.calls (bt a0 x1_1) true _ A6.out).mono ?_);rintro e w' ⟨rfl,⟨nd,rfl⟩⟩))
            go_roundg k1
            case measure=>have:=HK1.out;omega
            case rel=>exact ⟨(wrap64 (x1_1 + 1)),(by first | rfl | (simp;done) | (simp [*];done)),H',⟨by have:=HK1.out;omega⟩,by repeat (first | exact Drawn0.refl _ | apply Drawn0.step)⟩
          · replace c7:=Bool.eq_false_iff.mpr c7
            subst c7;have H1:((token_digit.f (bt a0 x1_1)).bind fun t181=>(if t181=true then (token_word.l0 k1 a0 (wrap64 (x1_1 + 1))) else (some x1_1)))=some r:=by rw [if_neg (show ¬ (false=true) by decide)] at H;exact H
            clear H;have H:=H1;clear H1;replace H:=Option.bind_eq_some_iff.mp H;obtain ⟨t181,A90,H⟩:=H;replace H:(if t181=true then (token_word.l0 k1 a0 (wrap64 (x1_1 + 1))) else (some x1_1))=some r:=H;have A9:=Aside0.mk A90;clear A90
            by_cases c10:t181=true
            · subst c10
              have H1:(token_word.l0 k1 a0 (wrap64 (x1_1 + 1)))=some r:=by rw [if_pos rfl] at H;exact H
              clear H;have H:=H1;clear H1;have H':=Aside0.mk H;clear H;have p5:0<=(x1_1:Int):=of_decide_eq_true (by first | (with_reducible assumption) | assumption);have q5:x1_1<(a0.size:Int):=of_decide_eq_true (by first | (with_reducible assumption) | assumption);have hx5:=bt_at a0 x1_1;replace p5:=eq_true p5;replace q5:=eq_true q5
              go_wp2_with (first | (go_at_call 148;(with_reducible refine (token_letter.calls (bt a0 x1_1) false _ A6.out).mono ?_);rintro e w' ⟨rfl,⟨nd,rfl⟩⟩;have p8:0<=(x1_1:Int):=of_decide_eq_true (by first | (with_reducible assumption) | assumption);have q8:x1_1<(a0.size:Int):=of_decide_eq_true (by first | (with_reducible assumption) | assumption);have hx8:=bt_at a0 x1_1;replace p8:=eq_true p8;replace q8:=eq_true q8) | (go_at_call 156;(with_reducible refine (token_digit.calls (bt a0 x1_1) true _ A9.out).mono ?_);rintro e w' ⟨rfl,⟨nd,rfl⟩⟩))
              go_roundg k1
              case measure=>have:=HK1.out;omega
              case rel=>exact ⟨(wrap64 (x1_1 + 1)),(by first | rfl | (simp;done) | (simp [*];done)),H',⟨by have:=HK1.out;omega⟩,by repeat (first | exact Drawn0.refl _ | apply Drawn0.step)⟩
            · replace c10:=Bool.eq_false_iff.mpr c10
              subst c10;have H1:(some x1_1)=some r:=by rw [if_neg (show ¬ (false=true) by decide)] at H;exact H
              clear H;have H:=H1;clear H1;obtain rfl:=Option.some.inj H;have p5:0<=(x1_1:Int):=of_decide_eq_true (by first | (with_reducible assumption) | assumption);have q5:x1_1<(a0.size:Int):=of_decide_eq_true (by first | (with_reducible assumption) | assumption);have hx5:=bt_at a0 x1_1;replace p5:=eq_true p5;replace q5:=eq_true q5
              go_wp2_with (first | (go_at_call 148;(with_reducible refine (token_letter.calls (bt a0 x1_1) false _ A6.out).mono ?_);rintro e w' ⟨rfl,⟨nd,rfl⟩⟩;have p8:0<=(x1_1:Int):=of_decide_eq_true (by first | (with_reducible assumption) | assumption);have q8:x1_1<(a0.size:Int):=of_decide_eq_true (by first | (with_reducible assumption) | assumption);have hx8:=bt_at a0 x1_1;replace p8:=eq_true p8;replace q8:=eq_true q8) | (go_at_call 156;(with_reducible refine (token_digit.calls (bt a0 x1_1) false _ A9.out).mono ?_);rintro e w' ⟨rfl,⟨nd,rfl⟩⟩))
              go_ret
              exact ⟨by first | rfl | (simp;done) | (simp [*];done),by repeat (first | exact Drawn0.refl _ | apply Drawn0.step)⟩
        · rw [if_neg c4] at H
          exact absurd H (by simp)
      · rw [if_neg c3] at H
        have c3b0:decide (x1_1<(a0.size:Int))=false:=decide_eq_false c3;clear c3;obtain rfl:=Option.some.inj H
        go_wp2
        go_ret
        exact ⟨by first | rfl | (simp;done) | (simp [*];done),by repeat (first | exact Drawn0.refl _ | apply Drawn0.step)⟩
def token_name.f (k:Nat) (a0:ByteArray):Option (Bool):=if a0.toList=([]:List UInt8) then (some false) else (if (a0.size:Int)<=63 then (if 0<(a0.size:Int) then ((token_letter.f (bt a0 0)).bind fun t182=>(if t182=true then ((token_word.f k a0 0).bind fun t183=>(some (t183 == (a0.size:Int)))) else (some false))) else (none)) else (some false))
set_option maxRecDepth 100000 in
theorem token_name.calls (k:Nat) (a0:ByteArray) (r:Bool) (w:World) (h:token_name.f k a0=some r) :
    Calls Tryz.prog 126 #[.string a0] w fun e w'=>e=.returned (.bool r)/\Drawn0 w w':=by
  have H:(if a0.toList=([]:List UInt8) then (some false) else (if (a0.size:Int)<=63 then (if 0<(a0.size:Int) then ((token_letter.f (bt a0 0)).bind fun t182=>(if t182=true then ((token_word.f k a0 0).bind fun t183=>(some (t183 == (a0.size:Int)))) else (some false))) else (none)) else (some false)))=some r:=h;clear h
  by_cases c2:a0.toList=([]:List UInt8)
  · rw [if_pos c2] at H
    have c2b0:(a0.toList == ([]:List UInt8))=true:=beq_iff_eq.mpr c2;have c2b1:(a0.toList != ([]:List UInt8))=false:=bne_eq_false_iff_eq.mpr c2;clear c2;obtain rfl:=Option.some.inj H
    go_enter Tryz.func126,Tryz.ntmps126
    go_wp2
    go_ret
    exact ⟨by first | rfl | (simp;done) | (simp [*];done),by repeat (first | exact Drawn0.refl _ | apply Drawn0.step)⟩
  · rw [if_neg c2] at H
    have c2b0:(a0.toList == ([]:List UInt8))=false:=beq_eq_false_iff_ne.mpr c2;have c2b1:(a0.toList != ([]:List UInt8))=true:=bne_iff_ne.mpr c2
    by_cases c3:(a0.size:Int)<=63
    · rw [if_pos c3] at H
      have c3b0:decide ((a0.size:Int)<=63)=true:=decide_eq_true c3;have c3b1:decide (a0.size<=63)=true:=decide_eq_true (by omega);clear c3
      by_cases c4:0<(a0.size:Int)
      · rw [if_pos c4] at H
        have c4b0:decide (0<(a0.size:Int))=true:=decide_eq_true c4;have c4b1:decide (0<a0.size)=true:=decide_eq_true (by omega);clear c4;replace H:=Option.bind_eq_some_iff.mp H;obtain ⟨t182,A60,H⟩:=H;replace H:(if t182=true then ((token_word.f k a0 0).bind fun t183=>(some (t183 == (a0.size:Int)))) else (some false))=some r:=H;have A6:=Aside0.mk A60;clear A60
        by_cases c7:t182=true
        · subst c7
          have H1:((token_word.f k a0 0).bind fun t183=>(some (t183 == (a0.size:Int))))=some r:=by rw [if_pos rfl] at H;exact H
          clear H;have H:=H1;clear H1;replace H:=Option.bind_eq_some_iff.mp H;obtain ⟨t183,A80,H⟩:=H;replace H:(some (t183 == (a0.size:Int)))=some r:=H;have A8:=Aside0.mk A80;clear A80;obtain rfl:=Option.some.inj H;have p5:0<=(0:Int):=(by omega);have q5:0<a0.size:=(by have:(0:Int)<(a0.size:Int):=of_decide_eq_true (by first | (with_reducible assumption) | assumption);omega);have hx5:∀ h:0<a0.size,((a0[0]'h).toNat:Int)=bt a0 0:=bt_at a0 0;clear p5;have qi5:(0<(a0.size:Int))=True:=eq_true (of_decide_eq_true (by first | (with_reducible assumption) | assumption));replace q5:=eq_true q5
          go_enter Tryz.func126,Tryz.ntmps126
          go_wp2_with (first | (go_at_call 148;(with_reducible refine (token_letter.calls (bt a0 0) true _ A6.out).mono ?_);rintro e w' ⟨rfl,⟨nd,rfl⟩⟩) | (go_at_call 149;(with_reducible refine (token_word.calls k a0 0 t183 _ A8.out).mono ?_);rintro e w' ⟨rfl,⟨nd,rfl⟩⟩))
          go_ret
          exact ⟨by first | rfl | (simp;done) | (simp [*];done),by repeat (first | exact Drawn0.refl _ | apply Drawn0.step)⟩
        · replace c7:=Bool.eq_false_iff.mpr c7
          subst c7;have H1:(some false)=some r:=by rw [if_neg (show ¬ (false=true) by decide)] at H;exact H
          clear H;have H:=H1;clear H1;obtain rfl:=Option.some.inj H;have p5:0<=(0:Int):=(by omega);have q5:0<a0.size:=(by have:(0:Int)<(a0.size:Int):=of_decide_eq_true (by first | (with_reducible assumption) | assumption);omega);have hx5:∀ h:0<a0.size,((a0[0]'h).toNat:Int)=bt a0 0:=bt_at a0 0;clear p5;have qi5:(0<(a0.size:Int))=True:=eq_true (of_decide_eq_true (by first | (with_reducible assumption) | assumption));replace q5:=eq_true q5
          go_enter Tryz.func126,Tryz.ntmps126
          go_wp2_with (first | (go_at_call 148;(with_reducible refine (token_letter.calls (bt a0 0) false _ A6.out).mono ?_);rintro e w' ⟨rfl,⟨nd,rfl⟩⟩))
          go_ret
          exact ⟨by first | rfl | (simp;done) | (simp [*];done),by repeat (first | exact Drawn0.refl _ | apply Drawn0.step)⟩
      · rw [if_neg c4] at H
        exact absurd H (by simp)
    · rw [if_neg c3] at H
      have c3b0:decide ((a0.size:Int)<=63)=false:=decide_eq_false c3;have c3b1:decide (a0.size<=63)=false:=decide_eq_false (by omega);clear c3;obtain rfl:=Option.some.inj H
      go_enter Tryz.func126,Tryz.ntmps126
      go_wp2
      go_ret
      exact ⟨by first | rfl | (simp;done) | (simp [*];done),by repeat (first | exact Drawn0.refl _ | apply Drawn0.step)⟩
end Go.Proofs.YtmfejjlmflgnbaaGreatDoor.PA
namespace Go.Proofs.YtmfejjlmflgnbaaGreatDoor.Tok
open RowKit PA YtmfejjlmflgnbaaGreatDoorW.PrintWords YtmfejjlmflgnbaaGreatDoorW.PrintLast Sp
open Go.Lib (hid)
theorem u8_eq (c:UInt8) (n:Nat) (h:n<256):c=UInt8.ofNat n↔c.toNat=n:=by
 constructor
 ·rintro rfl;simp;omega
 ·intro e
  apply UInt8.toNat_inj.1
  rw [e];simp;omega
theorem letter_spec (c:UInt8):token_letter.f (c.toNat:Int)=some (letterB c):=by
 have h95:(c == 95)=decide (c.toNat=95):=by
  rw [Bool.eq_iff_iff,beq_iff_eq,decide_eq_true_iff];exact u8_eq c 95 (by omega)
 have h95':(((c.toNat:Nat):Int) == 95)=decide (c.toNat=95):=by
  rw [Bool.eq_iff_iff,beq_iff_eq,decide_eq_true_iff];omega
 unfold token_letter.f letterB;rw [h95,h95']
 repeat' split
 all_goals (congr 1;rw [eq_comm];simp;try omega)
theorem digit_spec (c:UInt8):token_digit.f (c.toNat:Int)=some (digitB c):=by
 unfold token_digit.f digitB
 split
 ·rename_i h
  have h1:decide (48<=c.toNat)=true:=decide_eq_true (by omega);rw [h1,Bool.true_and]
  congr 1
  rw [Bool.eq_iff_iff,decide_eq_true_iff,decide_eq_true_iff];omega
 ·rename_i h
  have h1:decide (48<=c.toNat)=false:=decide_eq_false (by omega);rw [h1,Bool.false_and]
theorem bt_nat (t:ByteArray) (i:Nat) (h:i<t.size):bt t (i:Int)=((t[i]).toNat:Int):=by
 simp [bt,h]
theorem at_drop (t:ByteArray) (m:Nat) (h:m<t.size):t.data.toList.drop m=t[m] :: t.data.toList.drop (m + 1):=by
 have hlen:t.data.toList.length=t.size:=by rw [Array.length_toList];rfl
 rw [List.drop_eq_getElem_cons (by omega)]
 rfl
theorem wrap_nat (n:Nat) (h:n<9223372036854775807):wrap64 ((n:Int) + 1)=((n + 1:Nat):Int):=by
 unfold wrap64;omega
theorem wordLen_cons (c:UInt8) (l:Bs):wordLen (c :: l)=if partB c then wordLen l + 1 else 0:=by
 unfold wordLen;rw [List.takeWhile_cons]
 split <;> simp
theorem word_spec (t:ByteArray) (ht:t.size<9223372036854775807):∀ (d i:Nat),i + d=t.size->token_word.l0 (d + 1) t (i:Int)=some ((i + wordLen (t.data.toList.drop i):Nat):Int)
 | 0,i,h=>by
  have e:t.data.toList.drop i=[]:=List.drop_eq_nil_of_le (by rw [Array.length_toList];show t.size<=_;omega);rw [e,token_word.l0,if_neg (by omega)]
  rfl
 | d + 1,i,h=>by
  have hi:i<t.size:=by omega
  rw [at_drop t i hi,wordLen_cons,token_word.l0,if_pos (by omega),if_pos (by omega),bt_nat t i hi,letter_spec,wrap_nat i (by omega)];have ih:=word_spec t ht d (i + 1) (by omega);simp only [Option.bind_some,digit_spec];unfold partB;cases letterB t[i] with
  | true=>simp only [if_true,Bool.true_or,ih];congr 2;omega
  | false =>
   cases digitB t[i] with
   | true=>simp only [Bool.false_or,if_true,Bool.false_eq_true,if_false,ih];congr 2;omega
   | false=>simp
theorem wordLen_all (l:Bs):(wordLen l=l.length)↔l.all partB=true:=by
 induction l with
 | nil=>simp [wordLen]
 | cons c r ih =>
  rw [wordLen_cons,List.all_cons];cases partB c with
  | true=>simp [ih]
  | false=>simp
theorem name_spec (t:ByteArray):token_name.f (t.size + 1) t=some (nameB t.data.toList):=by
 have hlen:t.data.toList.length=t.size:=by rw [Array.length_toList];rfl
 unfold token_name.f nameB;rw [hlen]
 by_cases h0:t.size=0
 ·have e:t.toList=[]:=by
   rw [ByteArray.toList_eq];exact List.eq_nil_of_length_eq_zero (by rw [hlen];exact h0)
  rw [if_pos e,h0]
  rfl
 ·have e:¬ t.toList=[]:=fun e=>h0 (by rw [<- hlen,<- ByteArray.toList_eq,e];rfl)
  rw [if_neg e];have hpos:0<t.size:=by omega
  by_cases h63:t.size<=63
  ·rw [if_pos (by omega),if_pos (by omega)]
   have hb:=bt_nat t 0 hpos;simp only [Int.ofNat_zero] at hb;rw [show bt t 0=_ from hb,letter_spec];have hd:=at_drop t 0 hpos;rw [List.drop_zero] at hd;have hh:t.data.toList.headD 0=t[0]:=by rw [hd];rfl
   rw [hh];simp only [Option.bind_some];cases letterB t[0] with
   | false=>simp
   | true =>
    have hw:=word_spec t (by omega) t.size 0 (by omega);rw [List.drop_zero] at hw;have ha:=wordLen_all t.data.toList;unfold token_word.f;rw [show token_word.l0 (t.size + 1) t 0=_ from hw];simp only [if_true,Option.bind_some]
    congr 1
    rw [hlen] at ha;rw [Bool.eq_iff_iff,beq_iff_eq];simp only [Bool.and_eq_true,decide_eq_true_eq,Bool.true_eq_false,and_true]
    constructor
    ·intro h1
     refine ⟨⟨?_,?_⟩,?_⟩ <;> first | omega | trivial | (refine ha.1 ?_;omega)
    ·rintro ⟨_,h1⟩
     have:=ha.2 h1;omega
  ·rw [if_neg (by omega)]
   simp;omega
def SpellPost (k:Int) (t:ByteArray) (v:Nat) (h:Bool) (w:World) (e:Ending) (w':World):Prop :=
 Below w.heap.size w w'/\e=.returned (match spellT k t.data.toList v h with
  | some s=>.tuple #[.string ⟨s.toArray⟩,.int .i64 0]
  | none=>.tuple #[.string ⟨#[]⟩,.int .i64 20])
theorem name_calls (t:ByteArray) (w:World):Calls Tryz.prog 126 #[.string t] w fun e w'=>e=.returned (.bool (nameB t.data.toList))/\Below w.heap.size w w' :=
 (token_name.calls _ t _ w (name_spec t)).mono fun e w' ⟨he,⟨n,hn⟩⟩=>⟨he,by rw [hn];exact ⟨rfl,rfl,rfl,Nat.le_refl _,fun _ _=>rfl⟩⟩
theorem cell_new {w w':World} {C:Array Value} {T:TypeId} {k:Nat} {v:Value} (hB:Below (w.alloc (.cells C T)).heap.size (w.alloc (.cells C T)) w') (h:C[k]?=some v):w'.cell? ⟨w.heap.size,k,none⟩=some v:=by
 rw [hB.cell (by simp),World.cell?_alloc_new];exact h
theorem list_ne (t:ByteArray) (h:t.data.toList≠[]):t.toList.isEmpty=false:=by
 rw [ByteArray.toList_eq];cases hl:t.data.toList with
 | nil=>exact absurd hl h
 | cons _ _=>rfl
theorem wrap_u64 (v:Nat) (h:v<4294967296):IntKind.u64.wrap (v:Int)=v:=by
 show (v:Int) % 18446744073709551616=v;omega
theorem decF_eq:∀ (f v:Nat) (acc:Bs),v<10 ^ f->0<f->decF f v acc=Lib.decDigits v++acc
 | 0,_,_,_,h=>absurd h (by omega)
 | f + 1,v,acc,h,_=>by
  unfold decF
  by_cases h1:v<10
  ·rw [if_pos h1,Lib.decDigits_one h1];rfl
  ·rw [if_neg h1]
   have hf:0<f:=by
    rcases Nat.eq_zero_or_pos f with e | e
    ·subst e;simp at h;omega
    ·exact e
   rw [decF_eq f (v / 10) _ (by rw [Nat.pow_succ] at h;omega) hf]
   conv=>rhs;rw [Lib.decDigits,dif_neg h1]
   simp
theorem decT_eq (v:Nat) (h:v<4294967296):Lib.decDigits v=decT v:=by
 unfold decT;rw [decF_eq 40 v [] (Nat.lt_of_lt_of_le h (by decide)) (by omega)];simp
theorem hexF_len (v:Nat):(hexF 40 v []).length<=40:=by
 have h1:hexF 40 v []=Lib.toUpperA (lowF 40 v []):=by rw [upper_lowF];rfl
 have h2:=(lowF_facts 40 v [] (by simp)).2;rw [h1];unfold Lib.toUpperA
 simpa using h2
theorem hex_cat (l:Bs):(⟨#[48,120]⟩:ByteArray)++⟨l.toArray⟩=⟨(48 :: 120 :: l).toArray⟩:=by
 apply ByteArray.ext
 simp
theorem old_new (w:World) (T:TypeId):OldNew w.heap.size (w.alloc (.cells #[.string ⟨#[92]⟩,.string ⟨#[92,92]⟩,.string ⟨#[34]⟩,.string ⟨#[92,34]⟩] T)).drew :=
 OldNew.of_block (w:=w.alloc _) ⟨by rw [World.cell?_alloc_new];rfl,by rw [World.cell?_alloc_new];rfl,by rw [World.cell?_alloc_new];rfl,by rw [World.cell?_alloc_new];rfl⟩ rfl
theorem keep_cell {w w':World} {ob:Obj} {a:Addr} {v:Value} (hB:Below (w.alloc ob).drew.heap.size (w.alloc ob).drew w') (h:w.cell? a=some v):w'.cell? a=some v:=by
 have hl:=World.block_lt_of_cell? w a h;rw [hB.cell (by simp;omega),World.cell?_drew,World.cell?_alloc_lt _ _ _ hl];exact h
theorem keep_alloc {w:World} {ob:Obj} {a:Addr} {v:Value} (h:w.cell? a=some v):(w.alloc ob).cell? a=some v:=by
 have hl:=World.block_lt_of_cell? w a h;rw [World.cell?_alloc_lt _ _ _ hl];exact h
theorem quote_cat (l:Bs):(⟨#[34]⟩:ByteArray)++⟨(escT l).toArray⟩++⟨#[34]⟩=⟨(quoteT l).toArray⟩:=by
 apply ByteArray.ext
 simp [quoteT]
theorem v_ne (v:Nat) (h:v≠0):((v:Int) != 0)=true:=by simp;omega
theorem spell_none {k:Int} {t:ByteArray} {v:Nat} {h:Bool} {w w':World} (hB:Below w.heap.size w w') (hs:spellT k t.data.toList v h=none):SpellPost k t v h w (.returned (.tuple #[.string ⟨#[]⟩,.int .i64 20])) w':=⟨hB,by rw [hs]⟩
theorem spell_some {k:Int} {t s:ByteArray} {v:Nat} {h:Bool} {w w':World} {l:Bs} (hB:Below w.heap.size w w') (hs:spellT k t.data.toList v h=some l) (he:s=⟨l.toArray⟩):SpellPost k t v h w (.returned (.tuple #[.string s,.int .i64 0])) w':=⟨hB,by rw [hs,he]⟩
theorem alloc_below (w:World) (ob:Obj):Below w.heap.size w (w.alloc ob):=(Below.refl _ w).alloc (Nat.le_refl _) _
theorem spell1_v (o l c:Int) (t:ByteArray) (v:Nat) (h:Bool) (w:World) (hv:v≠0):Calls Tryz.prog 97 #[tokV 1 o l c t v h] w (SpellPost 1 t v h w):=by
 have d:=v_ne v hv;have hs:spellT 1 t.data.toList v h=none:=by simp [spellT,hv]
 have HS:=hid hs;clear hs hv;unfold tokV tokCells
 go_enter Tryz.func97,Tryz.ntmps97
 go_wp2_with fail
 all_goals (refine bodyPost_ret (results_list (rs:=[.tmp 2,.tmp 3]) rfl (by simp) (.tmp (.tmp .nil))) rfl ?_)
 all_goals exact spell_none (alloc_below _ _) HS.out
theorem spell1_h (o l c:Int) (t:ByteArray) (w:World):Calls Tryz.prog 97 #[tokV 1 o l c t 0 true] w (SpellPost 1 t 0 true w):=by
 have HS:=hid (show spellT 1 t.data.toList 0 true=none by simp [spellT]);unfold tokV tokCells
 go_enter Tryz.func97,Tryz.ntmps97
 go_wp2_with fail
 all_goals (refine bodyPost_ret (results_list (rs:=[.tmp 2,.tmp 3]) rfl (by simp) (.tmp (.tmp .nil))) rfl ?_)
 all_goals exact spell_none (alloc_below _ _) HS.out
theorem spell1_n (o l c:Int) (t:ByteArray) (w:World):Calls Tryz.prog 97 #[tokV 1 o l c t 0 false] w (SpellPost 1 t 0 false w):=by
 unfold tokV tokCells;cases hn:nameB t.data.toList with
 | true =>
  have HS:=hid (show spellT 1 t.data.toList 0 false=some t.data.toList by simp [spellT,hn]);have hc:=fun wx=>name_calls t wx;rw [hn] at hc;clear hn
  go_enter Tryz.func97,Tryz.ntmps97
  go_wp2_with (first | (go_at_call 126;refine (hc _).mono ?_;rintro e w' ⟨rfl,hB⟩;have hx:w'.cell? ⟨w.heap.size,4,none⟩=some (.string t):=cell_new hB rfl;have HB:=hid hB;clear hB))
  all_goals (refine bodyPost_ret (results_list (rs:=[.tmp 2,.tmp 3]) rfl (by simp) (.tmp (.tmp .nil))) rfl ?_)
  all_goals exact spell_some ((alloc_below _ _).trans (HB.out.mono (by simp))) HS.out rfl
 | false =>
  have HS:=hid (show spellT 1 t.data.toList 0 false=none by simp [spellT,hn]);have hc:=fun wx=>name_calls t wx;rw [hn] at hc;clear hn
  go_enter Tryz.func97,Tryz.ntmps97
  go_wp2_with (first | (go_at_call 126;refine (hc _).mono ?_;rintro e w' ⟨rfl,hB⟩;have HB:=hid hB;clear hB))
  all_goals (refine bodyPost_ret (results_list (rs:=[.tmp 2,.tmp 3]) rfl (by simp) (.tmp (.tmp .nil))) rfl ?_)
  all_goals exact spell_none ((alloc_below _ _).trans (HB.out.mono (by simp))) HS.out
theorem spell3_v (o l c:Int) (t:ByteArray) (v:Nat) (h:Bool) (w:World) (hv:v≠0):Calls Tryz.prog 97 #[tokV 3 o l c t v h] w (SpellPost 3 t v h w):=by
 have d:=v_ne v hv;have hs:spellT 3 t.data.toList v h=none:=by simp [spellT,hv]
 have HS:=hid hs;clear hs hv;unfold tokV tokCells
 go_enter Tryz.func97,Tryz.ntmps97
 go_wp2_with fail
 all_goals (refine bodyPost_ret (results_list (rs:=[.tmp 2,.tmp 3]) rfl (by simp) (.tmp (.tmp .nil))) rfl ?_)
 all_goals exact spell_none (alloc_below _ _) HS.out
theorem spell3_h (o l c:Int) (t:ByteArray) (w:World):Calls Tryz.prog 97 #[tokV 3 o l c t 0 true] w (SpellPost 3 t 0 true w):=by
 have HS:=hid (show spellT 3 t.data.toList 0 true=none by simp [spellT]);unfold tokV tokCells
 go_enter Tryz.func97,Tryz.ntmps97
 go_wp2_with fail
 all_goals (refine bodyPost_ret (results_list (rs:=[.tmp 2,.tmp 3]) rfl (by simp) (.tmp (.tmp .nil))) rfl ?_)
 all_goals exact spell_none (alloc_below _ _) HS.out
theorem spell2_t (o l c:Int) (t:ByteArray) (v:Nat) (h:Bool) (w:World) (ht:t.data.toList≠[]):Calls Tryz.prog 97 #[tokV 2 o l c t v h] w (SpellPost 2 t v h w):=by
 have HS:=hid (show spellT 2 t.data.toList v h=none by simp [spellT,ht]);have ht':=list_ne t ht;clear ht;unfold tokV tokCells
 go_enter Tryz.func97,Tryz.ntmps97
 go_wp2_with fail
 all_goals (refine bodyPost_ret (results_list (rs:=[.tmp 2,.tmp 3]) rfl (by simp) (.tmp (.tmp .nil))) rfl ?_)
 all_goals exact spell_none (alloc_below _ _) HS.out
theorem spell2_x (o l c:Int) (v:Nat) (w:World) (hv:v<4294967296) (hG:Glob w):Calls Tryz.prog 97 #[tokV 2 o l c ⟨#[]⟩ v true] w (SpellPost 2 ⟨#[]⟩ v true w):=by
 have HS:=hid (show spellT 2 (⟨#[]⟩:ByteArray).data.toList v true=some (hexL v) by simp [spellT]);have HG:=hid (hG.below (alloc_below w (.cells (tokCells 2 o l c ⟨#[]⟩ v true) 104)));clear hG;have hwr:=wrap_u64 v hv;have hxl:=hexF_len v;have hxl2:¬ 9223372036854775807<2 + (hexF 40 v []).length:=by omega
 unfold tokV tokCells
 go_enter Tryz.func97,Tryz.ntmps97
 go_wp2_with (first
  | (go_at_call 128;refine (fmt16_calls v _ hv HG.out).mono ?_;rintro e w' ⟨rfl,hB⟩;have HB:=hid hB;clear hB)
  | (go_at_call 127;refine (upper16_calls v _).mono ?_;rintro e w2 ⟨rfl,hB2⟩;have HB2:=hid hB2;clear hB2))
 all_goals (refine bodyPost_ret (results_list (rs:=[.tmp 2,.tmp 3]) rfl (by simp) (.tmp (.tmp .nil))) rfl ?_)
 exact spell_some ((alloc_below _ _).trans ((HB.out.mono (by simp)).trans (HB2.out.mono (by have:=HB.out.size;simp at this;omega)))) HS.out (hex_cat _)
theorem spell2_d (o l c:Int) (v:Nat) (w:World) (hv:v<4294967296) (hG:Glob w):Calls Tryz.prog 97 #[tokV 2 o l c ⟨#[]⟩ v false] w (SpellPost 2 ⟨#[]⟩ v false w):=by
 have HS:=hid (show spellT 2 (⟨#[]⟩:ByteArray).data.toList v false=some (decT v) by simp [spellT]);have HG:=hid (hG.below (alloc_below w (.cells (tokCells 2 o l c ⟨#[]⟩ v false) 104)));clear hG;have hwr:=wrap_u64 v hv;unfold tokV tokCells
 go_enter Tryz.func97,Tryz.ntmps97
 go_wp2_with (first
  | (go_at_call 128;refine (fmt10_calls v _ hv HG.out).mono ?_;rintro e w' ⟨rfl,hB⟩;have HB:=hid hB;clear hB))
 all_goals (refine bodyPost_ret (results_list (rs:=[.tmp 2,.tmp 3]) rfl (by simp) (.tmp (.tmp .nil))) rfl ?_)
 exact spell_some ((alloc_below _ _).trans (HB.out.mono (by simp))) HS.out (by rw [<- decT_eq v hv])
theorem plainS_eq (t:ByteArray):plainS t=t.data.toList.all plainB:=by
 unfold plainS
 congr 1
 funext c
 unfold plainC plainB;simp
theorem spell3_s (t:ByteArray):spellT 3 t.data.toList 0 false=if plainS t=true/\t.size<=255 then some (quoteT t.data.toList) else none:=by
 have hlen:t.data.toList.length=t.size:=by rw [Array.length_toList];rfl
 rw [plainS_eq];simp [spellT,stringB,hlen]
theorem spell3_l (o l c:Int) (t:ByteArray) (w:World) (ht:255<t.size):Calls Tryz.prog 97 #[tokV 3 o l c t 0 false] w (SpellPost 3 t 0 false w):=by
 have HS:=hid (show spellT 3 t.data.toList 0 false=none by rw [spell3_s,if_neg (by omega)]);have d:decide ((255:Int)<(t.size:Int))=true:=decide_eq_true (by omega);unfold tokV tokCells
 go_enter Tryz.func97,Tryz.ntmps97
 go_wp2_with fail
 all_goals (refine bodyPost_ret (results_list (rs:=[.tmp 2,.tmp 3]) rfl (by simp) (.tmp (.tmp .nil))) rfl ?_)
 all_goals exact spell_none (alloc_below _ _) HS.out
theorem spell3_p (o l c:Int) (t:ByteArray) (w:World) (ht:t.size<=255) (hp:plainS t=false):Calls Tryz.prog 97 #[tokV 3 o l c t 0 false] w (SpellPost 3 t 0 false w):=by
 have HS:=hid (show spellT 3 t.data.toList 0 false=none by rw [spell3_s,if_neg (by simp [hp])]);have d:decide ((255:Int)<(t.size:Int))=false:=decide_eq_false (by omega);have hc:=fun wx=>plain_calls t wx (by omega);unfold PlainPost at hc;rw [hp] at hc;clear hp;unfold tokV tokCells
 go_enter Tryz.func97,Tryz.ntmps97
 go_wp2_with (first
  | (go_at_call 129;refine (hc _).mono ?_;rintro e w' ⟨rfl,hB⟩;have HB:=hid hB;clear hB))
 all_goals (refine bodyPost_ret (results_list (rs:=[.tmp 2,.tmp 3]) rfl (by simp) (.tmp (.tmp .nil))) rfl ?_)
 all_goals exact spell_none ((alloc_below _ _).trans (HB.out.mono (by simp))) HS.out
theorem spell3_n (o l c:Int) (t:ByteArray) (w:World) (ht:t.size<=255) (hp:plainS t=true):Calls Tryz.prog 97 #[tokV 3 o l c t 0 false] w (SpellPost 3 t 0 false w):=by
 have HS:=hid (show spellT 3 t.data.toList 0 false=some (quoteT t.data.toList) by rw [spell3_s,if_pos ⟨hp,ht⟩]);have d:decide ((255:Int)<(t.size:Int))=false:=decide_eq_false (by omega)
 have hel:(escT t.data.toList).length<=1000:=by
  have h1:=escT_len t.data.toList;have h2:=cnt_le t.data.toList;have h3:t.data.toList.length=t.size:=by rw [Array.length_toList];rfl
  omega
 have hz1:¬ 9223372036854775807<1 + (escT t.data.toList).length:=by omega
 have hz2:¬ 9223372036854775807<1 + (escT t.data.toList).length + 1:=by omega
 have hz3:¬ 9223372036854775807<(escT t.data.toList).length + 1:=by omega
 have hz4:¬ 9223372036854775807<(escT t.data.toList).length + 1 + 1:=by omega
 have hc:=fun wx=>plain_calls t wx (by omega);unfold PlainPost at hc;rw [hp] at hc;clear hp;unfold tokV tokCells
 go_enter Tryz.func97,Tryz.ntmps97
 go_wp2_with (first
  | (go_at_call 129;refine (hc _).mono ?_;rintro e w' ⟨rfl,hB⟩;have hx:w'.cell? ⟨w.heap.size,4,none⟩=some (.string t):=cell_new hB rfl;have HB:=hid hB;clear hB))
 have S0:=hx
 go_region_held3 (fun W=>W.cell? ⟨w.heap.size,4,none⟩=some (.string t)) (first | exact hx | exact keep_alloc hx | exact hx2 | exact hx3 | assumption) (first
  | (go_at_call 130;refine (newrep_calls w'.heap.size 4 _ (old_new _ _) (by simp)).mono ?_;rintro e w2 ⟨b,g,cp,rfl,hB2,hb,hg0,hgb,hgl,hcp,hON,hrow⟩;have hx2:w2.cell? ⟨w.heap.size,4,none⟩=some (.string t):=keep_cell hB2 hx;have HN:=hid (And.intro hB2 (And.intro hb (And.intro hgl (And.intro hcp (And.intro hON (And.intro hrow hgb))))));clear hB2 hb hg0 hgl hcp hON hrow hgb)
  | (go_at_call 131;refine (rep_calls b g cp w'.heap.size t _ (by have:=HN.out.2.1;simp at this;omega) (by have:=HN.out.1.size;simp at this;omega) (by omega) HN.out.2.2.2.1 HN.out.2.2.2.2.2.1 HN.out.2.2.2.2.1 HN.out.2.2.1 HN.out.2.2.2.2.2.2).mono ?_;rintro e w3 ⟨rfl,hB3⟩;have hx3:w3.cell? ⟨w.heap.size,4,none⟩=some (.string t):=(hB3.cell (World.block_lt_of_cell? w' _ hx)).trans hx2;have HB3:=hid hB3;clear hB3))
 go_wp2_with fail
 (refine bodyPost_ret (results_list (rs:=[.tmp 2,.tmp 3]) rfl (by simp) (.tmp (.tmp .nil))) rfl ?_)
 have b1:w.heap.size<=w'.heap.size:=by have:=HB.out.size;simp at this;omega
 exact spell_some ((((alloc_below _ _).trans (HB.out.mono (by simp))).trans ((((alloc_below w' _).drew).trans (HN.out.1.mono (by simp))).mono b1)).trans (HB3.out.mono b1)) HS.out (quote_cat _)
theorem spell0_v (o l c:Int) (t:ByteArray) (v:Nat) (h:Bool) (w:World) (hv:v≠0):Calls Tryz.prog 97 #[tokV 0 o l c t v h] w (SpellPost 0 t v h w):=by
 have d:=v_ne v hv;have hs:spellT 0 t.data.toList v h=none:=by simp [spellT,hv]
 have HS:=hid hs;clear hs hv;unfold tokV tokCells
 go_enter Tryz.func97,Tryz.ntmps97
 go_wp2_with fail
 all_goals (refine bodyPost_ret (results_list (rs:=[.tmp 2,.tmp 3]) rfl (by simp) (.tmp (.tmp .nil))) rfl ?_)
 all_goals exact spell_none (alloc_below _ _) HS.out
theorem spell0_h (o l c:Int) (t:ByteArray) (w:World):Calls Tryz.prog 97 #[tokV 0 o l c t 0 true] w (SpellPost 0 t 0 true w):=by
 have HS:=hid (show spellT 0 t.data.toList 0 true=none by simp [spellT]);unfold tokV tokCells
 go_enter Tryz.func97,Tryz.ntmps97
 go_wp2_with fail
 all_goals (refine bodyPost_ret (results_list (rs:=[.tmp 2,.tmp 3]) rfl (by simp) (.tmp (.tmp .nil))) rfl ?_)
 all_goals exact spell_none (alloc_below _ _) HS.out
theorem spell0_t (o l c:Int) (t:ByteArray) (w:World) (ht:t.data.toList≠[]):Calls Tryz.prog 97 #[tokV 0 o l c t 0 false] w (SpellPost 0 t 0 false w):=by
 have HS:=hid (show spellT 0 t.data.toList 0 false=none by simp [spellT,ht]);have ht':=list_ne t ht;clear ht;unfold tokV tokCells
 go_enter Tryz.func97,Tryz.ntmps97
 go_wp2_with fail
 all_goals (refine bodyPost_ret (results_list (rs:=[.tmp 2,.tmp 3]) rfl (by simp) (.tmp (.tmp .nil))) rfl ?_)
 all_goals exact spell_none (alloc_below _ _) HS.out
theorem spell0_n (o l c:Int) (w:World):Calls Tryz.prog 97 #[tokV 0 o l c ⟨#[]⟩ 0 false] w (SpellPost 0 ⟨#[]⟩ 0 false w):=by
 have HS:=hid (show spellT 0 (⟨#[]⟩:ByteArray).data.toList 0 false=some [] by simp [spellT]);unfold tokV tokCells
 go_enter Tryz.func97,Tryz.ntmps97
 go_wp2_with fail
 all_goals (refine bodyPost_ret (results_list (rs:=[.tmp 2,.tmp 3]) rfl (by simp) (.tmp (.tmp .nil))) rfl ?_)
 all_goals exact spell_some (alloc_below _ _) HS.out rfl
theorem kinds (k:Int) (h0:k≠0) (h1:k≠1) (h2:k≠2) (h3:k≠3):(k == 0)=false/\(k == 1)=false/\(k == 2)=false/\(k == 3)=false/\(k != 1)=true/\(k != 2)=true/\(k != 3)=true:=by
 simp [h0,h1,h2,h3,bne]
theorem spellk_v (k o l c:Int) (t:ByteArray) (v:Nat) (h:Bool) (w:World) (h0:k≠0) (h1:k≠1) (h2:k≠2) (h3:k≠3) (hv:v≠0):Calls Tryz.prog 97 #[tokV k o l c t v h] w (SpellPost k t v h w):=by
 have HS:=hid (show spellT k t.data.toList v h=none by simp [spellT,h0,h1,h2,h3,hv]);have d:=v_ne v hv;obtain ⟨q0,q1,q2,q3,n1,n2,n3⟩:=kinds k h0 h1 h2 h3;clear hv h0 h1 h2 h3;unfold tokV tokCells
 go_enter Tryz.func97,Tryz.ntmps97
 go_wp2_with fail
 all_goals (refine bodyPost_ret (results_list (rs:=[.tmp 2,.tmp 3]) rfl (by simp) (.tmp (.tmp .nil))) rfl ?_)
 all_goals exact spell_none (alloc_below _ _) HS.out
theorem spellk_h (k o l c:Int) (t:ByteArray) (w:World) (h0:k≠0) (h1:k≠1) (h2:k≠2) (h3:k≠3) :Calls Tryz.prog 97 #[tokV k o l c t 0 true] w (SpellPost k t 0 true w):=by
 have HS:=hid (show spellT k t.data.toList 0 true=none by simp [spellT,h0,h1,h2,h3]);obtain ⟨q0,q1,q2,q3,n1,n2,n3⟩:=kinds k h0 h1 h2 h3
 skip
 unfold tokV tokCells
 go_enter Tryz.func97,Tryz.ntmps97
 go_wp2_with fail
 all_goals (refine bodyPost_ret (results_list (rs:=[.tmp 2,.tmp 3]) rfl (by simp) (.tmp (.tmp .nil))) rfl ?_)
 all_goals exact spell_none (alloc_below _ _) HS.out
theorem spellk_t (k o l c:Int) (t:ByteArray) (w:World) (h0:k≠0) (h1:k≠1) (h2:k≠2) (h3:k≠3) (ht:t.data.toList≠[]):Calls Tryz.prog 97 #[tokV k o l c t 0 false] w (SpellPost k t 0 false w):=by
 have HS:=hid (show spellT k t.data.toList 0 false=none by simp [spellT,h0,h1,h2,h3,ht]);obtain ⟨q0,q1,q2,q3,n1,n2,n3⟩:=kinds k h0 h1 h2 h3;have ht':=list_ne t ht;clear ht;unfold tokV tokCells
 go_enter Tryz.func97,Tryz.ntmps97
 go_wp2_with fail
 all_goals (refine bodyPost_ret (results_list (rs:=[.tmp 2,.tmp 3]) rfl (by simp) (.tmp (.tmp .nil))) rfl ?_)
 all_goals exact spell_none (alloc_below _ _) HS.out
structure MI (k:Int) (w wr:World):Prop where
 cell:wr.cell? ⟨w.heap.size,0,none⟩=some (.int .i64 k)
 lt:w.heap.size<wr.heap.size
 bel:Below w.heap.size w wr
theorem MI.below {k:Int} {w wr w':World} (h:MI k w wr) (hB:Below wr.heap.size wr w'):MI k w w' :=
 ⟨(hB.cell h.lt).trans h.cell,Nat.lt_of_lt_of_le h.lt hB.size,h.bel.trans (hB.mono (by have:=h.lt;omega))⟩
theorem MI.alloc_eq {k:Int} {w wr w':World} {ob:Obj} (h:MI k w wr) (hw:w'=wr.alloc ob):MI k w w':=h.below (by rw [hw];exact alloc_below _ _)
theorem two_all (a b:Int):(#[Value.int .u8 a,Value.int .i64 b]).all (·.oneCell')=true:=by simp [Value.oneCell']
theorem MI.put {k:Int} {w w1 a b:World} (h:MI k w a) (hl:w.heap.size<w1.heap.size) (hB:Below w1.heap.size a b):MI k w b :=
 ⟨(hB.cell hl).trans h.cell,Nat.lt_of_lt_of_le h.lt hB.size,h.bel.trans (hB.mono (by omega))⟩
theorem marks_spell (k:Int) (h0:k≠0) (h1:k≠1) (h2:k≠2) (h3:k≠3):spellT k (⟨#[]⟩:ByteArray).data.toList 0 false=if 4<=k/\k<=8 then some [markC k.toNat] else none:=by
 simp [spellT,h0,h1,h2,h3]
theorem idx_mark0 (w:World):(Instr.index 218 (.agg #[.int .u8 123,.int .i64 4,.int .u8 125,.int .i64 5,.int .u8 61,.int .i64 6,.int .u8 59,.int .i64 7,.int .u8 58,.int .i64 8]) (.int .i64 0)).run Tryz.prog w=.ok (.agg #[.int .u8 123,.int .i64 4]) w:=by kernel_rfl
theorem idx_mark1 (w:World):(Instr.index 218 (.agg #[.int .u8 123,.int .i64 4,.int .u8 125,.int .i64 5,.int .u8 61,.int .i64 6,.int .u8 59,.int .i64 7,.int .u8 58,.int .i64 8]) (.int .i64 1)).run Tryz.prog w=.ok (.agg #[.int .u8 125,.int .i64 5]) w:=by kernel_rfl
theorem idx_mark2 (w:World):(Instr.index 218 (.agg #[.int .u8 123,.int .i64 4,.int .u8 125,.int .i64 5,.int .u8 61,.int .i64 6,.int .u8 59,.int .i64 7,.int .u8 58,.int .i64 8]) (.int .i64 2)).run Tryz.prog w=.ok (.agg #[.int .u8 61,.int .i64 6]) w:=by kernel_rfl
theorem idx_mark3 (w:World):(Instr.index 218 (.agg #[.int .u8 123,.int .i64 4,.int .u8 125,.int .i64 5,.int .u8 61,.int .i64 6,.int .u8 59,.int .i64 7,.int .u8 58,.int .i64 8]) (.int .i64 3)).run Tryz.prog w=.ok (.agg #[.int .u8 59,.int .i64 7]) w:=by kernel_rfl
theorem idx_mark4 (w:World):(Instr.index 218 (.agg #[.int .u8 123,.int .i64 4,.int .u8 125,.int .i64 5,.int .u8 61,.int .i64 6,.int .u8 59,.int .i64 7,.int .u8 58,.int .i64 8]) (.int .i64 4)).run Tryz.prog w=.ok (.agg #[.int .u8 58,.int .i64 8]) w:=by kernel_rfl
theorem spellk_n (k o l c:Int) (w:World) (h0:k≠0) (h1:k≠1) (h2:k≠2) (h3:k≠3):Calls Tryz.prog 97 #[tokV k o l c ⟨#[]⟩ 0 false] w (SpellPost k ⟨#[]⟩ 0 false w):=by
 have HS:=hid (marks_spell k h0 h1 h2 h3);obtain ⟨q0,q1,q2,q3,n1,n2,n3⟩:=kinds k h0 h1 h2 h3;unfold tokV tokCells
 go_enter Tryz.func97,Tryz.ntmps97
 go_wp2_with (first
  | (go_at_call 132;refine (marks_calls _).mono ?_;rintro e w1 ⟨rfl,hB1⟩;have I0:Hid (MI k w w1):=hid ⟨cell_new hB1 rfl,(by have:=hB1.size;simp at this;omega),(alloc_below _ _).trans (hB1.mono (by simp))⟩;clear hB1))
 clear q0 q1 q2 q3 n1 n2 n3;unfold marksV
 refine wp_loop_rounds 6 ?_
 rw [rounds_succ];have x0:=idx_mark0
 by_cases k0:k=4
 ·have HK:=hid k0
  subst k0
  go_wp2_with (first
   | (refine run_event rfl (.alloc 217) rfl (.pointer (some ⟨w1.heap.size,0,none⟩)) (w1.alloc (.cells #[.int .u8 0,.int .i64 0] 217)) (by kernel_rfl) ?_;intro a0 ha0;have A0:=hid (I0.out.alloc_eq ha0);have G0:Hid (a0.heap[w1.heap.size]?=some (.cells #[.int .u8 0,.int .i64 0] 217 (0,0))):=hid (by rw [ha0];exact heap_alloc_new _ _);clear ha0)
   | ((with_reducible refine gate_store (t:=217) (p:=5) rfl ?_);(refine put_event rfl 217 _ _ rfl w1.heap.size #[.int .u8 123,.int .i64 4] rfl rfl 217 #[.int .u8 0,.int .i64 0] G0.out (by kernel_rfl) rfl (two_all _ _) w1.heap.size (Nat.le_refl _) ?_;intro b0 hb0 hB0 hs0 ho0;have I1:Hid (MI 4 w b0):=hid (MI.put A0.out I0.out.lt hB0);have c0:b0.cell? ⟨w1.heap.size,1,none⟩=some (.int .i64 4):=(cell_row hb0 1).trans rfl;have d0:b0.cell? ⟨w1.heap.size,0,none⟩=some (.int .u8 123):=(cell_row hb0 0).trans rfl;have e0:b0.cell? ⟨w.heap.size,0,none⟩=some (.int .i64 4):=I1.out.cell;clear hb0 hB0 hs0 ho0))
   | (refine run_event rfl (.buildSlice 95 1 _) rfl (.slice (some ⟨b0.heap.size,0,none⟩) 1 1) (b0.alloc (.cells #[.int .u8 123] 5)) (by kernel_rfl) ?_;intro s0 hs0;have hv0:=one_byte hs0;have S0:=hid (I1.out.alloc_eq hs0);clear hs0))
  (refine bodyPost_ret (results_list (rs:=[.tmp 2,.tmp 3]) rfl (by simp) (.tmp (.tmp .nil))) rfl ?_)
  exact spell_some S0.out.bel (HS.out.trans (if_pos (by omega))) rfl
 ·have p0:((4:Int) == k)=false:=beq_eq_false_iff_ne.2 (fun e=>k0 e.symm)
  go_wp2_with (first
   | (refine run_event rfl (.alloc 217) rfl (.pointer (some ⟨w1.heap.size,0,none⟩)) (w1.alloc (.cells #[.int .u8 0,.int .i64 0] 217)) (by kernel_rfl) ?_;intro a0 ha0;have A0:=hid (I0.out.alloc_eq ha0);have G0:Hid (a0.heap[w1.heap.size]?=some (.cells #[.int .u8 0,.int .i64 0] 217 (0,0))):=hid (by rw [ha0];exact heap_alloc_new _ _);clear ha0)
   | ((with_reducible refine gate_store (t:=217) (p:=5) rfl ?_);(refine put_event rfl 217 _ _ rfl w1.heap.size #[.int .u8 123,.int .i64 4] rfl rfl 217 #[.int .u8 0,.int .i64 0] G0.out (by kernel_rfl) rfl (two_all _ _) w1.heap.size (Nat.le_refl _) ?_;intro b0 hb0 hB0 hs0 ho0;have I1:Hid (MI k w b0):=hid (MI.put A0.out I0.out.lt hB0);have c0:b0.cell? ⟨w1.heap.size,1,none⟩=some (.int .i64 4):=(cell_row hb0 1).trans rfl;have d0:b0.cell? ⟨w1.heap.size,0,none⟩=some (.int .u8 123):=(cell_row hb0 0).trans rfl;have e0:b0.cell? ⟨w.heap.size,0,none⟩=some (.int .i64 k):=I1.out.cell;clear hb0 hB0 hs0 ho0)))
  rw [rounds_succ];have x1:=idx_mark1
  by_cases k1:k=5
  ·have HK:=hid k1
   subst k1
   go_wp2_with (first
    | (refine run_event rfl (.alloc 217) rfl (.pointer (some ⟨b0.heap.size,0,none⟩)) (b0.alloc (.cells #[.int .u8 0,.int .i64 0] 217)) (by kernel_rfl) ?_;intro a1 ha1;have A1:=hid (I1.out.alloc_eq ha1);have G1:Hid (a1.heap[b0.heap.size]?=some (.cells #[.int .u8 0,.int .i64 0] 217 (0,0))):=hid (by rw [ha1];exact heap_alloc_new _ _);clear ha1)
    | ((with_reducible refine gate_store (t:=217) (p:=5) rfl ?_);(refine put_event rfl 217 _ _ rfl b0.heap.size #[.int .u8 125,.int .i64 5] rfl rfl 217 #[.int .u8 0,.int .i64 0] G1.out (by kernel_rfl) rfl (two_all _ _) b0.heap.size (Nat.le_refl _) ?_;intro b1 hb1 hB1 hs1 ho1;have I2:Hid (MI 5 w b1):=hid (MI.put A1.out I1.out.lt hB1);have c1:b1.cell? ⟨b0.heap.size,1,none⟩=some (.int .i64 5):=(cell_row hb1 1).trans rfl;have d1:b1.cell? ⟨b0.heap.size,0,none⟩=some (.int .u8 125):=(cell_row hb1 0).trans rfl;have e1:b1.cell? ⟨w.heap.size,0,none⟩=some (.int .i64 5):=I2.out.cell;clear hb1 hB1 hs1 ho1))
    | (refine run_event rfl (.buildSlice 95 1 _) rfl (.slice (some ⟨b1.heap.size,0,none⟩) 1 1) (b1.alloc (.cells #[.int .u8 125] 5)) (by kernel_rfl) ?_;intro s1 hs1;have hv1:=one_byte hs1;have S1:=hid (I2.out.alloc_eq hs1);clear hs1))
   (refine bodyPost_ret (results_list (rs:=[.tmp 2,.tmp 3]) rfl (by simp) (.tmp (.tmp .nil))) rfl ?_)
   exact spell_some S1.out.bel (HS.out.trans (if_pos (by omega))) rfl
  ·have p1:((5:Int) == k)=false:=beq_eq_false_iff_ne.2 (fun e=>k1 e.symm)
   go_wp2_with (first
    | (refine run_event rfl (.alloc 217) rfl (.pointer (some ⟨b0.heap.size,0,none⟩)) (b0.alloc (.cells #[.int .u8 0,.int .i64 0] 217)) (by kernel_rfl) ?_;intro a1 ha1;have A1:=hid (I1.out.alloc_eq ha1);have G1:Hid (a1.heap[b0.heap.size]?=some (.cells #[.int .u8 0,.int .i64 0] 217 (0,0))):=hid (by rw [ha1];exact heap_alloc_new _ _);clear ha1)
    | ((with_reducible refine gate_store (t:=217) (p:=5) rfl ?_);(refine put_event rfl 217 _ _ rfl b0.heap.size #[.int .u8 125,.int .i64 5] rfl rfl 217 #[.int .u8 0,.int .i64 0] G1.out (by kernel_rfl) rfl (two_all _ _) b0.heap.size (Nat.le_refl _) ?_;intro b1 hb1 hB1 hs1 ho1;have I2:Hid (MI k w b1):=hid (MI.put A1.out I1.out.lt hB1);have c1:b1.cell? ⟨b0.heap.size,1,none⟩=some (.int .i64 5):=(cell_row hb1 1).trans rfl;have d1:b1.cell? ⟨b0.heap.size,0,none⟩=some (.int .u8 125):=(cell_row hb1 0).trans rfl;have e1:b1.cell? ⟨w.heap.size,0,none⟩=some (.int .i64 k):=I2.out.cell;clear hb1 hB1 hs1 ho1)))
   rw [rounds_succ];have x2:=idx_mark2
   by_cases k2:k=6
   ·have HK:=hid k2
    subst k2
    go_wp2_with (first
     | (refine run_event rfl (.alloc 217) rfl (.pointer (some ⟨b1.heap.size,0,none⟩)) (b1.alloc (.cells #[.int .u8 0,.int .i64 0] 217)) (by kernel_rfl) ?_;intro a2 ha2;have A2:=hid (I2.out.alloc_eq ha2);have G2:Hid (a2.heap[b1.heap.size]?=some (.cells #[.int .u8 0,.int .i64 0] 217 (0,0))):=hid (by rw [ha2];exact heap_alloc_new _ _);clear ha2)
     | ((with_reducible refine gate_store (t:=217) (p:=5) rfl ?_);(refine put_event rfl 217 _ _ rfl b1.heap.size #[.int .u8 61,.int .i64 6] rfl rfl 217 #[.int .u8 0,.int .i64 0] G2.out (by kernel_rfl) rfl (two_all _ _) b1.heap.size (Nat.le_refl _) ?_;intro b2 hb2 hB2 hs2 ho2;have I3:Hid (MI 6 w b2):=hid (MI.put A2.out I2.out.lt hB2);have c2:b2.cell? ⟨b1.heap.size,1,none⟩=some (.int .i64 6):=(cell_row hb2 1).trans rfl;have d2:b2.cell? ⟨b1.heap.size,0,none⟩=some (.int .u8 61):=(cell_row hb2 0).trans rfl;have e2:b2.cell? ⟨w.heap.size,0,none⟩=some (.int .i64 6):=I3.out.cell;clear hb2 hB2 hs2 ho2))
     | (refine run_event rfl (.buildSlice 95 1 _) rfl (.slice (some ⟨b2.heap.size,0,none⟩) 1 1) (b2.alloc (.cells #[.int .u8 61] 5)) (by kernel_rfl) ?_;intro s2 hs2;have hv2:=one_byte hs2;have S2:=hid (I3.out.alloc_eq hs2);clear hs2))
    (refine bodyPost_ret (results_list (rs:=[.tmp 2,.tmp 3]) rfl (by simp) (.tmp (.tmp .nil))) rfl ?_)
    exact spell_some S2.out.bel (HS.out.trans (if_pos (by omega))) rfl
   ·have p2:((6:Int) == k)=false:=beq_eq_false_iff_ne.2 (fun e=>k2 e.symm)
    go_wp2_with (first
     | (refine run_event rfl (.alloc 217) rfl (.pointer (some ⟨b1.heap.size,0,none⟩)) (b1.alloc (.cells #[.int .u8 0,.int .i64 0] 217)) (by kernel_rfl) ?_;intro a2 ha2;have A2:=hid (I2.out.alloc_eq ha2);have G2:Hid (a2.heap[b1.heap.size]?=some (.cells #[.int .u8 0,.int .i64 0] 217 (0,0))):=hid (by rw [ha2];exact heap_alloc_new _ _);clear ha2)
     | ((with_reducible refine gate_store (t:=217) (p:=5) rfl ?_);(refine put_event rfl 217 _ _ rfl b1.heap.size #[.int .u8 61,.int .i64 6] rfl rfl 217 #[.int .u8 0,.int .i64 0] G2.out (by kernel_rfl) rfl (two_all _ _) b1.heap.size (Nat.le_refl _) ?_;intro b2 hb2 hB2 hs2 ho2;have I3:Hid (MI k w b2):=hid (MI.put A2.out I2.out.lt hB2);have c2:b2.cell? ⟨b1.heap.size,1,none⟩=some (.int .i64 6):=(cell_row hb2 1).trans rfl;have d2:b2.cell? ⟨b1.heap.size,0,none⟩=some (.int .u8 61):=(cell_row hb2 0).trans rfl;have e2:b2.cell? ⟨w.heap.size,0,none⟩=some (.int .i64 k):=I3.out.cell;clear hb2 hB2 hs2 ho2)))
    rw [rounds_succ];have x3:=idx_mark3
    by_cases k3:k=7
    ·have HK:=hid k3
     subst k3
     go_wp2_with (first
      | (refine run_event rfl (.alloc 217) rfl (.pointer (some ⟨b2.heap.size,0,none⟩)) (b2.alloc (.cells #[.int .u8 0,.int .i64 0] 217)) (by kernel_rfl) ?_;intro a3 ha3;have A3:=hid (I3.out.alloc_eq ha3);have G3:Hid (a3.heap[b2.heap.size]?=some (.cells #[.int .u8 0,.int .i64 0] 217 (0,0))):=hid (by rw [ha3];exact heap_alloc_new _ _);clear ha3)
      | ((with_reducible refine gate_store (t:=217) (p:=5) rfl ?_);(refine put_event rfl 217 _ _ rfl b2.heap.size #[.int .u8 59,.int .i64 7] rfl rfl 217 #[.int .u8 0,.int .i64 0] G3.out (by kernel_rfl) rfl (two_all _ _) b2.heap.size (Nat.le_refl _) ?_;intro b3 hb3 hB3 hs3 ho3;have I4:Hid (MI 7 w b3):=hid (MI.put A3.out I3.out.lt hB3);have c3:b3.cell? ⟨b2.heap.size,1,none⟩=some (.int .i64 7):=(cell_row hb3 1).trans rfl;have d3:b3.cell? ⟨b2.heap.size,0,none⟩=some (.int .u8 59):=(cell_row hb3 0).trans rfl;have e3:b3.cell? ⟨w.heap.size,0,none⟩=some (.int .i64 7):=I4.out.cell;clear hb3 hB3 hs3 ho3))
      | (refine run_event rfl (.buildSlice 95 1 _) rfl (.slice (some ⟨b3.heap.size,0,none⟩) 1 1) (b3.alloc (.cells #[.int .u8 59] 5)) (by kernel_rfl) ?_;intro s3 hs3;have hv3:=one_byte hs3;have S3:=hid (I4.out.alloc_eq hs3);clear hs3))
     (refine bodyPost_ret (results_list (rs:=[.tmp 2,.tmp 3]) rfl (by simp) (.tmp (.tmp .nil))) rfl ?_)
     exact spell_some S3.out.bel (HS.out.trans (if_pos (by omega))) rfl
    ·have p3:((7:Int) == k)=false:=beq_eq_false_iff_ne.2 (fun e=>k3 e.symm)
     go_wp2_with (first
      | (refine run_event rfl (.alloc 217) rfl (.pointer (some ⟨b2.heap.size,0,none⟩)) (b2.alloc (.cells #[.int .u8 0,.int .i64 0] 217)) (by kernel_rfl) ?_;intro a3 ha3;have A3:=hid (I3.out.alloc_eq ha3);have G3:Hid (a3.heap[b2.heap.size]?=some (.cells #[.int .u8 0,.int .i64 0] 217 (0,0))):=hid (by rw [ha3];exact heap_alloc_new _ _);clear ha3)
      | ((with_reducible refine gate_store (t:=217) (p:=5) rfl ?_);(refine put_event rfl 217 _ _ rfl b2.heap.size #[.int .u8 59,.int .i64 7] rfl rfl 217 #[.int .u8 0,.int .i64 0] G3.out (by kernel_rfl) rfl (two_all _ _) b2.heap.size (Nat.le_refl _) ?_;intro b3 hb3 hB3 hs3 ho3;have I4:Hid (MI k w b3):=hid (MI.put A3.out I3.out.lt hB3);have c3:b3.cell? ⟨b2.heap.size,1,none⟩=some (.int .i64 7):=(cell_row hb3 1).trans rfl;have d3:b3.cell? ⟨b2.heap.size,0,none⟩=some (.int .u8 59):=(cell_row hb3 0).trans rfl;have e3:b3.cell? ⟨w.heap.size,0,none⟩=some (.int .i64 k):=I4.out.cell;clear hb3 hB3 hs3 ho3)))
     rw [rounds_succ];have x4:=idx_mark4
     by_cases k4:k=8
     ·have HK:=hid k4
      subst k4
      go_wp2_with (first
       | (refine run_event rfl (.alloc 217) rfl (.pointer (some ⟨b3.heap.size,0,none⟩)) (b3.alloc (.cells #[.int .u8 0,.int .i64 0] 217)) (by kernel_rfl) ?_;intro a4 ha4;have A4:=hid (I4.out.alloc_eq ha4);have G4:Hid (a4.heap[b3.heap.size]?=some (.cells #[.int .u8 0,.int .i64 0] 217 (0,0))):=hid (by rw [ha4];exact heap_alloc_new _ _);clear ha4)
       | ((with_reducible refine gate_store (t:=217) (p:=5) rfl ?_);(refine put_event rfl 217 _ _ rfl b3.heap.size #[.int .u8 58,.int .i64 8] rfl rfl 217 #[.int .u8 0,.int .i64 0] G4.out (by kernel_rfl) rfl (two_all _ _) b3.heap.size (Nat.le_refl _) ?_;intro b4 hb4 hB4 hs4 ho4;have I5:Hid (MI 8 w b4):=hid (MI.put A4.out I4.out.lt hB4);have c4:b4.cell? ⟨b3.heap.size,1,none⟩=some (.int .i64 8):=(cell_row hb4 1).trans rfl;have d4:b4.cell? ⟨b3.heap.size,0,none⟩=some (.int .u8 58):=(cell_row hb4 0).trans rfl;have e4:b4.cell? ⟨w.heap.size,0,none⟩=some (.int .i64 8):=I5.out.cell;clear hb4 hB4 hs4 ho4))
       | (refine run_event rfl (.buildSlice 95 1 _) rfl (.slice (some ⟨b4.heap.size,0,none⟩) 1 1) (b4.alloc (.cells #[.int .u8 58] 5)) (by kernel_rfl) ?_;intro s4 hs4;have hv4:=one_byte hs4;have S4:=hid (I5.out.alloc_eq hs4);clear hs4))
      (refine bodyPost_ret (results_list (rs:=[.tmp 2,.tmp 3]) rfl (by simp) (.tmp (.tmp .nil))) rfl ?_)
      exact spell_some S4.out.bel (HS.out.trans (if_pos (by omega))) rfl
     ·have p4:((8:Int) == k)=false:=beq_eq_false_iff_ne.2 (fun e=>k4 e.symm)
      go_wp2_with (first
       | (refine run_event rfl (.alloc 217) rfl (.pointer (some ⟨b3.heap.size,0,none⟩)) (b3.alloc (.cells #[.int .u8 0,.int .i64 0] 217)) (by kernel_rfl) ?_;intro a4 ha4;have A4:=hid (I4.out.alloc_eq ha4);have G4:Hid (a4.heap[b3.heap.size]?=some (.cells #[.int .u8 0,.int .i64 0] 217 (0,0))):=hid (by rw [ha4];exact heap_alloc_new _ _);clear ha4)
       | ((with_reducible refine gate_store (t:=217) (p:=5) rfl ?_);(refine put_event rfl 217 _ _ rfl b3.heap.size #[.int .u8 58,.int .i64 8] rfl rfl 217 #[.int .u8 0,.int .i64 0] G4.out (by kernel_rfl) rfl (two_all _ _) b3.heap.size (Nat.le_refl _) ?_;intro b4 hb4 hB4 hs4 ho4;have I5:Hid (MI k w b4):=hid (MI.put A4.out I4.out.lt hB4);have c4:b4.cell? ⟨b3.heap.size,1,none⟩=some (.int .i64 8):=(cell_row hb4 1).trans rfl;have d4:b4.cell? ⟨b3.heap.size,0,none⟩=some (.int .u8 58):=(cell_row hb4 0).trans rfl;have e4:b4.cell? ⟨w.heap.size,0,none⟩=some (.int .i64 k):=I5.out.cell;clear hb4 hB4 hs4 ho4)))
      rw [rounds_succ]
      go_wp2_with fail
      (refine bodyPost_ret (results_list (rs:=[.tmp 2,.tmp 3]) rfl (by simp) (.tmp (.tmp .nil))) rfl ?_)
      exact spell_none I5.out.bel (HS.out.trans (if_neg (by omega)))
theorem str_nil (t:ByteArray) (h:t.data.toList=[]):t=⟨#[]⟩:=by
 cases t with
 | mk d=>congr 1;exact Array.toList_inj.1 (by simpa using h)
theorem spell_calls (k o l c:Int) (t:ByteArray) (v:Nat) (h:Bool) (w:World) (hv:v<4294967296) (hG:Glob w) :
  Calls Tryz.prog 97 #[tokV k o l c t v h] w (SpellPost k t v h w):=by
 by_cases k2:k=2
 ·subst k2
  by_cases ht:t.data.toList=[]
  ·obtain rfl:=str_nil t ht
   cases h with
   | true=>exact spell2_x o l c v w hv hG
   | false=>exact spell2_d o l c v w hv hG
  ·exact spell2_t o l c t v h w ht
 by_cases v0:v=0
 ·subst v0
  cases h with
  | true =>
   by_cases k0:k=0
   ·subst k0;exact spell0_h o l c t w
   by_cases k1:k=1
   ·subst k1;exact spell1_h o l c t w
   by_cases k3:k=3
   ·subst k3;exact spell3_h o l c t w
   exact spellk_h k o l c t w k0 k1 k2 k3
  | false =>
   by_cases k1:k=1
   ·subst k1;exact spell1_n o l c t w
   by_cases k3:k=3
   ·subst k3
    by_cases hl:255<t.size
    ·exact spell3_l o l c t w hl
    ·cases hp:plainS t with
     | true=>exact spell3_n o l c t w (by omega) hp
     | false=>exact spell3_p o l c t w (by omega) hp
   by_cases ht:t.data.toList=[]
   ·obtain rfl:=str_nil t ht
    by_cases k0:k=0
    ·subst k0;exact spell0_n o l c w
    exact spellk_n k o l c w k0 k1 k2 k3
   ·by_cases k0:k=0
    ·subst k0;exact spell0_t o l c t w ht
    exact spellk_t k o l c t w k0 k1 k2 k3 ht
 ·by_cases k0:k=0
  ·subst k0;exact spell0_v o l c t v h w v0
  by_cases k1:k=1
  ·subst k1;exact spell1_v o l c t v h w v0
  by_cases k3:k=3
  ·subst k3;exact spell3_v o l c t v h w v0
  exact spellk_v k o l c t v h w k0 k1 k2 k3 v0
end Go.Proofs.YtmfejjlmflgnbaaGreatDoor.Tok
