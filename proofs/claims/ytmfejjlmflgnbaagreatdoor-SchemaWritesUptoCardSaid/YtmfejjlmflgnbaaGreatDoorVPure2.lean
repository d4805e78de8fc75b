/- PLAIN LAWS: the reference's printed helpers, in the plain spec's words: words, names, strings, numerals, quotes. -/
import Derived.Test.YtmfejjlmflgnbaaGreatDoorVSpl
import Derived.Test.YtmfejjlmflgnbaaGreatDoorVPAy4
set_option linter.unusedVariables false
set_option linter.unusedSimpArgs false
namespace Go.Proofs.YtmfejjlmflgnbaaGreatDoor.Tok
open RowKit PA YtmfejjlmflgnbaaGreatDoorW.PrintWords YtmfejjlmflgnbaaGreatDoorW.PrintLast Sp
theorem rfirst_spec (c:UInt8):tappetref02_first.f (c.toNat:Int)=some (letterB c):=by
 have h95:(c == 95)=decide (c.toNat=95):=by
  rw [Bool.eq_iff_iff,beq_iff_eq,decide_eq_true_iff];exact u8_eq c 95 (by omega)
 have h95':(((c.toNat:Nat):Int) == 95)=decide (c.toNat=95):=by
  rw [Bool.eq_iff_iff,beq_iff_eq,decide_eq_true_iff];omega
 unfold tappetref02_first.f letterB;rw [h95,h95']
 repeat' split
 all_goals (congr 1;rw [eq_comm];simp;try omega)
theorem rdigit_spec (c:UInt8):tappetref02_digit.f (c.toNat:Int)=some (digitB c):=digit_spec c
theorem rpart_spec (c:UInt8):tappetref02_part.f (c.toNat:Int)=some (partB c):=by
 unfold tappetref02_part.f partB;rw [rfirst_spec,Option.bind_some,rdigit_spec];cases letterB c <;> simp
theorem rword_spec (t:ByteArray) (ht:t.size<9223372036854775807):∀ (d i:Nat),i + d=t.size->tappetref02_word.l0 (d + 1) t (i:Int)=some ((i + wordLen (t.data.toList.drop i):Nat):Int)
 | 0,i,h=>by
  have e:t.data.toList.drop i=[]:=List.drop_eq_nil_of_le (by rw [Array.length_toList];show t.size<=_;omega);rw [e,tappetref02_word.l0,if_neg (by omega)]
  rfl
 | d + 1,i,h=>by
  have hi:i<t.size:=by omega
  rw [at_drop t i hi,wordLen_cons,tappetref02_word.l0,if_pos (by omega),if_pos (by omega),bt_nat t i hi,rpart_spec,wrap_nat i (by omega)];have ih:=rword_spec t ht d (i + 1) (by omega);simp only [Option.bind_some];cases partB t[i] with
  | true=>simp only [if_true,ih];congr 2;omega
  | false=>simp
theorem rname_spec (t:ByteArray):tappetref02_Name.f (t.size + 1) t=some (nameB t.data.toList):=by
 have hlen:t.data.toList.length=t.size:=by rw [Array.length_toList];rfl
 unfold tappetref02_Name.f nameB;rw [hlen]
 by_cases h0:t.size=0
 ·rw [if_neg (by omega),h0]
  rfl
 ·have hpos:0<t.size:=by omega
  rw [if_pos (by omega)]
  by_cases h63:t.size<=63
  ·rw [if_pos (by omega),if_pos (by omega)]
   have hb:=bt_nat t 0 hpos;simp only [Int.ofNat_zero] at hb;rw [show bt t 0=_ from hb,rfirst_spec];have hd:=at_drop t 0 hpos;rw [List.drop_zero] at hd;have hh:t.data.toList.headD 0=t[0]:=by rw [hd];rfl
   rw [hh];simp only [Option.bind_some];cases letterB t[0] with
   | false=>simp
   | true =>
    have hw:=rword_spec t (by omega) t.size 0 (by omega);rw [List.drop_zero] at hw;have ha:=wordLen_all t.data.toList;unfold tappetref02_word.f;rw [show tappetref02_word.l0 (t.size + 1) t 0=_ from hw];simp only [if_true,Option.bind_some]
    congr 1
    rw [hlen] at ha;rw [Bool.eq_iff_iff,beq_iff_eq];simp only [Bool.and_eq_true,decide_eq_true_eq,Bool.true_eq_false,and_true]
    constructor
    ·intro h1
     refine ⟨⟨?_,?_⟩,?_⟩ <;> first | omega | trivial | (refine ha.1 ?_;omega)
    ·rintro ⟨_,h1⟩
     have:=ha.2 h1;omega
  ·rw [if_neg (by omega)]
   simp;omega
end Go.Proofs.YtmfejjlmflgnbaaGreatDoor.Tok
