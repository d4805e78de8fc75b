/- PLAIN LAWS: the reference's printed numerals and quotes. -/
import Derived.Test.YtmfejjlmflgnbaaGreatDoorVPure2
import Derived.Test.YtmfejjlmflgnbaaGreatDoorVPAy6
set_option linter.unusedVariables false
set_option linter.unusedSimpArgs false
namespace Go.Proofs.YtmfejjlmflgnbaaGreatDoor.Tok
open RowKit PA YtmfejjlmflgnbaaGreatDoorW.PrintWords YtmfejjlmflgnbaaGreatDoorW.PrintLast Sp
theorem rstring_l0 (t:ByteArray) (ht:t.size<9223372036854775807):∀ (d i:Nat),i + d=t.size->tappetref02_String.l0 (d + 1) t (i:Int)=some ((t.data.toList.drop i).all plainB&&decide (t.size<=255))
 | 0,i,h=>by
  have e:t.data.toList.drop i=[]:=List.drop_eq_nil_of_le (by rw [Array.length_toList];show t.size<=_;omega);rw [e,tappetref02_String.l0,if_neg (by omega)]
  congr 1
  simp only [List.all_nil,Bool.true_and];rw [Bool.eq_iff_iff,decide_eq_true_iff,decide_eq_true_iff];omega
 | d + 1,i,h=>by
  have hi:i<t.size:=by omega
  rw [at_drop t i hi,List.all_cons,tappetref02_String.l0,if_pos (by omega),if_pos (by omega),bt_nat t i hi,wrap_nat i (by omega),rstring_l0 t ht d (i + 1) (by omega)];unfold plainB
  by_cases h1:t[i].toNat<32
  ·rw [if_pos (by omega)]
   have:decide (32<=t[i].toNat)=false:=decide_eq_false (by omega);rw [this];simp
  ·rw [if_neg (by omega)]
   have e1:decide (32<=t[i].toNat)=true:=decide_eq_true (by omega)
   by_cases h2:t[i].toNat > 126
   ·rw [if_pos (by omega)]
    have:decide (t[i].toNat<=126)=false:=decide_eq_false (by omega);rw [this];simp
   ·rw [if_neg (by omega)]
    have e2:decide (t[i].toNat<=126)=true:=decide_eq_true (by omega);rw [e1,e2];simp
theorem rstring_spec (t:ByteArray) (ht:t.size<9223372036854775807):tappetref02_String.f (t.size + 1) t=some (stringB t.data.toList):=by
 have hlen:t.data.toList.length=t.size:=by rw [Array.length_toList];rfl
 have:=rstring_l0 t ht t.size 0 (by omega);rw [List.drop_zero] at this;unfold tappetref02_String.f stringB;rw [hlen];exact this
end Go.Proofs.YtmfejjlmflgnbaaGreatDoor.Tok
