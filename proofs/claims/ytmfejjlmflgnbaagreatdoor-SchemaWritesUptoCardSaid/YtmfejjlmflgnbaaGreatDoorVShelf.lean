/-
  DERIVED: THE SHELF's CONTRACTS AT THIS DUMP,IN PLAIN WORDS (tools/lay-plain.mjs out of 'TryzShelf.lean',which tools/lay-shelf.mjs wrote): THE SAME DECLARATIONS UNDER THE SAME NAMES: 'import','namespace','open','def','theorem' AND NOTHING ELSE: no command of the shelf's: FOR A HAND-IN. Each laying: the table of numbers ('.._ren') and one theorem,a field a fact of the dump's own or the kernel's comparison;each contract: ONE APPLICATION.
-/
import Derived.Shelf.Strings.Builder1
import Derived.Shelf.Strings.Builder2
import Derived.Shelf.Strings.OnBuilder
import Derived.Shelf.Strings.BuilderF
import Derived.Shelf.Strings.BuilderK
import Derived.Shelf.Strings.BuilderRune
import Derived.Shelf.Strconv.Itoa0
import Derived.Shelf.Strconv.Itoa1
import Derived.Shelf.LaysM
import Derived.Shelf.Strconv.Itoa2
import Derived.Shelf.Strings.Count
import Derived.Shelf.Strings.Shaped
import Derived.Shelf.Strings.Prefix
import Derived.Shelf.Strings.Split
import Derived.Shelf.Bits.Mul64
import Derived.Shelf.Strings.Repeat
import Derived.Shelf.Strings.CaseAny
import Derived.Test.YtmfejjlmflgnbaaGreatDoorProg
namespace Go.Proofs
open Shelf
def Tryz.lays158_ren:Go.Shelf.Ren:=⟨fun | 158=>127 | 165=>125 | 166=>93 | 167=>96 | 169=>50 | 230=>150 | 203=>151 | 240=>122 | 241=>147 | 197=>157 | 118=>158 | 168=>159 | 270=>160 | 262=>161 | 276=>143 | 277=>155 | 260=>169 | 242=>170 | 313=>171 | 278=>183 | 274=>184 | 275=>185 | n=>n,fun | 9=>9 | 4=>4 | 3=>3 | 5=>5 | 72=>97 | 0=>0 | 76=>165 | 75=>84 | 107=>247 | 70=>94 | 20=>20 | 37=>95 | 127=>172 | 21=>21 | 105=>265 | 164=>186 | 162=>280 | 203=>278 | 119=>294 | 46=>207 | 139=>303 | 138=>302 | 51=>46 | 160=>304 | 208=>325 | 206=>323 | 80=>112 | n=>n,fun | 13=>9 | 3=>11 | 4=>12 | n=>n⟩
theorem Tryz.lays158:Go.Proofs.Lays.n158 Tryz.prog Tryz.lays158_ren:={
  mixed:=by kernel_rfl
  f118:=Tryz.func158.trans (congrArg some (by kernel_rfl))
  f158:=Tryz.func127.trans (congrArg some (by kernel_rfl))
  f165:=Tryz.func125.trans (congrArg some (by kernel_rfl))
  f166:=Tryz.func93.trans (congrArg some (by kernel_rfl))
  f167:=Tryz.func96.trans (congrArg some (by kernel_rfl))
  f168:=Tryz.func159.trans (congrArg some (by kernel_rfl))
  f169:=Tryz.func50.trans (congrArg some (by kernel_rfl))
  f197:=Tryz.func157.trans (congrArg some (by kernel_rfl))
  f203:=Tryz.func151.trans (congrArg some (by kernel_rfl))
  f230:=Tryz.func150.trans (congrArg some (by kernel_rfl))
  f240:=Tryz.func122.trans (congrArg some (by kernel_rfl))
  f241:=Tryz.func147.trans (congrArg some (by kernel_rfl))
  f242:=Tryz.func170.trans (congrArg some (by kernel_rfl))
  f260:=Tryz.func169.trans (congrArg some (by kernel_rfl))
  f262:=Tryz.func161.trans (congrArg some (by kernel_rfl))
  f270:=Tryz.func160.trans (congrArg some (by kernel_rfl))
  f274:=Tryz.func184.trans (congrArg some (by kernel_rfl))
  f275:=Tryz.func185.trans (congrArg some (by kernel_rfl))
  f276:=Tryz.func143.trans (congrArg some (by kernel_rfl))
  f277:=Tryz.func155.trans (congrArg some (by kernel_rfl))
  f278:=Tryz.func183.trans (congrArg some (by kernel_rfl))
  f313:=Tryz.func171.trans (congrArg some (by kernel_rfl))
  t0:=Tryz.underlying0
  a0:=Tryz.isAgg0
  z0:=Tryz.sizeOf0
  v0:=Tryz.zeroValue0
  t3:=Tryz.underlying3
  a3:=Tryz.isAgg3
  z3:=Tryz.sizeOf3
  v3:=Tryz.zeroValue3
  t4:=Tryz.underlying4
  a4:=Tryz.isAgg4
  z4:=Tryz.sizeOf4
  v4:=Tryz.zeroValue4
  t5:=Tryz.underlying5
  a5:=Tryz.isAgg5
  z5:=Tryz.sizeOf5
  v5:=Tryz.zeroValue5
  t9:=Tryz.underlying9
  a9:=Tryz.isAgg9
  z9:=Tryz.sizeOf9
  v9:=Tryz.zeroValue9
  t20:=Tryz.underlying20
  a20:=Tryz.isAgg20
  z20:=Tryz.sizeOf20
  v20:=Tryz.zeroValue20
  t21:=Tryz.underlying21
  a21:=Tryz.isAgg21
  z21:=Tryz.sizeOf21
  v21:=Tryz.zeroValue21
  t37:=Tryz.underlying95
  a37:=Tryz.isAgg95
  z37:=Tryz.sizeOf95
  v37:=Tryz.zeroValue95
  t46:=Tryz.underlying207
  a46:=Tryz.isAgg207
  z46:=Tryz.sizeOf207
  v46:=Tryz.zeroValue207
  t51:=Tryz.underlying46
  a51:=Tryz.isAgg46
  z51:=Tryz.sizeOf46
  v51:=Tryz.zeroValue46
  t70:=Tryz.underlying94
  a70:=Tryz.isAgg94
  z70:=Tryz.sizeOf94
  v70:=Tryz.zeroValue94
  t72:=Tryz.underlying97
  a72:=Tryz.isAgg97
  z72:=Tryz.sizeOf97
  v72:=Tryz.zeroValue97
  t75:=Tryz.underlying84
  a75:=Tryz.isAgg84
  z75:=Tryz.sizeOf84
  v75:=Tryz.zeroValue84
  t76:=Tryz.underlying165
  a76:=Tryz.isAgg165
  z76:=Tryz.sizeOf165
  v76:=Tryz.zeroValue165
  t105:=Tryz.underlying265
  a105:=Tryz.isAgg265
  z105:=Tryz.sizeOf265
  v105:=Tryz.zeroValue265
  t107:=Tryz.underlying247
  a107:=Tryz.isAgg247
  z107:=Tryz.sizeOf247
  v107:=Tryz.zeroValue247
  t119:=Tryz.underlying294
  a119:=Tryz.isAgg294
  z119:=Tryz.sizeOf294
  t127:=Tryz.underlying172
  a127:=Tryz.isAgg172
  z127:=Tryz.sizeOf172
  v127:=Tryz.zeroValue172
  t138:=Tryz.underlying302
  a138:=Tryz.isAgg302
  z138:=Tryz.sizeOf302
  v138:=Tryz.zeroValue302
  t139:=Tryz.underlying303
  a139:=Tryz.isAgg303
  z139:=Tryz.sizeOf303
  v139:=Tryz.zeroValue303
  t160:=Tryz.underlying304
  a160:=Tryz.isAgg304
  z160:=Tryz.sizeOf304
  v160:=Tryz.zeroValue304
  t162:=Tryz.underlying280
  a162:=Tryz.isAgg280
  z162:=Tryz.sizeOf280
  v162:=Tryz.zeroValue280
  t164:=Tryz.underlying186
  a164:=Tryz.isAgg186
  z164:=Tryz.sizeOf186
  v164:=Tryz.zeroValue186
  t203:=Tryz.underlying278
  a203:=Tryz.isAgg278
  z203:=Tryz.sizeOf278
  v203:=Tryz.zeroValue278
  t206:=Tryz.underlying323
  a206:=Tryz.isAgg323
  z206:=Tryz.sizeOf323
  v206:=Tryz.zeroValue323
  t208:=Tryz.underlying325
  a208:=Tryz.isAgg325
  z208:=Tryz.sizeOf325
  v208:=Tryz.zeroValue325
  g3:=by kernel_rfl
  g4:=by kernel_rfl
  g13:=by kernel_rfl }
theorem Tryz.Builder_Extra_158:Builder.Extra Tryz.prog Tryz.lays158_ren:={
  sizeBuilder:=by kernel_rfl
  liesBuilder:=by kernel_rfl
  t5:=Tryz.underlying5
  a5:=Tryz.isAgg5
  z5:=Tryz.sizeOf5
  v5:=Tryz.zeroValue5
  infoByte:=by kernel_rfl
  cellsByte:=by kernel_rfl
  sizeByte:=by kernel_rfl
  neB5:=by decide }
open Go.RowKit in
theorem Tryz.strings_ToUpper_ascii (s:ByteArray) (w:World) (hs:s.size<=140737488355328) (hascii:∀ (j:Nat) (b:UInt8),s.data.toList[j]?=some b->b.toNat<128) :
    Calls Tryz.prog 127 #[.string s] w fun e w'=>e=.returned (.string ⟨(Lib.toUpperA s.data.toList).toArray⟩)/\Below w.heap.size w w':=Any.strings_ToUpper_ascii Tryz.lays158 Tryz.Builder_Extra_158 s w hs hascii
def Tryz.lays283_ren:Go.Shelf.Ren:=⟨fun | 283=>162 | n=>n,fun | 3=>3 | 9=>9 | 4=>4 | n=>n,fun | n=>n⟩
theorem Tryz.lays283:Go.Proofs.Lays.n283 Tryz.prog Tryz.lays283_ren:={
  mixed:=by kernel_rfl
  f283:=Tryz.func162.trans (congrArg some (by kernel_rfl))
  t3:=Tryz.underlying3
  a3:=Tryz.isAgg3
  z3:=Tryz.sizeOf3
  v3:=Tryz.zeroValue3
  t4:=Tryz.underlying4
  a4:=Tryz.isAgg4
  z4:=Tryz.sizeOf4
  v4:=Tryz.zeroValue4
  t9:=Tryz.underlying9
  a9:=Tryz.isAgg9
  z9:=Tryz.sizeOf9
  v9:=Tryz.zeroValue9 }
open Go.Lib in
theorem Tryz.internal_strconv_small (i:Nat) (h:i<100) (w:World) :
    Calls Tryz.prog 162 #[.int .i64 i] w fun e w'=>e=.returned (.string ⟨(Lib.decDigits i).toArray⟩)/\w'=w:=Any.internal_strconv_small Tryz.lays283 i h w
def Tryz.laysM284_ren:Go.Shelf.Ren:=⟨fun | 284=>163 | 129=>173 | 317=>172 | 318=>174 | n=>n,fun | 53=>213 | 3=>3 | 212=>283 | 0=>0 | 4=>4 | 46=>207 | 5=>5 | 9=>9 | n=>n,fun | 17=>10 | n=>n⟩
theorem Tryz.laysM284:Go.Proofs.LaysM.n284 Tryz.prog Tryz.laysM284_ren:={
  mixed:=by kernel_rfl
  f129:=Tryz.func173.trans (congrArg some (by kernel_rfl))
  f284:=Tryz.func163.trans (congrArg some (by kernel_rfl))
  f317:=Tryz.func172.trans (congrArg some (by kernel_rfl))
  f318:=Tryz.func174.trans (congrArg some (by kernel_rfl))
  t0:=Tryz.underlying0
  a0:=Tryz.isAgg0
  z0:=Tryz.sizeOf0
  v0:=Tryz.zeroValue0
  t3:=Tryz.underlying3
  a3:=Tryz.isAgg3
  z3:=Tryz.sizeOf3
  v3:=Tryz.zeroValue3
  t4:=Tryz.underlying4
  a4:=Tryz.isAgg4
  z4:=Tryz.sizeOf4
  v4:=Tryz.zeroValue4
  t5:=Tryz.underlying5
  a5:=Tryz.isAgg5
  z5:=Tryz.sizeOf5
  v5:=Tryz.zeroValue5
  t9:=Tryz.underlying9
  a9:=Tryz.isAgg9
  z9:=Tryz.sizeOf9
  v9:=Tryz.zeroValue9
  t46:=Tryz.underlying207
  a46:=Tryz.isAgg207
  z46:=Tryz.sizeOf207
  v46:=Tryz.zeroValue207
  t53:=Tryz.underlying213
  a53:=Tryz.isAgg213
  z53:=Tryz.sizeOf213
  v53:=Tryz.zeroValue213
  t212:=Tryz.underlying283
  a212:=Tryz.isAgg283
  z212:=Tryz.sizeOf283
  v212:=Tryz.zeroValue283
  g17:=by kernel_rfl
  i0:=by kernel_rfl
  i3:=by kernel_rfl
  i4:=by kernel_rfl
  i5:=by kernel_rfl
  i9:=by kernel_rfl
  i46:=by kernel_rfl
  i53:=by kernel_rfl
  i212:=by kernel_rfl
  m17:=by kernel_rfl }
open Go.Lib in
theorem Tryz.internal_strconv_numDigits (u : Nat) (h1 : 1 ≤ u) (h2 : u < 18446744073709551616) (w : World) (htab : Lib.TabIs Tryz.prog w "internal/strconv.uint64pow10" .u64 Lib.pow10Tab) :
    Calls Tryz.prog 163 #[.int .u64 u] w fun e w'=>e=.returned (.int .i64 (Lib.nDigits u))/\w'=w:=Any.internal_strconv_numDigits Tryz.laysM284 u h1 h2 w htab
def Tryz.lays285_ren:Go.Shelf.Ren:=⟨fun | 285=>164 | n=>n,fun | 37=>95 | 53=>213 | 3=>3 | 4=>4 | 51=>46 | 9=>9 | 5=>5 | 0=>0 | n=>n,fun | n=>n⟩
theorem Tryz.lays285:Go.Proofs.Lays.n285 Tryz.prog Tryz.lays285_ren:={
  mixed:=by kernel_rfl
  f285:=Tryz.func164.trans (congrArg some (by kernel_rfl))
  t0:=Tryz.underlying0
  a0:=Tryz.isAgg0
  z0:=Tryz.sizeOf0
  v0:=Tryz.zeroValue0
  t3:=Tryz.underlying3
  a3:=Tryz.isAgg3
  z3:=Tryz.sizeOf3
  v3:=Tryz.zeroValue3
  t4:=Tryz.underlying4
  a4:=Tryz.isAgg4
  z4:=Tryz.sizeOf4
  v4:=Tryz.zeroValue4
  t5:=Tryz.underlying5
  a5:=Tryz.isAgg5
  z5:=Tryz.sizeOf5
  v5:=Tryz.zeroValue5
  t9:=Tryz.underlying9
  a9:=Tryz.isAgg9
  z9:=Tryz.sizeOf9
  v9:=Tryz.zeroValue9
  t37:=Tryz.underlying95
  a37:=Tryz.isAgg95
  z37:=Tryz.sizeOf95
  v37:=Tryz.zeroValue95
  t51:=Tryz.underlying46
  a51:=Tryz.isAgg46
  z51:=Tryz.sizeOf46
  v51:=Tryz.zeroValue46
  t53:=Tryz.underlying213
  a53:=Tryz.isAgg213
  z53:=Tryz.sizeOf213
  v53:=Tryz.zeroValue213 }
open Go.RowKit Go.Sort Go.Lib in
theorem Tryz.internal_strconv_formatBase10 (blk off cap:Nat) (u:Nat) (d:Array UInt8) (w:World) (hH:Holds (fun (b:UInt8)=>Value.int .u8 (b.toNat:Int)) w blk off d) (hu:u<10 ^ d.size) (hu64:u<18446744073709551616) (hsz:d.size<4611686018427387904) :
    Calls Tryz.prog 164 #[.slice (some ⟨blk,off,none⟩) d.size cap,.int .u64 u] w fun e w' =>
      e=.returned (.tuple #[])/\∃ (n v':Nat) (dk:Array UInt8),w'=(putRow (fun (b:UInt8)=>Value.int .u8 (b.toNat:Int)) w blk off dk).drewN n/\FmtInv d.size u 0 v' dk:=Any.internal_strconv_formatBase10 Tryz.lays285 blk off cap u d w hH hu hu64 hsz
def Tryz.lays138_ren:Go.Shelf.Ren:=⟨fun | 138=>258 | 195=>259 | 218=>260 | 143=>261 | 219=>262 | 217=>263 | 225=>264 | 224=>265 | 267=>266 | 266=>267 | 314=>268 | n=>n,fun | 9=>9 | 3=>3 | 4=>4 | 5=>5 | 0=>0 | 46=>207 | 146=>242 | 51=>46 | n=>n,fun | 1=>8 | n=>n⟩
theorem Tryz.lays138:Go.Proofs.Lays.n138 Tryz.prog Tryz.lays138_ren:={
  mixed:=by kernel_rfl
  f138:=Tryz.func258.trans (congrArg some (by kernel_rfl))
  f143:=Tryz.func261.trans (congrArg some (by kernel_rfl))
  f195:=Tryz.func259.trans (congrArg some (by kernel_rfl))
  f217:=Tryz.func263.trans (congrArg some (by kernel_rfl))
  f218:=Tryz.func260.trans (congrArg some (by kernel_rfl))
  f219:=Tryz.func262.trans (congrArg some (by kernel_rfl))
  f224:=Tryz.func265.trans (congrArg some (by kernel_rfl))
  f225:=Tryz.func264.trans (congrArg some (by kernel_rfl))
  f266:=Tryz.func267.trans (congrArg some (by kernel_rfl))
  f267:=Tryz.func266.trans (congrArg some (by kernel_rfl))
  f314:=Tryz.func268.trans (congrArg some (by kernel_rfl))
  t0:=Tryz.underlying0
  a0:=Tryz.isAgg0
  z0:=Tryz.sizeOf0
  v0:=Tryz.zeroValue0
  t3:=Tryz.underlying3
  a3:=Tryz.isAgg3
  z3:=Tryz.sizeOf3
  v3:=Tryz.zeroValue3
  t4:=Tryz.underlying4
  a4:=Tryz.isAgg4
  z4:=Tryz.sizeOf4
  v4:=Tryz.zeroValue4
  t5:=Tryz.underlying5
  a5:=Tryz.isAgg5
  z5:=Tryz.sizeOf5
  v5:=Tryz.zeroValue5
  t9:=Tryz.underlying9
  a9:=Tryz.isAgg9
  z9:=Tryz.sizeOf9
  v9:=Tryz.zeroValue9
  t46:=Tryz.underlying207
  a46:=Tryz.isAgg207
  z46:=Tryz.sizeOf207
  v46:=Tryz.zeroValue207
  t51:=Tryz.underlying46
  a51:=Tryz.isAgg46
  z51:=Tryz.sizeOf46
  v51:=Tryz.zeroValue46
  t146:=Tryz.underlying242
  a146:=Tryz.isAgg242
  z146:=Tryz.sizeOf242
  v146:=Tryz.zeroValue242
  g1:=by kernel_rfl }
open Go.RowKit Go.Lib in
theorem Tryz.strings_Count_one (s:ByteArray) (c:UInt8) (w:World) :
    Calls Tryz.prog 258 #[.string s,.string ⟨#[c]⟩] w fun e w'=>e=.returned (.int .i64 (Lib.countByte s.data.toList c))/\w'=w:=Any.strings_Count_one Tryz.lays138 s c w
end Go.Proofs
