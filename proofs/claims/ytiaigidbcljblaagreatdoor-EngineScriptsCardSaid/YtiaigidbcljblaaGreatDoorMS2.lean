import Derived.Test.YtiaigidbcljblaaGreatDoorMS1
import Derived.Shelf.Strings.Builder1
import Derived.Shelf.Small.Bits
import Derived.Shelf.Small.Strs
import Derived.Shelf.Strconv.Itoa0
import Derived.Shelf.Strconv.Itoa1
import Derived.Shelf.LaysM
import Derived.Shelf.Strconv.Itoa2
import Derived.Shelf.Strings.Search1
import Derived.Shelf.Strings.Search2
import Derived.Shelf.Strings.Cut
import Derived.Shelf.Strings.Shaped
import Derived.Shelf.Strconv.AppendUint10
import Derived.Shelf.Strconv.AppendInt10
import Derived.Shelf.Strconv.AppendIntPublic10
import Derived.Shelf.Slices.Equal
import Derived.Shelf.Slices.Empties2
import Derived.Shelf.Bytes.SlEqualAll
import Derived.Shelf.Bytes.Small
import Derived.Test.YtiaigidbcljblaaGreatDoorProg
set_option linter.unusedSimpArgs false
set_option maxRecDepth 100000
set_option maxHeartbeats 40000000
namespace Go.Proofs
open Go.Shelf
def Tryz.lays169_ren:Go.Shelf.Ren:=⟨fun|169=>32|n=>n,fun|70=>87|9=>9|0=>0|72=>89|37=>68|127=>130|3=>3|5=>5|n=>n,fun|n=>n⟩
theorem Tryz.lays169:Go.Proofs.Lays.n169 prog Tryz.lays169_ren:={
 mixed:=by kernel_rfl
 f169:=func32.trans (congrArg some (by kernel_rfl))
 t0:=underlying0
 a0:=isAgg0
 z0:=sizeOf0
 v0:=zeroValue0
 t3:=underlying3
 a3:=isAgg3
 z3:=sizeOf3
 v3:=zeroValue3
 t9:=underlying9
 a9:=isAgg9
 z9:=sizeOf9
 v9:=zeroValue9
 t37:=underlying68
 a37:=isAgg68
 z37:=sizeOf68
 v37:=zeroValue68
 t70:=underlying87
 a70:=isAgg87
 z70:=sizeOf87
 v70:=zeroValue87
 t72:=underlying89
 a72:=isAgg89
 z72:=sizeOf89
 v72:=zeroValue89
 t127:=underlying130
 a127:=isAgg130
 z127:=sizeOf130
 v127:=zeroValue130 }
theorem Tryz.Builder_Extra_169:Builder.Extra prog Tryz.lays169_ren:={
 sizeBuilder:=by kernel_rfl
 liesBuilder:=by kernel_rfl
 t5:=underlying5
 a5:=isAgg5
 z5:=sizeOf5
 v5:=zeroValue5
 infoByte:=by kernel_rfl
 cellsByte:=by kernel_rfl
 sizeByte:=by kernel_rfl
 neB5:=by decide }
open Go.RowKit in
theorem Tryz.Builder_String_any(B b:Nat)(l:List UInt8)(w:World)(h:Lib.IsBuilder 89 5 B b (Lib.byteCells l) w)(j:B<=w.heap.size):
  Calls prog 32 #[.pointer (some ⟨b,0,none⟩)] w λe w'=>e = .returned (.string ⟨l.toArray⟩)/\Below B w w':=Any.Builder_String_any Tryz.lays169 Tryz.Builder_Extra_169 B b l w h j
def Tryz.lays137_ren:Go.Shelf.Ren:=⟨fun|137=>143|217=>197|266=>259|n=>n,fun|9=>9|5=>5|3=>3|n=>n,fun|n=>n⟩
theorem Tryz.lays137:Go.Proofs.Lays.n137 prog Tryz.lays137_ren:={
 mixed:=by kernel_rfl
 f137:=func143.trans (congrArg some (by kernel_rfl))
 f217:=func197.trans (congrArg some (by kernel_rfl))
 f266:=func259.trans (congrArg some (by kernel_rfl))
 t3:=underlying3
 a3:=isAgg3
 z3:=sizeOf3
 v3:=zeroValue3
 t5:=underlying5
 a5:=isAgg5
 z5:=sizeOf5
 v5:=zeroValue5
 t9:=underlying9
 a9:=isAgg9
 z9:=sizeOf9
 v9:=zeroValue9 }
open Go.RowKit in
theorem Tryz.strings_IndexByte(s:ByteArray)(c:Int)(w:World):
  Calls prog 143 #[.string s,.int .u8 c] w λe w'=>e = .returned (.int .i64 (Lib.indexByte s.data.toList c.toNat.toUInt8))/\w'=w:=Any.strings_IndexByte Tryz.lays137 s c w
def Tryz.lays283_ren:Go.Shelf.Ren:=⟨fun|283=>98|n=>n,fun|3=>3|9=>9|4=>4|n=>n,fun|n=>n⟩
theorem Tryz.lays283:Go.Proofs.Lays.n283 prog Tryz.lays283_ren:={
 mixed:=by kernel_rfl
 f283:=func98.trans (congrArg some (by kernel_rfl))
 t3:=underlying3
 a3:=isAgg3
 z3:=sizeOf3
 v3:=zeroValue3
 t4:=underlying4
 a4:=isAgg4
 z4:=sizeOf4
 v4:=zeroValue4
 t9:=underlying9
 a9:=isAgg9
 z9:=sizeOf9
 v9:=zeroValue9 }
open Go.Lib in
theorem Tryz.internal_strconv_small(i:Nat)(h:i<100)(w:World):
  Calls prog 98 #[.int .i64 i] w λe w'=>e = .returned (.string ⟨(Lib.decDigits i).toArray⟩)/\w'=w:=Any.internal_strconv_small Tryz.lays283 i h w
def Tryz.laysM284_ren:Go.Shelf.Ren:=⟨fun|284=>99|129=>145|317=>144|318=>146|n=>n,fun|53=>141|3=>3|212=>264|0=>0|4=>4|46=>129|5=>5|9=>9|n=>n,fun|17=>0|n=>n⟩
theorem Tryz.laysM284:Go.Proofs.LaysM.n284 prog Tryz.laysM284_ren:={
 mixed:=by kernel_rfl
 f129:=func145.trans (congrArg some (by kernel_rfl))
 f284:=func99.trans (congrArg some (by kernel_rfl))
 f317:=func144.trans (congrArg some (by kernel_rfl))
 f318:=func146.trans (congrArg some (by kernel_rfl))
 t0:=underlying0
 a0:=isAgg0
 z0:=sizeOf0
 v0:=zeroValue0
 t3:=underlying3
 a3:=isAgg3
 z3:=sizeOf3
 v3:=zeroValue3
 t4:=underlying4
 a4:=isAgg4
 z4:=sizeOf4
 v4:=zeroValue4
 t5:=underlying5
 a5:=isAgg5
 z5:=sizeOf5
 v5:=zeroValue5
 t9:=underlying9
 a9:=isAgg9
 z9:=sizeOf9
 v9:=zeroValue9
 t46:=underlying129
 a46:=isAgg129
 z46:=sizeOf129
 v46:=zeroValue129
 t53:=underlying141
 a53:=isAgg141
 z53:=sizeOf141
 v53:=zeroValue141
 t212:=underlying264
 a212:=isAgg264
 z212:=sizeOf264
 v212:=zeroValue264
 g17:=by kernel_rfl
 i0:=by kernel_rfl
 i3:=by kernel_rfl
 i4:=by kernel_rfl
 i5:=by kernel_rfl
 i9:=by kernel_rfl
 i46:=by kernel_rfl
 i53:=by kernel_rfl
 i212:=by kernel_rfl
 m17:=by kernel_rfl }
open Go.Lib in
theorem Tryz.internal_strconv_numDigits (u : Nat) (h1 : 1 <= u) (x : u < 18446744073709551616) (w : World) (j : Lib.TabIs prog w "internal/strconv.uint64pow10" .u64 Lib.pow10Tab) :
  Calls prog 99 #[.int .u64 u] w λe w'=>e = .returned (.int .i64 (Lib.nDigits u))/\w'=w:=Any.internal_strconv_numDigits Tryz.laysM284 u h1 x w j
def Tryz.lays285_ren:Go.Shelf.Ren:=⟨fun|285=>100|n=>n,fun|37=>68|53=>141|3=>3|4=>4|51=>51|9=>9|5=>5|0=>0|n=>n,fun|n=>n⟩
theorem Tryz.lays285:Go.Proofs.Lays.n285 prog Tryz.lays285_ren:={
 mixed:=by kernel_rfl
 f285:=func100.trans (congrArg some (by kernel_rfl))
 t0:=underlying0
 a0:=isAgg0
 z0:=sizeOf0
 v0:=zeroValue0
 t3:=underlying3
 a3:=isAgg3
 z3:=sizeOf3
 v3:=zeroValue3
 t4:=underlying4
 a4:=isAgg4
 z4:=sizeOf4
 v4:=zeroValue4
 t5:=underlying5
 a5:=isAgg5
 z5:=sizeOf5
 v5:=zeroValue5
 t9:=underlying9
 a9:=isAgg9
 z9:=sizeOf9
 v9:=zeroValue9
 t37:=underlying68
 a37:=isAgg68
 z37:=sizeOf68
 v37:=zeroValue68
 t51:=underlying51
 a51:=isAgg51
 z51:=sizeOf51
 v51:=zeroValue51
 t53:=underlying141
 a53:=isAgg141
 z53:=sizeOf141
 v53:=zeroValue141 }
open Go.RowKit Go.Sort Go.Lib in
theorem Tryz.internal_strconv_formatBase10(blk off cap:Nat)(u:Nat)(d:Array UInt8)(w:World)(D:Holds (fun(b:UInt8)=>Value.int .u8 (b.toNat:Int)) w blk off d)(I:u<10 ^ d.size)(j:u<18446744073709551616)(x:d.size<4611686018427387904):
  Calls prog 100 #[.slice (some ⟨blk,off,none⟩) d.size cap,.int .u64 u] w λe w'=>
   e = .returned (.tuple #[])/\∃(n v':Nat) (dk:Array UInt8),w'=(putRow (fun(b:UInt8)=>Value.int .u8 (b.toNat:Int)) w blk off dk).drewN n/\FmtInv d.size u 0 v' dk:=Any.internal_strconv_formatBase10 Tryz.lays285 blk off cap u d w D I j x
def Tryz.lays145_ren:Go.Shelf.Ren:=⟨fun|145=>93|220=>142|219=>196|217=>197|225=>256|224=>257|267=>258|266=>259|314=>307|n=>n,fun|9=>9|4=>4|59=>189|3=>3|5=>5|46=>129|146=>422|51=>51|n=>n,fun|1=>2|n=>n⟩
theorem Tryz.lays145:Go.Proofs.Lays.n145 prog Tryz.lays145_ren:={
 mixed:=by kernel_rfl
 f145:=func93.trans (congrArg some (by kernel_rfl))
 f217:=func197.trans (congrArg some (by kernel_rfl))
 f219:=func196.trans (congrArg some (by kernel_rfl))
 f220:=func142.trans (congrArg some (by kernel_rfl))
 f224:=func257.trans (congrArg some (by kernel_rfl))
 f225:=func256.trans (congrArg some (by kernel_rfl))
 f266:=func259.trans (congrArg some (by kernel_rfl))
 f267:=func258.trans (congrArg some (by kernel_rfl))
 f314:=func307.trans (congrArg some (by kernel_rfl))
 t3:=underlying3
 a3:=isAgg3
 z3:=sizeOf3
 v3:=zeroValue3
 t4:=underlying4
 a4:=isAgg4
 z4:=sizeOf4
 v4:=zeroValue4
 t5:=underlying5
 a5:=isAgg5
 z5:=sizeOf5
 v5:=zeroValue5
 t9:=underlying9
 a9:=isAgg9
 z9:=sizeOf9
 v9:=zeroValue9
 t46:=underlying129
 a46:=isAgg129
 z46:=sizeOf129
 v46:=zeroValue129
 t51:=underlying51
 a51:=isAgg51
 z51:=sizeOf51
 v51:=zeroValue51
 t59:=underlying189
 a59:=isAgg189
 z59:=sizeOf189
 v59:=zeroValue189
 t146:=underlying422
 a146:=isAgg422
 z146:=sizeOf422
 v146:=zeroValue422
 g1:=by kernel_rfl }
open Go.RowKit Go.Lib in
theorem Tryz.strings_Cut(s sep:ByteArray)(m:Int)(w:World)(hs:s.size<4294967281)(j:w.cell? ⟨2,0,none⟩=some (.int .i64 m)):
  Calls prog 93 #[.string s,.string sep] w λe w'=>e = .returned (.tuple #[.string ⟨(Lib.cut s.data.toList sep.data.toList).1.toArray⟩,.string ⟨(Lib.cut s.data.toList sep.data.toList).2.1.toArray⟩,.bool (Lib.cut s.data.toList sep.data.toList).2.2])/\∃ n,w'=w.drewN n:=Any.strings_Cut Tryz.lays145 s sep m w hs j
def Tryz.laysM145_ren:Go.Shelf.Ren:=⟨fun|145=>93|220=>142|219=>196|217=>197|225=>256|224=>257|267=>258|266=>259|314=>307|n=>n,fun|9=>9|4=>4|59=>189|3=>3|5=>5|46=>129|146=>422|51=>51|n=>n,fun|1=>2|n=>n⟩
theorem Tryz.laysM145:Go.Proofs.LaysM.n145 prog Tryz.laysM145_ren:={
 mixed:=by kernel_rfl
 f145:=func93.trans (congrArg some (by kernel_rfl))
 f217:=func197.trans (congrArg some (by kernel_rfl))
 f219:=func196.trans (congrArg some (by kernel_rfl))
 f220:=func142.trans (congrArg some (by kernel_rfl))
 f224:=func257.trans (congrArg some (by kernel_rfl))
 f225:=func256.trans (congrArg some (by kernel_rfl))
 f266:=func259.trans (congrArg some (by kernel_rfl))
 f267:=func258.trans (congrArg some (by kernel_rfl))
 f314:=func307.trans (congrArg some (by kernel_rfl))
 t3:=underlying3
 a3:=isAgg3
 z3:=sizeOf3
 v3:=zeroValue3
 t4:=underlying4
 a4:=isAgg4
 z4:=sizeOf4
 v4:=zeroValue4
 t5:=underlying5
 a5:=isAgg5
 z5:=sizeOf5
 v5:=zeroValue5
 t9:=underlying9
 a9:=isAgg9
 z9:=sizeOf9
 v9:=zeroValue9
 t46:=underlying129
 a46:=isAgg129
 z46:=sizeOf129
 v46:=zeroValue129
 t51:=underlying51
 a51:=isAgg51
 z51:=sizeOf51
 v51:=zeroValue51
 t59:=underlying189
 a59:=isAgg189
 z59:=sizeOf189
 v59:=zeroValue189
 t146:=underlying422
 a146:=isAgg422
 z146:=sizeOf422
 v146:=zeroValue422
 g1:=by kernel_rfl
 i3:=by kernel_rfl
 i4:=by kernel_rfl
 i5:=by kernel_rfl
 i9:=by kernel_rfl
 i46:=by kernel_rfl
 i51:=by kernel_rfl
 i59:=by kernel_rfl
 i146:=by kernel_rfl
 m1:=by kernel_rfl
 s1_3:=λw h=>Go.Proofs.cell_of_shapedOpen_int (zero:=#[.int .i64 0]) (t:=3) h (of_decide_eq_true (by kernel_rfl)) (by kernel_rfl) rfl (by kernel_rfl) (by kernel_rfl) underlying3 }
def Tryz.laysM176_ren:Go.Shelf.Ren:=⟨fun|176=>20|249=>35|288=>66|283=>98|284=>99|285=>100|286=>101|129=>145|317=>144|318=>146|319=>147|320=>148|337=>198|338=>199|n=>n,fun|37=>68|2=>2|3=>3|53=>141|4=>4|9=>9|171=>200|0=>0|173=>203|212=>264|51=>51|5=>5|20=>20|213=>265|46=>129|232=>25|233=>243|n=>n,fun|17=>0|18=>3|19=>4|n=>n⟩
theorem Tryz.laysM176:Go.Proofs.LaysM.n176 prog Tryz.laysM176_ren:={
 mixed:=by kernel_rfl
 f129:=func145.trans (congrArg some (by kernel_rfl))
 f176:=func20.trans (congrArg some (by kernel_rfl))
 f249:=func35.trans (congrArg some (by kernel_rfl))
 f283:=func98.trans (congrArg some (by kernel_rfl))
 f284:=func99.trans (congrArg some (by kernel_rfl))
 f285:=func100.trans (congrArg some (by kernel_rfl))
 f286:=func101.trans (congrArg some (by kernel_rfl))
 f288:=func66.trans (congrArg some (by kernel_rfl))
 f317:=func144.trans (congrArg some (by kernel_rfl))
 f318:=func146.trans (congrArg some (by kernel_rfl))
 f319:=func147.trans (congrArg some (by kernel_rfl))
 f320:=func148.trans (congrArg some (by kernel_rfl))
 f337:=func198.trans (congrArg some (by kernel_rfl))
 f338:=func199.trans (congrArg some (by kernel_rfl))
 t0:=underlying0
 a0:=isAgg0
 z0:=sizeOf0
 v0:=zeroValue0
 t2:=underlying2
 a2:=isAgg2
 z2:=sizeOf2
 v2:=zeroValue2
 t3:=underlying3
 a3:=isAgg3
 z3:=sizeOf3
 v3:=zeroValue3
 t4:=underlying4
 a4:=isAgg4
 z4:=sizeOf4
 v4:=zeroValue4
 t5:=underlying5
 a5:=isAgg5
 z5:=sizeOf5
 v5:=zeroValue5
 t9:=underlying9
 a9:=isAgg9
 z9:=sizeOf9
 v9:=zeroValue9
 t20:=underlying20
 a20:=isAgg20
 z20:=sizeOf20
 v20:=zeroValue20
 t37:=underlying68
 a37:=isAgg68
 z37:=sizeOf68
 v37:=zeroValue68
 t46:=underlying129
 a46:=isAgg129
 z46:=sizeOf129
 v46:=zeroValue129
 t51:=underlying51
 a51:=isAgg51
 z51:=sizeOf51
 v51:=zeroValue51
 t53:=underlying141
 a53:=isAgg141
 z53:=sizeOf141
 v53:=zeroValue141
 t171:=underlying200
 a171:=isAgg200
 z171:=sizeOf200
 v171:=zeroValue200
 t173:=underlying203
 a173:=isAgg203
 z173:=sizeOf203
 v173:=zeroValue203
 t212:=underlying264
 a212:=isAgg264
 z212:=sizeOf264
 v212:=zeroValue264
 t213:=underlying265
 a213:=isAgg265
 z213:=sizeOf265
 t232:=underlying25
 a232:=isAgg25
 z232:=sizeOf25
 v232:=zeroValue25
 t233:=underlying243
 a233:=isAgg243
 z233:=sizeOf243
 v233:=zeroValue243
 g17:=by kernel_rfl
 g18:=by kernel_rfl
 g19:=by kernel_rfl
 i0:=by kernel_rfl
 i2:=by kernel_rfl
 i3:=by kernel_rfl
 i4:=by kernel_rfl
 i5:=by kernel_rfl
 i9:=by kernel_rfl
 i20:=by kernel_rfl
 i37:=by kernel_rfl
 i46:=by kernel_rfl
 i51:=by kernel_rfl
 i53:=by kernel_rfl
 i171:=by kernel_rfl
 i173:=by kernel_rfl
 i212:=by kernel_rfl
 i232:=by kernel_rfl
 i233:=by kernel_rfl
 m17:=by kernel_rfl
 m18:=by kernel_rfl
 m19:=by kernel_rfl }
open Go.RowKit Go.Sort Go.Lib in
theorem Tryz.strconv_AppendInt_10 (B n : Nat) (i : Int) (K : -9223372036854775808 <= i) (h1 : i <= 9223372036854775807) (sv : Value) (J : List Value) (w : World) (x : w.ownsRow B 5 1 sv n J) (I : B <= w.heap.size) (j : n + 21 <= 140737488355328) (D : Lib.TabBelow prog B w "internal/strconv.uint64pow10" .u64 Lib.pow10Tab) :
  Calls prog 20 #[sv,.int .i64 i,.int .i64 10] w λe w'=>∃ v',e = .returned v'/\w'.ownsRow B 5 1 v' (n+(Lib.itoa i).length) (J++Lib.byteCells (Lib.itoa i))/\Below B w w'/\Lib.OthersKept 5 none w w':=Any.strconv_AppendInt_10 Tryz.laysM176 B n i K h1 sv J w x I j D
def Tryz.lays193_ren:Go.Shelf.Ren:=⟨fun|193=>315|n=>n,fun|31=>77|9=>9|4=>4|3=>3|0=>0|n=>n,fun|n=>n⟩
theorem Tryz.lays193:Go.Proofs.Lays.n193 prog Tryz.lays193_ren:={
 mixed:=by kernel_rfl
 f193:=func315.trans (congrArg some (by kernel_rfl))
 t0:=underlying0
 a0:=isAgg0
 z0:=sizeOf0
 v0:=zeroValue0
 t3:=underlying3
 a3:=isAgg3
 z3:=sizeOf3
 v3:=zeroValue3
 t4:=underlying4
 a4:=isAgg4
 z4:=sizeOf4
 v4:=zeroValue4
 t9:=underlying9
 a9:=isAgg9
 z9:=sizeOf9
 v9:=zeroValue9
 t31:=underlying77
 a31:=isAgg77
 z31:=sizeOf77
 v31:=zeroValue77 }
open Go.RowKit Go.Lib in
theorem Tryz.slices_Equal_string(K U n c b2 V m d:Nat)(I J:List ByteArray)(w:World)(Z:n<=I.length)(hy:m<=J.length)(D:n<=9223372036854775807)(x:m<=9223372036854775807)(O:∀ j,j<I.length->w.cell? ⟨K,U+j,none⟩=some (.string (I.getD j ByteArray.empty)))(R:∀ j,j<J.length->w.cell? ⟨b2,V+j,none⟩=some (.string (J.getD j ByteArray.empty))):
  Calls prog 315 #[.slice (some ⟨K,U,none⟩) n c,.slice (some ⟨b2,V,none⟩) m d] w λe w'=>e = .returned (.bool (decide (I.take n=J.take m)))/\∃ q,w'=w.drewN q:=Any.slices_Equal_string Tryz.lays193 K U n c b2 V m d I J w Z hy D x O R
open Go.RowKit Go.Lib in
theorem Tryz.slices_Equal_string_empty(x D:Option Addr)(c m d:Nat)(w:World)(j:m<=9223372036854775807):
  Calls prog 315 #[.slice x 0 c,.slice D m d] w λe w'=>e = .returned (.bool (decide (m=0)))/\w'=w:=Any.slices_Equal_string_empty Tryz.lays193 x D c m d w j
open Go.RowKit Go.Lib in
theorem Tryz.slices_Equal_string_lens(x D:Option Addr)(n c m d:Nat)(w:World)(j:n≠m):
  Calls prog 315 #[.slice x n c,.slice D m d] w λe w'=>e = .returned (.bool false)/\w'=w:=Any.slices_Equal_string_lens Tryz.lays193 x D n c m d w j
def Tryz.laysnb115_ren:Go.Shelf.Ren:=⟨fun|115=>317|n=>n,fun|37=>68|4=>4|9=>9|5=>5|n=>n,fun|n=>n⟩
theorem Tryz.laysnb115:Go.Proofs.Lays.nb115 prog Tryz.laysnb115_ren:={
 mixed:=by kernel_rfl
 f115:=func317.trans (congrArg some (by kernel_rfl))
 t4:=underlying4
 a4:=isAgg4
 z4:=sizeOf4
 v4:=zeroValue4
 t9:=underlying9
 a9:=isAgg9
 z9:=sizeOf9
 v9:=zeroValue9
 t37:=underlying68
 a37:=isAgg68
 z37:=sizeOf68
 v37:=zeroValue68
 t5:=underlying5
 a5:=isAgg5
 z5:=sizeOf5
 v5:=zeroValue5 }
theorem Tryz.bytes_Equal_all(p1 p2:Option Addr)(n c m d:Nat)(j x:List Int)(w:World)(I:j.length=n)(hy:x.length=m)(h1:Lib.BytesIn w p1 n j)(D:Lib.BytesIn w p2 m x):
  Calls prog 317 #[.slice p1 n c,.slice p2 m d] w λe w'=>e = .returned (.bool (Lib.bytesOf j == Lib.bytesOf x))/\w'=w:=Any.bytes_Equal_all Tryz.laysnb115 p1 p2 n c m d j x w I hy h1 D
end Go.Proofs
