import Derived.Test.YtjjlaipkkdncfaaGreatDoorMV1
import Derived.Shelf.Small.Bits
import Derived.Shelf.Strconv.Itoa0
import Derived.Shelf.Strconv.Itoa1
import Derived.Shelf.LaysM
import Derived.Shelf.Strconv.Itoa2
import Derived.Shelf.Strconv.AppendUint10
import Derived.Shelf.Strconv.AppendInt10
import Derived.Shelf.Strconv.AppendIntPublic10
import Derived.Shelf.Slices.Equal
import Derived.Shelf.Slices.Empties2
import Derived.Shelf.Bytes.SlEqualAll
import Derived.Shelf.Bytes.Small
import Derived.Test.YtjjlaipkkdncfaaGreatDoorProg
set_option linter.unusedSimpArgs false
set_option maxRecDepth 100000
set_option maxHeartbeats 40000000
namespace Go.Proofs
open Go.Shelf
def Tryz.lays193_ren:Go.Shelf.Ren:=⟨fun|193=>171|n=>n,fun|31=>49|9=>9|4=>4|3=>3|0=>0|n=>n,fun|n=>n⟩
theorem Tryz.lays193:Go.Proofs.Lays.n193 prog Tryz.lays193_ren:={
 mixed:=by kernel_rfl
 f193:=func171.trans (congrArg some (by kernel_rfl))
 t0:=underlying0
 a0:=isAgg0
 z0:=sizeOf0
 v0:=zeroValue0
 t3:=underlying3
 a3:=isAgg3
 z3:=sizeOf3
 v3:=zeroValue3
 t4:=underlying4
 a4:=isAgg4
 z4:=sizeOf4
 v4:=zeroValue4
 t9:=underlying9
 a9:=isAgg9
 z9:=sizeOf9
 v9:=zeroValue9
 t31:=underlying49
 a31:=isAgg49
 z31:=sizeOf49
 v31:=zeroValue49 }
open Go.RowKit Go.Lib in
theorem Tryz.slices_Equal_string(O Z n c R o2 m d:Nat)(J K:List ByteArray)(w:World)(hx:n<=J.length)(hy:m<=K.length)(I:n<=9223372036854775807)(D:m<=9223372036854775807)(U:∀ j,j<J.length->w.cell? ⟨O,Z+j,none⟩=some (.string (J.getD j ByteArray.empty)))(V:∀ j,j<K.length->w.cell? ⟨R,o2+j,none⟩=some (.string (K.getD j ByteArray.empty))):
  Calls prog 171 #[.slice (some ⟨O,Z,none⟩) n c,.slice (some ⟨R,o2,none⟩) m d] w λe w'=>e = .returned (.bool (decide (J.take n=K.take m)))/\∃ q,w'=w.drewN q:=Any.slices_Equal_string Tryz.lays193 O Z n c R o2 m d J K w hx hy I D U V
open Go.RowKit Go.Lib in
theorem Tryz.slices_Equal_string_empty(I J:Option Addr)(c m d:Nat)(w:World)(D:m<=9223372036854775807):
  Calls prog 171 #[.slice I 0 c,.slice J m d] w λe w'=>e = .returned (.bool (decide (m=0)))/\w'=w:=Any.slices_Equal_string_empty Tryz.lays193 I J c m d w D
open Go.RowKit Go.Lib in
theorem Tryz.slices_Equal_string_lens(I J:Option Addr)(n c m d:Nat)(w:World)(D:n≠m):
  Calls prog 171 #[.slice I n c,.slice J m d] w λe w'=>e = .returned (.bool false)/\w'=w:=Any.slices_Equal_string_lens Tryz.lays193 I J n c m d w D
def Tryz.laysnb115_ren:Go.Shelf.Ren:=⟨fun|115=>204|n=>n,fun|37=>60|4=>4|9=>9|5=>5|n=>n,fun|n=>n⟩
theorem Tryz.laysnb115:Go.Proofs.Lays.nb115 prog Tryz.laysnb115_ren:={
 mixed:=by kernel_rfl
 f115:=func204.trans (congrArg some (by kernel_rfl))
 t4:=underlying4
 a4:=isAgg4
 z4:=sizeOf4
 v4:=zeroValue4
 t9:=underlying9
 a9:=isAgg9
 z9:=sizeOf9
 v9:=zeroValue9
 t37:=underlying60
 a37:=isAgg60
 z37:=sizeOf60
 v37:=zeroValue60
 t5:=underlying5
 a5:=isAgg5
 z5:=sizeOf5
 v5:=zeroValue5 }
theorem Tryz.bytes_Equal_all(p1 p2:Option Addr)(n c m d:Nat)(D I:List Int)(w:World)(K:D.length=n)(hy:I.length=m)(h1:Lib.BytesIn w p1 n D)(J:Lib.BytesIn w p2 m I):
  Calls prog 204 #[.slice p1 n c,.slice p2 m d] w λe w'=>e = .returned (.bool (Lib.bytesOf D == Lib.bytesOf I))/\w'=w:=Any.bytes_Equal_all Tryz.laysnb115 p1 p2 n c m d D I w K hy h1 J
end Go.Proofs
