import Derived.Test.YtiaigidbcljblaaGreatDoorME4
import Derived.Lib.SlBytesConst
import Derived.Shelf.Strings.Builder1
import Derived.Shelf.Small.Bits
import Derived.Shelf.Small.Strs
import Derived.Shelf.Strconv.Itoa0
import Derived.Shelf.Strconv.Itoa1
import Derived.Shelf.LaysM
import Derived.Shelf.Strconv.Itoa2
import Derived.Shelf.Strings.Search1
import Derived.Shelf.Strings.Search2
import Derived.Shelf.Strings.Cut
import Derived.Shelf.Strings.Shaped
import Derived.Shelf.Strconv.AppendUint10
import Derived.Shelf.Strconv.AppendInt10
import Derived.Shelf.Strconv.AppendIntPublic10
import Derived.Shelf.Bytes.SlEqualAll
import Derived.Shelf.Bytes.Small
import Derived.Test.YtiaigidbcljblaaGreatDoorProg
import Derived.Test.YtiaigidbcljblaaGreatDoorME1
set_option linter.unusedSimpArgs false
set_option maxRecDepth 100000
set_option maxHeartbeats 40000000
namespace Go.Proofs.YtiaigidbcljblaaGreatDoor
open Go.RowKit
attribute [local irreducible] wpQuiet wpAnyH
def toll:List Int:=[84,79,76,76]
theorem frame_header(g:Nat)(w:World)(hg:g<4294967296):
  Calls Tryz.prog 265 #[.int .u32 g] w fun e w'=>e = .returned (.agg (u8s (rec g toll)).toArray)∧Below w.heap.size w w':=by
 have HG:=Lib.hid hg
 have hrl:(u8s (rec g toll)).length=64:=by rw[u8s_length,rec_length g toll (by decide)]
 have h1:=u8s_one (rec g toll)
 have hz:z64.size=(u8s (rec g toll)).toArray.size:=by rw[z64_size];simp[hrl]
 have hb1:Below w.heap.size w (w.alloc (.cells z64 243)):=(by repeat (first|exact Below.refl _ _|assumption|refine bdrewN ?_ _|refine Below.setCell ?_ (by first|exact Nat.le_refl _|assumption|omega|(simp <;> omega)) _|refine Below.alloc ?_ (by first|exact Nat.le_refl _|assumption|omega|(simp <;> omega)) _))
 have hB1:=Blk.new w 243 z64
 have hsz1:(w.alloc (.cells z64 243)).heap.size=w.heap.size+1:=by simp
 clear hg
 have hcv:=fun W:World=>Lib.run_convert_bytes_const (P:=Tryz.prog) W 68 5 #[.int .u8 84,.int .u8 79,.int .u8 76,.int .u8 76] 4 4 Tryz.underlying68 Tryz.underlying5
 have hcv1:=hcv (w.alloc (.cells z64 243))
 simp only[hsz1] at hcv1
 clear hcv
 go_enter Tryz.func265,Tryz.ntmps265
 go_wp2_with (refine al 243 z64 rfl rfl zero64 ?_)
 have hsnT:Sn ((w.alloc (.cells z64 243)).alloc (.cells #[.int .u8 84,.int .u8 79,.int .u8 76,.int .u8 76] 5 (4,5))) 1 (.slice (some ⟨w.heap.size+1,0,none⟩) 4 4) toll.length (u8s toll):=by
  refine⟨_,4,rfl,Nat.le_refl _,rfl,fun _=>⟨_,0,rfl,fun j u hj=>?_⟩⟩
  have hh:=heap_alloc_new (w.alloc (.cells z64 243)) (.cells #[.int .u8 84,.int .u8 79,.int .u8 76,.int .u8 76] 5 (4,5))
  rw[hsz1] at hh
  rw[cell_of_row _ _ _ _ _ _ hh,Nat.zero_add]
  simpa [toll,u8s] using hj
 have hbT:Below w.heap.size w ((w.alloc (.cells z64 243)).alloc (.cells #[.int .u8 84,.int .u8 79,.int .u8 76,.int .u8 76] 5 (4,5))):=hb1.alloc hb1.size _
 have hBT:=hB1.alloc (.cells #[.int .u8 84,.int .u8 79,.int .u8 76,.int .u8 76] 5 (4,5))
 refine(frame_make g _ toll _ hsnT (fun b hb=>by simp only[toll,List.mem_cons,List.not_mem_nil,or_false] at hb;omega) (by decide) HG.out).mono ?_
 rintro e w2 ⟨rfl,hb2⟩
 have hb20:=bstep hbT hb2
 have HB2:=Lib.hid (hBT.keep hb2)
 clear hbT hb2 hBT hb1 hB1 hsnT hsz1 hcv1
 go_wp2_with (first
  | (refine al 243 z64 rfl rfl zero64 ?_)
  | (refine stNew 243 (.tmp 3) (.tmp 10) rfl rfl rfl rfl (by simp only[List.size_toArray,hrl];kernel_rfl) hz h1 ?_;intro w3 hB3 hb3 hs3;have HR3:=Lib.hid (Blk.range hB3);have HB3:=Lib.hid (HB2.keep hb3))
  | (refine ld 243 _ rfl rfl rfl HR3.out Tryz.underlying243 rfl (by rw[List.toList_toArray,hrl];kernel_rfl) ?_)
  | (refine stBlk 243 (.tmp 2) (.tmp 12) rfl rfl rfl rfl HB3.out (by simp only[List.toList_toArray,List.size_toArray,hrl];kernel_rfl) (by rw[List.toList_toArray];exact hz) (by rw[List.toList_toArray];exact h1) ?_;intro wZ hBZ hbZ _ _))
 have hbF:=(bstep hb20 hb3).trans hbZ
 try rw[List.toList_toArray] at hBZ
 refine bodyPost_ret (results_cell_row rfl _ _ w.heap.size 243 _ (0,0) _ rfl hBZ Tryz.underlying243 rfl (by simp only[List.size_toArray,hrl];kernel_rfl)) rfl ⟨rfl,hbF⟩
end Go.Proofs.YtiaigidbcljblaaGreatDoor
namespace Go.Proofs
open Go.Shelf
def Tryz.lays137_ren:Go.Shelf.Ren:=⟨fun|137=>143|217=>197|266=>259|n=>n,fun|9=>9|5=>5|3=>3|n=>n,fun|n=>n⟩
theorem Tryz.lays137:Go.Proofs.Lays.n137 Tryz.prog Tryz.lays137_ren:={
 mixed:=by kernel_rfl
 f137:=Tryz.func143.trans (congrArg some (by kernel_rfl))
 f217:=Tryz.func197.trans (congrArg some (by kernel_rfl))
 f266:=Tryz.func259.trans (congrArg some (by kernel_rfl))
 t3:=Tryz.underlying3
 a3:=Tryz.isAgg3
 z3:=Tryz.sizeOf3
 v3:=Tryz.zeroValue3
 t5:=Tryz.underlying5
 a5:=Tryz.isAgg5
 z5:=Tryz.sizeOf5
 v5:=Tryz.zeroValue5
 t9:=Tryz.underlying9
 a9:=Tryz.isAgg9
 z9:=Tryz.sizeOf9
 v9:=Tryz.zeroValue9 }
open Go.RowKit in
theorem Tryz.strings_IndexByte(s:ByteArray)(c:Int)(w:World):
  Calls Tryz.prog 143 #[.string s,.int .u8 c] w fun e w'=>e = .returned (.int .i64 (Lib.indexByte s.data.toList c.toNat.toUInt8))∧w'=w:=Any.strings_IndexByte Tryz.lays137 s c w
def Tryz.lays145_ren:Go.Shelf.Ren:=⟨fun|145=>93|220=>142|219=>196|217=>197|225=>256|224=>257|267=>258|266=>259|314=>307|n=>n,fun|9=>9|4=>4|59=>189|3=>3|5=>5|46=>129|146=>422|51=>51|n=>n,fun|1=>2|n=>n⟩
theorem Tryz.lays145:Go.Proofs.Lays.n145 Tryz.prog Tryz.lays145_ren:={
 mixed:=by kernel_rfl
 f145:=Tryz.func93.trans (congrArg some (by kernel_rfl))
 f217:=Tryz.func197.trans (congrArg some (by kernel_rfl))
 f219:=Tryz.func196.trans (congrArg some (by kernel_rfl))
 f220:=Tryz.func142.trans (congrArg some (by kernel_rfl))
 f224:=Tryz.func257.trans (congrArg some (by kernel_rfl))
 f225:=Tryz.func256.trans (congrArg some (by kernel_rfl))
 f266:=Tryz.func259.trans (congrArg some (by kernel_rfl))
 f267:=Tryz.func258.trans (congrArg some (by kernel_rfl))
 f314:=Tryz.func307.trans (congrArg some (by kernel_rfl))
 t3:=Tryz.underlying3
 a3:=Tryz.isAgg3
 z3:=Tryz.sizeOf3
 v3:=Tryz.zeroValue3
 t4:=Tryz.underlying4
 a4:=Tryz.isAgg4
 z4:=Tryz.sizeOf4
 v4:=Tryz.zeroValue4
 t5:=Tryz.underlying5
 a5:=Tryz.isAgg5
 z5:=Tryz.sizeOf5
 v5:=Tryz.zeroValue5
 t9:=Tryz.underlying9
 a9:=Tryz.isAgg9
 z9:=Tryz.sizeOf9
 v9:=Tryz.zeroValue9
 t46:=Tryz.underlying129
 a46:=Tryz.isAgg129
 z46:=Tryz.sizeOf129
 v46:=Tryz.zeroValue129
 t51:=Tryz.underlying51
 a51:=Tryz.isAgg51
 z51:=Tryz.sizeOf51
 v51:=Tryz.zeroValue51
 t59:=Tryz.underlying189
 a59:=Tryz.isAgg189
 z59:=Tryz.sizeOf189
 v59:=Tryz.zeroValue189
 t146:=Tryz.underlying422
 a146:=Tryz.isAgg422
 z146:=Tryz.sizeOf422
 v146:=Tryz.zeroValue422
 g1:=by kernel_rfl }
open Go.RowKit Go.Lib in
theorem Tryz.strings_Cut(s sep:ByteArray)(m:Int)(w:World)(hs:s.size<4294967281)(hm:w.cell? ⟨2,0,none⟩=some (.int .i64 m)):
  Calls Tryz.prog 93 #[.string s,.string sep] w fun e w'=>e = .returned (.tuple #[.string ⟨(Lib.cut s.data.toList sep.data.toList).1.toArray⟩,.string ⟨(Lib.cut s.data.toList sep.data.toList).2.1.toArray⟩,.bool (Lib.cut s.data.toList sep.data.toList).2.2])∧∃ n,w'=w.drewN n:=Any.strings_Cut Tryz.lays145 s sep m w hs hm
def Tryz.laysM145_ren:Go.Shelf.Ren:=⟨fun|145=>93|220=>142|219=>196|217=>197|225=>256|224=>257|267=>258|266=>259|314=>307|n=>n,fun|9=>9|4=>4|59=>189|3=>3|5=>5|46=>129|146=>422|51=>51|n=>n,fun|1=>2|n=>n⟩
theorem Tryz.laysM145:Go.Proofs.LaysM.n145 Tryz.prog Tryz.laysM145_ren:={
 mixed:=by kernel_rfl
 f145:=Tryz.func93.trans (congrArg some (by kernel_rfl))
 f217:=Tryz.func197.trans (congrArg some (by kernel_rfl))
 f219:=Tryz.func196.trans (congrArg some (by kernel_rfl))
 f220:=Tryz.func142.trans (congrArg some (by kernel_rfl))
 f224:=Tryz.func257.trans (congrArg some (by kernel_rfl))
 f225:=Tryz.func256.trans (congrArg some (by kernel_rfl))
 f266:=Tryz.func259.trans (congrArg some (by kernel_rfl))
 f267:=Tryz.func258.trans (congrArg some (by kernel_rfl))
 f314:=Tryz.func307.trans (congrArg some (by kernel_rfl))
 t3:=Tryz.underlying3
 a3:=Tryz.isAgg3
 z3:=Tryz.sizeOf3
 v3:=Tryz.zeroValue3
 t4:=Tryz.underlying4
 a4:=Tryz.isAgg4
 z4:=Tryz.sizeOf4
 v4:=Tryz.zeroValue4
 t5:=Tryz.underlying5
 a5:=Tryz.isAgg5
 z5:=Tryz.sizeOf5
 v5:=Tryz.zeroValue5
 t9:=Tryz.underlying9
 a9:=Tryz.isAgg9
 z9:=Tryz.sizeOf9
 v9:=Tryz.zeroValue9
 t46:=Tryz.underlying129
 a46:=Tryz.isAgg129
 z46:=Tryz.sizeOf129
 v46:=Tryz.zeroValue129
 t51:=Tryz.underlying51
 a51:=Tryz.isAgg51
 z51:=Tryz.sizeOf51
 v51:=Tryz.zeroValue51
 t59:=Tryz.underlying189
 a59:=Tryz.isAgg189
 z59:=Tryz.sizeOf189
 v59:=Tryz.zeroValue189
 t146:=Tryz.underlying422
 a146:=Tryz.isAgg422
 z146:=Tryz.sizeOf422
 v146:=Tryz.zeroValue422
 g1:=by kernel_rfl
 i3:=by kernel_rfl
 i4:=by kernel_rfl
 i5:=by kernel_rfl
 i9:=by kernel_rfl
 i46:=by kernel_rfl
 i51:=by kernel_rfl
 i59:=by kernel_rfl
 i146:=by kernel_rfl
 m1:=by kernel_rfl
 s1_3:=fun w h=>Go.Proofs.cell_of_shapedOpen_int (zero:=#[.int .i64 0]) (t:=3) h (of_decide_eq_true (by kernel_rfl)) (by kernel_rfl) rfl (by kernel_rfl) (by kernel_rfl) Tryz.underlying3 }
def Tryz.laysM176_ren:Go.Shelf.Ren:=⟨fun|176=>20|249=>35|288=>66|283=>98|284=>99|285=>100|286=>101|129=>145|317=>144|318=>146|319=>147|320=>148|337=>198|338=>199|n=>n,fun|37=>68|2=>2|3=>3|53=>141|4=>4|9=>9|171=>200|0=>0|173=>203|212=>264|51=>51|5=>5|20=>20|213=>265|46=>129|232=>25|233=>243|n=>n,fun|17=>0|18=>3|19=>4|n=>n⟩
theorem Tryz.laysM176:Go.Proofs.LaysM.n176 Tryz.prog Tryz.laysM176_ren:={
 mixed:=by kernel_rfl
 f129:=Tryz.func145.trans (congrArg some (by kernel_rfl))
 f176:=Tryz.func20.trans (congrArg some (by kernel_rfl))
 f249:=Tryz.func35.trans (congrArg some (by kernel_rfl))
 f283:=Tryz.func98.trans (congrArg some (by kernel_rfl))
 f284:=Tryz.func99.trans (congrArg some (by kernel_rfl))
 f285:=Tryz.func100.trans (congrArg some (by kernel_rfl))
 f286:=Tryz.func101.trans (congrArg some (by kernel_rfl))
 f288:=Tryz.func66.trans (congrArg some (by kernel_rfl))
 f317:=Tryz.func144.trans (congrArg some (by kernel_rfl))
 f318:=Tryz.func146.trans (congrArg some (by kernel_rfl))
 f319:=Tryz.func147.trans (congrArg some (by kernel_rfl))
 f320:=Tryz.func148.trans (congrArg some (by kernel_rfl))
 f337:=Tryz.func198.trans (congrArg some (by kernel_rfl))
 f338:=Tryz.func199.trans (congrArg some (by kernel_rfl))
 t0:=Tryz.underlying0
 a0:=Tryz.isAgg0
 z0:=Tryz.sizeOf0
 v0:=Tryz.zeroValue0
 t2:=Tryz.underlying2
 a2:=Tryz.isAgg2
 z2:=Tryz.sizeOf2
 v2:=Tryz.zeroValue2
 t3:=Tryz.underlying3
 a3:=Tryz.isAgg3
 z3:=Tryz.sizeOf3
 v3:=Tryz.zeroValue3
 t4:=Tryz.underlying4
 a4:=Tryz.isAgg4
 z4:=Tryz.sizeOf4
 v4:=Tryz.zeroValue4
 t5:=Tryz.underlying5
 a5:=Tryz.isAgg5
 z5:=Tryz.sizeOf5
 v5:=Tryz.zeroValue5
 t9:=Tryz.underlying9
 a9:=Tryz.isAgg9
 z9:=Tryz.sizeOf9
 v9:=Tryz.zeroValue9
 t20:=Tryz.underlying20
 a20:=Tryz.isAgg20
 z20:=Tryz.sizeOf20
 v20:=Tryz.zeroValue20
 t37:=Tryz.underlying68
 a37:=Tryz.isAgg68
 z37:=Tryz.sizeOf68
 v37:=Tryz.zeroValue68
 t46:=Tryz.underlying129
 a46:=Tryz.isAgg129
 z46:=Tryz.sizeOf129
 v46:=Tryz.zeroValue129
 t51:=Tryz.underlying51
 a51:=Tryz.isAgg51
 z51:=Tryz.sizeOf51
 v51:=Tryz.zeroValue51
 t53:=Tryz.underlying141
 a53:=Tryz.isAgg141
 z53:=Tryz.sizeOf141
 v53:=Tryz.zeroValue141
 t171:=Tryz.underlying200
 a171:=Tryz.isAgg200
 z171:=Tryz.sizeOf200
 v171:=Tryz.zeroValue200
 t173:=Tryz.underlying203
 a173:=Tryz.isAgg203
 z173:=Tryz.sizeOf203
 v173:=Tryz.zeroValue203
 t212:=Tryz.underlying264
 a212:=Tryz.isAgg264
 z212:=Tryz.sizeOf264
 v212:=Tryz.zeroValue264
 t213:=Tryz.underlying265
 a213:=Tryz.isAgg265
 z213:=Tryz.sizeOf265
 t232:=Tryz.underlying25
 a232:=Tryz.isAgg25
 z232:=Tryz.sizeOf25
 v232:=Tryz.zeroValue25
 t233:=Tryz.underlying243
 a233:=Tryz.isAgg243
 z233:=Tryz.sizeOf243
 v233:=Tryz.zeroValue243
 g17:=by kernel_rfl
 g18:=by kernel_rfl
 g19:=by kernel_rfl
 i0:=by kernel_rfl
 i2:=by kernel_rfl
 i3:=by kernel_rfl
 i4:=by kernel_rfl
 i5:=by kernel_rfl
 i9:=by kernel_rfl
 i20:=by kernel_rfl
 i37:=by kernel_rfl
 i46:=by kernel_rfl
 i51:=by kernel_rfl
 i53:=by kernel_rfl
 i171:=by kernel_rfl
 i173:=by kernel_rfl
 i212:=by kernel_rfl
 i232:=by kernel_rfl
 i233:=by kernel_rfl
 m17:=by kernel_rfl
 m18:=by kernel_rfl
 m19:=by kernel_rfl }
open Go.RowKit Go.Sort Go.Lib in
theorem Tryz.strconv_AppendInt_10 (B n : Nat) (i : Int) (h0 : -9223372036854775808 ≤ i) (h1 : i ≤ 9223372036854775807) (sv : Value) (xs : List Value) (w : World) (hown : w.ownsRow B 5 1 sv n xs) (hBw : B ≤ w.heap.size) (hlim : n + 21 ≤ 140737488355328) (htab : Lib.TabBelow Tryz.prog B w "internal/strconv.uint64pow10" .u64 Lib.pow10Tab) :
  Calls Tryz.prog 20 #[sv,.int .i64 i,.int .i64 10] w fun e w'=>∃ v',e = .returned v'∧w'.ownsRow B 5 1 v' (n+(Lib.itoa i).length) (xs++Lib.byteCells (Lib.itoa i))∧Below B w w'∧Lib.OthersKept 5 none w w':=Any.strconv_AppendInt_10 Tryz.laysM176 B n i h0 h1 sv xs w hown hBw hlim htab
def Tryz.laysnb115_ren:Go.Shelf.Ren:=⟨fun|115=>317|n=>n,fun|37=>68|4=>4|9=>9|5=>5|n=>n,fun|n=>n⟩
theorem Tryz.laysnb115:Go.Proofs.Lays.nb115 Tryz.prog Tryz.laysnb115_ren:={
 mixed:=by kernel_rfl
 f115:=Tryz.func317.trans (congrArg some (by kernel_rfl))
 t4:=Tryz.underlying4
 a4:=Tryz.isAgg4
 z4:=Tryz.sizeOf4
 v4:=Tryz.zeroValue4
 t9:=Tryz.underlying9
 a9:=Tryz.isAgg9
 z9:=Tryz.sizeOf9
 v9:=Tryz.zeroValue9
 t37:=Tryz.underlying68
 a37:=Tryz.isAgg68
 z37:=Tryz.sizeOf68
 v37:=Tryz.zeroValue68
 t5:=Tryz.underlying5
 a5:=Tryz.isAgg5
 z5:=Tryz.sizeOf5
 v5:=Tryz.zeroValue5 }
theorem Tryz.bytes_Equal_all(p1 p2:Option Addr)(n c m d:Nat)(xs ys:List Int)(w:World)(hx:xs.length=n)(hy:ys.length=m)(h1:Lib.BytesIn w p1 n xs)(h2:Lib.BytesIn w p2 m ys):
  Calls Tryz.prog 317 #[.slice p1 n c,.slice p2 m d] w fun e w'=>e = .returned (.bool (Lib.bytesOf xs == Lib.bytesOf ys))∧w'=w:=Any.bytes_Equal_all Tryz.laysnb115 p1 p2 n c m d xs ys w hx hy h1 h2
end Go.Proofs
namespace Go.Proofs.YtiaigidbcljblaaGreatDoor
open Go.RowKit
theorem bytesOf_inj:∀ {xs ys:List Int},Bys xs→Bys ys→Lib.bytesOf xs=Lib.bytesOf ys→xs=ys
 | [],[],_,_,_=>rfl
 | [],_ :: _,_,_,h=>by simp[Lib.bytesOf] at h
 | _ :: _,[],_,_,h=>by simp[Lib.bytesOf] at h
 | a :: xs,b :: ys,hx,hy,h=>by
  simp only[Lib.bytesOf,List.map_cons,List.cons.injEq] at h
  have ha:=hx a (by simp)
  have hb:=hy b (by simp)
  have h1:=congrArg UInt8.toNat h.1
  simp only[UInt8.toNat_ofNat'] at h1
  rw[bytesOf_inj (fun c hc=>hx c (by simp[hc])) (fun c hc=>hy c (by simp[hc])) h.2,show a=b by omega]
theorem bytes_equal(v1 v2:Value)(xs ys:List Int)(w:World)(h1:Sn w 1 v1 xs.length (u8s xs))(h2:Sn w 1 v2 ys.length (u8s ys))(hx:Bys xs)(hy:Bys ys):
  Calls Tryz.prog 317 #[v1,v2] w fun e w'=>e = .returned (.bool (decide (xs=ys)))∧w'=w:=by
 have key:∀(A:Option Addr) (cap:Nat) (zs:List Int),Sn w 1 (.slice A zs.length cap) zs.length (u8s zs)→Lib.BytesIn w A zs.length zs:=by
  intro A cap zs h
  obtain⟨A',cap',hv,_,_,hx⟩:=h
  injection hv with hA _ _
  subst hA
  intro hp
  obtain⟨b,off,rfl,hc⟩:=hx hp
  refine⟨b,off,rfl,fun j hj=>hc j _ ?_⟩
  rw[u8s_get zs j hj,List.getD_eq_getElem?_getD,List.getElem?_eq_getElem hj]
  rfl
 obtain⟨A1,c1,rfl,_,_,_⟩:=id h1
 obtain⟨A2,c2,rfl,_,_,_⟩:=id h2
 refine(Tryz.bytes_Equal_all A1 A2 xs.length c1 ys.length c2 xs ys w rfl rfl (key _ _ _ h1) (key _ _ _ h2)).mono ?_
 rintro e w' ⟨rfl,rfl⟩
 refine⟨?_,rfl⟩
 congr 2
 by_cases h:xs=ys
 ·subst h;simp
 ·have:Lib.bytesOf xs≠Lib.bytesOf ys:=fun e=>h (bytesOf_inj hx hy e)
  simp[h,this]
end Go.Proofs.YtiaigidbcljblaaGreatDoor
