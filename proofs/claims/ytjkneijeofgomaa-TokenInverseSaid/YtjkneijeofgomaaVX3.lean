import Derived.Shelf.Strings.OnBuilder
import Derived.Shelf.Strings.BuilderK
import Derived.Shelf.Strings.Count
import Derived.Shelf.Strings.LastIndex
import Derived.Shelf.Strings.LastIndexAll
import Derived.Shelf.Slices.Turned
import Derived.Shelf.Slices.Reverse
import Derived.Shelf.Slices.Cells
import Derived.Test.YtjkneijeofgomaaProg
set_option linter.unusedVariables false
set_option linter.unusedSimpArgs false
section
namespace Go.Proofs
open Go.Shelf Go.RowKit Go.Sort
def Try.lays170_ren:Go.Shelf.Ren:=⟨fun|170=>38|n=>n,fun|70=>80|3=>3|0=>0|72=>83|37=>81|5=>5|n=>n,fun|n=>n⟩
theorem Try.lays170:Go.Proofs.Lays.n170 Try.prog Try.lays170_ren:= {
 mixed:=by kernel_rfl
 f170:=Try.func38.trans (congrArg some (by kernel_rfl))
 t0:=Try.underlying0
 a0:=Try.isAgg0
 z0:=Try.sizeOf0
 v0:=Try.zeroValue0
 t3:=Try.underlying3
 a3:=Try.isAgg3
 z3:=Try.sizeOf3
 v3:=Try.zeroValue3
 t37:=Try.underlying81
 a37:=Try.isAgg81
 z37:=Try.sizeOf81
 v37:=Try.zeroValue81
 t70:=Try.underlying80
 a70:=Try.isAgg80
 z70:=Try.sizeOf80
 v70:=Try.zeroValue80
 t72:=Try.underlying83
 a72:=Try.isAgg83
 z72:=Try.sizeOf83
 v72:=Try.zeroValue83 }
def Try.lays169_ren:Go.Shelf.Ren:=⟨fun|169=>39|n=>n,fun|70=>80|9=>9|0=>0|72=>83|37=>81|127=>118|3=>3|5=>5|n=>n,fun|n=>n⟩
theorem Try.lays169:Go.Proofs.Lays.n169 Try.prog Try.lays169_ren:= {
 mixed:=by kernel_rfl
 f169:=Try.func39.trans (congrArg some (by kernel_rfl))
 t0:=Try.underlying0
 a0:=Try.isAgg0
 z0:=Try.sizeOf0
 v0:=Try.zeroValue0
 t3:=Try.underlying3
 a3:=Try.isAgg3
 z3:=Try.sizeOf3
 v3:=Try.zeroValue3
 t9:=Try.underlying9
 a9:=Try.isAgg9
 z9:=Try.sizeOf9
 v9:=Try.zeroValue9
 t37:=Try.underlying81
 a37:=Try.isAgg81
 z37:=Try.sizeOf81
 v37:=Try.zeroValue81
 t70:=Try.underlying80
 a70:=Try.isAgg80
 z70:=Try.sizeOf80
 v70:=Try.zeroValue80
 t72:=Try.underlying83
 a72:=Try.isAgg83
 z72:=Try.sizeOf83
 v72:=Try.zeroValue83
 t127:=Try.underlying118
 a127:=Try.isAgg118
 z127:=Try.sizeOf118
 v127:=Try.zeroValue118 }
theorem Try.Builder_Extra_169:Builder.Extra Try.prog Try.lays169_ren:= {
 sizeBuilder:=by kernel_rfl
 liesBuilder:=by kernel_rfl
 t5:=Try.underlying5
 a5:=Try.isAgg5
 z5:=Try.sizeOf5
 v5:=Try.zeroValue5
 infoByte:=by kernel_rfl
 cellsByte:=by kernel_rfl
 sizeByte:=by kernel_rfl
 neB5:=by decide }
def Try.lays156_ren:Go.Shelf.Ren:=⟨fun|156=>44|165=>70|166=>37|169=>39|240=>67|241=>96|276=>92|277=>111|n=>n,fun|31=>84|9=>9|3=>3|4=>4|0=>0|20=>20|72=>83|76=>91|70=>80|37=>81|75=>89|127=>118|164=>138|5=>5|80=>94|n=>n,fun|n=>n⟩
theorem Try.lays156:Go.Proofs.Lays.n156 Try.prog Try.lays156_ren:= {
 mixed:=by kernel_rfl
 f156:=Try.func44.trans (congrArg some (by kernel_rfl))
 f165:=Try.func70.trans (congrArg some (by kernel_rfl))
 f166:=Try.func37.trans (congrArg some (by kernel_rfl))
 f169:=Try.func39.trans (congrArg some (by kernel_rfl))
 f240:=Try.func67.trans (congrArg some (by kernel_rfl))
 f241:=Try.func96.trans (congrArg some (by kernel_rfl))
 f276:=Try.func92.trans (congrArg some (by kernel_rfl))
 f277:=Try.func111.trans (congrArg some (by kernel_rfl))
 t0:=Try.underlying0
 a0:=Try.isAgg0
 z0:=Try.sizeOf0
 v0:=Try.zeroValue0
 t3:=Try.underlying3
 a3:=Try.isAgg3
 z3:=Try.sizeOf3
 v3:=Try.zeroValue3
 t4:=Try.underlying4
 a4:=Try.isAgg4
 z4:=Try.sizeOf4
 v4:=Try.zeroValue4
 t9:=Try.underlying9
 a9:=Try.isAgg9
 z9:=Try.sizeOf9
 v9:=Try.zeroValue9
 t20:=Try.underlying20
 a20:=Try.isAgg20
 z20:=Try.sizeOf20
 v20:=Try.zeroValue20
 t31:=Try.underlying84
 a31:=Try.isAgg84
 z31:=Try.sizeOf84
 v31:=Try.zeroValue84
 t37:=Try.underlying81
 a37:=Try.isAgg81
 z37:=Try.sizeOf81
 v37:=Try.zeroValue81
 t70:=Try.underlying80
 a70:=Try.isAgg80
 z70:=Try.sizeOf80
 v70:=Try.zeroValue80
 t72:=Try.underlying83
 a72:=Try.isAgg83
 z72:=Try.sizeOf83
 v72:=Try.zeroValue83
 t75:=Try.underlying89
 a75:=Try.isAgg89
 z75:=Try.sizeOf89
 v75:=Try.zeroValue89
 t76:=Try.underlying91
 a76:=Try.isAgg91
 z76:=Try.sizeOf91
 v76:=Try.zeroValue91
 t127:=Try.underlying118
 a127:=Try.isAgg118
 z127:=Try.sizeOf118
 v127:=Try.zeroValue118
 t164:=Try.underlying138
 a164:=Try.isAgg138
 z164:=Try.sizeOf138
 v164:=Try.zeroValue138 }
theorem Try.Builder_Extra_156:Builder.Extra Try.prog Try.lays156_ren:= {
 sizeBuilder:=by kernel_rfl
 liesBuilder:=by kernel_rfl
 t5:=Try.underlying5
 a5:=Try.isAgg5
 z5:=Try.sizeOf5
 v5:=Try.zeroValue5
 infoByte:=by kernel_rfl
 cellsByte:=by kernel_rfl
 sizeByte:=by kernel_rfl
 neB5:=by decide }
theorem Try.strings_Join_none (a:Option Addr) (c:Nat) (sep:ByteArray) (w:World):
  Calls Try.prog 44 #[.slice a 0 c,.string sep] w fun e w'=>e= .returned (.string ⟨#[]⟩)∧w'=w:=Any.strings_Join_none Try.lays156 Try.Builder_Extra_156 a c sep w
theorem Try.strings_Join (bk o c:Nat) (xs:List ByteArray) (sep:ByteArray) (w:World) (hcells:∀ (j:Nat) x,xs[j]?=some x→w.cell? ⟨bk,o+j,none⟩=some (.string x)) (hbk:bk<w.heap.size) (hN:xs.length≤140737488355328) (hcap:xs.length≤c) (hlen:(Lib.join (xs.map (·.data.toList)) sep.data.toList).length≤140737488355328):
  Calls Try.prog 44 #[.slice (some ⟨bk,o,none⟩) xs.length c,.string sep] w fun e w'=>e= .returned (.string ⟨(Lib.join (xs.map (·.data.toList)) sep.data.toList).toArray⟩)∧Below w.heap.size w w':=Any.strings_Join Try.lays156 Try.Builder_Extra_156 bk o c xs sep w hcells hbk hN hcap hlen
theorem Try.Builder_Len_f (B b:Nat) (bs:List Value) (w:World) (h:Lib.IsBuilderF 83 5 B b bs w):
  Calls Try.prog 38 #[.pointer (some ⟨b,0,none⟩)] w fun e w'=>e= .returned (.int .i64 bs.length)∧w'=w:=Any.Builder_Len_f Try.lays170 B b bs w h
theorem Try.Builder_String_any_f (B b:Nat) (l:List UInt8) (w:World) (h:Lib.IsBuilderF 83 5 B b (Lib.byteCells l) w) (hBw:B≤w.heap.size):
  Calls Try.prog 39 #[.pointer (some ⟨b,0,none⟩)] w fun e w'=>e= .returned (.string ⟨l.toArray⟩)∧(Lib.IsBuilderF 83 5 B b (Lib.byteCells l) w'∧Below B w w'):=Any.Builder_String_any_f Try.lays169 Try.Builder_Extra_169 B b l w h hBw
def Try.lays138_ren:Go.Shelf.Ren:=⟨fun|138=>28|195=>60|218=>61|143=>62|219=>84|217=>107|225=>108|224=>109|267=>110|266=>115|314=>116|n=>n,fun|9=>9|3=>3|4=>4|5=>5|0=>0|46=>142|146=>135|51=>134|n=>n,fun|1=>0|n=>n⟩
theorem Try.lays138:Go.Proofs.Lays.n138 Try.prog Try.lays138_ren:= {
 mixed:=by kernel_rfl
 f138:=Try.func28.trans (congrArg some (by kernel_rfl))
 f143:=Try.func62.trans (congrArg some (by kernel_rfl))
 f195:=Try.func60.trans (congrArg some (by kernel_rfl))
 f217:=Try.func107.trans (congrArg some (by kernel_rfl))
 f218:=Try.func61.trans (congrArg some (by kernel_rfl))
 f219:=Try.func84.trans (congrArg some (by kernel_rfl))
 f224:=Try.func109.trans (congrArg some (by kernel_rfl))
 f225:=Try.func108.trans (congrArg some (by kernel_rfl))
 f266:=Try.func115.trans (congrArg some (by kernel_rfl))
 f267:=Try.func110.trans (congrArg some (by kernel_rfl))
 f314:=Try.func116.trans (congrArg some (by kernel_rfl))
 t0:=Try.underlying0
 a0:=Try.isAgg0
 z0:=Try.sizeOf0
 v0:=Try.zeroValue0
 t3:=Try.underlying3
 a3:=Try.isAgg3
 z3:=Try.sizeOf3
 v3:=Try.zeroValue3
 t4:=Try.underlying4
 a4:=Try.isAgg4
 z4:=Try.sizeOf4
 v4:=Try.zeroValue4
 t5:=Try.underlying5
 a5:=Try.isAgg5
 z5:=Try.sizeOf5
 v5:=Try.zeroValue5
 t9:=Try.underlying9
 a9:=Try.isAgg9
 z9:=Try.sizeOf9
 v9:=Try.zeroValue9
 t46:=Try.underlying142
 a46:=Try.isAgg142
 z46:=Try.sizeOf142
 v46:=Try.zeroValue142
 t51:=Try.underlying134
 a51:=Try.isAgg134
 z51:=Try.sizeOf134
 v51:=Try.zeroValue134
 t146:=Try.underlying135
 a146:=Try.isAgg135
 z146:=Try.sizeOf135
 v146:=Try.zeroValue135
 g1:=by kernel_rfl }
theorem Try.strings_Count_one (s:ByteArray) (c:UInt8) (w:World):
  Calls Try.prog 28 #[.string s,.string ⟨#[c]⟩] w fun e w'=>e= .returned (.int .i64 (Lib.countByte s.data.toList c))∧w'=w:=Any.strings_Count_one Try.lays138 s c w
def Try.lays148_ren:Go.Shelf.Ren:=⟨fun|148=>29|222=>63|223=>64|269=>85|n=>n,fun|9=>9|3=>3|4=>4|5=>5|146=>135|51=>134|46=>142|n=>n,fun|n=>n⟩
theorem Try.lays148:Go.Proofs.Lays.n148 Try.prog Try.lays148_ren:= {
 mixed:=by kernel_rfl
 f148:=Try.func29.trans (congrArg some (by kernel_rfl))
 f222:=Try.func63.trans (congrArg some (by kernel_rfl))
 f223:=Try.func64.trans (congrArg some (by kernel_rfl))
 f269:=Try.func85.trans (congrArg some (by kernel_rfl))
 t3:=Try.underlying3
 a3:=Try.isAgg3
 z3:=Try.sizeOf3
 v3:=Try.zeroValue3
 t4:=Try.underlying4
 a4:=Try.isAgg4
 z4:=Try.sizeOf4
 v4:=Try.zeroValue4
 t5:=Try.underlying5
 a5:=Try.isAgg5
 z5:=Try.sizeOf5
 v5:=Try.zeroValue5
 t9:=Try.underlying9
 a9:=Try.isAgg9
 z9:=Try.sizeOf9
 v9:=Try.zeroValue9
 t46:=Try.underlying142
 a46:=Try.isAgg142
 z46:=Try.sizeOf142
 v46:=Try.zeroValue142
 t51:=Try.underlying134
 a51:=Try.isAgg134
 z51:=Try.sizeOf134
 v51:=Try.zeroValue134
 t146:=Try.underlying135
 a146:=Try.isAgg135
 z146:=Try.sizeOf135
 v146:=Try.zeroValue135 }
theorem Try.strings_LastIndex_one (s sub:ByteArray) (h1:sub.size=1) (hs:s.size<4611686018427387904) (w:World):
  Calls Try.prog 29 #[.string s,.string sub] w fun e w'=>e= .returned (.int .i64 (Lib.lastIndexByte s ((sub[0]'(by omega)).toNat:Int)))∧w'=w:=Any.strings_LastIndex_one Try.lays148 s sub h1 hs w
def Try.lays112_ren:Go.Shelf.Ren:=⟨fun|112=>43|n=>n,fun|28=>97|3=>3|4=>4|0=>0|n=>n,fun|n=>n⟩
theorem Try.lays112:Go.Proofs.Lays.n112 Try.prog Try.lays112_ren:= {
 mixed:=by kernel_rfl
 f112:=Try.func43.trans (congrArg some (by kernel_rfl))
 t0:=Try.underlying0
 a0:=Try.isAgg0
 z0:=Try.sizeOf0
 v0:=Try.zeroValue0
 t3:=Try.underlying3
 a3:=Try.isAgg3
 z3:=Try.sizeOf3
 v3:=Try.zeroValue3
 t4:=Try.underlying4
 a4:=Try.isAgg4
 z4:=Try.sizeOf4
 v4:=Try.zeroValue4
 t28:=Try.underlying97
 a28:=Try.isAgg97
 z28:=Try.sizeOf97
 v28:=Try.zeroValue97 }
end Go.Proofs
end
