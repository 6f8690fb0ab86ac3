/- Contracts of functions of the given program. -/
import Derived.Test.YtbhedbaafflndaaChecked
import Derived.Shelf.Sort.Plain
import Derived.Ground.Names2Prog
import Derived.Shelf.Slices.CompactI
import Derived.Shelf.Slices.In.SortNone
namespace Go.Proofs
open Go.Shelf
def Try.lays189_ren:Go.Shelf.Ren:=⟨fun|189=>13|125=>24|257=>23|128=>40|129=>41|294=>31|295=>32|296=>33|297=>34|298=>35|299=>36|216=>37|300=>38|301=>39|328=>45|329=>46|330=>47|331=>48|332=>49|215=>50|343=>51|n=>n,fun|28=>26|3=>3|46=>53|0=>0|51=>67|53=>69|4=>4|183=>60|182=>59|131=>64|5=>5|9=>9|218=>71|222=>75|228=>77|229=>78|n=>n,fun|n=>n⟩
theorem Try.lays189:Go.Proofs.Lays.n189 Try.prog Try.lays189_ren:={
 mixed:=by kernel_rfl
 f125:=Try.func24.trans (congrArg some (by kernel_rfl))
 f128:=Try.func40.trans (congrArg some (by kernel_rfl))
 f129:=Try.func41.trans (congrArg some (by kernel_rfl))
 f189:=Try.func13.trans (congrArg some (by kernel_rfl))
 f215:=Try.func50.trans (congrArg some (by kernel_rfl))
 f216:=Try.func37.trans (congrArg some (by kernel_rfl))
 f257:=Try.func23.trans (congrArg some (by kernel_rfl))
 f294:=Try.func31.trans (congrArg some (by kernel_rfl))
 f295:=Try.func32.trans (congrArg some (by kernel_rfl))
 f296:=Try.func33.trans (congrArg some (by kernel_rfl))
 f297:=Try.func34.trans (congrArg some (by kernel_rfl))
 f298:=Try.func35.trans (congrArg some (by kernel_rfl))
 f299:=Try.func36.trans (congrArg some (by kernel_rfl))
 f300:=Try.func38.trans (congrArg some (by kernel_rfl))
 f301:=Try.func39.trans (congrArg some (by kernel_rfl))
 f328:=Try.func45.trans (congrArg some (by kernel_rfl))
 f329:=Try.func46.trans (congrArg some (by kernel_rfl))
 f330:=Try.func47.trans (congrArg some (by kernel_rfl))
 f331:=Try.func48.trans (congrArg some (by kernel_rfl))
 f332:=Try.func49.trans (congrArg some (by kernel_rfl))
 f343:=Try.func51.trans (congrArg some (by kernel_rfl))
 t0:=Try.underlying0
 a0:=Try.isAgg0
 z0:=Try.sizeOf0
 v0:=Try.zeroValue0
 t3:=Try.underlying3
 a3:=Try.isAgg3
 z3:=Try.sizeOf3
 v3:=Try.zeroValue3
 t4:=Try.underlying4
 a4:=Try.isAgg4
 z4:=Try.sizeOf4
 v4:=Try.zeroValue4
 t5:=Try.underlying5
 a5:=Try.isAgg5
 z5:=Try.sizeOf5
 v5:=Try.zeroValue5
 t9:=Try.underlying9
 a9:=Try.isAgg9
 z9:=Try.sizeOf9
 v9:=Try.zeroValue9
 t28:=Try.underlying26
 a28:=Try.isAgg26
 z28:=Try.sizeOf26
 v28:=Try.zeroValue26
 t46:=Try.underlying53
 a46:=Try.isAgg53
 z46:=Try.sizeOf53
 v46:=Try.zeroValue53
 t51:=Try.underlying67
 a51:=Try.isAgg67
 z51:=Try.sizeOf67
 v51:=Try.zeroValue67
 t53:=Try.underlying69
 a53:=Try.isAgg69
 z53:=Try.sizeOf69
 v53:=Try.zeroValue69
 t131:=Try.underlying64
 a131:=Try.isAgg64
 z131:=Try.sizeOf64
 v131:=Try.zeroValue64
 t182:=Try.underlying59
 a182:=Try.isAgg59
 z182:=Try.sizeOf59
 v182:=Try.zeroValue59
 t183:=Try.underlying60
 a183:=Try.isAgg60
 z183:=Try.sizeOf60
 v183:=Try.zeroValue60
 t218:=Try.underlying71
 a218:=Try.isAgg71
 z218:=Try.sizeOf71
 v218:=Try.zeroValue71
 t222:=Try.underlying75
 a222:=Try.isAgg75
 z222:=Try.sizeOf75
 v222:=Try.zeroValue75
 t228:=Try.underlying77
 a228:=Try.isAgg77
 z228:=Try.sizeOf77
 v228:=Try.zeroValue77
 t229:=Try.underlying78
 a229:=Try.isAgg78
 z229:=Try.sizeOf78
 v229:=Try.zeroValue78 }
open Go.Sort Go.RowKit in
theorem Try.slices_Sort_int(blk off cap:Nat)(zs:List Int)(w:World)(hH:Holds (Value.int .i64) w blk off zs.toArray)(hblk:blk < w.heap.size)(hsz:zs.length < 4611686018427387904) :
  Calls Try.prog 13 #[.slice (some ⟨blk,off,none⟩) zs.length cap] w fun e w' =>
   e = .returned (.tuple #[])/\∃ n os,w'=grow (putRow (Value.int .i64) (Sort.ahead w n) blk off (zs.mergeSort fun x y=>decide (x<=y)).toArray) os:=Any.slices_Sort_int Try.lays189 blk off cap zs w hH hblk hsz
def Try.laysNm220_ren:Go.Shelf.Ren:=⟨fun|20=>15|n=>n,fun|22=>26|3=>3|4=>4|0=>0|n=>n,fun|n=>n⟩
theorem Try.laysNm220:Go.Proofs.Lays2.n20 Try.prog Try.laysNm220_ren:={
 mixed:=by kernel_rfl
 f20:=Try.func15.trans (congrArg some (by kernel_rfl))
 t0:=Try.underlying0
 a0:=Try.isAgg0
 z0:=Try.sizeOf0
 v0:=Try.zeroValue0
 t3:=Try.underlying3
 a3:=Try.isAgg3
 z3:=Try.sizeOf3
 v3:=Try.zeroValue3
 t4:=Try.underlying4
 a4:=Try.isAgg4
 z4:=Try.sizeOf4
 v4:=Try.zeroValue4
 t22:=Try.underlying26
 a22:=Try.isAgg26
 z22:=Try.sizeOf26
 v22:=Try.zeroValue26
 i3:=by kernel_rfl }
open Go.RowKit Go.Lib Go.Sort in
theorem Try.slices_Compact_int(blk off cap:Nat)(zs:List Int)(w:World)(hH:Holds (Value.int .i64) w blk off zs.toArray)(hsz:zs.length<=9223372036854775807)(hcap:zs.length<=cap) :
  Calls Try.prog 15 #[.slice (some ⟨blk,off,none⟩) zs.length cap] w fun e w'=>e = .returned (.slice (some ⟨blk,off,none⟩) (Lib.compact zs).length cap)/\∃ q,w'=putRow (Value.int .i64) (Sort.ahead w q) blk off (Lib.compact zs++List.replicate (zs.length - (Lib.compact zs).length) 0).toArray:=Any.slices_Compact_int Try.laysNm220 blk off cap zs w hH hsz hcap
open Go.RowKit Go.Lib Go.Sort in
theorem Try.slices_Compact_int_empty(a:Option Addr)(cap:Nat)(w:World) :
  Calls Try.prog 15 #[.slice a 0 cap] w fun e w'=>e = .returned (.slice a 0 cap)/\w'=w:=Any.slices_Compact_int_empty Try.laysNm220 a cap w
open Go.RowKit Go.Sort in
theorem Try.slices_Sort_int_none(p:Option Addr)(cap:Nat)(w:World) :
  Calls Try.prog 13 #[.slice p 0 cap] w fun e w'=>e = .returned (.tuple #[])/\w'=w:=Any.slices_Sort_int_none Try.lays189 p cap w
end Go.Proofs
