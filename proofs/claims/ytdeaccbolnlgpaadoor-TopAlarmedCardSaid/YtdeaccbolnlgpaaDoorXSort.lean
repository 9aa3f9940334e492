import Derived.Shelf.Sort.Plain
import Derived.Shelf.Slices.In.SortNone
import Derived.Lib.SlKeysI
import Derived.Test.YtdeaccbolnlgpaaDoorProg
namespace Go.Proofs.YtdeaccbolnlgpaaDoor.X
open Go.RowKit Go.Maps Go.Sort Go.Shelf
def sortLays_ren : Go.Shelf.Ren := ⟨fun | 189 => 109 | 125 => 113 | 257 => 112 | 128 => 123 | 129 => 124 | 294 => 114 | 295 => 115 | 296 => 116 | 297 => 117 | 298 => 118 | 299 => 119 | 216 => 120 | 300 => 121 | 301 => 122 | 328 => 125 | 329 => 126 | 330 => 127 | 331 => 128 | 332 => 129 | 215 => 130 | 343 => 131 | n => n, fun | 28 => 67 | 3 => 3 | 46 => 158 | 0 => 0 | 51 => 75 | 53 => 170 | 4 => 4 | 183 => 161 | 182 => 160 | 131 => 166 | 5 => 5 | 9 => 9 | 218 => 171 | 222 => 175 | 228 => 177 | 229 => 55 | n => n, fun | n => n⟩
theorem sortLays : Go.Proofs.Lays.n189 Tryd.prog sortLays_ren := {
  mixed := by kernel_rfl
  f125 := Tryd.func113.trans (congrArg some (by kernel_rfl))
  f128 := Tryd.func123.trans (congrArg some (by kernel_rfl))
  f129 := Tryd.func124.trans (congrArg some (by kernel_rfl))
  f189 := Tryd.func109.trans (congrArg some (by kernel_rfl))
  f215 := Tryd.func130.trans (congrArg some (by kernel_rfl))
  f216 := Tryd.func120.trans (congrArg some (by kernel_rfl))
  f257 := Tryd.func112.trans (congrArg some (by kernel_rfl))
  f294 := Tryd.func114.trans (congrArg some (by kernel_rfl))
  f295 := Tryd.func115.trans (congrArg some (by kernel_rfl))
  f296 := Tryd.func116.trans (congrArg some (by kernel_rfl))
  f297 := Tryd.func117.trans (congrArg some (by kernel_rfl))
  f298 := Tryd.func118.trans (congrArg some (by kernel_rfl))
  f299 := Tryd.func119.trans (congrArg some (by kernel_rfl))
  f300 := Tryd.func121.trans (congrArg some (by kernel_rfl))
  f301 := Tryd.func122.trans (congrArg some (by kernel_rfl))
  f328 := Tryd.func125.trans (congrArg some (by kernel_rfl))
  f329 := Tryd.func126.trans (congrArg some (by kernel_rfl))
  f330 := Tryd.func127.trans (congrArg some (by kernel_rfl))
  f331 := Tryd.func128.trans (congrArg some (by kernel_rfl))
  f332 := Tryd.func129.trans (congrArg some (by kernel_rfl))
  f343 := Tryd.func131.trans (congrArg some (by kernel_rfl))
  t0 := Tryd.underlying0
  a0 := Tryd.isAgg0
  z0 := Tryd.sizeOf0
  v0 := Tryd.zeroValue0
  t3 := Tryd.underlying3
  a3 := Tryd.isAgg3
  z3 := Tryd.sizeOf3
  v3 := Tryd.zeroValue3
  t4 := Tryd.underlying4
  a4 := Tryd.isAgg4
  z4 := Tryd.sizeOf4
  v4 := Tryd.zeroValue4
  t5 := Tryd.underlying5
  a5 := Tryd.isAgg5
  z5 := Tryd.sizeOf5
  v5 := Tryd.zeroValue5
  t9 := Tryd.underlying9
  a9 := Tryd.isAgg9
  z9 := Tryd.sizeOf9
  v9 := Tryd.zeroValue9
  t28 := Tryd.underlying67
  a28 := Tryd.isAgg67
  z28 := Tryd.sizeOf67
  v28 := Tryd.zeroValue67
  t46 := Tryd.underlying158
  a46 := Tryd.isAgg158
  z46 := Tryd.sizeOf158
  v46 := Tryd.zeroValue158
  t51 := Tryd.underlying75
  a51 := Tryd.isAgg75
  z51 := Tryd.sizeOf75
  v51 := Tryd.zeroValue75
  t53 := Tryd.underlying170
  a53 := Tryd.isAgg170
  z53 := Tryd.sizeOf170
  v53 := Tryd.zeroValue170
  t131 := Tryd.underlying166
  a131 := Tryd.isAgg166
  z131 := Tryd.sizeOf166
  v131 := Tryd.zeroValue166
  t182 := Tryd.underlying160
  a182 := Tryd.isAgg160
  z182 := Tryd.sizeOf160
  v182 := Tryd.zeroValue160
  t183 := Tryd.underlying161
  a183 := Tryd.isAgg161
  z183 := Tryd.sizeOf161
  v183 := Tryd.zeroValue161
  t218 := Tryd.underlying171
  a218 := Tryd.isAgg171
  z218 := Tryd.sizeOf171
  v218 := Tryd.zeroValue171
  t222 := Tryd.underlying175
  a222 := Tryd.isAgg175
  z222 := Tryd.sizeOf175
  v222 := Tryd.zeroValue175
  t228 := Tryd.underlying177
  a228 := Tryd.isAgg177
  z228 := Tryd.sizeOf177
  v228 := Tryd.zeroValue177
  t229 := Tryd.underlying55
  a229 := Tryd.isAgg55
  z229 := Tryd.sizeOf55
  v229 := Tryd.zeroValue55 }
theorem sort109 (blk off cap : Nat) (zs : List Int) (w : World) (hH : Holds (Value.int .i64) w blk off zs.toArray) (hblk : blk < w.heap.size) (hsz : zs.length < 4611686018427387904) :
    Calls Tryd.prog 109 #[.slice (some ⟨blk, off, none⟩) zs.length cap] w fun e w' =>
      e = .returned (.tuple #[]) ∧ ∃ n os, w' = grow (putRow (Value.int .i64) (Sort.ahead w n) blk off (zs.mergeSort fun x y => decide (x ≤ y)).toArray) os :=
  Any.slices_Sort_int sortLays blk off cap zs w hH hblk hsz
theorem sort109_none (p : Option Addr) (cap : Nat) (w : World) :
    Calls Tryd.prog 109 #[.slice p 0 cap] w fun e w' => e = .returned (.tuple #[]) ∧ w' = w :=
  Any.slices_Sort_int_none sortLays p cap w
end Go.Proofs.YtdeaccbolnlgpaaDoor.X
