/-
  The library's sort and its Compact at []int64, laid over this program: the kit's proved contracts apply to functions 104 and 105 (impl.LabelsOf: 50).
-/
import Derived.Test.YtaakkdcpkllgoaaOpen
import Derived.Shelf.SortM.Plain
import Derived.Shelf.SortM.SortNone
import Derived.Shelf.SlicesG.Cells
import Derived.Sort.OwnSortedInts
namespace Go.Proofs.Ytaakkdcpkllgoaa
open Go.Shelf Go.RowKit

def laysSort_ren : Go.Shelf.Ren := ⟨fun | 5 => 104 | 8 => 111 | 7 => 110 | 19 => 122 | 20 => 123 | 10 => 113 | 11 => 114 | 12 => 115 | 13 => 116 | 14 => 117 | 15 => 118 | 16 => 119 | 17 => 120 | 18 => 121 | 30 => 124 | 31 => 125 | 32 => 126 | 33 => 127 | 34 => 128 | 35 => 129 | 40 => 130 | n => n, fun | 23 => 22 | 25 => 2 | 3 => 3 | 32 => 105 | 22 => 22 | 0 => 0 | 44 => 116 | 46 => 118 | 4 => 4 | 36 => 109 | 35 => 108 | 41 => 113 | 5 => 5 | 9 => 9 | 53 => 119 | 57 => 123 | 63 => 125 | 64 => 126 | n => n, fun n => n⟩
theorem laysSort : SlLaysM.n5 Try.prog laysSort_ren := {
  mixed := by kernel_rfl,
  f5 := ⟨Try.f104.name, by decide, Try.func104.trans (congrArg some (by kernel_rfl))⟩,
  f7 := ⟨Try.f110.name, by decide, Try.func110.trans (congrArg some (by kernel_rfl))⟩,
  f8 := Try.func111.trans (congrArg some (by kernel_rfl)),
  f10 := ⟨Try.f113.name, by decide, Try.func113.trans (congrArg some (by kernel_rfl))⟩,
  f11 := ⟨Try.f114.name, by decide, Try.func114.trans (congrArg some (by kernel_rfl))⟩,
  f12 := ⟨Try.f115.name, by decide, Try.func115.trans (congrArg some (by kernel_rfl))⟩,
  f13 := ⟨Try.f116.name, by decide, Try.func116.trans (congrArg some (by kernel_rfl))⟩,
  f14 := ⟨Try.f117.name, by decide, Try.func117.trans (congrArg some (by kernel_rfl))⟩,
  f15 := ⟨Try.f118.name, by decide, Try.func118.trans (congrArg some (by kernel_rfl))⟩,
  f16 := ⟨Try.f119.name, by decide, Try.func119.trans (congrArg some (by kernel_rfl))⟩,
  f17 := ⟨Try.f120.name, by decide, Try.func120.trans (congrArg some (by kernel_rfl))⟩,
  f18 := ⟨Try.f121.name, by decide, Try.func121.trans (congrArg some (by kernel_rfl))⟩,
  f19 := Try.func122.trans (congrArg some (by kernel_rfl)),
  f20 := Try.func123.trans (congrArg some (by kernel_rfl)),
  f30 := ⟨Try.f124.name, by decide, Try.func124.trans (congrArg some (by kernel_rfl))⟩,
  f31 := Try.func125.trans (congrArg some (by kernel_rfl)),
  f32 := Try.func126.trans (congrArg some (by kernel_rfl)),
  f33 := ⟨Try.f127.name, by decide, Try.func127.trans (congrArg some (by kernel_rfl))⟩,
  f34 := ⟨Try.f128.name, by decide, Try.func128.trans (congrArg some (by kernel_rfl))⟩,
  f35 := ⟨Try.f129.name, by decide, Try.func129.trans (congrArg some (by kernel_rfl))⟩,
  f40 := ⟨Try.f130.name, by decide, Try.func130.trans (congrArg some (by kernel_rfl))⟩,
  t0 := Try.underlying0,
  a0 := Try.isAgg0,
  z0 := Try.sizeOf0,
  v0 := Try.zeroValue0,
  t3 := Try.underlying3,
  a3 := Try.isAgg3,
  z3 := Try.sizeOf3,
  v3 := Try.zeroValue3,
  t4 := Try.underlying4,
  a4 := Try.isAgg4,
  z4 := Try.sizeOf4,
  v4 := Try.zeroValue4,
  t5 := Try.underlying5,
  a5 := Try.isAgg5,
  z5 := Try.sizeOf5,
  v5 := Try.zeroValue5,
  t9 := Try.underlying9,
  a9 := Try.isAgg9,
  z9 := Try.sizeOf9,
  v9 := Try.zeroValue9,
  t22 := Try.underlying22,
  a22 := Try.isAgg22,
  z22 := Try.sizeOf22,
  v22 := Try.zeroValue22,
  t23 := Try.underlying22,
  a23 := Try.isAgg22,
  z23 := Try.sizeOf22,
  v23 := Try.zeroValue22,
  t25 := Try.underlying2,
  a25 := Try.isAgg2,
  z25 := Try.sizeOf2,
  v25 := Try.zeroValue2,
  t32 := Try.underlying105,
  a32 := Try.isAgg105,
  z32 := Try.sizeOf105,
  v32 := Try.zeroValue105,
  t35 := Try.underlying108,
  a35 := Try.isAgg108,
  z35 := Try.sizeOf108,
  v35 := Try.zeroValue108,
  t36 := Try.underlying109,
  a36 := Try.isAgg109,
  z36 := Try.sizeOf109,
  v36 := Try.zeroValue109,
  t41 := Try.underlying113,
  a41 := Try.isAgg113,
  z41 := Try.sizeOf113,
  v41 := Try.zeroValue113,
  t44 := Try.underlying116,
  a44 := Try.isAgg116,
  z44 := Try.sizeOf116,
  v44 := Try.zeroValue116,
  t46 := Try.underlying118,
  a46 := Try.isAgg118,
  z46 := Try.sizeOf118,
  v46 := Try.zeroValue118,
  t53 := Try.underlying119,
  a53 := Try.isAgg119,
  z53 := Try.sizeOf119,
  v53 := Try.zeroValue119,
  t57 := Try.underlying123,
  a57 := Try.isAgg123,
  z57 := Try.sizeOf123,
  v57 := Try.zeroValue123,
  t63 := Try.underlying125,
  a63 := Try.isAgg125,
  z63 := Try.sizeOf125,
  v63 := Try.zeroValue125,
  t64 := Try.underlying126,
  a64 := Try.isAgg126,
  z64 := Try.sizeOf126,
  v64 := Try.zeroValue126
}

def laysCompact_ren : Go.Shelf.Ren := ⟨fun | 43 => 105 | n => n, fun | 22 => 22 | 23 => 2 | 3 => 3 | 4 => 4 | 0 => 0 | n => n, fun n => n⟩
theorem laysCompact : SlLaysN.n43 Try.prog laysCompact_ren := {
  mixed := by kernel_rfl,
  f43 := ⟨Try.f105.name, by decide, Try.func105.trans (congrArg some (by kernel_rfl))⟩,
  t0 := Try.underlying0,
  a0 := Try.isAgg0,
  z0 := Try.sizeOf0,
  v0 := Try.zeroValue0,
  t3 := Try.underlying3,
  a3 := Try.isAgg3,
  z3 := Try.sizeOf3,
  v3 := Try.zeroValue3,
  t4 := Try.underlying4,
  a4 := Try.isAgg4,
  z4 := Try.sizeOf4,
  v4 := Try.zeroValue4,
  t22 := Try.underlying22,
  a22 := Try.isAgg22,
  z22 := Try.sizeOf22,
  v22 := Try.zeroValue22,
  t23 := Try.underlying2,
  a23 := Try.isAgg2,
  z23 := Try.sizeOf2,
  v23 := Try.zeroValue2,
  i23 := by kernel_rfl
}

theorem sort_any (blk off cap : Nat) (zs : List Int) (w : World) (hH : Sort.Holds (Value.int .i64) w blk off zs.toArray) (hblk : blk < w.heap.size) (hsz : zs.length < 4611686018427387904) :
    Calls Try.prog 104 #[.slice (some ⟨blk, off, none⟩) zs.length cap] w fun e w' =>
      e = .returned (.tuple #[]) ∧ ∃ n os, w' = Sort.grow (Sort.putRow (Value.int .i64) (Sort.ahead w n) blk off (zs.mergeSort fun x y => decide (x ≤ y)).toArray) os :=
  AnyM.slices_Sort_int laysSort blk off cap zs w hH hblk hsz
theorem compact_any (blk off cap : Nat) (zs : List Int) (w : World) (hH : Sort.Holds (Value.int .i64) w blk off zs.toArray) (hsz : zs.length ≤ 9223372036854775807) (hcap : zs.length ≤ cap) :
    Calls Try.prog 105 #[.slice (some ⟨blk, off, none⟩) zs.length cap] w fun e w' => e = .returned (.slice (some ⟨blk, off, none⟩) (Lib.compact zs).length cap) ∧ ∃ q, w' = Sort.putRow (Value.int .i64) (Sort.ahead w q) blk off (Lib.compact zs ++ List.replicate (zs.length - (Lib.compact zs).length) 0).toArray :=
  AnyG.slices_Compact_int laysCompact blk off cap zs w hH hsz hcap
end Go.Proofs.Ytaakkdcpkllgoaa
