/-
  The walk through the outbox's code: what its functions do to memory, part OnS. Nothing is asked.
-/
import Derived.Test.YtikdcdccpbnaeaaAg4
import Derived.Shelf.SortM.Plain
import Derived.Shelf.SortM.SortNone
import Derived.Test.YtikdcdccpbnaeaaProg
import Derived.KernelRfl
set_option linter.all false
namespace Go.Proofs
open Go.RowKit Go.Maps Go.Sort Go.Shelf
set_option linter.unusedVariables false
def Try.keysA_ren : Go.Shelf.Ren := ⟨fun | 10 => 22 | n => n, fun | 33 => 58 | 23 => 43 | 0 => 0 | 4 => 4 | 26 => 3 | 3 => 9 | n => n, fun | n => n⟩
theorem Try.keysA : Go.Proofs.SlLaysZI.n10 Try.prog Try.keysA_ren := {
  mixed := by kernel_rfl,
  f10 := ⟨Try.f22.name, by decide, Try.func22.trans (congrArg some (by kernel_rfl))⟩,
  t0 := Try.underlying0,
  a0 := Try.isAgg0,
  z0 := Try.sizeOf0,
  v0 := Try.zeroValue0,
  t4 := Try.underlying4,
  a4 := Try.isAgg4,
  z4 := Try.sizeOf4,
  v4 := Try.zeroValue4,
  t23 := Try.underlying43,
  a23 := Try.isAgg43,
  z23 := Try.sizeOf43,
  v23 := Try.zeroValue43,
  t26 := Try.underlying3,
  a26 := Try.isAgg3,
  z26 := Try.sizeOf3,
  v26 := Try.zeroValue3,
  t33 := Try.underlying58,
  a33 := Try.isAgg58,
  z33 := Try.sizeOf58,
  v33 := Try.zeroValue58 }
def Try.sortedA_ren : Go.Shelf.Ren := ⟨fun | 6 => 16 | 8 => 20 | 9 => 21 | 11 => 23 | 13 => 25 | 12 => 24 | 23 => 35 | 24 => 36 | 14 => 26 | 15 => 27 | 16 => 28 | 17 => 29 | 18 => 30 | 19 => 31 | 20 => 32 | 21 => 33 | 22 => 34 | 25 => 37 | 26 => 38 | 27 => 39 | 28 => 40 | 29 => 41 | 30 => 42 | 31 => 43 | n => n, fun | 26 => 3 | 28 => 54 | 24 => 51 | 0 => 0 | 3 => 3 | 37 => 62 | 48 => 73 | 50 => 75 | 4 => 4 | 40 => 65 | 39 => 64 | 45 => 70 | 5 => 5 | 9 => 9 | 51 => 76 | 55 => 80 | 57 => 82 | 58 => 83 | 33 => 58 | n => n, fun | n => n⟩
theorem Try.sortedA : Go.Proofs.SlLaysZI.n6 Try.prog Try.sortedA_ren := {
  mixed := by kernel_rfl,
  f6 := ⟨Try.f16.name, by decide, Try.func16.trans (congrArg some (by kernel_rfl))⟩,
  f8 := ⟨Try.f20.name, by decide, Try.func20.trans (congrArg some (by kernel_rfl))⟩,
  f11 := ⟨Try.f23.name, by decide, Try.func23.trans (congrArg some (by kernel_rfl))⟩,
  t0 := Try.underlying0,
  a0 := Try.isAgg0,
  z0 := Try.sizeOf0,
  v0 := Try.zeroValue0,
  t24 := Try.underlying51,
  a24 := Try.isAgg51,
  z24 := Try.sizeOf51,
  v24 := Try.zeroValue51,
  t26 := Try.underlying3,
  a26 := Try.isAgg3,
  z26 := Try.sizeOf3,
  v26 := Try.zeroValue3,
  t28 := Try.underlying54,
  a28 := Try.isAgg54,
  z28 := Try.sizeOf54,
  v28 := Try.zeroValue54,
  i26 := by kernel_rfl }
def Try.sortA_ren : Go.Shelf.Ren := ⟨fun | 5 => 21 | 8 => 25 | 7 => 24 | 19 => 35 | 20 => 36 | 10 => 26 | 11 => 27 | 12 => 28 | 13 => 29 | 14 => 30 | 15 => 31 | 16 => 32 | 17 => 33 | 18 => 34 | 30 => 37 | 31 => 38 | 32 => 39 | 33 => 40 | 34 => 41 | 35 => 42 | 40 => 43 | n => n, fun | 23 => 51 | 25 => 3 | 3 => 3 | 32 => 62 | 22 => 51 | 0 => 0 | 44 => 73 | 46 => 75 | 4 => 4 | 36 => 65 | 35 => 64 | 41 => 70 | 5 => 5 | 9 => 9 | 53 => 76 | 57 => 80 | 63 => 82 | 64 => 83 | n => n, fun | n => n⟩
theorem Try.sortA : Go.Proofs.SlLaysM.n5 Try.prog Try.sortA_ren := {
  mixed := by kernel_rfl,
  f5 := ⟨Try.f21.name, by decide, Try.func21.trans (congrArg some (by kernel_rfl))⟩,
  f7 := ⟨Try.f24.name, by decide, Try.func24.trans (congrArg some (by kernel_rfl))⟩,
  f8 := Try.func25.trans (congrArg some (by kernel_rfl)),
  f10 := ⟨Try.f26.name, by decide, Try.func26.trans (congrArg some (by kernel_rfl))⟩,
  f11 := ⟨Try.f27.name, by decide, Try.func27.trans (congrArg some (by kernel_rfl))⟩,
  f12 := ⟨Try.f28.name, by decide, Try.func28.trans (congrArg some (by kernel_rfl))⟩,
  f13 := ⟨Try.f29.name, by decide, Try.func29.trans (congrArg some (by kernel_rfl))⟩,
  f14 := ⟨Try.f30.name, by decide, Try.func30.trans (congrArg some (by kernel_rfl))⟩,
  f15 := ⟨Try.f31.name, by decide, Try.func31.trans (congrArg some (by kernel_rfl))⟩,
  f16 := ⟨Try.f32.name, by decide, Try.func32.trans (congrArg some (by kernel_rfl))⟩,
  f17 := ⟨Try.f33.name, by decide, Try.func33.trans (congrArg some (by kernel_rfl))⟩,
  f18 := ⟨Try.f34.name, by decide, Try.func34.trans (congrArg some (by kernel_rfl))⟩,
  f19 := Try.func35.trans (congrArg some (by kernel_rfl)),
  f20 := Try.func36.trans (congrArg some (by kernel_rfl)),
  f30 := ⟨Try.f37.name, by decide, Try.func37.trans (congrArg some (by kernel_rfl))⟩,
  f31 := Try.func38.trans (congrArg some (by kernel_rfl)),
  f32 := Try.func39.trans (congrArg some (by kernel_rfl)),
  f33 := ⟨Try.f40.name, by decide, Try.func40.trans (congrArg some (by kernel_rfl))⟩,
  f34 := ⟨Try.f41.name, by decide, Try.func41.trans (congrArg some (by kernel_rfl))⟩,
  f35 := ⟨Try.f42.name, by decide, Try.func42.trans (congrArg some (by kernel_rfl))⟩,
  f40 := ⟨Try.f43.name, by decide, Try.func43.trans (congrArg some (by kernel_rfl))⟩,
  t0 := Try.underlying0,
  a0 := Try.isAgg0,
  z0 := Try.sizeOf0,
  v0 := Try.zeroValue0,
  t3 := Try.underlying3,
  a3 := Try.isAgg3,
  z3 := Try.sizeOf3,
  v3 := Try.zeroValue3,
  t4 := Try.underlying4,
  a4 := Try.isAgg4,
  z4 := Try.sizeOf4,
  v4 := Try.zeroValue4,
  t5 := Try.underlying5,
  a5 := Try.isAgg5,
  z5 := Try.sizeOf5,
  v5 := Try.zeroValue5,
  t9 := Try.underlying9,
  a9 := Try.isAgg9,
  z9 := Try.sizeOf9,
  v9 := Try.zeroValue9,
  t22 := Try.underlying51,
  a22 := Try.isAgg51,
  z22 := Try.sizeOf51,
  v22 := Try.zeroValue51,
  t23 := Try.underlying51,
  a23 := Try.isAgg51,
  z23 := Try.sizeOf51,
  v23 := Try.zeroValue51,
  t25 := Try.underlying3,
  a25 := Try.isAgg3,
  z25 := Try.sizeOf3,
  v25 := Try.zeroValue3,
  t32 := Try.underlying62,
  a32 := Try.isAgg62,
  z32 := Try.sizeOf62,
  v32 := Try.zeroValue62,
  t35 := Try.underlying64,
  a35 := Try.isAgg64,
  z35 := Try.sizeOf64,
  v35 := Try.zeroValue64,
  t36 := Try.underlying65,
  a36 := Try.isAgg65,
  z36 := Try.sizeOf65,
  v36 := Try.zeroValue65,
  t41 := Try.underlying70,
  a41 := Try.isAgg70,
  z41 := Try.sizeOf70,
  v41 := Try.zeroValue70,
  t44 := Try.underlying73,
  a44 := Try.isAgg73,
  z44 := Try.sizeOf73,
  v44 := Try.zeroValue73,
  t46 := Try.underlying75,
  a46 := Try.isAgg75,
  z46 := Try.sizeOf75,
  v46 := Try.zeroValue75,
  t53 := Try.underlying76,
  a53 := Try.isAgg76,
  z53 := Try.sizeOf76,
  v53 := Try.zeroValue76,
  t57 := Try.underlying80,
  a57 := Try.isAgg80,
  z57 := Try.sizeOf80,
  v57 := Try.zeroValue80,
  t63 := Try.underlying82,
  a63 := Try.isAgg82,
  z63 := Try.sizeOf82,
  v63 := Try.zeroValue82,
  t64 := Try.underlying83,
  a64 := Try.isAgg83,
  z64 := Try.sizeOf83,
  v64 := Try.zeroValue83 }
theorem Try.sortsA (m : Nat) : AnyZI.SortsIn Try.prog Try.sortedA_ren Fence.wide m :=
  ⟨fun blk off cap ss W hH hblk hsz => callsIn_wide.2 (AnyM.slices_Sort_int Try.sortA blk off cap ss W hH hblk hsz),
   fun p cap W => callsIn_wide.2 (AnyM.slices_Sort_int_none Try.sortA p cap W)⟩
end Go.Proofs
namespace Go.Proofs.Ytikdcdccpbnaeaa
open Go Go.Ag Go.Proofs Go.RowKit Go.Maps Go.Sort Go.Shelf
theorem sortedOk : SortedOk Try.prog 16 22 3 where
  body := ⟨_, Try.func16, by decide, rfl⟩
  int := Try.underlying3
  calls := fun Bm b nn D0 R w hlt hm hown hmax hbytes => by
    refine (callsIn_wide (n := 5)).1 ?_
    have hseq := AnyZI.keys_gives (ρ := Try.keysA_ren) Try.keysA Fence.wide 2 trivial rfl (by omega) Bm b nn D0 w hlt hm hown
    exact AnyZI.sorted_in Try.sortedA Fence.wide 5 trivial trivial trivial trivial rfl (by omega) (Try.sortsA _) (enters_of Try.func21 (by decide) rfl) 22 #[.pointer (some ⟨Bm, 0, none⟩)] trivial (enters_of Try.func22 (by decide) rfl) _ _ hmax hbytes _ hseq
end Go.Proofs.Ytikdcdccpbnaeaa

