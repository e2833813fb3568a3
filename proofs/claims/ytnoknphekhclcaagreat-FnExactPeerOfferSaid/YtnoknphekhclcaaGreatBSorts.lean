/-
 DERIVED: THE SHELF's CONTRACTS AT THIS DUMP, IN PLAIN WORDS (tools/lay-plain.mjs out of 'SortsLayTmpSortsS.lean', which tools/lay-shelf.mjs wrote): THE SAME DECLARATIONS UNDER THE SAME NAMES: 'import', 'namespace', 'open', 'def', 'theorem' AND NOTHING ELSE: no command of the shelf's: FOR A HAND-IN. Each laying: the table of numbers ('.._ren') and one theorem, a field a fact of the dump's own or the kernel's comparison; each contract: ONE APPLICATION.
-/
import Derived.Shelf.SlSortCmp.NoneTotal
import Derived.Shelf.SortM.SortNone
import Derived.Shelf.LaysM
import Derived.Shelf.Strings.Search3
import Derived.Shelf.SortM.Plain
import Derived.Test.YtnoknphekhclcaaGreatBBH
import Derived.Test.YtnoknphekhclcaaGreatProg
set_option autoImplicit false
set_option linter.unusedVariables false
set_option linter.unusedSimpArgs false
namespace Go.Proofs
open Go.Shelf
def Tryz.sortEvent_ren : Go.Shelf.Ren := ⟨fun | 6 => 250 | 15 => 261 | 14 => 271 | 28 => 285 | 29 => 286 | 20 => 291 | 21 => 292 | 22 => 293 | 23 => 294 | 24 => 295 | 25 => 296 | 26 => 297 | 27 => 298 | 46 => 310 | 47 => 304 | 48 => 305 | 49 => 311 | 50 => 312 | 57 => 317 | n => n, fun | 22 => 112 | 24 => 47 | 25 => 303 | 3 => 3 | 39 => 263 | 0 => 0 | 53 => 286 | 55 => 250 | 4 => 4 | 46 => 323 | 45 => 322 | 50 => 260 | 5 => 5 | 9 => 9 | 66 => 343 | 70 => 347 | 76 => 351 | 77 => 352 | n => n, fun | n => n⟩
theorem Tryz.sortEvent : Go.Proofs.SlLaysF0.n6 Tryz.prog Tryz.sortEvent_ren := {
 mixed := by kernel_rfl
 f6 := ⟨Tryz.f250.name, by decide, Tryz.func250.trans (congrArg some (by kernel_rfl))⟩
 f14 := ⟨Tryz.f271.name, by decide, Tryz.func271.trans (congrArg some (by kernel_rfl))⟩
 f15 := Tryz.func261.trans (congrArg some (by kernel_rfl))
 f20 := ⟨Tryz.f291.name, by decide, Tryz.func291.trans (congrArg some (by kernel_rfl))⟩
 f21 := ⟨Tryz.f292.name, by decide, Tryz.func292.trans (congrArg some (by kernel_rfl))⟩
 f22 := ⟨Tryz.f293.name, by decide, Tryz.func293.trans (congrArg some (by kernel_rfl))⟩
 f23 := ⟨Tryz.f294.name, by decide, Tryz.func294.trans (congrArg some (by kernel_rfl))⟩
 f24 := ⟨Tryz.f295.name, by decide, Tryz.func295.trans (congrArg some (by kernel_rfl))⟩
 f25 := ⟨Tryz.f296.name, by decide, Tryz.func296.trans (congrArg some (by kernel_rfl))⟩
 f26 := ⟨Tryz.f297.name, by decide, Tryz.func297.trans (congrArg some (by kernel_rfl))⟩
 f27 := ⟨Tryz.f298.name, by decide, Tryz.func298.trans (congrArg some (by kernel_rfl))⟩
 f28 := Tryz.func285.trans (congrArg some (by kernel_rfl))
 f29 := Tryz.func286.trans (congrArg some (by kernel_rfl))
 f46 := ⟨Tryz.f310.name, by decide, Tryz.func310.trans (congrArg some (by kernel_rfl))⟩
 f47 := Tryz.func304.trans (congrArg some (by kernel_rfl))
 f48 := Tryz.func305.trans (congrArg some (by kernel_rfl))
 f49 := ⟨Tryz.f311.name, by decide, Tryz.func311.trans (congrArg some (by kernel_rfl))⟩
 f50 := ⟨Tryz.f312.name, by decide, Tryz.func312.trans (congrArg some (by kernel_rfl))⟩
 f57 := ⟨Tryz.f317.name, by decide, Tryz.func317.trans (congrArg some (by kernel_rfl))⟩
 t0 := Tryz.underlying0
 a0 := Tryz.isAgg0
 z0 := Tryz.sizeOf0
 v0 := Tryz.zeroValue0
 t3 := Tryz.underlying3
 a3 := Tryz.isAgg3
 z3 := Tryz.sizeOf3
 v3 := Tryz.zeroValue3
 t4 := Tryz.underlying4
 a4 := Tryz.isAgg4
 z4 := Tryz.sizeOf4
 v4 := Tryz.zeroValue4
 t5 := Tryz.underlying5
 a5 := Tryz.isAgg5
 z5 := Tryz.sizeOf5
 v5 := Tryz.zeroValue5
 t9 := Tryz.underlying9
 a9 := Tryz.isAgg9
 z9 := Tryz.sizeOf9
 v9 := Tryz.zeroValue9
 t22 := Tryz.underlying112
 a22 := Tryz.isAgg112
 z22 := Tryz.sizeOf112
 v22 := Tryz.zeroValue112
 t25 := Tryz.underlying303
 a25 := Tryz.isAgg303
 z25 := Tryz.sizeOf303
 v25 := Tryz.zeroValue303
 t39 := Tryz.underlying263
 a39 := Tryz.isAgg263
 z39 := Tryz.sizeOf263
 v39 := Tryz.zeroValue263
 t45 := Tryz.underlying322
 a45 := Tryz.isAgg322
 z45 := Tryz.sizeOf322
 v45 := Tryz.zeroValue322
 t46 := Tryz.underlying323
 a46 := Tryz.isAgg323
 z46 := Tryz.sizeOf323
 v46 := Tryz.zeroValue323
 t50 := Tryz.underlying260
 a50 := Tryz.isAgg260
 z50 := Tryz.sizeOf260
 v50 := Tryz.zeroValue260
 t53 := Tryz.underlying286
 a53 := Tryz.isAgg286
 z53 := Tryz.sizeOf286
 v53 := Tryz.zeroValue286
 t55 := Tryz.underlying250
 a55 := Tryz.isAgg250
 z55 := Tryz.sizeOf250
 v55 := Tryz.zeroValue250
 t66 := Tryz.underlying343
 a66 := Tryz.isAgg343
 z66 := Tryz.sizeOf343
 v66 := Tryz.zeroValue343
 t70 := Tryz.underlying347
 a70 := Tryz.isAgg347
 z70 := Tryz.sizeOf347
 v70 := Tryz.zeroValue347
 t76 := Tryz.underlying351
 a76 := Tryz.isAgg351
 z76 := Tryz.sizeOf351
 v76 := Tryz.zeroValue351
 t77 := Tryz.underlying352
 a77 := Tryz.isAgg352
 z77 := Tryz.sizeOf352
 v77 := Tryz.zeroValue352 }
def Tryz.sortInts_ren : Go.Shelf.Ren := ⟨fun | 5 => 205 | 8 => 261 | 7 => 260 | 19 => 285 | 20 => 286 | 10 => 276 | 11 => 277 | 12 => 278 | 13 => 279 | 14 => 280 | 15 => 281 | 16 => 282 | 17 => 283 | 18 => 284 | 30 => 303 | 31 => 304 | 32 => 305 | 33 => 306 | 34 => 307 | 35 => 266 | 40 => 314 | n => n, fun | 23 => 42 | 25 => 2 | 3 => 3 | 32 => 263 | 22 => 42 | 0 => 0 | 44 => 286 | 46 => 250 | 4 => 4 | 36 => 323 | 35 => 322 | 41 => 260 | 5 => 5 | 9 => 9 | 53 => 343 | 57 => 347 | 63 => 351 | 64 => 352 | n => n, fun | n => n⟩
theorem Tryz.sortInts : Go.Proofs.SlLaysM.n5 Tryz.prog Tryz.sortInts_ren := {
 mixed := by kernel_rfl
 f5 := ⟨Tryz.f205.name, by decide, Tryz.func205.trans (congrArg some (by kernel_rfl))⟩
 f7 := ⟨Tryz.f260.name, by decide, Tryz.func260.trans (congrArg some (by kernel_rfl))⟩
 f8 := Tryz.func261.trans (congrArg some (by kernel_rfl))
 f10 := ⟨Tryz.f276.name, by decide, Tryz.func276.trans (congrArg some (by kernel_rfl))⟩
 f11 := ⟨Tryz.f277.name, by decide, Tryz.func277.trans (congrArg some (by kernel_rfl))⟩
 f12 := ⟨Tryz.f278.name, by decide, Tryz.func278.trans (congrArg some (by kernel_rfl))⟩
 f13 := ⟨Tryz.f279.name, by decide, Tryz.func279.trans (congrArg some (by kernel_rfl))⟩
 f14 := ⟨Tryz.f280.name, by decide, Tryz.func280.trans (congrArg some (by kernel_rfl))⟩
 f15 := ⟨Tryz.f281.name, by decide, Tryz.func281.trans (congrArg some (by kernel_rfl))⟩
 f16 := ⟨Tryz.f282.name, by decide, Tryz.func282.trans (congrArg some (by kernel_rfl))⟩
 f17 := ⟨Tryz.f283.name, by decide, Tryz.func283.trans (congrArg some (by kernel_rfl))⟩
 f18 := ⟨Tryz.f284.name, by decide, Tryz.func284.trans (congrArg some (by kernel_rfl))⟩
 f19 := Tryz.func285.trans (congrArg some (by kernel_rfl))
 f20 := Tryz.func286.trans (congrArg some (by kernel_rfl))
 f30 := ⟨Tryz.f303.name, by decide, Tryz.func303.trans (congrArg some (by kernel_rfl))⟩
 f31 := Tryz.func304.trans (congrArg some (by kernel_rfl))
 f32 := Tryz.func305.trans (congrArg some (by kernel_rfl))
 f33 := ⟨Tryz.f306.name, by decide, Tryz.func306.trans (congrArg some (by kernel_rfl))⟩
 f34 := ⟨Tryz.f307.name, by decide, Tryz.func307.trans (congrArg some (by kernel_rfl))⟩
 f35 := ⟨Tryz.f266.name, by decide, Tryz.func266.trans (congrArg some (by kernel_rfl))⟩
 f40 := ⟨Tryz.f314.name, by decide, Tryz.func314.trans (congrArg some (by kernel_rfl))⟩
 t0 := Tryz.underlying0
 a0 := Tryz.isAgg0
 z0 := Tryz.sizeOf0
 v0 := Tryz.zeroValue0
 t3 := Tryz.underlying3
 a3 := Tryz.isAgg3
 z3 := Tryz.sizeOf3
 v3 := Tryz.zeroValue3
 t4 := Tryz.underlying4
 a4 := Tryz.isAgg4
 z4 := Tryz.sizeOf4
 v4 := Tryz.zeroValue4
 t5 := Tryz.underlying5
 a5 := Tryz.isAgg5
 z5 := Tryz.sizeOf5
 v5 := Tryz.zeroValue5
 t9 := Tryz.underlying9
 a9 := Tryz.isAgg9
 z9 := Tryz.sizeOf9
 v9 := Tryz.zeroValue9
 t22 := Tryz.underlying42
 a22 := Tryz.isAgg42
 z22 := Tryz.sizeOf42
 v22 := Tryz.zeroValue42
 t23 := Tryz.underlying42
 a23 := Tryz.isAgg42
 z23 := Tryz.sizeOf42
 v23 := Tryz.zeroValue42
 t25 := Tryz.underlying2
 a25 := Tryz.isAgg2
 z25 := Tryz.sizeOf2
 v25 := Tryz.zeroValue2
 t32 := Tryz.underlying263
 a32 := Tryz.isAgg263
 z32 := Tryz.sizeOf263
 v32 := Tryz.zeroValue263
 t35 := Tryz.underlying322
 a35 := Tryz.isAgg322
 z35 := Tryz.sizeOf322
 v35 := Tryz.zeroValue322
 t36 := Tryz.underlying323
 a36 := Tryz.isAgg323
 z36 := Tryz.sizeOf323
 v36 := Tryz.zeroValue323
 t41 := Tryz.underlying260
 a41 := Tryz.isAgg260
 z41 := Tryz.sizeOf260
 v41 := Tryz.zeroValue260
 t44 := Tryz.underlying286
 a44 := Tryz.isAgg286
 z44 := Tryz.sizeOf286
 v44 := Tryz.zeroValue286
 t46 := Tryz.underlying250
 a46 := Tryz.isAgg250
 z46 := Tryz.sizeOf250
 v46 := Tryz.zeroValue250
 t53 := Tryz.underlying343
 a53 := Tryz.isAgg343
 z53 := Tryz.sizeOf343
 v53 := Tryz.zeroValue343
 t57 := Tryz.underlying347
 a57 := Tryz.isAgg347
 z57 := Tryz.sizeOf347
 v57 := Tryz.zeroValue347
 t63 := Tryz.underlying351
 a63 := Tryz.isAgg351
 z63 := Tryz.sizeOf351
 v63 := Tryz.zeroValue351
 t64 := Tryz.underlying352
 a64 := Tryz.isAgg352
 z64 := Tryz.sizeOf352
 v64 := Tryz.zeroValue352 }
end Go.Proofs
namespace Go.Proofs.YtnoknphekhclcaaGreat
open Go Go.Abs
theorem Ya8 : Y8o Tryz.prog 250 9 where
 enters := Abs.enters_of Tryz.func250 rfl rfl
 ofNone p cap fv w := AnyF.slices_SortFunc_none Tryz.sortEvent p cap fv w
 ofSome enc hk h1 cf hO g cb blk cap d w eg hcmp hH hblk hsz hT := AnyQ.slices_SortFunc_total Tryz.sortEvent 9 Tryz.isAgg47 Tryz.sizeOf47 enc hk h1 cf hO g cb blk 0 cap d w eg hcmp hH hblk hsz hT
theorem Ya9 : Y8r Tryz.prog 205 where
 enters := Abs.enters_of Tryz.func205 rfl rfl
 ofNone p cap w := AnyM.slices_Sort_int_none Tryz.sortInts p cap w
 ofSome blk cap zs w hH hblk hsz := AnyM.slices_Sort_int Tryz.sortInts blk 0 cap zs w hH hblk hsz
end Go.Proofs.YtnoknphekhclcaaGreat
