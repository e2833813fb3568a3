/-
 DERIVED: THE SHELF's CONTRACTS AT THIS DUMP, IN PLAIN WORDS (tools/lay-plain.mjs out of 'SortsLay4.lean', which tools/lay-shelf.mjs wrote): THE SAME DECLARATIONS UNDER THE SAME NAMES: 'import', 'namespace', 'open', 'def', 'theorem' AND NOTHING ELSE: no command of the shelf's: FOR A HAND-IN. Each laying: the table of numbers ('.._ren') and one theorem, a field a fact of the dump's own or the kernel's comparison; each contract: ONE APPLICATION.
-/
import Derived.Shelf.SlSortCmp.NoneTotal
import Derived.Shelf.SortM.SortNone
import Derived.Shelf.SortM.Plain
import Derived.Test.YtbgichfjcnibpaaGreatWX
import Derived.Test.YtbgichfjcnibpaaGreatProg
set_option autoImplicit false
set_option linter.unusedVariables false
set_option linter.unusedSimpArgs false
namespace Go.Proofs
open Go.Shelf
def Tryz.sortEvent_ren : Go.Shelf.Ren := ⟨fun | 6 => 198 | 15 => 246 | 14 => 245 | 28 => 292 | 29 => 293 | 20 => 284 | 21 => 285 | 22 => 286 | 23 => 287 | 24 => 288 | 25 => 289 | 26 => 290 | 27 => 291 | 46 => 307 | 47 => 308 | 48 => 309 | 49 => 310 | 50 => 311 | 57 => 323 | n => n, fun | 22 => 137 | 24 => 136 | 25 => 254 | 3 => 3 | 39 => 290 | 0 => 0 | 53 => 314 | 55 => 316 | 4 => 4 | 46 => 308 | 45 => 307 | 50 => 244 | 5 => 5 | 9 => 9 | 66 => 327 | 70 => 331 | 76 => 338 | 77 => 339 | n => n, fun | n => n⟩
theorem Tryz.sortEvent : Go.Proofs.SlLaysF0.n6 Tryz.prog Tryz.sortEvent_ren := {
 mixed := by kernel_rfl
 f6 := ⟨Tryz.f198.name, by decide, Tryz.func198.trans (congrArg some (by kernel_rfl))⟩
 f14 := ⟨Tryz.f245.name, by decide, Tryz.func245.trans (congrArg some (by kernel_rfl))⟩
 f15 := Tryz.func246.trans (congrArg some (by kernel_rfl))
 f20 := ⟨Tryz.f284.name, by decide, Tryz.func284.trans (congrArg some (by kernel_rfl))⟩
 f21 := ⟨Tryz.f285.name, by decide, Tryz.func285.trans (congrArg some (by kernel_rfl))⟩
 f22 := ⟨Tryz.f286.name, by decide, Tryz.func286.trans (congrArg some (by kernel_rfl))⟩
 f23 := ⟨Tryz.f287.name, by decide, Tryz.func287.trans (congrArg some (by kernel_rfl))⟩
 f24 := ⟨Tryz.f288.name, by decide, Tryz.func288.trans (congrArg some (by kernel_rfl))⟩
 f25 := ⟨Tryz.f289.name, by decide, Tryz.func289.trans (congrArg some (by kernel_rfl))⟩
 f26 := ⟨Tryz.f290.name, by decide, Tryz.func290.trans (congrArg some (by kernel_rfl))⟩
 f27 := ⟨Tryz.f291.name, by decide, Tryz.func291.trans (congrArg some (by kernel_rfl))⟩
 f28 := Tryz.func292.trans (congrArg some (by kernel_rfl))
 f29 := Tryz.func293.trans (congrArg some (by kernel_rfl))
 f46 := ⟨Tryz.f307.name, by decide, Tryz.func307.trans (congrArg some (by kernel_rfl))⟩
 f47 := Tryz.func308.trans (congrArg some (by kernel_rfl))
 f48 := Tryz.func309.trans (congrArg some (by kernel_rfl))
 f49 := ⟨Tryz.f310.name, by decide, Tryz.func310.trans (congrArg some (by kernel_rfl))⟩
 f50 := ⟨Tryz.f311.name, by decide, Tryz.func311.trans (congrArg some (by kernel_rfl))⟩
 f57 := ⟨Tryz.f323.name, by decide, Tryz.func323.trans (congrArg some (by kernel_rfl))⟩
 t0 := Tryz.underlying0
 a0 := Tryz.isAgg0
 z0 := Tryz.sizeOf0
 v0 := Tryz.zeroValue0
 t3 := Tryz.underlying3
 a3 := Tryz.isAgg3
 z3 := Tryz.sizeOf3
 v3 := Tryz.zeroValue3
 t4 := Tryz.underlying4
 a4 := Tryz.isAgg4
 z4 := Tryz.sizeOf4
 v4 := Tryz.zeroValue4
 t5 := Tryz.underlying5
 a5 := Tryz.isAgg5
 z5 := Tryz.sizeOf5
 v5 := Tryz.zeroValue5
 t9 := Tryz.underlying9
 a9 := Tryz.isAgg9
 z9 := Tryz.sizeOf9
 v9 := Tryz.zeroValue9
 t22 := Tryz.underlying137
 a22 := Tryz.isAgg137
 z22 := Tryz.sizeOf137
 v22 := Tryz.zeroValue137
 t25 := Tryz.underlying254
 a25 := Tryz.isAgg254
 z25 := Tryz.sizeOf254
 v25 := Tryz.zeroValue254
 t39 := Tryz.underlying290
 a39 := Tryz.isAgg290
 z39 := Tryz.sizeOf290
 v39 := Tryz.zeroValue290
 t45 := Tryz.underlying307
 a45 := Tryz.isAgg307
 z45 := Tryz.sizeOf307
 v45 := Tryz.zeroValue307
 t46 := Tryz.underlying308
 a46 := Tryz.isAgg308
 z46 := Tryz.sizeOf308
 v46 := Tryz.zeroValue308
 t50 := Tryz.underlying244
 a50 := Tryz.isAgg244
 z50 := Tryz.sizeOf244
 v50 := Tryz.zeroValue244
 t53 := Tryz.underlying314
 a53 := Tryz.isAgg314
 z53 := Tryz.sizeOf314
 v53 := Tryz.zeroValue314
 t55 := Tryz.underlying316
 a55 := Tryz.isAgg316
 z55 := Tryz.sizeOf316
 v55 := Tryz.zeroValue316
 t66 := Tryz.underlying327
 a66 := Tryz.isAgg327
 z66 := Tryz.sizeOf327
 v66 := Tryz.zeroValue327
 t70 := Tryz.underlying331
 a70 := Tryz.isAgg331
 z70 := Tryz.sizeOf331
 v70 := Tryz.zeroValue331
 t76 := Tryz.underlying338
 a76 := Tryz.isAgg338
 z76 := Tryz.sizeOf338
 v76 := Tryz.zeroValue338
 t77 := Tryz.underlying339
 a77 := Tryz.isAgg339
 z77 := Tryz.sizeOf339
 v77 := Tryz.zeroValue339 }
def Tryz.sortInts_ren : Go.Shelf.Ren := ⟨fun | 5 => 256 | 8 => 246 | 7 => 298 | 19 => 292 | 20 => 293 | 10 => 313 | 11 => 314 | 12 => 315 | 13 => 316 | 14 => 317 | 15 => 318 | 16 => 319 | 17 => 320 | 18 => 321 | 30 => 325 | 31 => 308 | 32 => 309 | 33 => 326 | 34 => 327 | 35 => 247 | 40 => 329 | n => n, fun | 23 => 57 | 25 => 2 | 3 => 3 | 32 => 290 | 22 => 57 | 0 => 0 | 44 => 314 | 46 => 316 | 4 => 4 | 36 => 308 | 35 => 307 | 41 => 244 | 5 => 5 | 9 => 9 | 53 => 327 | 57 => 331 | 63 => 338 | 64 => 339 | n => n, fun | n => n⟩
theorem Tryz.sortInts : Go.Proofs.SlLaysM.n5 Tryz.prog Tryz.sortInts_ren := {
 mixed := by kernel_rfl
 f5 := ⟨Tryz.f256.name, by decide, Tryz.func256.trans (congrArg some (by kernel_rfl))⟩
 f7 := ⟨Tryz.f298.name, by decide, Tryz.func298.trans (congrArg some (by kernel_rfl))⟩
 f8 := Tryz.func246.trans (congrArg some (by kernel_rfl))
 f10 := ⟨Tryz.f313.name, by decide, Tryz.func313.trans (congrArg some (by kernel_rfl))⟩
 f11 := ⟨Tryz.f314.name, by decide, Tryz.func314.trans (congrArg some (by kernel_rfl))⟩
 f12 := ⟨Tryz.f315.name, by decide, Tryz.func315.trans (congrArg some (by kernel_rfl))⟩
 f13 := ⟨Tryz.f316.name, by decide, Tryz.func316.trans (congrArg some (by kernel_rfl))⟩
 f14 := ⟨Tryz.f317.name, by decide, Tryz.func317.trans (congrArg some (by kernel_rfl))⟩
 f15 := ⟨Tryz.f318.name, by decide, Tryz.func318.trans (congrArg some (by kernel_rfl))⟩
 f16 := ⟨Tryz.f319.name, by decide, Tryz.func319.trans (congrArg some (by kernel_rfl))⟩
 f17 := ⟨Tryz.f320.name, by decide, Tryz.func320.trans (congrArg some (by kernel_rfl))⟩
 f18 := ⟨Tryz.f321.name, by decide, Tryz.func321.trans (congrArg some (by kernel_rfl))⟩
 f19 := Tryz.func292.trans (congrArg some (by kernel_rfl))
 f20 := Tryz.func293.trans (congrArg some (by kernel_rfl))
 f30 := ⟨Tryz.f325.name, by decide, Tryz.func325.trans (congrArg some (by kernel_rfl))⟩
 f31 := Tryz.func308.trans (congrArg some (by kernel_rfl))
 f32 := Tryz.func309.trans (congrArg some (by kernel_rfl))
 f33 := ⟨Tryz.f326.name, by decide, Tryz.func326.trans (congrArg some (by kernel_rfl))⟩
 f34 := ⟨Tryz.f327.name, by decide, Tryz.func327.trans (congrArg some (by kernel_rfl))⟩
 f35 := ⟨Tryz.f247.name, by decide, Tryz.func247.trans (congrArg some (by kernel_rfl))⟩
 f40 := ⟨Tryz.f329.name, by decide, Tryz.func329.trans (congrArg some (by kernel_rfl))⟩
 t0 := Tryz.underlying0
 a0 := Tryz.isAgg0
 z0 := Tryz.sizeOf0
 v0 := Tryz.zeroValue0
 t3 := Tryz.underlying3
 a3 := Tryz.isAgg3
 z3 := Tryz.sizeOf3
 v3 := Tryz.zeroValue3
 t4 := Tryz.underlying4
 a4 := Tryz.isAgg4
 z4 := Tryz.sizeOf4
 v4 := Tryz.zeroValue4
 t5 := Tryz.underlying5
 a5 := Tryz.isAgg5
 z5 := Tryz.sizeOf5
 v5 := Tryz.zeroValue5
 t9 := Tryz.underlying9
 a9 := Tryz.isAgg9
 z9 := Tryz.sizeOf9
 v9 := Tryz.zeroValue9
 t22 := Tryz.underlying57
 a22 := Tryz.isAgg57
 z22 := Tryz.sizeOf57
 v22 := Tryz.zeroValue57
 t23 := Tryz.underlying57
 a23 := Tryz.isAgg57
 z23 := Tryz.sizeOf57
 v23 := Tryz.zeroValue57
 t25 := Tryz.underlying2
 a25 := Tryz.isAgg2
 z25 := Tryz.sizeOf2
 v25 := Tryz.zeroValue2
 t32 := Tryz.underlying290
 a32 := Tryz.isAgg290
 z32 := Tryz.sizeOf290
 v32 := Tryz.zeroValue290
 t35 := Tryz.underlying307
 a35 := Tryz.isAgg307
 z35 := Tryz.sizeOf307
 v35 := Tryz.zeroValue307
 t36 := Tryz.underlying308
 a36 := Tryz.isAgg308
 z36 := Tryz.sizeOf308
 v36 := Tryz.zeroValue308
 t41 := Tryz.underlying244
 a41 := Tryz.isAgg244
 z41 := Tryz.sizeOf244
 v41 := Tryz.zeroValue244
 t44 := Tryz.underlying314
 a44 := Tryz.isAgg314
 z44 := Tryz.sizeOf314
 v44 := Tryz.zeroValue314
 t46 := Tryz.underlying316
 a46 := Tryz.isAgg316
 z46 := Tryz.sizeOf316
 v46 := Tryz.zeroValue316
 t53 := Tryz.underlying327
 a53 := Tryz.isAgg327
 z53 := Tryz.sizeOf327
 v53 := Tryz.zeroValue327
 t57 := Tryz.underlying331
 a57 := Tryz.isAgg331
 z57 := Tryz.sizeOf331
 v57 := Tryz.zeroValue331
 t63 := Tryz.underlying338
 a63 := Tryz.isAgg338
 z63 := Tryz.sizeOf338
 v63 := Tryz.zeroValue338
 t64 := Tryz.underlying339
 a64 := Tryz.isAgg339
 z64 := Tryz.sizeOf339
 v64 := Tryz.zeroValue339 }
end Go.Proofs
namespace Go.Proofs.YtbgichfjcnibpaaGreat
open Go Go.Abs
theorem Y8t : Y82 Tryz.prog 198 9 where
 enters := Abs.enters_of Tryz.func198 rfl rfl
 ofNone p cap fv w := AnyF.slices_SortFunc_none Tryz.sortEvent p cap fv w
 ofSome enc hk h1 cf hO g cb blk cap d w eg hcmp hH hblk hsz hT := AnyQ.slices_SortFunc_total Tryz.sortEvent 9 Tryz.isAgg136 Tryz.sizeOf136 enc hk h1 cf hO g cb blk 0 cap d w eg hcmp hH hblk hsz hT
theorem Y8u : Y85 Tryz.prog 256 where
 enters := Abs.enters_of Tryz.func256 rfl rfl
 ofNone p cap w := AnyM.slices_Sort_int_none Tryz.sortInts p cap w
 ofSome blk cap zs w hH hblk hsz := AnyM.slices_Sort_int Tryz.sortInts blk 0 cap zs w hH hblk hsz
end Go.Proofs.YtbgichfjcnibpaaGreat
