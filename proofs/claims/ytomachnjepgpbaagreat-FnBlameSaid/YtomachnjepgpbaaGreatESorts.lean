/-
 DERIVED: THE SHELF's CONTRACTS AT THIS DUMP, IN PLAIN WORDS (tools/lay-plain.mjs out of 'SortsLayTmpSortsS.lean', which tools/lay-shelf.mjs wrote): THE SAME DECLARATIONS UNDER THE SAME NAMES: 'import', 'namespace', 'open', 'def', 'theorem' AND NOTHING ELSE: no command of the shelf's: FOR A HAND-IN. Each laying: the table of numbers ('.._ren') and one theorem, a field a fact of the dump's own or the kernel's comparison; each contract: ONE APPLICATION.
-/
import Derived.Shelf.SlSortCmp.NoneTotal
import Derived.Shelf.SortM.SortNone
import Derived.Shelf.LaysM
import Derived.Shelf.Strings.Search3
import Derived.Shelf.SortM.Plain
import Derived.Test.YtomachnjepgpbaaGreatEBI
import Derived.Test.YtomachnjepgpbaaGreatProg
set_option autoImplicit false
set_option linter.unusedVariables false
set_option linter.unusedSimpArgs false
namespace Go.Proofs
open Go.Shelf
def Tryz.sortEvent_ren : Go.Shelf.Ren := ⟨fun | 6 => 152 | 15 => 212 | 14 => 211 | 28 => 252 | 29 => 253 | 20 => 244 | 21 => 245 | 22 => 246 | 23 => 247 | 24 => 248 | 25 => 249 | 26 => 250 | 27 => 251 | 46 => 268 | 47 => 269 | 48 => 270 | 49 => 271 | 50 => 272 | 57 => 277 | n => n, fun | 22 => 23 | 24 => 42 | 25 => 182 | 3 => 3 | 39 => 163 | 0 => 0 | 53 => 254 | 55 => 157 | 4 => 4 | 46 => 248 | 45 => 247 | 50 => 185 | 5 => 5 | 9 => 9 | 66 => 263 | 70 => 267 | 76 => 271 | 77 => 272 | n => n, fun | n => n⟩
theorem Tryz.sortEvent : Go.Proofs.SlLaysF0.n6 Tryz.prog Tryz.sortEvent_ren := {
 mixed := by kernel_rfl
 f6 := ⟨Tryz.f152.name, by decide, Tryz.func152.trans (congrArg some (by kernel_rfl))⟩
 f14 := ⟨Tryz.f211.name, by decide, Tryz.func211.trans (congrArg some (by kernel_rfl))⟩
 f15 := Tryz.func212.trans (congrArg some (by kernel_rfl))
 f20 := ⟨Tryz.f244.name, by decide, Tryz.func244.trans (congrArg some (by kernel_rfl))⟩
 f21 := ⟨Tryz.f245.name, by decide, Tryz.func245.trans (congrArg some (by kernel_rfl))⟩
 f22 := ⟨Tryz.f246.name, by decide, Tryz.func246.trans (congrArg some (by kernel_rfl))⟩
 f23 := ⟨Tryz.f247.name, by decide, Tryz.func247.trans (congrArg some (by kernel_rfl))⟩
 f24 := ⟨Tryz.f248.name, by decide, Tryz.func248.trans (congrArg some (by kernel_rfl))⟩
 f25 := ⟨Tryz.f249.name, by decide, Tryz.func249.trans (congrArg some (by kernel_rfl))⟩
 f26 := ⟨Tryz.f250.name, by decide, Tryz.func250.trans (congrArg some (by kernel_rfl))⟩
 f27 := ⟨Tryz.f251.name, by decide, Tryz.func251.trans (congrArg some (by kernel_rfl))⟩
 f28 := Tryz.func252.trans (congrArg some (by kernel_rfl))
 f29 := Tryz.func253.trans (congrArg some (by kernel_rfl))
 f46 := ⟨Tryz.f268.name, by decide, Tryz.func268.trans (congrArg some (by kernel_rfl))⟩
 f47 := Tryz.func269.trans (congrArg some (by kernel_rfl))
 f48 := Tryz.func270.trans (congrArg some (by kernel_rfl))
 f49 := ⟨Tryz.f271.name, by decide, Tryz.func271.trans (congrArg some (by kernel_rfl))⟩
 f50 := ⟨Tryz.f272.name, by decide, Tryz.func272.trans (congrArg some (by kernel_rfl))⟩
 f57 := ⟨Tryz.f277.name, by decide, Tryz.func277.trans (congrArg some (by kernel_rfl))⟩
 t0 := Tryz.underlying0
 a0 := Tryz.isAgg0
 z0 := Tryz.sizeOf0
 v0 := Tryz.zeroValue0
 t3 := Tryz.underlying3
 a3 := Tryz.isAgg3
 z3 := Tryz.sizeOf3
 v3 := Tryz.zeroValue3
 t4 := Tryz.underlying4
 a4 := Tryz.isAgg4
 z4 := Tryz.sizeOf4
 v4 := Tryz.zeroValue4
 t5 := Tryz.underlying5
 a5 := Tryz.isAgg5
 z5 := Tryz.sizeOf5
 v5 := Tryz.zeroValue5
 t9 := Tryz.underlying9
 a9 := Tryz.isAgg9
 z9 := Tryz.sizeOf9
 v9 := Tryz.zeroValue9
 t22 := Tryz.underlying23
 a22 := Tryz.isAgg23
 z22 := Tryz.sizeOf23
 v22 := Tryz.zeroValue23
 t25 := Tryz.underlying182
 a25 := Tryz.isAgg182
 z25 := Tryz.sizeOf182
 v25 := Tryz.zeroValue182
 t39 := Tryz.underlying163
 a39 := Tryz.isAgg163
 z39 := Tryz.sizeOf163
 v39 := Tryz.zeroValue163
 t45 := Tryz.underlying247
 a45 := Tryz.isAgg247
 z45 := Tryz.sizeOf247
 v45 := Tryz.zeroValue247
 t46 := Tryz.underlying248
 a46 := Tryz.isAgg248
 z46 := Tryz.sizeOf248
 v46 := Tryz.zeroValue248
 t50 := Tryz.underlying185
 a50 := Tryz.isAgg185
 z50 := Tryz.sizeOf185
 v50 := Tryz.zeroValue185
 t53 := Tryz.underlying254
 a53 := Tryz.isAgg254
 z53 := Tryz.sizeOf254
 v53 := Tryz.zeroValue254
 t55 := Tryz.underlying157
 a55 := Tryz.isAgg157
 z55 := Tryz.sizeOf157
 v55 := Tryz.zeroValue157
 t66 := Tryz.underlying263
 a66 := Tryz.isAgg263
 z66 := Tryz.sizeOf263
 v66 := Tryz.zeroValue263
 t70 := Tryz.underlying267
 a70 := Tryz.isAgg267
 z70 := Tryz.sizeOf267
 v70 := Tryz.zeroValue267
 t76 := Tryz.underlying271
 a76 := Tryz.isAgg271
 z76 := Tryz.sizeOf271
 v76 := Tryz.zeroValue271
 t77 := Tryz.underlying272
 a77 := Tryz.isAgg272
 z77 := Tryz.sizeOf272
 v77 := Tryz.zeroValue272 }
def Tryz.sortInts_ren : Go.Shelf.Ren := ⟨fun | 5 => 256 | 8 => 212 | 7 => 274 | 19 => 252 | 20 => 253 | 10 => 279 | 11 => 280 | 12 => 281 | 13 => 282 | 14 => 283 | 15 => 284 | 16 => 285 | 17 => 286 | 18 => 287 | 30 => 289 | 31 => 269 | 32 => 270 | 33 => 290 | 34 => 291 | 35 => 213 | 40 => 292 | n => n, fun | 23 => 39 | 25 => 2 | 3 => 3 | 32 => 163 | 22 => 39 | 0 => 0 | 44 => 254 | 46 => 157 | 4 => 4 | 36 => 248 | 35 => 247 | 41 => 185 | 5 => 5 | 9 => 9 | 53 => 263 | 57 => 267 | 63 => 271 | 64 => 272 | n => n, fun | n => n⟩
theorem Tryz.sortInts : Go.Proofs.SlLaysM.n5 Tryz.prog Tryz.sortInts_ren := {
 mixed := by kernel_rfl
 f5 := ⟨Tryz.f256.name, by decide, Tryz.func256.trans (congrArg some (by kernel_rfl))⟩
 f7 := ⟨Tryz.f274.name, by decide, Tryz.func274.trans (congrArg some (by kernel_rfl))⟩
 f8 := Tryz.func212.trans (congrArg some (by kernel_rfl))
 f10 := ⟨Tryz.f279.name, by decide, Tryz.func279.trans (congrArg some (by kernel_rfl))⟩
 f11 := ⟨Tryz.f280.name, by decide, Tryz.func280.trans (congrArg some (by kernel_rfl))⟩
 f12 := ⟨Tryz.f281.name, by decide, Tryz.func281.trans (congrArg some (by kernel_rfl))⟩
 f13 := ⟨Tryz.f282.name, by decide, Tryz.func282.trans (congrArg some (by kernel_rfl))⟩
 f14 := ⟨Tryz.f283.name, by decide, Tryz.func283.trans (congrArg some (by kernel_rfl))⟩
 f15 := ⟨Tryz.f284.name, by decide, Tryz.func284.trans (congrArg some (by kernel_rfl))⟩
 f16 := ⟨Tryz.f285.name, by decide, Tryz.func285.trans (congrArg some (by kernel_rfl))⟩
 f17 := ⟨Tryz.f286.name, by decide, Tryz.func286.trans (congrArg some (by kernel_rfl))⟩
 f18 := ⟨Tryz.f287.name, by decide, Tryz.func287.trans (congrArg some (by kernel_rfl))⟩
 f19 := Tryz.func252.trans (congrArg some (by kernel_rfl))
 f20 := Tryz.func253.trans (congrArg some (by kernel_rfl))
 f30 := ⟨Tryz.f289.name, by decide, Tryz.func289.trans (congrArg some (by kernel_rfl))⟩
 f31 := Tryz.func269.trans (congrArg some (by kernel_rfl))
 f32 := Tryz.func270.trans (congrArg some (by kernel_rfl))
 f33 := ⟨Tryz.f290.name, by decide, Tryz.func290.trans (congrArg some (by kernel_rfl))⟩
 f34 := ⟨Tryz.f291.name, by decide, Tryz.func291.trans (congrArg some (by kernel_rfl))⟩
 f35 := ⟨Tryz.f213.name, by decide, Tryz.func213.trans (congrArg some (by kernel_rfl))⟩
 f40 := ⟨Tryz.f292.name, by decide, Tryz.func292.trans (congrArg some (by kernel_rfl))⟩
 t0 := Tryz.underlying0
 a0 := Tryz.isAgg0
 z0 := Tryz.sizeOf0
 v0 := Tryz.zeroValue0
 t3 := Tryz.underlying3
 a3 := Tryz.isAgg3
 z3 := Tryz.sizeOf3
 v3 := Tryz.zeroValue3
 t4 := Tryz.underlying4
 a4 := Tryz.isAgg4
 z4 := Tryz.sizeOf4
 v4 := Tryz.zeroValue4
 t5 := Tryz.underlying5
 a5 := Tryz.isAgg5
 z5 := Tryz.sizeOf5
 v5 := Tryz.zeroValue5
 t9 := Tryz.underlying9
 a9 := Tryz.isAgg9
 z9 := Tryz.sizeOf9
 v9 := Tryz.zeroValue9
 t22 := Tryz.underlying39
 a22 := Tryz.isAgg39
 z22 := Tryz.sizeOf39
 v22 := Tryz.zeroValue39
 t23 := Tryz.underlying39
 a23 := Tryz.isAgg39
 z23 := Tryz.sizeOf39
 v23 := Tryz.zeroValue39
 t25 := Tryz.underlying2
 a25 := Tryz.isAgg2
 z25 := Tryz.sizeOf2
 v25 := Tryz.zeroValue2
 t32 := Tryz.underlying163
 a32 := Tryz.isAgg163
 z32 := Tryz.sizeOf163
 v32 := Tryz.zeroValue163
 t35 := Tryz.underlying247
 a35 := Tryz.isAgg247
 z35 := Tryz.sizeOf247
 v35 := Tryz.zeroValue247
 t36 := Tryz.underlying248
 a36 := Tryz.isAgg248
 z36 := Tryz.sizeOf248
 v36 := Tryz.zeroValue248
 t41 := Tryz.underlying185
 a41 := Tryz.isAgg185
 z41 := Tryz.sizeOf185
 v41 := Tryz.zeroValue185
 t44 := Tryz.underlying254
 a44 := Tryz.isAgg254
 z44 := Tryz.sizeOf254
 v44 := Tryz.zeroValue254
 t46 := Tryz.underlying157
 a46 := Tryz.isAgg157
 z46 := Tryz.sizeOf157
 v46 := Tryz.zeroValue157
 t53 := Tryz.underlying263
 a53 := Tryz.isAgg263
 z53 := Tryz.sizeOf263
 v53 := Tryz.zeroValue263
 t57 := Tryz.underlying267
 a57 := Tryz.isAgg267
 z57 := Tryz.sizeOf267
 v57 := Tryz.zeroValue267
 t63 := Tryz.underlying271
 a63 := Tryz.isAgg271
 z63 := Tryz.sizeOf271
 v63 := Tryz.zeroValue271
 t64 := Tryz.underlying272
 a64 := Tryz.isAgg272
 z64 := Tryz.sizeOf272
 v64 := Tryz.zeroValue272 }
end Go.Proofs
namespace Go.Proofs.YtomachnjepgpbaaGreat
open Go Go.Abs
theorem Y9g : Y89 Tryz.prog 152 9 where
 enters := Abs.enters_of Tryz.func152 rfl rfl
 ofNone p cap fv w := AnyF.slices_SortFunc_none Tryz.sortEvent p cap fv w
 ofSome enc hk h1 cf hO g cb blk cap d w eg hcmp hH hblk hsz hT := AnyQ.slices_SortFunc_total Tryz.sortEvent 9 Tryz.isAgg42 Tryz.sizeOf42 enc hk h1 cf hO g cb blk 0 cap d w eg hcmp hH hblk hsz hT
theorem Y9h : Y8c Tryz.prog 256 where
 enters := Abs.enters_of Tryz.func256 rfl rfl
 ofNone p cap w := AnyM.slices_Sort_int_none Tryz.sortInts p cap w
 ofSome blk cap zs w hH hblk hsz := AnyM.slices_Sort_int Tryz.sortInts blk 0 cap zs w hH hblk hsz
end Go.Proofs.YtomachnjepgpbaaGreat
