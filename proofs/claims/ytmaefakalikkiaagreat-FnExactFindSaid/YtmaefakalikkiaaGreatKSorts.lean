/-
 DERIVED: THE SHELF's CONTRACTS AT THIS DUMP, IN PLAIN WORDS (tools/lay-plain.mjs out of 'SortsLay5s.lean', which tools/lay-shelf.mjs wrote): THE SAME DECLARATIONS UNDER THE SAME NAMES: 'import', 'namespace', 'open', 'def', 'theorem' AND NOTHING ELSE: no command of the shelf's: FOR A HAND-IN. Each laying: the table of numbers ('.._ren') and one theorem, a field a fact of the dump's own or the kernel's comparison; each contract: ONE APPLICATION.
-/
import Derived.Shelf.SlSortCmp.NoneTotal
import Derived.Shelf.SortM.SortNone
import Derived.Shelf.LaysM
import Derived.Shelf.Strings.Search3
import Derived.Shelf.SortM.Plain
import Derived.Test.YtmaefakalikkiaaGreatKBG
import Derived.Test.YtmaefakalikkiaaGreatProg
set_option autoImplicit false
set_option linter.unusedVariables false
set_option linter.unusedSimpArgs false
namespace Go.Proofs
open Go.Shelf
def Tryz.sortEvent_ren : Go.Shelf.Ren := ⟨fun | 6 => 238 | 15 => 322 | 14 => 321 | 28 => 374 | 29 => 375 | 20 => 366 | 21 => 367 | 22 => 368 | 23 => 369 | 24 => 370 | 25 => 371 | 26 => 372 | 27 => 373 | 46 => 394 | 47 => 395 | 48 => 396 | 49 => 397 | 50 => 398 | 57 => 410 | n => n, fun | 22 => 23 | 24 => 42 | 25 => 258 | 3 => 3 | 39 => 239 | 0 => 0 | 53 => 366 | 55 => 234 | 4 => 4 | 46 => 360 | 45 => 359 | 50 => 261 | 5 => 5 | 9 => 9 | 66 => 379 | 70 => 383 | 76 => 389 | 77 => 390 | n => n, fun | n => n⟩
theorem Tryz.sortEvent : Go.Proofs.SlLaysF0.n6 Tryz.prog Tryz.sortEvent_ren := {
 mixed := by kernel_rfl
 f6 := ⟨Tryz.f238.name, by decide, Tryz.func238.trans (congrArg some (by kernel_rfl))⟩
 f14 := ⟨Tryz.f321.name, by decide, Tryz.func321.trans (congrArg some (by kernel_rfl))⟩
 f15 := Tryz.func322.trans (congrArg some (by kernel_rfl))
 f20 := ⟨Tryz.f366.name, by decide, Tryz.func366.trans (congrArg some (by kernel_rfl))⟩
 f21 := ⟨Tryz.f367.name, by decide, Tryz.func367.trans (congrArg some (by kernel_rfl))⟩
 f22 := ⟨Tryz.f368.name, by decide, Tryz.func368.trans (congrArg some (by kernel_rfl))⟩
 f23 := ⟨Tryz.f369.name, by decide, Tryz.func369.trans (congrArg some (by kernel_rfl))⟩
 f24 := ⟨Tryz.f370.name, by decide, Tryz.func370.trans (congrArg some (by kernel_rfl))⟩
 f25 := ⟨Tryz.f371.name, by decide, Tryz.func371.trans (congrArg some (by kernel_rfl))⟩
 f26 := ⟨Tryz.f372.name, by decide, Tryz.func372.trans (congrArg some (by kernel_rfl))⟩
 f27 := ⟨Tryz.f373.name, by decide, Tryz.func373.trans (congrArg some (by kernel_rfl))⟩
 f28 := Tryz.func374.trans (congrArg some (by kernel_rfl))
 f29 := Tryz.func375.trans (congrArg some (by kernel_rfl))
 f46 := ⟨Tryz.f394.name, by decide, Tryz.func394.trans (congrArg some (by kernel_rfl))⟩
 f47 := Tryz.func395.trans (congrArg some (by kernel_rfl))
 f48 := Tryz.func396.trans (congrArg some (by kernel_rfl))
 f49 := ⟨Tryz.f397.name, by decide, Tryz.func397.trans (congrArg some (by kernel_rfl))⟩
 f50 := ⟨Tryz.f398.name, by decide, Tryz.func398.trans (congrArg some (by kernel_rfl))⟩
 f57 := ⟨Tryz.f410.name, by decide, Tryz.func410.trans (congrArg some (by kernel_rfl))⟩
 t0 := Tryz.underlying0
 a0 := Tryz.isAgg0
 z0 := Tryz.sizeOf0
 v0 := Tryz.zeroValue0
 t3 := Tryz.underlying3
 a3 := Tryz.isAgg3
 z3 := Tryz.sizeOf3
 v3 := Tryz.zeroValue3
 t4 := Tryz.underlying4
 a4 := Tryz.isAgg4
 z4 := Tryz.sizeOf4
 v4 := Tryz.zeroValue4
 t5 := Tryz.underlying5
 a5 := Tryz.isAgg5
 z5 := Tryz.sizeOf5
 v5 := Tryz.zeroValue5
 t9 := Tryz.underlying9
 a9 := Tryz.isAgg9
 z9 := Tryz.sizeOf9
 v9 := Tryz.zeroValue9
 t22 := Tryz.underlying23
 a22 := Tryz.isAgg23
 z22 := Tryz.sizeOf23
 v22 := Tryz.zeroValue23
 t25 := Tryz.underlying258
 a25 := Tryz.isAgg258
 z25 := Tryz.sizeOf258
 v25 := Tryz.zeroValue258
 t39 := Tryz.underlying239
 a39 := Tryz.isAgg239
 z39 := Tryz.sizeOf239
 v39 := Tryz.zeroValue239
 t45 := Tryz.underlying359
 a45 := Tryz.isAgg359
 z45 := Tryz.sizeOf359
 v45 := Tryz.zeroValue359
 t46 := Tryz.underlying360
 a46 := Tryz.isAgg360
 z46 := Tryz.sizeOf360
 v46 := Tryz.zeroValue360
 t50 := Tryz.underlying261
 a50 := Tryz.isAgg261
 z50 := Tryz.sizeOf261
 v50 := Tryz.zeroValue261
 t53 := Tryz.underlying366
 a53 := Tryz.isAgg366
 z53 := Tryz.sizeOf366
 v53 := Tryz.zeroValue366
 t55 := Tryz.underlying234
 a55 := Tryz.isAgg234
 z55 := Tryz.sizeOf234
 v55 := Tryz.zeroValue234
 t66 := Tryz.underlying379
 a66 := Tryz.isAgg379
 z66 := Tryz.sizeOf379
 v66 := Tryz.zeroValue379
 t70 := Tryz.underlying383
 a70 := Tryz.isAgg383
 z70 := Tryz.sizeOf383
 v70 := Tryz.zeroValue383
 t76 := Tryz.underlying389
 a76 := Tryz.isAgg389
 z76 := Tryz.sizeOf389
 v76 := Tryz.zeroValue389
 t77 := Tryz.underlying390
 a77 := Tryz.isAgg390
 z77 := Tryz.sizeOf390
 v77 := Tryz.zeroValue390 }
def Tryz.sortInts_ren : Go.Shelf.Ren := ⟨fun | 5 => 378 | 8 => 322 | 7 => 400 | 19 => 374 | 20 => 375 | 10 => 412 | 11 => 413 | 12 => 414 | 13 => 415 | 14 => 416 | 15 => 417 | 16 => 418 | 17 => 419 | 18 => 420 | 30 => 423 | 31 => 395 | 32 => 396 | 33 => 424 | 34 => 425 | 35 => 323 | 40 => 427 | n => n, fun | 23 => 39 | 25 => 2 | 3 => 3 | 32 => 239 | 22 => 39 | 0 => 0 | 44 => 366 | 46 => 234 | 4 => 4 | 36 => 360 | 35 => 359 | 41 => 261 | 5 => 5 | 9 => 9 | 53 => 379 | 57 => 383 | 63 => 389 | 64 => 390 | n => n, fun | n => n⟩
theorem Tryz.sortInts : Go.Proofs.SlLaysM.n5 Tryz.prog Tryz.sortInts_ren := {
 mixed := by kernel_rfl
 f5 := ⟨Tryz.f378.name, by decide, Tryz.func378.trans (congrArg some (by kernel_rfl))⟩
 f7 := ⟨Tryz.f400.name, by decide, Tryz.func400.trans (congrArg some (by kernel_rfl))⟩
 f8 := Tryz.func322.trans (congrArg some (by kernel_rfl))
 f10 := ⟨Tryz.f412.name, by decide, Tryz.func412.trans (congrArg some (by kernel_rfl))⟩
 f11 := ⟨Tryz.f413.name, by decide, Tryz.func413.trans (congrArg some (by kernel_rfl))⟩
 f12 := ⟨Tryz.f414.name, by decide, Tryz.func414.trans (congrArg some (by kernel_rfl))⟩
 f13 := ⟨Tryz.f415.name, by decide, Tryz.func415.trans (congrArg some (by kernel_rfl))⟩
 f14 := ⟨Tryz.f416.name, by decide, Tryz.func416.trans (congrArg some (by kernel_rfl))⟩
 f15 := ⟨Tryz.f417.name, by decide, Tryz.func417.trans (congrArg some (by kernel_rfl))⟩
 f16 := ⟨Tryz.f418.name, by decide, Tryz.func418.trans (congrArg some (by kernel_rfl))⟩
 f17 := ⟨Tryz.f419.name, by decide, Tryz.func419.trans (congrArg some (by kernel_rfl))⟩
 f18 := ⟨Tryz.f420.name, by decide, Tryz.func420.trans (congrArg some (by kernel_rfl))⟩
 f19 := Tryz.func374.trans (congrArg some (by kernel_rfl))
 f20 := Tryz.func375.trans (congrArg some (by kernel_rfl))
 f30 := ⟨Tryz.f423.name, by decide, Tryz.func423.trans (congrArg some (by kernel_rfl))⟩
 f31 := Tryz.func395.trans (congrArg some (by kernel_rfl))
 f32 := Tryz.func396.trans (congrArg some (by kernel_rfl))
 f33 := ⟨Tryz.f424.name, by decide, Tryz.func424.trans (congrArg some (by kernel_rfl))⟩
 f34 := ⟨Tryz.f425.name, by decide, Tryz.func425.trans (congrArg some (by kernel_rfl))⟩
 f35 := ⟨Tryz.f323.name, by decide, Tryz.func323.trans (congrArg some (by kernel_rfl))⟩
 f40 := ⟨Tryz.f427.name, by decide, Tryz.func427.trans (congrArg some (by kernel_rfl))⟩
 t0 := Tryz.underlying0
 a0 := Tryz.isAgg0
 z0 := Tryz.sizeOf0
 v0 := Tryz.zeroValue0
 t3 := Tryz.underlying3
 a3 := Tryz.isAgg3
 z3 := Tryz.sizeOf3
 v3 := Tryz.zeroValue3
 t4 := Tryz.underlying4
 a4 := Tryz.isAgg4
 z4 := Tryz.sizeOf4
 v4 := Tryz.zeroValue4
 t5 := Tryz.underlying5
 a5 := Tryz.isAgg5
 z5 := Tryz.sizeOf5
 v5 := Tryz.zeroValue5
 t9 := Tryz.underlying9
 a9 := Tryz.isAgg9
 z9 := Tryz.sizeOf9
 v9 := Tryz.zeroValue9
 t22 := Tryz.underlying39
 a22 := Tryz.isAgg39
 z22 := Tryz.sizeOf39
 v22 := Tryz.zeroValue39
 t23 := Tryz.underlying39
 a23 := Tryz.isAgg39
 z23 := Tryz.sizeOf39
 v23 := Tryz.zeroValue39
 t25 := Tryz.underlying2
 a25 := Tryz.isAgg2
 z25 := Tryz.sizeOf2
 v25 := Tryz.zeroValue2
 t32 := Tryz.underlying239
 a32 := Tryz.isAgg239
 z32 := Tryz.sizeOf239
 v32 := Tryz.zeroValue239
 t35 := Tryz.underlying359
 a35 := Tryz.isAgg359
 z35 := Tryz.sizeOf359
 v35 := Tryz.zeroValue359
 t36 := Tryz.underlying360
 a36 := Tryz.isAgg360
 z36 := Tryz.sizeOf360
 v36 := Tryz.zeroValue360
 t41 := Tryz.underlying261
 a41 := Tryz.isAgg261
 z41 := Tryz.sizeOf261
 v41 := Tryz.zeroValue261
 t44 := Tryz.underlying366
 a44 := Tryz.isAgg366
 z44 := Tryz.sizeOf366
 v44 := Tryz.zeroValue366
 t46 := Tryz.underlying234
 a46 := Tryz.isAgg234
 z46 := Tryz.sizeOf234
 v46 := Tryz.zeroValue234
 t53 := Tryz.underlying379
 a53 := Tryz.isAgg379
 z53 := Tryz.sizeOf379
 v53 := Tryz.zeroValue379
 t57 := Tryz.underlying383
 a57 := Tryz.isAgg383
 z57 := Tryz.sizeOf383
 v57 := Tryz.zeroValue383
 t63 := Tryz.underlying389
 a63 := Tryz.isAgg389
 z63 := Tryz.sizeOf389
 v63 := Tryz.zeroValue389
 t64 := Tryz.underlying390
 a64 := Tryz.isAgg390
 z64 := Tryz.sizeOf390
 v64 := Tryz.zeroValue390 }
def Tryz.containsStr_ren : Go.Shelf.Ren := ⟨fun | 144 => 179 | 143 => 291 | 219 => 354 | 217 => 386 | 225 => 387 | 224 => 388 | 267 => 389 | 266 => 404 | 314 => 405 | n => n, fun | 9 => 9 | 4 => 4 | 3 => 3 | 5 => 5 | 46 => 239 | 146 => 386 | 51 => 366 | n => n, fun | 1 => 0 | n => n⟩
theorem Tryz.containsStr : Go.Proofs.LaysM.n144 Tryz.prog Tryz.containsStr_ren := {
 mixed := by kernel_rfl
 f143 := Tryz.func291.trans (congrArg some (by kernel_rfl))
 f144 := Tryz.func179.trans (congrArg some (by kernel_rfl))
 f217 := Tryz.func386.trans (congrArg some (by kernel_rfl))
 f219 := Tryz.func354.trans (congrArg some (by kernel_rfl))
 f224 := Tryz.func388.trans (congrArg some (by kernel_rfl))
 f225 := Tryz.func387.trans (congrArg some (by kernel_rfl))
 f266 := Tryz.func404.trans (congrArg some (by kernel_rfl))
 f267 := Tryz.func389.trans (congrArg some (by kernel_rfl))
 f314 := Tryz.func405.trans (congrArg some (by kernel_rfl))
 t3 := Tryz.underlying3
 a3 := Tryz.isAgg3
 z3 := Tryz.sizeOf3
 v3 := Tryz.zeroValue3
 t4 := Tryz.underlying4
 a4 := Tryz.isAgg4
 z4 := Tryz.sizeOf4
 v4 := Tryz.zeroValue4
 t5 := Tryz.underlying5
 a5 := Tryz.isAgg5
 z5 := Tryz.sizeOf5
 v5 := Tryz.zeroValue5
 t9 := Tryz.underlying9
 a9 := Tryz.isAgg9
 z9 := Tryz.sizeOf9
 v9 := Tryz.zeroValue9
 t46 := Tryz.underlying239
 a46 := Tryz.isAgg239
 z46 := Tryz.sizeOf239
 v46 := Tryz.zeroValue239
 t51 := Tryz.underlying366
 a51 := Tryz.isAgg366
 z51 := Tryz.sizeOf366
 v51 := Tryz.zeroValue366
 t146 := Tryz.underlying386
 a146 := Tryz.isAgg386
 z146 := Tryz.sizeOf386
 v146 := Tryz.zeroValue386
 g1 := by kernel_rfl
 i3 := by kernel_rfl
 i4 := by kernel_rfl
 i5 := by kernel_rfl
 i9 := by kernel_rfl
 i46 := by kernel_rfl
 i51 := by kernel_rfl
 i146 := by kernel_rfl
 m1 := by kernel_rfl
 s1_3 := fun w h => Go.Proofs.cell_of_shapedOpen_int (zero := #[.int .i64 0]) (t := 3) h (of_decide_eq_true (by kernel_rfl)) (by kernel_rfl) rfl (by kernel_rfl) (by kernel_rfl) Tryz.underlying3 }
end Go.Proofs
namespace Go.Proofs.YtmaefakalikkiaaGreat
open Go Go.Abs
theorem Y9p : Y8l Tryz.prog 238 9 where
 enters := Abs.enters_of Tryz.func238 rfl rfl
 ofNone p cap fv w := AnyF.slices_SortFunc_none Tryz.sortEvent p cap fv w
 ofSome enc hk h1 cf hO g cb blk cap d w eg hcmp hH hblk hsz hT := AnyQ.slices_SortFunc_total Tryz.sortEvent 9 Tryz.isAgg42 Tryz.sizeOf42 enc hk h1 cf hO g cb blk 0 cap d w eg hcmp hH hblk hsz hT
theorem Y9q : Y8o Tryz.prog 378 where
 enters := Abs.enters_of Tryz.func378 rfl rfl
 ofNone p cap w := AnyM.slices_Sort_int_none Tryz.sortInts p cap w
 ofSome blk cap zs w hH hblk hsz := AnyM.slices_Sort_int Tryz.sortInts blk 0 cap zs w hH hblk hsz
theorem Y9r {P : Program} {f : Nat} (hg : GlbP 0) (he : Y1z P f)
  (hc : ∀ (s t : ByteArray) (m : Int) (w : World), s.size < 4294967281 → w.cell? ⟨0, 0, none⟩ = some (.int .i64 m) → Calls P f #[.string s, .string t] w fun e w' => e = .returned (.bool (Go.Lib.contains s.data.toList t.data.toList)) ∧ w' = w)
  (p0 p1 : ByteArray) : Sp P f [C.str p0, C.str p1] ((chk (decide (p0.size < 4294967281))).bind fun _ => some (Go.Lib.contains p0.data.toList p1.data.toList)) (fun r => C.bool r) where
 h r hr := by
  obtain ⟨u, h1, h2⟩ := ob hr
  have hs : p0.size < 4294967281 := of_decide_eq_true (Y45 h1)
  obtain rfl := Option.some.inj h2
  refine ⟨he, fun w F G vals hv ho hf => ?_⟩
  obtain ⟨v, r1, rfl, e1, v2, r2, rfl, e2, rfl⟩ := hv
  rw [show v = .string p0 from e1, show v2 = .string p1 from e2]
  obtain ⟨m, _, hm⟩ := hf.glob 0 hg
  refine (hc p0 p1 m w hs hm).mono ?_
  rintro e w' ⟨rfl, rfl⟩
  exact ⟨_, _, [], F, G, rfl, ⟨rfl, rfl⟩, rfl, ⟨ho, fun _ h => h, fun b hb => ⟨hf.fin b hb, .inl hb⟩, fun b hb => ⟨(hf.gin b hb).1, (hf.gin b hb).2, .inl hb⟩, Chg.refl G w'⟩⟩
theorem Y9s : Y1z Tryz.prog 179 := Abs.enters_of Tryz.func179 rfl rfl
theorem Y9t (s t : ByteArray) (m : Int) (w : World) (hs : s.size < 4294967281) (hm : w.cell? ⟨0, 0, none⟩ = some (.int .i64 m)) : Calls Tryz.prog 179 #[.string s, .string t] w fun e w' => e = .returned (.bool (Go.Lib.contains s.data.toList t.data.toList)) ∧ w' = w :=
 Any.strings_Contains { Tryz.containsStr with } s t m w hs hm
theorem Y9u (w : World) (h : w.ShapedOpen Tryz.prog) : ∃ m, w.cell? ⟨0, 0, none⟩ = some (.int .i64 m) := Tryz.containsStr.s1_3 w h
end Go.Proofs.YtmaefakalikkiaaGreat
