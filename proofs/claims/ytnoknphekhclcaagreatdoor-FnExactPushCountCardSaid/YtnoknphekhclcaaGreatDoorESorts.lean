/-
 DERIVED: THE SHELF's CONTRACTS AT THIS DUMP, IN PLAIN WORDS (tools/lay-plain.mjs out of 'SortsLayTmpSortsS.lean', which tools/lay-shelf.mjs wrote): THE SAME DECLARATIONS UNDER THE SAME NAMES: 'import', 'namespace', 'open', 'def', 'theorem' AND NOTHING ELSE: no command of the shelf's: FOR A HAND-IN. Each laying: the table of numbers ('.._ren') and one theorem, a field a fact of the dump's own or the kernel's comparison; each contract: ONE APPLICATION.
-/
import Derived.Shelf.SlSortCmp.NoneTotal
import Derived.Shelf.SortM.SortNone
import Derived.Shelf.LaysM
import Derived.Shelf.Strings.Search3
import Derived.Shelf.SortM.Plain
import Derived.Shelf.Strconv.Itoa4
import Derived.Test.YtnoknphekhclcaaGreatDoorEBG
import Derived.Test.YtnoknphekhclcaaGreatDoorProg
set_option autoImplicit false
set_option linter.unusedVariables false
set_option linter.unusedSimpArgs false
namespace Go.Proofs
open Go.Shelf
def Tryz.sortEvent_ren : Go.Shelf.Ren := ⟨fun | 6 => 192 | 15 => 224 | 14 => 223 | 28 => 242 | 29 => 209 | 20 => 234 | 21 => 235 | 22 => 236 | 23 => 237 | 24 => 238 | 25 => 239 | 26 => 240 | 27 => 241 | 46 => 248 | 47 => 249 | 48 => 250 | 49 => 251 | 50 => 252 | 57 => 256 | n => n, fun | 22 => 116 | 24 => 82 | 25 => 236 | 3 => 3 | 39 => 213 | 0 => 0 | 53 => 242 | 55 => 215 | 4 => 4 | 46 => 265 | 45 => 264 | 50 => 174 | 5 => 5 | 9 => 9 | 66 => 273 | 70 => 277 | 76 => 281 | 77 => 282 | n => n, fun | n => n⟩
theorem Tryz.sortEvent : Go.Proofs.SlLaysF0.n6 Tryz.prog Tryz.sortEvent_ren := {
 mixed := by kernel_rfl
 f6 := ⟨Tryz.f192.name, by decide, Tryz.func192.trans (congrArg some (by kernel_rfl))⟩
 f14 := ⟨Tryz.f223.name, by decide, Tryz.func223.trans (congrArg some (by kernel_rfl))⟩
 f15 := Tryz.func224.trans (congrArg some (by kernel_rfl))
 f20 := ⟨Tryz.f234.name, by decide, Tryz.func234.trans (congrArg some (by kernel_rfl))⟩
 f21 := ⟨Tryz.f235.name, by decide, Tryz.func235.trans (congrArg some (by kernel_rfl))⟩
 f22 := ⟨Tryz.f236.name, by decide, Tryz.func236.trans (congrArg some (by kernel_rfl))⟩
 f23 := ⟨Tryz.f237.name, by decide, Tryz.func237.trans (congrArg some (by kernel_rfl))⟩
 f24 := ⟨Tryz.f238.name, by decide, Tryz.func238.trans (congrArg some (by kernel_rfl))⟩
 f25 := ⟨Tryz.f239.name, by decide, Tryz.func239.trans (congrArg some (by kernel_rfl))⟩
 f26 := ⟨Tryz.f240.name, by decide, Tryz.func240.trans (congrArg some (by kernel_rfl))⟩
 f27 := ⟨Tryz.f241.name, by decide, Tryz.func241.trans (congrArg some (by kernel_rfl))⟩
 f28 := Tryz.func242.trans (congrArg some (by kernel_rfl))
 f29 := Tryz.func209.trans (congrArg some (by kernel_rfl))
 f46 := ⟨Tryz.f248.name, by decide, Tryz.func248.trans (congrArg some (by kernel_rfl))⟩
 f47 := Tryz.func249.trans (congrArg some (by kernel_rfl))
 f48 := Tryz.func250.trans (congrArg some (by kernel_rfl))
 f49 := ⟨Tryz.f251.name, by decide, Tryz.func251.trans (congrArg some (by kernel_rfl))⟩
 f50 := ⟨Tryz.f252.name, by decide, Tryz.func252.trans (congrArg some (by kernel_rfl))⟩
 f57 := ⟨Tryz.f256.name, by decide, Tryz.func256.trans (congrArg some (by kernel_rfl))⟩
 t0 := Tryz.underlying0
 a0 := Tryz.isAgg0
 z0 := Tryz.sizeOf0
 v0 := Tryz.zeroValue0
 t3 := Tryz.underlying3
 a3 := Tryz.isAgg3
 z3 := Tryz.sizeOf3
 v3 := Tryz.zeroValue3
 t4 := Tryz.underlying4
 a4 := Tryz.isAgg4
 z4 := Tryz.sizeOf4
 v4 := Tryz.zeroValue4
 t5 := Tryz.underlying5
 a5 := Tryz.isAgg5
 z5 := Tryz.sizeOf5
 v5 := Tryz.zeroValue5
 t9 := Tryz.underlying9
 a9 := Tryz.isAgg9
 z9 := Tryz.sizeOf9
 v9 := Tryz.zeroValue9
 t22 := Tryz.underlying116
 a22 := Tryz.isAgg116
 z22 := Tryz.sizeOf116
 v22 := Tryz.zeroValue116
 t25 := Tryz.underlying236
 a25 := Tryz.isAgg236
 z25 := Tryz.sizeOf236
 v25 := Tryz.zeroValue236
 t39 := Tryz.underlying213
 a39 := Tryz.isAgg213
 z39 := Tryz.sizeOf213
 v39 := Tryz.zeroValue213
 t45 := Tryz.underlying264
 a45 := Tryz.isAgg264
 z45 := Tryz.sizeOf264
 v45 := Tryz.zeroValue264
 t46 := Tryz.underlying265
 a46 := Tryz.isAgg265
 z46 := Tryz.sizeOf265
 v46 := Tryz.zeroValue265
 t50 := Tryz.underlying174
 a50 := Tryz.isAgg174
 z50 := Tryz.sizeOf174
 v50 := Tryz.zeroValue174
 t53 := Tryz.underlying242
 a53 := Tryz.isAgg242
 z53 := Tryz.sizeOf242
 v53 := Tryz.zeroValue242
 t55 := Tryz.underlying215
 a55 := Tryz.isAgg215
 z55 := Tryz.sizeOf215
 v55 := Tryz.zeroValue215
 t66 := Tryz.underlying273
 a66 := Tryz.isAgg273
 z66 := Tryz.sizeOf273
 v66 := Tryz.zeroValue273
 t70 := Tryz.underlying277
 a70 := Tryz.isAgg277
 z70 := Tryz.sizeOf277
 v70 := Tryz.zeroValue277
 t76 := Tryz.underlying281
 a76 := Tryz.isAgg281
 z76 := Tryz.sizeOf281
 v76 := Tryz.zeroValue281
 t77 := Tryz.underlying282
 a77 := Tryz.isAgg282
 z77 := Tryz.sizeOf282
 v77 := Tryz.zeroValue282 }
def Tryz.sortInts_ren : Go.Shelf.Ren := ⟨fun | 5 => 254 | 8 => 224 | 7 => 257 | 19 => 242 | 20 => 209 | 10 => 258 | 11 => 259 | 12 => 260 | 13 => 261 | 14 => 262 | 15 => 263 | 16 => 264 | 17 => 265 | 18 => 266 | 30 => 267 | 31 => 249 | 32 => 250 | 33 => 268 | 34 => 269 | 35 => 188 | 40 => 270 | n => n, fun | 23 => 44 | 25 => 2 | 3 => 3 | 32 => 213 | 22 => 44 | 0 => 0 | 44 => 242 | 46 => 215 | 4 => 4 | 36 => 265 | 35 => 264 | 41 => 174 | 5 => 5 | 9 => 9 | 53 => 273 | 57 => 277 | 63 => 281 | 64 => 282 | n => n, fun | n => n⟩
theorem Tryz.sortInts : Go.Proofs.SlLaysM.n5 Tryz.prog Tryz.sortInts_ren := {
 mixed := by kernel_rfl
 f5 := ⟨Tryz.f254.name, by decide, Tryz.func254.trans (congrArg some (by kernel_rfl))⟩
 f7 := ⟨Tryz.f257.name, by decide, Tryz.func257.trans (congrArg some (by kernel_rfl))⟩
 f8 := Tryz.func224.trans (congrArg some (by kernel_rfl))
 f10 := ⟨Tryz.f258.name, by decide, Tryz.func258.trans (congrArg some (by kernel_rfl))⟩
 f11 := ⟨Tryz.f259.name, by decide, Tryz.func259.trans (congrArg some (by kernel_rfl))⟩
 f12 := ⟨Tryz.f260.name, by decide, Tryz.func260.trans (congrArg some (by kernel_rfl))⟩
 f13 := ⟨Tryz.f261.name, by decide, Tryz.func261.trans (congrArg some (by kernel_rfl))⟩
 f14 := ⟨Tryz.f262.name, by decide, Tryz.func262.trans (congrArg some (by kernel_rfl))⟩
 f15 := ⟨Tryz.f263.name, by decide, Tryz.func263.trans (congrArg some (by kernel_rfl))⟩
 f16 := ⟨Tryz.f264.name, by decide, Tryz.func264.trans (congrArg some (by kernel_rfl))⟩
 f17 := ⟨Tryz.f265.name, by decide, Tryz.func265.trans (congrArg some (by kernel_rfl))⟩
 f18 := ⟨Tryz.f266.name, by decide, Tryz.func266.trans (congrArg some (by kernel_rfl))⟩
 f19 := Tryz.func242.trans (congrArg some (by kernel_rfl))
 f20 := Tryz.func209.trans (congrArg some (by kernel_rfl))
 f30 := ⟨Tryz.f267.name, by decide, Tryz.func267.trans (congrArg some (by kernel_rfl))⟩
 f31 := Tryz.func249.trans (congrArg some (by kernel_rfl))
 f32 := Tryz.func250.trans (congrArg some (by kernel_rfl))
 f33 := ⟨Tryz.f268.name, by decide, Tryz.func268.trans (congrArg some (by kernel_rfl))⟩
 f34 := ⟨Tryz.f269.name, by decide, Tryz.func269.trans (congrArg some (by kernel_rfl))⟩
 f35 := ⟨Tryz.f188.name, by decide, Tryz.func188.trans (congrArg some (by kernel_rfl))⟩
 f40 := ⟨Tryz.f270.name, by decide, Tryz.func270.trans (congrArg some (by kernel_rfl))⟩
 t0 := Tryz.underlying0
 a0 := Tryz.isAgg0
 z0 := Tryz.sizeOf0
 v0 := Tryz.zeroValue0
 t3 := Tryz.underlying3
 a3 := Tryz.isAgg3
 z3 := Tryz.sizeOf3
 v3 := Tryz.zeroValue3
 t4 := Tryz.underlying4
 a4 := Tryz.isAgg4
 z4 := Tryz.sizeOf4
 v4 := Tryz.zeroValue4
 t5 := Tryz.underlying5
 a5 := Tryz.isAgg5
 z5 := Tryz.sizeOf5
 v5 := Tryz.zeroValue5
 t9 := Tryz.underlying9
 a9 := Tryz.isAgg9
 z9 := Tryz.sizeOf9
 v9 := Tryz.zeroValue9
 t22 := Tryz.underlying44
 a22 := Tryz.isAgg44
 z22 := Tryz.sizeOf44
 v22 := Tryz.zeroValue44
 t23 := Tryz.underlying44
 a23 := Tryz.isAgg44
 z23 := Tryz.sizeOf44
 v23 := Tryz.zeroValue44
 t25 := Tryz.underlying2
 a25 := Tryz.isAgg2
 z25 := Tryz.sizeOf2
 v25 := Tryz.zeroValue2
 t32 := Tryz.underlying213
 a32 := Tryz.isAgg213
 z32 := Tryz.sizeOf213
 v32 := Tryz.zeroValue213
 t35 := Tryz.underlying264
 a35 := Tryz.isAgg264
 z35 := Tryz.sizeOf264
 v35 := Tryz.zeroValue264
 t36 := Tryz.underlying265
 a36 := Tryz.isAgg265
 z36 := Tryz.sizeOf265
 v36 := Tryz.zeroValue265
 t41 := Tryz.underlying174
 a41 := Tryz.isAgg174
 z41 := Tryz.sizeOf174
 v41 := Tryz.zeroValue174
 t44 := Tryz.underlying242
 a44 := Tryz.isAgg242
 z44 := Tryz.sizeOf242
 v44 := Tryz.zeroValue242
 t46 := Tryz.underlying215
 a46 := Tryz.isAgg215
 z46 := Tryz.sizeOf215
 v46 := Tryz.zeroValue215
 t53 := Tryz.underlying273
 a53 := Tryz.isAgg273
 z53 := Tryz.sizeOf273
 v53 := Tryz.zeroValue273
 t57 := Tryz.underlying277
 a57 := Tryz.isAgg277
 z57 := Tryz.sizeOf277
 v57 := Tryz.zeroValue277
 t63 := Tryz.underlying281
 a63 := Tryz.isAgg281
 z63 := Tryz.sizeOf281
 v63 := Tryz.zeroValue281
 t64 := Tryz.underlying282
 a64 := Tryz.isAgg282
 z64 := Tryz.sizeOf282
 v64 := Tryz.zeroValue282 }
def Tryz.containsStr_ren : Go.Shelf.Ren := ⟨fun | 144 => 58 | 143 => 97 | 219 => 131 | 217 => 163 | 225 => 164 | 224 => 165 | 267 => 166 | 266 => 206 | 314 => 207 | n => n, fun | 9 => 9 | 4 => 4 | 3 => 3 | 5 => 5 | 46 => 213 | 146 => 243 | 51 => 242 | n => n, fun | 1 => 0 | n => n⟩
theorem Tryz.containsStr : Go.Proofs.LaysM.n144 Tryz.prog Tryz.containsStr_ren := {
 mixed := by kernel_rfl
 f143 := Tryz.func97.trans (congrArg some (by kernel_rfl))
 f144 := Tryz.func58.trans (congrArg some (by kernel_rfl))
 f217 := Tryz.func163.trans (congrArg some (by kernel_rfl))
 f219 := Tryz.func131.trans (congrArg some (by kernel_rfl))
 f224 := Tryz.func165.trans (congrArg some (by kernel_rfl))
 f225 := Tryz.func164.trans (congrArg some (by kernel_rfl))
 f266 := Tryz.func206.trans (congrArg some (by kernel_rfl))
 f267 := Tryz.func166.trans (congrArg some (by kernel_rfl))
 f314 := Tryz.func207.trans (congrArg some (by kernel_rfl))
 t3 := Tryz.underlying3
 a3 := Tryz.isAgg3
 z3 := Tryz.sizeOf3
 v3 := Tryz.zeroValue3
 t4 := Tryz.underlying4
 a4 := Tryz.isAgg4
 z4 := Tryz.sizeOf4
 v4 := Tryz.zeroValue4
 t5 := Tryz.underlying5
 a5 := Tryz.isAgg5
 z5 := Tryz.sizeOf5
 v5 := Tryz.zeroValue5
 t9 := Tryz.underlying9
 a9 := Tryz.isAgg9
 z9 := Tryz.sizeOf9
 v9 := Tryz.zeroValue9
 t46 := Tryz.underlying213
 a46 := Tryz.isAgg213
 z46 := Tryz.sizeOf213
 v46 := Tryz.zeroValue213
 t51 := Tryz.underlying242
 a51 := Tryz.isAgg242
 z51 := Tryz.sizeOf242
 v51 := Tryz.zeroValue242
 t146 := Tryz.underlying243
 a146 := Tryz.isAgg243
 z146 := Tryz.sizeOf243
 v146 := Tryz.zeroValue243
 g1 := by kernel_rfl
 i3 := by kernel_rfl
 i4 := by kernel_rfl
 i5 := by kernel_rfl
 i9 := by kernel_rfl
 i46 := by kernel_rfl
 i51 := by kernel_rfl
 i146 := by kernel_rfl
 m1 := by kernel_rfl
 s1_3 := fun w h => Go.Proofs.cell_of_shapedOpen_int (zero := #[.int .i64 0]) (t := 3) h (of_decide_eq_true (by kernel_rfl)) (by kernel_rfl) rfl (by kernel_rfl) (by kernel_rfl) Tryz.underlying3 }
def Tryz.formatInt_ren : Go.Shelf.Ren := ⟨fun | 173 => 98 | 246 => 132 | 283 => 167 | 284 => 168 | 285 => 169 | 286 => 170 | 129 => 209 | 317 => 208 | 318 => 210 | 319 => 211 | 320 => 212 | 337 => 230 | 338 => 231 | n => n, fun | 2 => 2 | 3 => 3 | 9 => 9 | 4 => 4 | 171 => 214 | 0 => 0 | 53 => 215 | 37 => 144 | 5 => 5 | 173 => 218 | 212 => 246 | 51 => 242 | 20 => 20 | 213 => 247 | 46 => 213 | 232 => 271 | 233 => 272 | n => n, fun | 17 => 1 | 18 => 2 | 19 => 3 | n => n⟩
theorem Tryz.formatInt : Go.Proofs.Lays.n173 Tryz.prog Tryz.formatInt_ren := {
 mixed := by kernel_rfl
 f129 := Tryz.func209.trans (congrArg some (by kernel_rfl))
 f173 := Tryz.func98.trans (congrArg some (by kernel_rfl))
 f246 := Tryz.func132.trans (congrArg some (by kernel_rfl))
 f283 := Tryz.func167.trans (congrArg some (by kernel_rfl))
 f284 := Tryz.func168.trans (congrArg some (by kernel_rfl))
 f285 := Tryz.func169.trans (congrArg some (by kernel_rfl))
 f286 := Tryz.func170.trans (congrArg some (by kernel_rfl))
 f317 := Tryz.func208.trans (congrArg some (by kernel_rfl))
 f318 := Tryz.func210.trans (congrArg some (by kernel_rfl))
 f319 := Tryz.func211.trans (congrArg some (by kernel_rfl))
 f320 := Tryz.func212.trans (congrArg some (by kernel_rfl))
 f337 := Tryz.func230.trans (congrArg some (by kernel_rfl))
 f338 := Tryz.func231.trans (congrArg some (by kernel_rfl))
 t0 := Tryz.underlying0
 a0 := Tryz.isAgg0
 z0 := Tryz.sizeOf0
 v0 := Tryz.zeroValue0
 t2 := Tryz.underlying2
 a2 := Tryz.isAgg2
 z2 := Tryz.sizeOf2
 v2 := Tryz.zeroValue2
 t3 := Tryz.underlying3
 a3 := Tryz.isAgg3
 z3 := Tryz.sizeOf3
 v3 := Tryz.zeroValue3
 t4 := Tryz.underlying4
 a4 := Tryz.isAgg4
 z4 := Tryz.sizeOf4
 v4 := Tryz.zeroValue4
 t5 := Tryz.underlying5
 a5 := Tryz.isAgg5
 z5 := Tryz.sizeOf5
 v5 := Tryz.zeroValue5
 t9 := Tryz.underlying9
 a9 := Tryz.isAgg9
 z9 := Tryz.sizeOf9
 v9 := Tryz.zeroValue9
 t20 := Tryz.underlying20
 a20 := Tryz.isAgg20
 z20 := Tryz.sizeOf20
 v20 := Tryz.zeroValue20
 t37 := Tryz.underlying144
 a37 := Tryz.isAgg144
 z37 := Tryz.sizeOf144
 v37 := Tryz.zeroValue144
 t46 := Tryz.underlying213
 a46 := Tryz.isAgg213
 z46 := Tryz.sizeOf213
 v46 := Tryz.zeroValue213
 t51 := Tryz.underlying242
 a51 := Tryz.isAgg242
 z51 := Tryz.sizeOf242
 v51 := Tryz.zeroValue242
 t53 := Tryz.underlying215
 a53 := Tryz.isAgg215
 z53 := Tryz.sizeOf215
 v53 := Tryz.zeroValue215
 t171 := Tryz.underlying214
 a171 := Tryz.isAgg214
 z171 := Tryz.sizeOf214
 v171 := Tryz.zeroValue214
 t173 := Tryz.underlying218
 a173 := Tryz.isAgg218
 z173 := Tryz.sizeOf218
 v173 := Tryz.zeroValue218
 t212 := Tryz.underlying246
 a212 := Tryz.isAgg246
 z212 := Tryz.sizeOf246
 v212 := Tryz.zeroValue246
 t213 := Tryz.underlying247
 a213 := Tryz.isAgg247
 z213 := Tryz.sizeOf247
 t232 := Tryz.underlying271
 a232 := Tryz.isAgg271
 z232 := Tryz.sizeOf271
 v232 := Tryz.zeroValue271
 t233 := Tryz.underlying272
 a233 := Tryz.isAgg272
 z233 := Tryz.sizeOf272
 v233 := Tryz.zeroValue272
 g17 := by kernel_rfl
 g18 := by kernel_rfl
 g19 := by kernel_rfl }
end Go.Proofs
namespace Go.Proofs.YtnoknphekhclcaaGreatDoor
open Go Go.Abs
theorem Y9k : Y8g Tryz.prog 192 9 where
 enters := Abs.enters_of Tryz.func192 rfl rfl
 ofNone p cap fv w := AnyF.slices_SortFunc_none Tryz.sortEvent p cap fv w
 ofSome enc hk h1 cf hO g cb blk cap d w eg hcmp hH hblk hsz hT := AnyQ.slices_SortFunc_total Tryz.sortEvent 9 Tryz.isAgg82 Tryz.sizeOf82 enc hk h1 cf hO g cb blk 0 cap d w eg hcmp hH hblk hsz hT
theorem Y9l : Y8j Tryz.prog 254 where
 enters := Abs.enters_of Tryz.func254 rfl rfl
 ofNone p cap w := AnyM.slices_Sort_int_none Tryz.sortInts p cap w
 ofSome blk cap zs w hH hblk hsz := AnyM.slices_Sort_int Tryz.sortInts blk 0 cap zs w hH hblk hsz
theorem Y9m {P : Program} {f : Nat} (hg : GlbP 0) (he : Y1z P f)
  (hc : ∀ (s t : ByteArray) (m : Int) (w : World), s.size < 4294967281 → w.cell? ⟨0, 0, none⟩ = some (.int .i64 m) → Calls P f #[.string s, .string t] w fun e w' => e = .returned (.bool (Go.Lib.contains s.data.toList t.data.toList)) ∧ w' = w)
  (p0 p1 : ByteArray) : Sp P f [C.str p0, C.str p1] ((chk (decide (p0.size < 4294967281))).bind fun _ => some (Go.Lib.contains p0.data.toList p1.data.toList)) (fun r => C.bool r) where
 h r hr := by
  obtain ⟨u, h1, h2⟩ := ob hr
  have hs : p0.size < 4294967281 := of_decide_eq_true (Y45 h1)
  obtain rfl := Option.some.inj h2
  refine ⟨he, fun w F G vals hv ho hf => ?_⟩
  obtain ⟨v, r1, rfl, e1, v2, r2, rfl, e2, rfl⟩ := hv
  rw [show v = .string p0 from e1, show v2 = .string p1 from e2]
  obtain ⟨m, _, hm⟩ := hf.glob 0 hg
  refine (hc p0 p1 m w hs hm).mono ?_
  rintro e w' ⟨rfl, rfl⟩
  exact ⟨_, _, [], F, G, rfl, ⟨rfl, rfl⟩, rfl, ⟨ho, fun _ h => h, fun b hb => ⟨hf.fin b hb, .inl hb⟩, fun b hb => ⟨(hf.gin b hb).1, (hf.gin b hb).2, .inl hb⟩, Chg.refl G w'⟩⟩
theorem Y9n : Y1z Tryz.prog 58 := Abs.enters_of Tryz.func58 rfl rfl
theorem Y9o (s t : ByteArray) (m : Int) (w : World) (hs : s.size < 4294967281) (hm : w.cell? ⟨0, 0, none⟩ = some (.int .i64 m)) : Calls Tryz.prog 58 #[.string s, .string t] w fun e w' => e = .returned (.bool (Go.Lib.contains s.data.toList t.data.toList)) ∧ w' = w :=
 Any.strings_Contains { Tryz.containsStr with } s t m w hs hm
theorem Y9p (w : World) (h : w.ShapedOpen Tryz.prog) : ∃ m, w.cell? ⟨0, 0, none⟩ = some (.int .i64 m) := Tryz.containsStr.s1_3 w h
theorem Y9q {P : Program} {f : Nat} (he : Y1z P f)
  (hc : ∀ (i : Nat) (w : World), i < 100 → Calls P f #[.int .i64 i, .int .i64 10] w fun e w' => e = .returned (.string ⟨(Go.Lib.decDigits i).toArray⟩) ∧ w' = w)
  (p0 p1 : Int) : Sp P f [C.int p0, C.int p1] ((chk (decide ((0 ≤ p0 ∧ p0 < 100) ∧ p1 = 10))).bind fun _ => some (ByteArray.mk (Go.Lib.decDigits p0.toNat).toArray)) (fun r => C.str r) where
 h r hr := by
  obtain ⟨u, h1, h2⟩ := ob hr
  obtain ⟨⟨h3, h4⟩, rfl⟩ := of_decide_eq_true (Y45 h1)
  obtain rfl := Option.some.inj h2
  refine ⟨he, fun w F G vals hv ho hf => ?_⟩
  obtain ⟨v, r1, rfl, e1, v2, r2, rfl, e2, rfl⟩ := hv
  obtain ⟨i, rfl⟩ := Int.eq_ofNat_of_zero_le h3
  rw [show v = .int .i64 i from e1, show v2 = .int .i64 10 from e2]
  refine (hc i w (by omega)).mono ?_
  rintro e w' ⟨rfl, rfl⟩
  exact ⟨_, _, [], F, G, rfl, ⟨rfl, rfl⟩, rfl, ⟨ho, fun _ h => h, fun b hb => ⟨hf.fin b hb, .inl hb⟩, fun b hb => ⟨(hf.gin b hb).1, (hf.gin b hb).2, .inl hb⟩, Chg.refl G w'⟩⟩
theorem Y9r : Y1z Tryz.prog 98 := Abs.enters_of Tryz.func98 rfl rfl
theorem Y9s (i : Nat) (w : World) (hi : i < 100) : Calls Tryz.prog 98 #[.int .i64 i, .int .i64 10] w fun e w' => e = .returned (.string ⟨(Go.Lib.decDigits i).toArray⟩) ∧ w' = w :=
 Any.strconv_FormatInt_10_small Tryz.formatInt i hi w
end Go.Proofs.YtnoknphekhclcaaGreatDoor
