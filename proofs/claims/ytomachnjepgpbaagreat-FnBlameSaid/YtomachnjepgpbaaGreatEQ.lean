/- Printed by gen.py: plain functions for Go functions, and that the walks keep to them. -/
import Derived.Test.YtomachnjepgpbaaGreatEQ8
set_option autoImplicit false
set_option linter.unusedVariables false
set_option linter.unusedSimpArgs false
set_option maxHeartbeats 8000000
set_option maxRecDepth 100000
namespace Go.Proofs.YtomachnjepgpbaaGreat
open Go Go.Abs
attribute [local irreducible] AW Ops OpsD Y3z VoK HoK GhF UsC Go.Abs.Fin PkK LenT LenL Y98 BldK FzK FzLK
def Zjf (r11 : Y9k × Int) (x32 : Int) (x33 : Int) (x34 : Int) (r130 : Y9l) (x136 : Bool) : Option Bool := cond x136 (some true) ((Ziq r130.graph 1000000).bind fun r138 => cond (x32 == 2) ((Zj8 r130.graph r138 x33).bind fun r141 => some (r141 == x34)) ((Zjb r130.graph r138 x33).bind fun r143 => (Zjd r11.1 r11.2).bind fun r145 => (Zjb r11.1 r145 x33).bind fun r147 => some (r143 == r147)))
def Zjg (r11 : Y9k × Int) (x30 : Int) (x31 : Int) (x32 : Int) (x33 : Int) (x34 : Int) (x35 : ByteArray) (x37 : Int) (x38 : Int) (x125 : Bool) : Option Bool := cond x125 (some false) (cond (x38 != 0) (some true) ((Z3z r11.1 (Y9j.mk 1000000 x30 x31 x32 x33 x34 x35 [r11.2] x37)).bind fun r130 => cond (r130.code != 0) (Zjf r11 x32 x33 x34 r130 true) ((Zio r130.graph 1000000).bind fun r134 => Zjf r11 x32 x33 x34 r130 (r134 != 0))))
def Zjh (r4 : Y9k × Int) (r9 : Int) (r11 : Y9k × Int) (x30 : Int) (x31 : Int) (x32 : Int) (x33 : Int) (x34 : Int) (x35 : ByteArray) (x37 : Int) (x38 : Int) : Option Bool := cond (r9 != 0) ((Zij r4.1 r9).bind fun r120 => cond (r120.kind != 2) (Zjg r11 x30 x31 x32 x33 x34 x35 x37 x38 true) ((Zij r4.1 r9).bind fun r123 => Zjg r11 x30 x31 x32 x33 x34 x35 x37 x38 (r123.key != r4.2))) (Zjg r11 x30 x31 x32 x33 x34 x35 x37 x38 false)
def Zji (x94 : Int) (x117 : Bool) : Option (Int ⊕ (Bool ⊕ Unit)) := cond x117 (some (.inr (.inl false))) (some (.inl (IntKind.i64.wrap (x94 + 1))))
def Zjj (r4 : Y9k × Int) (r7 : List Int) (x94 : Int) (x102 : Int) (x103 : Int) (x104 : Int) (x105 : Int) (x106 : Int) (x107 : Int) (x108 : ByteArray) (l109 : List Int) (x110 : Int) : Option (Int ⊕ (Bool ⊕ Unit)) := cond (x104 == r4.2) (Zji x94 true) (cond (x106 != r4.2) (Zji x94 true) ((getI r7 x94).bind fun e113 => (Zio r4.1 e113).bind fun r115 => Zji x94 (r115 != 0)))
def Zjk (r4 : Y9k × Int) (r7 : List Int) (x94 : Int) : Option (Int ⊕ (Bool ⊕ Unit)) := cond (decide (x94 < (r7.length : Int))) ((getI r7 x94).bind fun e96 => (Zij r4.1 e96).bind fun r98 => Zjj r4 r7 x94 r98.id r98.room r98.author r98.kind r98.key r98.n r98.text r98.prev r98.time) (some (.inr (.inr ())))
def Zjl (r4 : Y9k × Int) (r7 : List Int) (r9 : Int) (r11 : Y9k × Int) (x30 : Int) (x31 : Int) (x32 : Int) (x33 : Int) (x34 : Int) (x35 : ByteArray) (x37 : Int) (x38 : Int) (x68 : Bool) : Option Bool := cond x68 (some false) ((iter (Zjk r4 r7) big 0).bind (fun z150 => match z150 with | .inl y149 => some y149 | .inr () => Zjh r4 r9 r11 x30 x31 x32 x33 x34 x35 x37 x38))
def Zjm (r4 : Y9k × Int) (r7 : List Int) (r9 : Int) (r11 : Y9k × Int) (x29 : Int) (x30 : Int) (x31 : Int) (x32 : Int) (x33 : Int) (x34 : Int) (x35 : ByteArray) (l36 : List Int) (x37 : Int) (x38 : Int) (x40 : Int) (x41 : Int) (x42 : Int) (x43 : Int) (x44 : Int) (x45 : Int) (x46 : ByteArray) (l47 : List Int) (x48 : Int) (x49 : Int) : Option Bool := (Zha r4.1 r4.2).bind fun r50 => (Zhe r7 r50).bind fun r52 => cond r52 ((Zi2 r4.1 r4.2).bind fun r55 => cond (r9 != r55) (Zjl r4 r7 r9 r11 x30 x31 x32 x33 x34 x35 x37 x38 true) ((Zi8 r4.1 r4.2).bind fun r58 => (Zie r4.1 r4.2).bind fun r60 => (Zhe r58 r60).bind fun r62 => cond r62 (cond (x38 != x49) (Zjl r4 r7 r9 r11 x30 x31 x32 x33 x34 x35 x37 x38 true) ((Zih (Y9j.mk x29 x30 x31 x32 x33 x34 x35 l36 x37) (Y9j.mk x40 x41 x42 x43 x44 x45 x46 l47 x48)).bind fun r66 => Zjl r4 r7 r9 r11 x30 x31 x32 x33 x34 x35 x37 x38 (!r66))) (Zjl r4 r7 r9 r11 x30 x31 x32 x33 x34 x35 x37 x38 true))) (Zjl r4 r7 r9 r11 x30 x31 x32 x33 x34 x35 x37 x38 true)
def Zjn (p0 : List Int) (p1 : List Int) (x2 : Bool) : Option Bool := cond x2 (some true) ((Z5d p0).bind fun r4 => (Zd0 r4.1 r4.2).bind fun r7 => (Ze2 r4.1 r4.2).bind fun r9 => (Ze8 p1).bind fun r11 => (Zed r11.1 r11.2).bind fun r14 => (Zh3 r11.1 r11.2).bind fun r18 => Zjm r4 r7 r9 r11 r14.event.id r14.event.room r14.event.author r14.event.kind r14.event.key r14.event.n r14.event.text r14.event.prev r14.event.time r14.code r18.event.id r18.event.room r18.event.author r18.event.kind r18.event.key r18.event.n r18.event.text r18.event.prev r18.event.time r18.code)
def Zjo (p0 : List Int) (p1 : List Int) : Option Bool := cond (decide ((p0.length : Int) > 1048576)) (Zjn p0 p1 true) (Zjn p0 p1 (decide ((p1.length : Int) > 1048576)))
instance Zjp (p0 : List Int) (p1 : List Int) : Sp Tryz.prog 4 [cM kU8 1 p0, cM kU8 1 p1] (Zjo p0 p1) C.bool := sp Tryz.func4 rfl rfl fun r X h => by
 unfold Zjo at h
 refine AW.seq ?_
 refine AW.region ?_
 refine Ops.v rfl (Ys rfl rfl) ?_
 refine Ops.nil ?_
 refine AW.seq ?_
 refine AW.seq ?_
 refine AW.cut (τ := Bool) (fun x2 => ⟨[(0, cM kU8 1 p0), (1, cM kU8 1 p1), (25, C.bool x2)], []⟩) (fun x2 => Zjn p0 p1 x2 = some r) ?_ ?_
 ·
  refine zw ?_
  refine cnd h (fun hb1 h => ?_) fun hb1 h => ?_
  ·
   refine zw ?_
   exact ⟨true, h, Y25.both (ns := []) rfl rfl⟩
  refine zw ?_
  exact ⟨decide ((p1.length : Int) > 1048576), h, Y25.both (ns := []) rfl rfl⟩
 intro x2 h
 replace h : Zjn p0 p1 x2 = some r := h
 unfold Zjn at h
 refine cnd h (fun hb3 h => ?_) fun hb3 h => ?_
 ·
  refine AW.ct hb3 rfl ?_
  refine zw ?_
  refine AW.ret ?_
  rw [← Wj h]
  exact finI ⟨[C.bool true], _, Y25.refl _, (.cons (.tmp rfl) .nil), [], _, _, rfl, ⟨rfl, rfl⟩⟩
 refine AW.cf hb3 rfl ?_
 refine zw ?_
 refine oc h fun r4 g5 h => ?_
 refine zw ?_
 refine al fun b6 => ?_
 refine zw ?_
 refine oc h fun r7 g8 h => ?_
 refine zw ?_
 refine oc h fun r9 g10 h => ?_
 refine zw ?_
 refine oc h fun r11 g12 h => ?_
 refine zw ?_
 refine al fun b13 => ?_
 refine Ops.sA Yb8.h rfl rfl rfl inferInstance rfl ?_
 refine Ops.v rfl (Ys rfl rfl) ?_
 refine Ops.nil ?_
 refine AW.seq ?_
 refine AW.cut (τ := Int × Int × Int × Int × Int × Int × ByteArray × List Int × Int × Int × Int × Int × Int × Int × Int × Int × ByteArray × List Int × Int × Int × Nat × Nat) (fun (x29, x30, x31, x32, x33, x34, x35, l36, x37, x38, x40, x41, x42, x43, x44, x45, x46, l47, x48, x49, b28, b39) => ⟨[(5, pt b6), (6, cI r4.2), (7, cM kI64 1 r7), (8, cI r9), (9, pt b13), (10, cI r11.2), (11, pt b28), (12, pt b39)], [oB b28 49 [cI x29, cI x30, cI x31, cI x32, cI x33, cI x34, C.str x35, cM kI64 1 l36, cI x37, cI x38], oB b39 49 [cI x40, cI x41, cI x42, cI x43, cI x44, cI x45, C.str x46, cM kI64 1 l47, cI x48, cI x49], oB b6 25 [cI r4.1.room, cM Y9q 9 r4.1.events, cM Y9q 9 r4.1.parked], oB b13 25 [cI r11.1.room, cM Y9q 9 r11.1.events, cM Y9q 9 r11.1.parked]]⟩) (fun (x29, x30, x31, x32, x33, x34, x35, l36, x37, x38, x40, x41, x42, x43, x44, x45, x46, l47, x48, x49, b28, b39) => Zjm r4 r7 r9 r11 x29 x30 x31 x32 x33 x34 x35 l36 x37 x38 x40 x41 x42 x43 x44 x45 x46 l47 x48 x49 = some r) ?_ ?_
 ·
  refine AW.regionD (L := [0, 3]) (Lt := [9]) (k := .light 0 true (.light 1 false (.light 3 true (.light 4 false (.three 2 6 7 (.three 5 6 7 (.two 6 7 (.one 7 (.one 8 (.late 9 (.done)))) (.one 6 (.one 8 (.late 9 (.done))))) (.two 5 7 (.one 7 (.one 8 (.late 9 (.done)))) (.one 5 (.one 8 (.late 9 (.done))))) (.two 5 6 (.one 6 (.one 8 (.late 9 (.done)))) (.one 5 (.one 8 (.late 9 (.done)))))) (.two 2 7 (.two 5 7 (.one 7 (.one 8 (.late 9 (.done)))) (.one 5 (.one 8 (.late 9 (.done))))) (.one 2 (.one 5 (.one 8 (.late 9 (.done)))))) (.two 2 6 (.two 5 6 (.one 6 (.one 8 (.late 9 (.done)))) (.one 5 (.one 8 (.late 9 (.done))))) (.one 2 (.one 5 (.one 8 (.late 9 (.done))))))))))) (ns := [0, 0]) (by kernel_rfl) (by kernel_rfl) (by kernel_rfl) (by kernel_rfl) rfl ?_
  refine zw ?_
  refine ob' h fun r14 g15 h => ?_
  refine OpsD.three ?_ ?_ ?_
  ·
   refine Y3z.h (ns := []) rfl rfl rfl (Y28 ((Zee _ _).h _ g15) rfl rfl) ?_
   rintro _ _ ⟨rfl, rfl⟩
   refine ob' h fun r18 g19 h => ?_
   refine OpsD.three ?_ ?_ ?_
   ·
    refine Y3z.h (ns := []) rfl rfl rfl (Y28 ((Zh4 _ _).h _ g19) rfl rfl) ?_
    rintro _ _ ⟨rfl, rfl⟩
    refine OpsD.two ?_ ?_
    ·
     refine dal fun b16 => ?_
     refine zw ?_
     refine dal fun b17 => ?_
     refine OpsD.one ?_
     refine Y3z.h (ns := [1]) rfl rfl rfl (Y1y (gs := [cI r14.event.id, cI r14.event.room, cI r14.event.author, cI r14.event.kind, cI r14.event.key, cI r14.event.n, C.str r14.event.text, cM kI64 1 r14.event.prev, cI r14.event.time, cI r14.code]) Yc9.h rfl rfl rfl rfl rfl) ?_
     rintro _ _ ⟨rfl, rfl⟩
     refine zw ?_
     exact ⟨(r14.event.id, r14.event.room, r14.event.author, r14.event.kind, r14.event.key, r14.event.n, r14.event.text, r14.event.prev, r14.event.time, r14.code, r18.event.id, r18.event.room, r18.event.author, r18.event.kind, r18.event.key, r18.event.n, r18.event.text, r18.event.prev, r18.event.time, r18.code, b16, b17), h, Y25.both (ns := [3, 0, 1, 0]) rfl rfl⟩
    refine dal fun b17 => ?_
    refine zw ?_
    refine dal fun b16 => ?_
    refine OpsD.one ?_
    refine Y3z.h (ns := [0]) rfl rfl rfl (Y1y (gs := [cI r14.event.id, cI r14.event.room, cI r14.event.author, cI r14.event.kind, cI r14.event.key, cI r14.event.n, C.str r14.event.text, cM kI64 1 r14.event.prev, cI r14.event.time, cI r14.code]) Yc9.h rfl rfl rfl rfl rfl) ?_
    rintro _ _ ⟨rfl, rfl⟩
    refine zw ?_
    exact ⟨(r14.event.id, r14.event.room, r14.event.author, r14.event.kind, r14.event.key, r14.event.n, r14.event.text, r14.event.prev, r14.event.time, r14.code, r18.event.id, r18.event.room, r18.event.author, r18.event.kind, r18.event.key, r18.event.n, r18.event.text, r18.event.prev, r18.event.time, r18.code, b16, b17), h, Y25.both (ns := [3, 0, 1, 0]) rfl rfl⟩
   ·
    refine dal fun b16 => ?_
    refine OpsD.two ?_ ?_
    ·
     refine Y3z.h (ns := []) rfl rfl rfl (Y28 ((Zh4 _ _).h _ g19) rfl rfl) ?_
     rintro _ _ ⟨rfl, rfl⟩
     refine zw ?_
     refine dal fun b17 => ?_
     refine OpsD.one ?_
     refine Y3z.h (ns := [1]) rfl rfl rfl (Y1y (gs := [cI r14.event.id, cI r14.event.room, cI r14.event.author, cI r14.event.kind, cI r14.event.key, cI r14.event.n, C.str r14.event.text, cM kI64 1 r14.event.prev, cI r14.event.time, cI r14.code]) Yc9.h rfl rfl rfl rfl rfl) ?_
     rintro _ _ ⟨rfl, rfl⟩
     refine zw ?_
     exact ⟨(r14.event.id, r14.event.room, r14.event.author, r14.event.kind, r14.event.key, r14.event.n, r14.event.text, r14.event.prev, r14.event.time, r14.code, r18.event.id, r18.event.room, r18.event.author, r18.event.kind, r18.event.key, r18.event.n, r18.event.text, r18.event.prev, r18.event.time, r18.code, b16, b17), h, Y25.both (ns := [3, 0, 1, 0]) rfl rfl⟩
    refine dal fun b17 => ?_
    refine OpsD.one ?_
    refine Y3z.h (ns := []) rfl rfl rfl (Y28 ((Zh4 _ _).h _ g19) rfl rfl) ?_
    rintro _ _ ⟨rfl, rfl⟩
    refine OpsD.one ?_
    refine Y3z.h (ns := [1]) rfl rfl rfl (Y1y (gs := [cI r14.event.id, cI r14.event.room, cI r14.event.author, cI r14.event.kind, cI r14.event.key, cI r14.event.n, C.str r14.event.text, cM kI64 1 r14.event.prev, cI r14.event.time, cI r14.code]) Yc9.h rfl rfl rfl rfl rfl) ?_
    rintro _ _ ⟨rfl, rfl⟩
    refine zw ?_
    exact ⟨(r14.event.id, r14.event.room, r14.event.author, r14.event.kind, r14.event.key, r14.event.n, r14.event.text, r14.event.prev, r14.event.time, r14.code, r18.event.id, r18.event.room, r18.event.author, r18.event.kind, r18.event.key, r18.event.n, r18.event.text, r18.event.prev, r18.event.time, r18.code, b16, b17), h, Y25.both (ns := [3, 0, 1, 0]) rfl rfl⟩
   refine dal fun b17 => ?_
   refine OpsD.two ?_ ?_
   ·
    refine Y3z.h (ns := []) rfl rfl rfl (Y28 ((Zh4 _ _).h _ g19) rfl rfl) ?_
    rintro _ _ ⟨rfl, rfl⟩
    refine zw ?_
    refine dal fun b16 => ?_
    refine OpsD.one ?_
    refine Y3z.h (ns := [0]) rfl rfl rfl (Y1y (gs := [cI r14.event.id, cI r14.event.room, cI r14.event.author, cI r14.event.kind, cI r14.event.key, cI r14.event.n, C.str r14.event.text, cM kI64 1 r14.event.prev, cI r14.event.time, cI r14.code]) Yc9.h rfl rfl rfl rfl rfl) ?_
    rintro _ _ ⟨rfl, rfl⟩
    refine zw ?_
    exact ⟨(r14.event.id, r14.event.room, r14.event.author, r14.event.kind, r14.event.key, r14.event.n, r14.event.text, r14.event.prev, r14.event.time, r14.code, r18.event.id, r18.event.room, r18.event.author, r18.event.kind, r18.event.key, r18.event.n, r18.event.text, r18.event.prev, r18.event.time, r18.code, b16, b17), h, Y25.both (ns := [3, 0, 1, 0]) rfl rfl⟩
   refine dal fun b16 => ?_
   refine OpsD.one ?_
   refine Y3z.h (ns := []) rfl rfl rfl (Y28 ((Zh4 _ _).h _ g19) rfl rfl) ?_
   rintro _ _ ⟨rfl, rfl⟩
   refine OpsD.one ?_
   refine Y3z.h (ns := [0]) rfl rfl rfl (Y1y (gs := [cI r14.event.id, cI r14.event.room, cI r14.event.author, cI r14.event.kind, cI r14.event.key, cI r14.event.n, C.str r14.event.text, cM kI64 1 r14.event.prev, cI r14.event.time, cI r14.code]) Yc9.h rfl rfl rfl rfl rfl) ?_
   rintro _ _ ⟨rfl, rfl⟩
   refine zw ?_
   exact ⟨(r14.event.id, r14.event.room, r14.event.author, r14.event.kind, r14.event.key, r14.event.n, r14.event.text, r14.event.prev, r14.event.time, r14.code, r18.event.id, r18.event.room, r18.event.author, r18.event.kind, r18.event.key, r18.event.n, r18.event.text, r18.event.prev, r18.event.time, r18.code, b16, b17), h, Y25.both (ns := [3, 0, 1, 0]) rfl rfl⟩
  ·
   refine dal fun b16 => ?_
   refine OpsD.two ?_ ?_
   ·
    refine Y3z.h (ns := []) rfl rfl rfl (Y28 ((Zee _ _).h _ g15) rfl rfl) ?_
    rintro _ _ ⟨rfl, rfl⟩
    refine ob' h fun r20 g21 h => ?_
    refine OpsD.two ?_ ?_
    ·
     refine Y3z.h (ns := []) rfl rfl rfl (Y28 ((Zh4 _ _).h _ g21) rfl rfl) ?_
     rintro _ _ ⟨rfl, rfl⟩
     refine zw ?_
     refine dal fun b17 => ?_
     refine OpsD.one ?_
     refine Y3z.h (ns := [1]) rfl rfl rfl (Y1y (gs := [cI r14.event.id, cI r14.event.room, cI r14.event.author, cI r14.event.kind, cI r14.event.key, cI r14.event.n, C.str r14.event.text, cM kI64 1 r14.event.prev, cI r14.event.time, cI r14.code]) Yc9.h rfl rfl rfl rfl rfl) ?_
     rintro _ _ ⟨rfl, rfl⟩
     refine zw ?_
     exact ⟨(r14.event.id, r14.event.room, r14.event.author, r14.event.kind, r14.event.key, r14.event.n, r14.event.text, r14.event.prev, r14.event.time, r14.code, r20.event.id, r20.event.room, r20.event.author, r20.event.kind, r20.event.key, r20.event.n, r20.event.text, r20.event.prev, r20.event.time, r20.code, b16, b17), h, Y25.both (ns := [3, 0, 1, 0]) rfl rfl⟩
    refine dal fun b17 => ?_
    refine OpsD.one ?_
    refine Y3z.h (ns := []) rfl rfl rfl (Y28 ((Zh4 _ _).h _ g21) rfl rfl) ?_
    rintro _ _ ⟨rfl, rfl⟩
    refine OpsD.one ?_
    refine Y3z.h (ns := [1]) rfl rfl rfl (Y1y (gs := [cI r14.event.id, cI r14.event.room, cI r14.event.author, cI r14.event.kind, cI r14.event.key, cI r14.event.n, C.str r14.event.text, cM kI64 1 r14.event.prev, cI r14.event.time, cI r14.code]) Yc9.h rfl rfl rfl rfl rfl) ?_
    rintro _ _ ⟨rfl, rfl⟩
    refine zw ?_
    exact ⟨(r14.event.id, r14.event.room, r14.event.author, r14.event.kind, r14.event.key, r14.event.n, r14.event.text, r14.event.prev, r14.event.time, r14.code, r20.event.id, r20.event.room, r20.event.author, r20.event.kind, r20.event.key, r20.event.n, r20.event.text, r20.event.prev, r20.event.time, r20.code, b16, b17), h, Y25.both (ns := [3, 0, 1, 0]) rfl rfl⟩
   refine dal fun b17 => ?_
   refine OpsD.one ?_
   refine Y3z.h (ns := []) rfl rfl rfl (Y28 ((Zee _ _).h _ g15) rfl rfl) ?_
   rintro _ _ ⟨rfl, rfl⟩
   refine zw ?_
   refine dc h fun r22 g23 h => ?_
   refine OpsD.one ?_
   refine Y3z.h (ns := [1]) rfl rfl rfl (Y1y (gs := [cI r14.event.id, cI r14.event.room, cI r14.event.author, cI r14.event.kind, cI r14.event.key, cI r14.event.n, C.str r14.event.text, cM kI64 1 r14.event.prev, cI r14.event.time, cI r14.code]) Yc9.h rfl rfl rfl rfl rfl) ?_
   rintro _ _ ⟨rfl, rfl⟩
   refine zw ?_
   exact ⟨(r14.event.id, r14.event.room, r14.event.author, r14.event.kind, r14.event.key, r14.event.n, r14.event.text, r14.event.prev, r14.event.time, r14.code, r22.event.id, r22.event.room, r22.event.author, r22.event.kind, r22.event.key, r22.event.n, r22.event.text, r22.event.prev, r22.event.time, r22.code, b16, b17), h, Y25.both (ns := [3, 0, 1, 0]) rfl rfl⟩
  refine dal fun b17 => ?_
  refine OpsD.two ?_ ?_
  ·
   refine Y3z.h (ns := []) rfl rfl rfl (Y28 ((Zee _ _).h _ g15) rfl rfl) ?_
   rintro _ _ ⟨rfl, rfl⟩
   refine ob' h fun r24 g25 h => ?_
   refine OpsD.two ?_ ?_
   ·
    refine Y3z.h (ns := []) rfl rfl rfl (Y28 ((Zh4 _ _).h _ g25) rfl rfl) ?_
    rintro _ _ ⟨rfl, rfl⟩
    refine zw ?_
    refine dal fun b16 => ?_
    refine OpsD.one ?_
    refine Y3z.h (ns := [0]) rfl rfl rfl (Y1y (gs := [cI r14.event.id, cI r14.event.room, cI r14.event.author, cI r14.event.kind, cI r14.event.key, cI r14.event.n, C.str r14.event.text, cM kI64 1 r14.event.prev, cI r14.event.time, cI r14.code]) Yc9.h rfl rfl rfl rfl rfl) ?_
    rintro _ _ ⟨rfl, rfl⟩
    refine zw ?_
    exact ⟨(r14.event.id, r14.event.room, r14.event.author, r14.event.kind, r14.event.key, r14.event.n, r14.event.text, r14.event.prev, r14.event.time, r14.code, r24.event.id, r24.event.room, r24.event.author, r24.event.kind, r24.event.key, r24.event.n, r24.event.text, r24.event.prev, r24.event.time, r24.code, b16, b17), h, Y25.both (ns := [3, 0, 1, 0]) rfl rfl⟩
   refine dal fun b16 => ?_
   refine OpsD.one ?_
   refine Y3z.h (ns := []) rfl rfl rfl (Y28 ((Zh4 _ _).h _ g25) rfl rfl) ?_
   rintro _ _ ⟨rfl, rfl⟩
   refine OpsD.one ?_
   refine Y3z.h (ns := [0]) rfl rfl rfl (Y1y (gs := [cI r14.event.id, cI r14.event.room, cI r14.event.author, cI r14.event.kind, cI r14.event.key, cI r14.event.n, C.str r14.event.text, cM kI64 1 r14.event.prev, cI r14.event.time, cI r14.code]) Yc9.h rfl rfl rfl rfl rfl) ?_
   rintro _ _ ⟨rfl, rfl⟩
   refine zw ?_
   exact ⟨(r14.event.id, r14.event.room, r14.event.author, r14.event.kind, r14.event.key, r14.event.n, r14.event.text, r14.event.prev, r14.event.time, r14.code, r24.event.id, r24.event.room, r24.event.author, r24.event.kind, r24.event.key, r24.event.n, r24.event.text, r24.event.prev, r24.event.time, r24.code, b16, b17), h, Y25.both (ns := [3, 0, 1, 0]) rfl rfl⟩
  refine dal fun b16 => ?_
  refine OpsD.one ?_
  refine Y3z.h (ns := []) rfl rfl rfl (Y28 ((Zee _ _).h _ g15) rfl rfl) ?_
  rintro _ _ ⟨rfl, rfl⟩
  refine zw ?_
  refine dc h fun r26 g27 h => ?_
  refine OpsD.one ?_
  refine Y3z.h (ns := [0]) rfl rfl rfl (Y1y (gs := [cI r14.event.id, cI r14.event.room, cI r14.event.author, cI r14.event.kind, cI r14.event.key, cI r14.event.n, C.str r14.event.text, cM kI64 1 r14.event.prev, cI r14.event.time, cI r14.code]) Yc9.h rfl rfl rfl rfl rfl) ?_
  rintro _ _ ⟨rfl, rfl⟩
  refine zw ?_
  exact ⟨(r14.event.id, r14.event.room, r14.event.author, r14.event.kind, r14.event.key, r14.event.n, r14.event.text, r14.event.prev, r14.event.time, r14.code, r26.event.id, r26.event.room, r26.event.author, r26.event.kind, r26.event.key, r26.event.n, r26.event.text, r26.event.prev, r26.event.time, r26.code, b16, b17), h, Y25.both (ns := [3, 0, 1, 0]) rfl rfl⟩
 rintro ⟨x29, x30, x31, x32, x33, x34, x35, l36, x37, x38, x40, x41, x42, x43, x44, x45, x46, l47, x48, x49, b28, b39⟩ h
 replace h : Zjm r4 r7 r9 r11 x29 x30 x31 x32 x33 x34 x35 l36 x37 x38 x40 x41 x42 x43 x44 x45 x46 l47 x48 x49 = some r := h
 unfold Zjm at h
 refine AW.seq ?_
 refine AW.seq ?_
 refine AW.cut (τ := Bool) (fun x68 => ⟨[(5, pt b6), (6, cI r4.2), (7, cM kI64 1 r7), (8, cI r9), (9, pt b13), (10, cI r11.2), (11, pt b28), (85, C.bool x68)], [oB b6 25 [cI r4.1.room, cM Y9q 9 r4.1.events, cM Y9q 9 r4.1.parked], oB b13 25 [cI r11.1.room, cM Y9q 9 r11.1.events, cM Y9q 9 r11.1.parked], oB b28 49 [cI x29, cI x30, cI x31, cI x32, cI x33, cI x34, C.str x35, cM kI64 1 l36, cI x37, cI x38]]⟩) (fun x68 => Zjl r4 r7 r9 r11 x30 x31 x32 x33 x34 x35 x37 x38 x68 = some r) ?_ ?_
 ·
  refine rD [0,0,0,0] [1,8,14,17,25,27,32,34] [] [0,5,8,14,18,20,24,28,33,36,42,44,48,52,57,60,69,72,66,78,82,84,88,92,96,101,104,109,112,116,120,124,129,132,137,142,144,148] ?_
  refine zw ?_
  refine dc h fun r50 g51 h => ?_
  refine zw ?_
  refine dc h fun r52 g53 h => ?_
  refine zw ?_
  refine cnd h (fun hb54 h => ?_) fun hb54 h => ?_
  ·
   refine zw ?_
   refine ob' h fun r55 g56 h => ?_
   refine Y3z.gh (ns := []) rfl rfl rfl rfl rfl (Y46 hb54) rfl (Y28 ((Zi3 _ _).h _ g56) rfl rfl) ?_
   rintro _ _ ⟨rfl, rfl⟩
   refine zw ?_
   refine cnd h (fun hb57 h => ?_) fun hb57 h => ?_
   ·
    refine OpsD.gs rfl rfl rfl rfl (.b rfl hb57) rfl rfl ?_
    refine OpsD.gs rfl rfl rfl rfl (.b rfl hb57) rfl rfl ?_
    refine OpsD.gs rfl rfl rfl rfl (.b rfl hb57) rfl rfl ?_
    refine OpsD.gs rfl rfl rfl rfl (.b rfl hb57) rfl rfl ?_
    refine OpsD.one ?_
    refine Y3z.gs rfl rfl rfl rfl (.b rfl hb57) rfl rfl ?_
    refine OpsD.one ?_
    refine Y3z.gs rfl rfl rfl rfl (.b rfl hb57) rfl rfl ?_
    refine OpsD.one ?_
    refine Y3z.gs rfl rfl rfl rfl (.b rfl hb57) rfl rfl ?_
    refine OpsD.gs rfl rfl rfl rfl (.b rfl hb57) rfl rfl ?_
    refine OpsD.v rfl rfl (Yt rfl hb57 rfl rfl) ?_
    refine OpsD.v rfl rfl (Yr rfl rfl) ?_
    refine OpsD.gs rfl rfl rfl rfl (.b rfl rfl) rfl rfl ?_
    refine OpsD.gs rfl rfl rfl rfl (.b rfl rfl) rfl rfl ?_
    refine OpsD.gs rfl rfl rfl rfl (.b rfl rfl) rfl rfl ?_
    refine OpsD.gs rfl rfl rfl rfl (.b rfl rfl) rfl rfl ?_
    refine OpsD.gs rfl rfl rfl rfl (.b rfl rfl) rfl rfl ?_
    refine OpsD.v rfl rfl (Yt rfl rfl rfl rfl) ?_
    refine OpsD.v rfl rfl (Yr rfl rfl) ?_
    refine OpsD.gs rfl rfl rfl rfl (.b rfl rfl) rfl rfl ?_
    refine OpsD.gs rfl rfl rfl rfl (.b rfl rfl) rfl rfl ?_
    refine OpsD.gs rfl rfl rfl rfl (.b rfl rfl) rfl rfl ?_
    refine OpsD.gs rfl rfl rfl rfl (.b rfl rfl) rfl rfl ?_
    refine OpsD.one ?_
    refine Y3z.gs rfl rfl rfl rfl (.b rfl rfl) rfl rfl ?_
    refine zw ?_
    exact ⟨true, h, Y25.both (ns := [2, 2, 0]) rfl rfl⟩
   refine zw ?_
   refine ob' h fun r58 g59 h => ?_
   refine Y3z.gh (ns := []) rfl rfl rfl rfl rfl hb57 rfl (Y28 ((Zi9' _ _).h _ g59) rfl rfl) ?_
   rintro _ _ ⟨rfl, rfl⟩
   refine zw ?_
   refine ob' h fun r60 g61 h => ?_
   refine Y3z.gh (ns := []) rfl rfl rfl rfl rfl hb57 rfl (Y28 ((Zif' _ _).h _ g61) rfl rfl) ?_
   rintro _ _ ⟨rfl, rfl⟩
   refine zw ?_
   refine ob' h fun r62 g63 h => ?_
   refine Y3z.gh (ns := []) rfl rfl rfl rfl rfl hb57 rfl (Y28 ((Zhf _ _).h _ g63) rfl rfl) ?_
   rintro _ _ ⟨rfl, rfl⟩
   refine zw ?_
   refine cnd h (fun hb64 h => ?_) fun hb64 h => ?_
   ·
    refine zw ?_
    refine cnd h (fun hb65 h => ?_) fun hb65 h => ?_
    ·
     refine OpsD.gs rfl rfl rfl rfl (.b rfl hb65) rfl rfl ?_
     refine OpsD.gs rfl rfl rfl rfl (.b rfl hb65) rfl rfl ?_
     refine OpsD.gs rfl rfl rfl rfl (.b rfl hb65) rfl rfl ?_
     refine OpsD.gs rfl rfl rfl rfl (.b rfl hb65) rfl rfl ?_
     refine OpsD.one ?_
     refine Y3z.gs rfl rfl rfl rfl (.b rfl hb65) rfl rfl ?_
     refine zw ?_
     exact ⟨true, h, Y25.both (ns := [2, 2, 0]) rfl rfl⟩
    refine zw ?_
    refine ob' h fun r66 g67 h => ?_
    refine Y3z.gh (ns := []) rfl rfl rfl rfl rfl hb65 rfl (Y28 ((Zii _ _).h _ g67) rfl rfl) ?_
    rintro _ _ ⟨rfl, rfl⟩
    refine zw ?_
    exact ⟨(!r66), h, Y25.both (ns := [2, 2, 0]) rfl rfl⟩
   refine OpsD.gs rfl rfl rfl rfl (.b rfl (Y47 hb64)) rfl rfl ?_
   refine OpsD.gs rfl rfl rfl rfl (.b rfl (Y47 hb64)) rfl rfl ?_
   refine OpsD.gs rfl rfl rfl rfl (.b rfl (Y47 hb64)) rfl rfl ?_
   refine OpsD.gs rfl rfl rfl rfl (.b rfl (Y47 hb64)) rfl rfl ?_
   refine OpsD.gs rfl rfl rfl rfl (.b rfl (Y47 hb64)) rfl rfl ?_
   refine OpsD.v rfl rfl (Yt rfl (Y47 hb64) rfl rfl) ?_
   refine OpsD.v rfl rfl (Yr rfl rfl) ?_
   refine OpsD.gs rfl rfl rfl rfl (.b rfl rfl) rfl rfl ?_
   refine OpsD.gs rfl rfl rfl rfl (.b rfl rfl) rfl rfl ?_
   refine OpsD.gs rfl rfl rfl rfl (.b rfl rfl) rfl rfl ?_
   refine OpsD.gs rfl rfl rfl rfl (.b rfl rfl) rfl rfl ?_
   refine OpsD.one ?_
   refine Y3z.gs rfl rfl rfl rfl (.b rfl rfl) rfl rfl ?_
   refine zw ?_
   exact ⟨true, h, Y25.both (ns := [2, 2, 0]) rfl rfl⟩
  refine OpsD.gs rfl rfl rfl rfl (.b rfl (Y47 hb54)) rfl rfl ?_
  refine OpsD.gs rfl rfl rfl rfl (.b rfl (Y47 hb54)) rfl rfl ?_
  refine OpsD.gs rfl rfl rfl rfl (.b rfl (Y47 hb54)) rfl rfl ?_
  refine OpsD.one ?_
  refine Y3z.gs rfl rfl rfl rfl (.b rfl (Y47 hb54)) rfl rfl ?_
  refine OpsD.gs rfl rfl rfl rfl (.b rfl (Y47 hb54)) rfl rfl ?_
  refine OpsD.v rfl rfl (Yt rfl (Y47 hb54) rfl rfl) ?_
  refine OpsD.v rfl rfl (Yr rfl rfl) ?_
  refine OpsD.gs rfl rfl rfl rfl (.b rfl rfl) rfl rfl ?_
  refine OpsD.gs rfl rfl rfl rfl (.b rfl rfl) rfl rfl ?_
  refine OpsD.gs rfl rfl rfl rfl (.b rfl rfl) rfl rfl ?_
  refine OpsD.gs rfl rfl rfl rfl (.b rfl rfl) rfl rfl ?_
  refine OpsD.one ?_
  refine Y3z.gs rfl rfl rfl rfl (.b rfl rfl) rfl rfl ?_
  refine OpsD.one ?_
  refine Y3z.gs rfl rfl rfl rfl (.b rfl rfl) rfl rfl ?_
  refine OpsD.one ?_
  refine Y3z.gs rfl rfl rfl rfl (.b rfl rfl) rfl rfl ?_
  refine OpsD.gs rfl rfl rfl rfl (.b rfl rfl) rfl rfl ?_
  refine OpsD.v rfl rfl (Yt rfl rfl rfl rfl) ?_
  refine OpsD.v rfl rfl (Yr rfl rfl) ?_
  refine OpsD.gs rfl rfl rfl rfl (.b rfl rfl) rfl rfl ?_
  refine OpsD.gs rfl rfl rfl rfl (.b rfl rfl) rfl rfl ?_
  refine OpsD.gs rfl rfl rfl rfl (.b rfl rfl) rfl rfl ?_
  refine OpsD.gs rfl rfl rfl rfl (.b rfl rfl) rfl rfl ?_
  refine OpsD.gs rfl rfl rfl rfl (.b rfl rfl) rfl rfl ?_
  refine OpsD.v rfl rfl (Yt rfl rfl rfl rfl) ?_
  refine OpsD.v rfl rfl (Yr rfl rfl) ?_
  refine OpsD.gs rfl rfl rfl rfl (.b rfl rfl) rfl rfl ?_
  refine OpsD.gs rfl rfl rfl rfl (.b rfl rfl) rfl rfl ?_
  refine OpsD.gs rfl rfl rfl rfl (.b rfl rfl) rfl rfl ?_
  refine OpsD.gs rfl rfl rfl rfl (.b rfl rfl) rfl rfl ?_
  refine OpsD.one ?_
  refine Y3z.gs rfl rfl rfl rfl (.b rfl rfl) rfl rfl ?_
  refine zw ?_
  exact ⟨true, h, Y25.both (ns := [2, 2, 0]) rfl rfl⟩
 intro x68 h
 replace h : Zjl r4 r7 r9 r11 x30 x31 x32 x33 x34 x35 x37 x38 x68 = some r := h
 unfold Zjl at h
 refine cnd h (fun hb69 h => ?_) fun hb69 h => ?_
 ·
  refine AW.ct hb69 rfl ?_
  refine zw ?_
  refine AW.ret ?_
  rw [← Wj h]
  exact finI ⟨[C.bool false], _, Y25.refl _, (.cons (.tmp rfl) .nil), [], _, _, rfl, ⟨rfl, rfl⟩⟩
 refine AW.cf hb69 rfl ?_
 refine AW.skip ?_
 refine AW.seq ?_
 refine AW.cut (τ := Unit) (fun (_ : Unit) => ⟨[(5, pt b6), (6, cI r4.2), (8, cI r9), (9, pt b13), (10, cI r11.2), (11, pt b28)], [oB b6 25 [cI r4.1.room, cM Y9q 9 r4.1.events, cM Y9q 9 r4.1.parked], oB b13 25 [cI r11.1.room, cM Y9q 9 r11.1.events, cM Y9q 9 r11.1.parked], oB b28 49 [cI x29, cI x30, cI x31, cI x32, cI x33, cI x34, C.str x35, cM kI64 1 l36, cI x37, cI x38]]⟩) (fun (_ : Unit) => Zjh r4 r9 r11 x30 x31 x32 x33 x34 x35 x37 x38 = some r) ?_ ?_
 ·
  refine zw ?_
  refine ob' h fun o151 g152 q153 => ?_
  refine AW.loop (τ := Int) (x := 0) (fun x94 => ⟨[(5, pt b6), (6, cI r4.2), (7, cM kI64 1 r7), (8, cI r9), (9, pt b13), (10, cI r11.2), (11, pt b28), (13, cI x94)], [oB b6 25 [cI r4.1.room, cM Y9q 9 r4.1.events, cM Y9q 9 r4.1.parked], oB b13 25 [cI r11.1.room, cM Y9q 9 r11.1.events, cM Y9q 9 r11.1.parked], oB b28 49 [cI x29, cI x30, cI x31, cI x32, cI x33, cI x34, C.str x35, cM kI64 1 l36, cI x37, cI x38]]⟩) (fun k x94 => iter (Zjk r4 r7) k x94 = some o151) g152 (Y25.both (ns := [0, 0, 0]) rfl rfl) ?_
  intro k x94 i155
  refine Y4f (show iter (Zjk r4 r7) k x94 = some o151 from i155) fun k154 y156 hlt_k154 h h157 => ?_
  replace h : Zjk r4 r7 x94 = some y156 := h
  unfold Zjk at h
  refine zw ?_
  refine cnd h (fun hb95 h => ?_) fun hb95 h => ?_
  ·
   refine AW.ct hb95 rfl ?_
   refine AW.skip ?_
   refine AW.seq ?_
   refine AW.block ?_
   refine AW.seq ?_
   refine AW.cut (τ := Int × Int × Int × Int × Int × Int × ByteArray × List Int × Int × Nat) (fun (x102, x103, x104, x105, x106, x107, x108, l109, x110, b101) => ⟨[(5, pt b6), (6, cI r4.2), (7, cM kI64 1 r7), (8, cI r9), (9, pt b13), (10, cI r11.2), (11, pt b28), (13, cI x94), (14, pt b101)], [oB b101 42 [cI x102, cI x103, cI x104, cI x105, cI x106, cI x107, C.str x108, cM kI64 1 l109, cI x110], oB b6 25 [cI r4.1.room, cM Y9q 9 r4.1.events, cM Y9q 9 r4.1.parked], oB b13 25 [cI r11.1.room, cM Y9q 9 r11.1.events, cM Y9q 9 r11.1.parked], oB b28 49 [cI x29, cI x30, cI x31, cI x32, cI x33, cI x34, C.str x35, cM kI64 1 l36, cI x37, cI x38]]⟩) (fun (x102, x103, x104, x105, x106, x107, x108, l109, x110, b101) => Zjj r4 r7 x94 x102 x103 x104 x105 x106 x107 x108 l109 x110 = some y156) ?_ ?_
   ·
    refine AW.regionD (L := [0, 4]) (Lt := [7]) (k := .light 0 true (.light 1 false (.light 2 false (.light 3 false (.light 4 true (.two 5 6 (.one 6 (.late 7 (.done))) (.one 5 (.late 7 (.done))))))))) (ns := [0, 0, 0]) (by kernel_rfl) (by kernel_rfl) (by kernel_rfl) (by kernel_rfl) rfl ?_
    refine zw ?_
    refine di h fun e96 g97 h => ?_
    refine zw ?_
    refine ob' h fun r98 g99 h => ?_
    refine OpsD.two ?_ ?_
    ·
     refine Y3z.h (ns := []) rfl rfl rfl (Y28 ((Zik _ _).h _ g99) rfl rfl) ?_
     rintro _ _ ⟨rfl, rfl⟩
     refine zw ?_
     refine dal fun b100 => ?_
     refine zw ?_
     exact ⟨(r98.id, r98.room, r98.author, r98.kind, r98.key, r98.n, r98.text, r98.prev, r98.time, b100), h, Y25.both (ns := [0, 0, 0, 0]) rfl rfl⟩
    refine dal fun b100 => ?_
    refine OpsD.one ?_
    refine Y3z.h (ns := []) rfl rfl rfl (Y28 ((Zik _ _).h _ g99) rfl rfl) ?_
    rintro _ _ ⟨rfl, rfl⟩
    refine zw ?_
    exact ⟨(r98.id, r98.room, r98.author, r98.kind, r98.key, r98.n, r98.text, r98.prev, r98.time, b100), h, Y25.both (ns := [0, 0, 0, 0]) rfl rfl⟩
   rintro ⟨x102, x103, x104, x105, x106, x107, x108, l109, x110, b101⟩ h
   replace h : Zjj r4 r7 x94 x102 x103 x104 x105 x106 x107 x108 l109 x110 = some y156 := h
   unfold Zjj at h
   refine AW.seq ?_
   refine AW.cut (τ := Bool) (fun x117 => ⟨[(5, pt b6), (6, cI r4.2), (7, cM kI64 1 r7), (8, cI r9), (9, pt b13), (10, cI r11.2), (11, pt b28), (13, cI x94), (116, C.bool x117)], [oB b6 25 [cI r4.1.room, cM Y9q 9 r4.1.events, cM Y9q 9 r4.1.parked], oB b13 25 [cI r11.1.room, cM Y9q 9 r11.1.events, cM Y9q 9 r11.1.parked], oB b28 49 [cI x29, cI x30, cI x31, cI x32, cI x33, cI x34, C.str x35, cM kI64 1 l36, cI x37, cI x38]]⟩) (fun x117 => Zji x94 x117 = some y156) ?_ ?_
   ·
    refine rD [0,0,0,0] [1,6,11,15] [] [0,5,8,12,16,20,25,28,32,36,40,45,48,52,56,61,66,68,72] ?_
    refine zw ?_
    refine cnd h (fun hb111 h => ?_) fun hb111 h => ?_
    ·
     refine OpsD.gs rfl rfl rfl rfl (.b rfl hb111) rfl rfl ?_
     refine OpsD.gs rfl rfl rfl rfl (.b rfl hb111) rfl rfl ?_
     refine OpsD.gs rfl rfl rfl rfl (.b rfl hb111) rfl rfl ?_
     refine OpsD.gs rfl rfl rfl rfl (.b rfl hb111) rfl rfl ?_
     refine OpsD.v rfl rfl (Yt rfl hb111 rfl rfl) ?_
     refine OpsD.v rfl rfl (Yr rfl rfl) ?_
     refine OpsD.gs rfl rfl rfl rfl (.b rfl rfl) rfl rfl ?_
     refine OpsD.gs rfl rfl rfl rfl (.b rfl rfl) rfl rfl ?_
     refine OpsD.gs rfl rfl rfl rfl (.b rfl rfl) rfl rfl ?_
     refine OpsD.gs rfl rfl rfl rfl (.b rfl rfl) rfl rfl ?_
     refine OpsD.gs rfl rfl rfl rfl (.b rfl rfl) rfl rfl ?_
     refine OpsD.one ?_
     refine Y3z.gs rfl rfl rfl rfl (.b rfl rfl) rfl rfl ?_
     refine zw ?_
     exact ⟨true, h, Y25.both (ns := [1, 1, 1]) rfl rfl⟩
    refine zw ?_
    refine cnd h (fun hb112 h => ?_) fun hb112 h => ?_
    ·
     refine OpsD.gs rfl rfl rfl rfl (.b rfl hb112) rfl rfl ?_
     refine OpsD.gs rfl rfl rfl rfl (.b rfl hb112) rfl rfl ?_
     refine OpsD.gs rfl rfl rfl rfl (.b rfl hb112) rfl rfl ?_
     refine OpsD.gs rfl rfl rfl rfl (.b rfl hb112) rfl rfl ?_
     refine OpsD.gs rfl rfl rfl rfl (.b rfl hb112) rfl rfl ?_
     refine OpsD.one ?_
     refine Y3z.gs rfl rfl rfl rfl (.b rfl hb112) rfl rfl ?_
     refine zw ?_
     exact ⟨true, h, Y25.both (ns := [1, 1, 1]) rfl rfl⟩
    refine zw ?_
    refine ob' h fun e113 g114 h => ?_
    refine zw ?_
    refine ob' h fun r115 g116 h => ?_
    refine Y3z.gh (ns := []) rfl rfl rfl rfl rfl hb112 rfl (Y28 ((Zip _ _).h _ g116) rfl rfl) ?_
    rintro _ _ ⟨rfl, rfl⟩
    refine zw ?_
    exact ⟨(r115 != 0), h, Y25.both (ns := [1, 1, 1]) rfl rfl⟩
   intro x117 h
   replace h : Zji x94 x117 = some y156 := h
   unfold Zji at h
   refine cnd h (fun hb118 h => ?_) fun hb118 h => ?_
   ·
    refine AW.ct hb118 rfl ?_
    refine zw ?_
    refine AW.ret ?_
    obtain rfl := Wj h
    obtain rfl := Wj h157
    replace h := q153
    rw [← Wj h]
    exact finI ⟨[C.bool false], _, Y25.refl _, (.cons (.tmp rfl) .nil), [], _, _, rfl, ⟨rfl, rfl⟩⟩
   refine AW.cf hb118 rfl ?_
   refine zw ?_
   obtain rfl := Wj h
   exact ⟨k154, (IntKind.i64.wrap (x94 + 1)), hlt_k154, h157, Y25.both (ns := [0, 0, 0]) rfl rfl⟩
  refine AW.cf hb95 rfl ?_
  refine AW.exit ?_
  obtain rfl := Wj h
  obtain rfl := Wj h157
  replace h := q153
  exact ⟨(), h, Y25.both (ns := [0, 0, 0]) rfl rfl⟩
 rintro ⟨⟩ h
 replace h : Zjh r4 r9 r11 x30 x31 x32 x33 x34 x35 x37 x38 = some r := h
 unfold Zjh at h
 refine AW.seq ?_
 refine AW.seq ?_
 refine AW.cut (τ := Bool) (fun x125 => ⟨[(9, pt b13), (10, cI r11.2), (11, pt b28), (133, C.bool x125)], [oB b13 25 [cI r11.1.room, cM Y9q 9 r11.1.events, cM Y9q 9 r11.1.parked], oB b28 49 [cI x29, cI x30, cI x31, cI x32, cI x33, cI x34, C.str x35, cM kI64 1 l36, cI x37, cI x38]]⟩) (fun x125 => Zjg r11 x30 x31 x32 x33 x34 x35 x37 x38 x125 = some r) ?_ ?_
 ·
  refine zw ?_
  refine cnd h (fun hb119 h => ?_) fun hb119 h => ?_
  ·
   refine zw ?_
   refine gcl h rfl rfl rfl rfl hb119 inferInstance rfl rfl fun r120 g121 h => ?_
   refine Ops.gv rfl rfl rfl rfl hb119 (Y70 Ycp rfl rfl rfl) ?_
   refine zw ?_
   refine cnd h (fun hb122 h => ?_) fun hb122 h => ?_
   ·
    refine zw ?_
    exact ⟨true, h, Y25.both (ns := [1, 1]) rfl rfl⟩
   refine zw ?_
   refine gcl h rfl rfl rfl rfl hb122 inferInstance rfl rfl fun r123 g124 h => ?_
   refine Ops.gv rfl rfl rfl rfl hb122 (Y70 Ycq rfl rfl rfl) ?_
   refine zw ?_
   exact ⟨(r123.key != r4.2), h, Y25.both (ns := [1, 1]) rfl rfl⟩
  refine zw ?_
  exact ⟨false, h, Y25.both (ns := [1, 1]) rfl rfl⟩
 intro x125 h
 replace h : Zjg r11 x30 x31 x32 x33 x34 x35 x37 x38 x125 = some r := h
 unfold Zjg at h
 refine cnd h (fun hb126 h => ?_) fun hb126 h => ?_
 ·
  refine AW.ct hb126 rfl ?_
  refine zw ?_
  refine AW.ret ?_
  rw [← Wj h]
  exact finI ⟨[C.bool false], _, Y25.refl _, (.cons (.tmp rfl) .nil), [], _, _, rfl, ⟨rfl, rfl⟩⟩
 refine AW.cf hb126 rfl ?_
 refine zw ?_
 refine cnd h (fun hb127 h => ?_) fun hb127 h => ?_
 ·
  refine AW.ct hb127 rfl ?_
  refine zw ?_
  refine AW.ret ?_
  rw [← Wj h]
  exact finI ⟨[C.bool true], _, Y25.refl _, (.cons (.tmp rfl) .nil), [], _, _, rfl, ⟨rfl, rfl⟩⟩
 refine AW.cf hb127 rfl ?_
 refine zw ?_
 refine al fun b128 => ?_
 refine zw ?_
 refine Ops.h (ns := []) rfl rfl (Y3l (k := kI64) (ys := [r11.2]) Yai (.one rfl (One.val rfl) rfl rfl .nil) rfl rfl rfl) ?_
 rintro _ _ ⟨b129, rfl, rfl⟩
 refine Ops.v rfl (Y1f Yaw.h rfl rfl) ?_
 refine Ops.s1 Yax.h rfl rfl on inferInstance rfl ?_
 refine Ops.nil ?_
 refine AW.seq ?_
 refine AW.region ?_
 refine Ops.v rfl (Y1p (p := 2) (ds := [cI r11.1.room, cM Y9q 9 r11.1.events, cM Y9q 9 r11.1.parked]) Yb8.h rfl rfl rfl rfl rfl) ?_
 refine Ops.ghost (Y25.boxFrz (ns := [0, 0]) rfl (fS (fS (fS (fS (fS (fS (fS (FrzL.cons (os := [_]) Frz.arr (fS FrzL.nil)))))))))) ?_
 refine zw ?_
 refine oc h fun r130 g131 h => ?_
 refine al fun b132 => ?_
 refine Ops.sA Yb5.h rfl rfl rfl inferInstance rfl ?_
 refine Ops.nil ?_
 refine AW.seq ?_
 refine AW.seq ?_
 refine AW.cut (τ := Bool) (fun x136 => ⟨[(9, pt b13), (10, cI r11.2), (15, pt b128), (16, pt b132), (156, C.bool x136)], [oB b13 25 [cI r11.1.room, cM Y9q 9 r11.1.events, cM Y9q 9 r11.1.parked], oB b128 42 [cI 1000000, cI x30, cI x31, cI x32, cI x33, cI x34, C.str x35, cM kI64 1 [r11.2], cI x37], oB b132 53 [cI r130.graph.room, cM Y9q 9 r130.graph.events, cM Y9q 9 r130.graph.parked, cM kI64 1 r130.added, cI r130.code]]⟩) (fun x136 => Zjf r11 x32 x33 x34 r130 x136 = some r) ?_ ?_
 ·
  refine zw ?_
  refine cnd h (fun hb133 h => ?_) fun hb133 h => ?_
  ·
   refine zw ?_
   exact ⟨true, h, Y25.both (ns := [2, 1, 0]) rfl rfl⟩
  refine zw ?_
  refine gcl h rfl rfl rfl rfl hb133 inferInstance rfl rfl fun r134 g135 h => ?_
  refine zw ?_
  exact ⟨(r134 != 0), h, Y25.both (ns := [2, 1, 0]) rfl rfl⟩
 intro x136 h
 replace h : Zjf r11 x32 x33 x34 r130 x136 = some r := h
 unfold Zjf at h
 refine cnd h (fun hb137 h => ?_) fun hb137 h => ?_
 ·
  refine AW.ct hb137 rfl ?_
  refine zw ?_
  refine AW.ret ?_
  rw [← Wj h]
  exact finI ⟨[C.bool true], _, Y25.refl _, (.cons (.tmp rfl) .nil), [], _, _, rfl, ⟨rfl, rfl⟩⟩
 refine AW.cf hb137 rfl ?_
 refine zw ?_
 refine oc h fun r138 g139 h => ?_
 refine zw ?_
 refine cnd h (fun hb140 h => ?_) fun hb140 h => ?_
 ·
  refine AW.ct hb140 rfl ?_
  refine zw ?_
  refine rD [0,0,0] [1,4,7] [] [0,5,8,12,17,24,29,22,32,36] ?_
  refine zw ?_
  refine dc h fun r141 g142 h => ?_
  refine zw ?_
  refine AW.ret ?_
  rw [← Wj h]
  exact finI ⟨[C.bool (r141 == x34)], _, Y25.refl _, (.cons (.tmp rfl) .nil), [], _, _, rfl, ⟨rfl, rfl⟩⟩
 refine AW.cf hb140 rfl ?_
 refine zw ?_
 refine rD [0,0,0] [1,4,6,7,11] [] [0,5,8,12,17,25,29,32,40,45,22,38,50,52,56] ?_
 refine zw ?_
 refine dc h fun r143 g144 h => ?_
 refine zw ?_
 refine dc h fun r145 g146 h => ?_
 refine zw ?_
 refine dc h fun r147 g148 h => ?_
 refine zw ?_
 refine AW.ret ?_
 rw [← Wj h]
 exact finI ⟨[C.bool (r143 == r147)], _, Y25.refl _, (.cons (.tmp rfl) .nil), [], _, _, rfl, ⟨rfl, rfl⟩⟩

end Go.Proofs.YtomachnjepgpbaaGreat
