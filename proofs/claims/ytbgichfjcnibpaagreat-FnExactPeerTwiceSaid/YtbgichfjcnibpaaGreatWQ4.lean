/- Printed by gen.py: plain functions for Go functions, and that the walks keep to them. -/
import Derived.Test.YtbgichfjcnibpaaGreatWQ3
set_option autoImplicit false
set_option linter.unusedVariables false
set_option linter.unusedSimpArgs false
set_option maxHeartbeats 1000000
set_option maxRecDepth 100000
namespace Go.Proofs.YtbgichfjcnibpaaGreat
open Go Go.Abs
attribute [local irreducible] AW Ops OpsD Y3n
def Z7v : Option Bool := some true
def Z7w (x38 : Int) (x56 : Bool) : Option (Int ⊕ (Bool ⊕ Unit)) := cond x56 (some (.inr (.inl false))) (some (.inl (IntKind.i64.wrap (x38 + 1))))
def Z7x (p0 : Y92) (x38 : Int) : Option (Int ⊕ (Bool ⊕ Unit)) := cond (decide (x38 < (p0.letters.length : Int))) ((getI p0.letters x38).bind fun e40 => (Z1w e40.kind 1 2).bind fun r43 => cond r43 ((Z7r p0 e40.from_).bind fun r46 => cond r46 ((Z7r p0 e40.to_).bind fun r49 => cond r49 (cond (e40.from_ == e40.to_) (Z7w x38 true) ((Z7t e40.room).bind fun r53 => cond r53 (Z7w x38 (decide ((e40.text.size : Int) > 8000))) (Z7w x38 true))) (Z7w x38 true)) (Z7w x38 true)) (Z7w x38 true)) (some (.inr (.inr ())))
def Z7y (p0 : Y92) : Option Bool := (iter (Z7x p0) big 0).bind (fun z59 => match z59 with | .inl y58 => some y58 | .inr () => Z7v)
def Z7z (p0 : Y92) (x12 : Int) : Option (Int ⊕ (Bool ⊕ Unit)) := cond (decide (x12 < (p0.hubs.length : Int))) ((getI p0.hubs x12).bind fun e14 => (Z7p e14).bind fun r16 => cond r16 (some (.inl (IntKind.i64.wrap (x12 + 1)))) (some (.inr (.inl false)))) (some (.inr (.inr ())))
def Z80 (p0 : Y92) (x4 : Bool) : Option Bool := cond x4 (some false) ((iter (Z7z p0) big 0).bind (fun z61 => match z61 with | .inl y60 => some y60 | .inr () => Z7y p0))
def Z81 (p0 : Y92) : Option Bool := cond (decide ((p0.hubs.length : Int) < 1)) (Z80 p0 true) (cond (decide ((p0.hubs.length : Int) > 4)) (Z80 p0 true) (Z80 p0 (decide ((p0.letters.length : Int) > 60))))
instance Z82 (p0 : Y92) : Sp Tryz.prog 148 [C.agg [cM Y9i 2 p0.hubs, cM Y9c 5 p0.letters]] (Z81 p0) C.bool := sp Tryz.func148 rfl rfl fun r X h => by
 unfold Z81 at h
 refine zw ?_
 refine ox fun b1 => ?_
 refine Ops.v rfl (Yr rfl rfl) ?_
 refine Ops.nil ?_
 refine AW.seq ?_
 refine AW.seq ?_
 refine AW.cut (τ := Bool) (fun x4 => ⟨[(1, pt b1), (21, C.bool x4)], [oB b1 47 [cM Y9i 2 p0.hubs, cM Y9c 5 p0.letters]]⟩) (fun x4 => Z80 p0 x4 = some r) go fun x4 h => ?_
 replace h : Z80 p0 x4 = some r := h
 unfold Z80 at h
 refine cnd h (fun hb5 h => go) fun hb5 h => ?_
 refine AW.cf hb5 rfl ?_
 refine AW.skip ?_
 refine AW.seq ?_
 refine AW.cut (τ := Unit) (fun (_ : Unit) => ⟨[(1, pt b1)], [oB b1 47 [cM Y9i 2 p0.hubs, cM Y9c 5 p0.letters]]⟩) (fun (_ : Unit) => Z7y p0 = some r) ?_ ?_
 ·
  refine zw ?_
  refine AW.lp (v := ()) h (fun x12 (_ : Unit) => ⟨[(1, pt b1), (3, cI x12)], [oB b1 47 [cM Y9i 2 p0.hubs, cM Y9c 5 p0.letters]]⟩) (gb [0]) ?_
  rintro x12 _ y74 h
  exact go
 rintro ⟨⟩ h
 replace h : Z7y p0 = some r := h
 unfold Z7y at h
 refine zw ?_
 refine AW.lp (v := ()) h (fun x38 (_ : Unit) => ⟨[(1, pt b1), (4, cI x38)], [oB b1 47 [cM Y9i 2 p0.hubs, cM Y9c 5 p0.letters]]⟩) (gb [0]) ?_
 rintro x38 _ y67 h
 refine zw ?_
 refine cnd h (fun hb39 h => ?_) fun hb39 h => ?_
 ·
  refine AW.ct hb39 rfl ?_
  refine zw ?_
  refine oi h fun e40 g41 h => ?_
  refine zw ?_
  refine Ops.h (ns := []) rfl rfl (Y1p (cs := [cI 0, cI 0, cI 0, cI 0, C.str ByteArray.empty]) Yc6 (Y42 rfl rfl) rfl) ?_
  rintro _ _ ⟨b42, rfl, rfl⟩
  refine Ops.hd (ns := [0]) rfl rfl (Y1u (gs := [cI e40.kind, cI e40.from_, cI e40.to_, cI e40.room, C.str e40.text]) Ycg.h rfl rfl rfl rfl rfl) ?_
  refine Ops.nil ?_
  refine AW.seq ?_
  refine AW.cut (τ := Bool) (fun x56 => ⟨[(1, pt b1), (4, cI x38), (84, C.bool x56)], [oB b1 47 [cM Y9i 2 p0.hubs, cM Y9c 5 p0.letters]]⟩) (fun x56 => Z7w x38 x56 = some y67) ?_ ?_
  ·
   refine zw ?_
   refine oc h fun r43 g44 h => ?_
   refine zw ?_
   refine cnd h (fun hb45 h => ?_) fun hb45 h => ?_
   ·
    refine zw ?_
    refine ob' h fun r46 g47 h => ?_
    refine Ops.ghd (ns := []) rfl rfl rfl rfl (Y3u hb45) rfl (Y24 ((Z7s _ _).h _ g47) rfl rfl) ?_
    refine zw ?_
    refine cnd h (fun hb48 h => ?_) fun hb48 h => ?_
    ·
     refine zw ?_
     refine ob' h fun r49 g50 h => ?_
     refine Ops.ghd (ns := []) rfl rfl rfl rfl (Y3u hb48) rfl (Y24 ((Z7s _ _).h _ g50) rfl rfl) ?_
     refine zw ?_
     refine cnd h (fun hb51 h => ?_) fun hb51 h => ?_
     ·
      refine zw ?_
      refine cnd h (fun hb52 h => go) fun hb52 h => ?_
      refine zw ?_
      refine ob' h fun r53 g54 h => ?_
      refine Ops.ghd (ns := []) rfl rfl rfl rfl hb52 rfl (Y24 ((Z7u _).h _ g54) rfl rfl) ?_
      exact go
     exact go
    exact go
   exact go
  intro x56 h
  exact go
 exact go

def Z83 (p0 : Y92) (p1 : Int) : Option Int := (Z81 p0).bind fun r2 => cond r2 ((Z1w p1 0 (IntKind.i64.wrap ((p0.letters.length : Int) - 1))).bind fun r5 => cond r5 (some 0) (some 6)) (some 1)
instance Z84 (p0 : Y92) (p1 : Int) : Sp Tryz.prog 81 [C.agg [cM Y9i 2 p0.hubs, cM Y9c 5 p0.letters], cI p1] (Z83 p0 p1) cI := sp Tryz.func81 rfl rfl fun r X h => go

def Z85 (p0 : Int) : Option Y96 := some (Y96.mk (Y92.mk [] []) 0 p0)
instance Z86 (p0 : Int) : Sp Tryz.prog 82 [cI p0] (Z85 p0) (fun r => C.agg [cM Y9i 2 r.peers.hubs, cM Y9c 5 r.peers.letters, cI r.id, cI r.code]) := sp Tryz.func82 rfl rfl fun r X h => by
 unfold Z85 at h
 refine zw ?_
 refine Ops.h (ns := []) rfl rfl (Y1p (cs := [cV s0, cV s0, cI 0, cI 0]) Ydt (Y42 rfl rfl) rfl) ?_
 rintro _ _ ⟨b1, rfl, rfl⟩
 refine zw ?_
 refine Ops.v rfl (Y38 (ds := [cV s0, cV s0, cI 0, cI p0]) Ydu Ydt (Y42 rfl rfl) (.one rfl (One.val rfl) rfl rfl .nil) rfl) ?_
 refine Ops.hd (ns := [0]) rfl rfl (Y1u (gs := [cV s0, cV s0, cI 0, cI p0]) Ydv.h rfl rfl rfl rfl rfl) ?_
 refine zw ?_
 refine AW.ret ?_
 rw [← Wj h]
 exact ⟨[C.agg [cM Y9i 2 [], cM Y9c 5 [], cI 0, cI p0]], _, Y21.boxFrz (ns := [0]) rfl (FrzL.cons (os := []) (Frz.imp (Imp.nil Y9i 2)) (FrzL.cons (os := []) (Frz.imp (Imp.nil Y9c 5)) (fS (fS FrzL.nil)))), (.cons (.cell (p := 0) rfl rfl Ydv.h rfl) .nil), [], _, _, rfl, ⟨rfl, rfl⟩⟩

def Z87 (p0 : Y90) (l76 : List Y8v) (l131 : List Y8v) : Option Y90 := some (Y90.mk p0.room l76 l131)
def Z88 (p0 : Y90) (l107 : List Y8v) (x108 : Int) : Option ((List Y8v × Int) ⊕ ((List Y8v))) := cond (decide (x108 < (p0.parked.length : Int))) ((getI p0.parked x108).bind fun e121 => (Z5u e121).bind fun r123 => (chk (decide ((l107.length + [r123].length) * 96 ≤ 140737488355328))).bind fun u127 => some (.inl ((l107 ++ [r123]), (IntKind.i64.wrap (x108 + 1))))) (some (.inr l107))
def Z89 (p0 : Y90) (l74 : List Y8v) (l76 : List Y8v) : Option Y90 := (iter (fun z134 => Z88 p0 z134.1 z134.2) big ([], 0)).bind fun y135 => Z87 p0 l76 y135
def Z8a (p0 : Y90) (l49 : List Y8v) (l51 : List Y8v) (x52 : Int) : Option ((List Y8v × List Y8v × Int) ⊕ ((List Y8v × List Y8v))) := cond (decide (x52 < (p0.events.length : Int))) ((getI p0.events x52).bind fun e65 => (Z5u e65).bind fun r67 => (chk (decide ((l51.length + [r67].length) * 96 ≤ 140737488355328))).bind fun u71 => some (.inl (l49, (l51 ++ [r67]), (IntKind.i64.wrap (x52 + 1))))) (some (.inr (l49, l51)))
def Z8b (p0 : Y90) : Option Y90 := (iter (fun z136 => Z8a p0 z136.1 z136.2.1 z136.2.2) big ([], [], 0)).bind fun (y137, y138) => Z89 p0 y137 y138
theorem Z8c (p0 : Y90) (r : Y90) (h : Z8b p0 = some r) : Ok Tryz.prog 212 [C.agg [cI p0.room, cM Y99 9 p0.events, cM Y99 9 p0.parked]] [] (fun c qs => ∃ (v132 : Value) (v133 : Value), c = C.agg [cI r.room, cV v132, cV v133] ∧ qs = [oA v132 136 Y99 9 r.events, oA v133 136 Y99 9 r.parked]) := by
 refine Ok.of_body (rs := [.cell 2 139]) Tryz.func212 rfl rfl rfl rfl rfl fun X => ?_
 unfold Z8b at h
 refine zw ?_
 refine ox fun b1 => ?_
 refine Ops.h (ns := []) rfl rfl (Y1p (cs := [cI 0, cV s0, cV s0]) Yb9 (Y42 rfl rfl) rfl) ?_
 rintro _ _ ⟨b2, rfl, rfl⟩
 refine zw ?_
 refine Ops.v rfl (Y38 (ds := [cI p0.room, cV s0, cV s0]) Ydw Yb9 (Y42 rfl rfl) (.one rfl (One.val rfl) rfl rfl .nil) rfl) ?_
 refine Ops.h (ns := []) rfl rfl (Y1p (cs := [cI 0, cV s0, cV s0]) Yb9 (Y42 rfl rfl) rfl) ?_
 rintro _ _ ⟨b3, rfl, rfl⟩
 refine Ops.hd (ns := [0]) rfl rfl (Y1u (gs := [cI p0.room, cV s0, cV s0]) Ybf.h rfl rfl rfl rfl rfl) ?_
 refine Ops.nil ?_
 refine AW.seq ?_
 refine AW.cut (τ := List Y8v × List Y8v × Value) (fun (l74, l76, v75) => ⟨[(1, pt b1), (2, pt b2), (3, pt b3)], [oB b1 139 [cI p0.room, cM Y99 9 p0.events, cM Y99 9 p0.parked], oB b2 139 [cI 0, cV s0, cV s0], oA s0 136 Y99 9 l74, oB b3 139 [cI p0.room, cV v75, cV s0], oA v75 136 Y99 9 l76]⟩) (fun (l74, l76, v75) => Z89 p0 l74 l76 = some r) ?_ ?_
 ·
  refine zw ?_
  refine AW.lp h (fun (l49, l51, x52) (v50 : Value) => ⟨[(1, pt b1), (2, pt b2), (3, pt b3), (4, cI x52)], [oB b1 139 [cI p0.room, cM Y99 9 p0.events, cM Y99 9 p0.parked], oB b2 139 [cI 0, cV s0, cV s0], oA s0 136 Y99 9 l49, oB b3 139 [cI p0.room, cV v50, cV s0], oA v50 136 Y99 9 l51]⟩) ((Y21.nil 136 Y99 9).trans ((Y21.nil 136 Y99 9).trans ((Y21.nil 136 Y99 9).trans (Y21.both (ns := [5, 4, 0, 2, 0]) rfl rfl)))) ?_
  rintro ⟨l49, l51, x52⟩ v50 y151 h
  refine zw ?_
  refine cnd h (fun hb53 h => ?_) fun hb53 h => ?_
  ·
   refine AW.ct hb53 rfl ?_
   refine zw ?_
   refine rD [0,0,0,0] [1,3,6] [11] [0,5,8,13,16,20,25,30,34,38,40,47] ?_
   refine zw ?_
   refine di h fun e65 g66 h => ?_
   refine zw ?_
   refine dc h fun r67 g68 h => ?_
   refine OpsD.one ?_
   refine Y3n.h (ns := []) rfl rfl rfl (Y39 (k := Y99) (ys := [r67]) Yb3 (.agg rfl rfl .nil) rfl rfl rfl) ?_
   rintro _ _ ⟨b69, rfl, rfl⟩
   refine zw ?_
   refine ob' h fun u71 c70 h => ?_
   refine Y3n.h (ns := [1, 0]) rfl rfl rfl (Y2s Yb3 rfl rfl (Wo (Y3t c70)) (Y3w (by decide) c70) rfl) ?_
   rintro _ _ ⟨v72, rfl, rfl⟩
   refine OpsD.v rfl rfl (Y1b Ybc.h rfl rfl) ?_
   refine OpsD.learn (Sim.arr_one (p := 4) rfl) fun n73 => ?_
   refine OpsD.late (ns := [3]) rfl rfl rfl (Y1t (gs := [cI p0.room, cV v72, cV s0]) Ybd.h rfl rfl (One.val n73) rfl rfl) ?_
   rintro _ _ ⟨rfl, rfl⟩
   refine zw ?_
   exact le h (gb [1, 1, 1, 0, 0])
  refine AW.cf hb53 rfl ?_
  refine AW.exit ?_
  refine lx h fun h => ?_
  exact ⟨(l49, l51, v50), h, Y21.both (ns := [0, 0, 0, 0, 0]) rfl rfl⟩
 rintro ⟨l74, l76, v75⟩ h
 replace h : Z89 p0 l74 l76 = some r := h
 unfold Z89 at h
 refine AW.seq ?_
 refine AW.cut (τ := List Y8v × Value) (fun (l131, v130) => ⟨[(2, pt b2), (3, pt b3)], [oB b2 139 [cI 0, cV s0, cV s0], oA s0 136 Y99 9 l74, oB b3 139 [cI p0.room, cV v75, cV v130], oA v75 136 Y99 9 l76, oA v130 136 Y99 9 l131]⟩) (fun (l131, v130) => Z87 p0 l76 l131 = some r) ?_ ?_
 ·
  refine zw ?_
  refine AW.lp h (fun (l107, x108) (v106 : Value) => ⟨[(1, pt b1), (2, pt b2), (3, pt b3), (5, cI x108)], [oB b1 139 [cI p0.room, cM Y99 9 p0.events, cM Y99 9 p0.parked], oB b2 139 [cI 0, cV s0, cV s0], oA s0 136 Y99 9 l74, oB b3 139 [cI p0.room, cV v75, cV v106], oA v75 136 Y99 9 l76, oA v106 136 Y99 9 l107]⟩) ((Y21.nil 136 Y99 9).trans (Y21.both (ns := [1, 1, 1, 1, 1, 0]) rfl rfl)) ?_
  rintro ⟨l107, x108⟩ v106 y144 h
  refine zw ?_
  refine cnd h (fun hb109 h => ?_) fun hb109 h => ?_
  ·
   refine AW.ct hb109 rfl ?_
   refine zw ?_
   refine rD [0,0,0,0,0] [1,3,6] [11] [0,5,8,13,16,20,25,30,34,38,40,47] ?_
   refine zw ?_
   refine di h fun e121 g122 h => ?_
   refine zw ?_
   refine dc h fun r123 g124 h => ?_
   refine OpsD.one ?_
   refine Y3n.h (ns := []) rfl rfl rfl (Y39 (k := Y99) (ys := [r123]) Yb3 (.agg rfl rfl .nil) rfl rfl rfl) ?_
   rintro _ _ ⟨b125, rfl, rfl⟩
   refine zw ?_
   refine ob' h fun u127 c126 h => ?_
   refine Y3n.h (ns := [1, 0]) rfl rfl rfl (Y2s Yb3 rfl rfl (Wo (Y3t c126)) (Y3w (by decide) c126) rfl) ?_
   rintro _ _ ⟨v128, rfl, rfl⟩
   refine OpsD.v rfl rfl (Y1b Ybe.h rfl rfl) ?_
   refine OpsD.learn (Sim.arr_one (p := 5) rfl) fun n129 => ?_
   refine OpsD.late (ns := [3]) rfl rfl rfl (Y1t (gs := [cI p0.room, cV v75, cV v128]) Ybd.h rfl rfl (One.val n129) rfl rfl) ?_
   rintro _ _ ⟨rfl, rfl⟩
   refine zw ?_
   exact le h (gb [1, 1, 1, 0, 0, 0])
  refine AW.cf hb109 rfl ?_
  refine AW.exit ?_
  refine lx h fun h => ?_
  exact ⟨(l107, v106), h, Y21.both (ns := [1, 1, 1, 1, 1]) rfl rfl⟩
 rintro ⟨l131, v130⟩ h
 replace h : Z87 p0 l76 l131 = some r := h
 unfold Z87 at h
 refine zw ?_
 refine Ops.hd (ns := [0]) rfl rfl (Y1u (gs := [cI p0.room, cV v75, cV v130]) Ybf.h rfl rfl rfl rfl rfl) ?_
 refine zw ?_
 refine AW.ret ?_
 rw [← Wj h]
 exact ⟨[C.agg [cI p0.room, cV v75, cV v130]], _, Y21.refl _, (.cons (.cell (p := 0) rfl rfl Ybf.h rfl) .nil), [3, 3], _, _, rfl, ⟨v75, v130, rfl, rfl⟩⟩
instance Z8c' (p0 : Y90) : Sp Tryz.prog 212 [C.agg [cI p0.room, cM Y99 9 p0.events, cM Y99 9 p0.parked]] (Z8b p0) (fun r => C.agg [cI r.room, cM Y99 9 r.events, cM Y99 9 r.parked]) := ⟨fun r h => Ok.freeze (Z8c p0 r h) (by rintro c qs ⟨v132, v133, rfl, rfl⟩; exact Frz.agg (fS (FrzL.cons (os := [_]) (Frz.arr) (FrzL.cons (os := [_]) (Frz.arr) (FrzL.nil)))))⟩

def Z8d (p0 : Y91) (l71 : List Y90) (l73 : List Y90) : Option Y91 := some (Y91.mk l73 (([] : List Y8x) ++ p0.stream))
def Z8e (p0 : Y91) (l46 : List Y90) (l48 : List Y90) (x49 : Int) : Option ((List Y90 × List Y90 × Int) ⊕ ((List Y90 × List Y90))) := cond (decide (x49 < (p0.rooms.length : Int))) ((getI p0.rooms x49).bind fun e62 => (Z8b e62).bind fun r64 => (chk (decide ((l48.length + [r64].length) * 56 ≤ 140737488355328))).bind fun u68 => some (.inl (l46, (l48 ++ [r64]), (IntKind.i64.wrap (x49 + 1))))) (some (.inr (l46, l48)))
def Z8f (p0 : Y91) : Option Y91 := (chk (decide ((([] : List Y8x).length + p0.stream.length) * 16 ≤ 140737488355328))).bind fun u5 => (iter (fun z76 => Z8e p0 z76.1 z76.2.1 z76.2.2) big ([], [], 0)).bind fun (y77, y78) => Z8d p0 y77 y78
theorem Z8g (p0 : Y91) (r : Y91) (h : Z8f p0 = some r) : Ok Tryz.prog 149 [C.agg [cM Y9f 3 p0.rooms, cM Y9b 2 p0.stream]] [] (fun c qs => ∃ (v74 : Value) (v75 : Value), c = C.agg [cV v74, cV v75] ∧ qs = [oA v74 139 Y9f 3 r.rooms, oA v75 142 Y9b 2 r.stream]) := by
 refine Ok.of_body (rs := [.cell 2 32]) Tryz.func149 rfl rfl rfl rfl rfl fun X => ?_
 unfold Z8f at h
 refine zw ?_
 refine ox fun b1 => ?_
 refine Ops.h (ns := []) rfl rfl (Y1p (cs := [cV s0, cV s0]) Ybu (Y42 rfl rfl) rfl) ?_
 rintro _ _ ⟨b2, rfl, rfl⟩
 refine zw ?_
 refine Ops.h (ns := []) rfl rfl (Y39 (k := Y9b) (ys := ([] : List Y8x)) Ybr .nil rfl rfl rfl) ?_
 rintro _ _ ⟨b3, rfl, rfl⟩
 refine zw ?_
 refine ob' h fun u5 c4 h => ?_
 refine Ops.h (ns := [0]) rfl rfl (Y2r Ybr rfl rfl (Wo (Y3t c4)) (Y3w (by decide) c4) rfl) ?_
 rintro _ _ ⟨v6, rfl, rfl⟩
 refine Ops.learn (Sim.arr_one (p := 0) rfl) fun n7 => ?_
 refine Ops.v rfl (Y38 (ds := [cV s0, cV v6]) Ydx Ybu (Y42 rfl rfl) (.one rfl (One.val n7) rfl rfl .nil) rfl) ?_
 refine Ops.h (ns := []) rfl rfl (Y1p (cs := [cV s0, cV s0]) Ybu (Y42 rfl rfl) rfl) ?_
 rintro _ _ ⟨b8, rfl, rfl⟩
 refine Ops.hd (ns := [0]) rfl rfl (Y1u (gs := [cV s0, cV v6]) Ybz.h rfl rfl rfl rfl rfl) ?_
 refine Ops.nil ?_
 refine AW.seq ?_
 refine AW.cut (τ := List Y90 × List Y90 × Value) (fun (l71, l73, v72) => ⟨[(2, pt b2), (3, pt b8)], [oB b2 32 [cV s0, cV s0], oA s0 139 Y9f 3 l71, oB b8 32 [cV v72, cV v6], oA v72 139 Y9f 3 l73, oA v6 142 Y9b 2 (([] : List Y8x) ++ p0.stream)]⟩) (fun (l71, l73, v72) => Z8d p0 l71 l73 = some r) ?_ ?_
 ·
  refine zw ?_
  refine AW.lp h (fun (l46, l48, x49) (v47 : Value) => ⟨[(1, pt b1), (2, pt b2), (3, pt b8), (4, cI x49)], [oB b1 32 [cM Y9f 3 p0.rooms, cM Y9b 2 p0.stream], oB b2 32 [cV s0, cV s0], oA s0 139 Y9f 3 l46, oB b8 32 [cV v47, cV v6], oA v47 139 Y9f 3 l48, oA v6 142 Y9b 2 (([] : List Y8x) ++ p0.stream)]⟩) ((Y21.nil 139 Y9f 3).trans ((Y21.nil 139 Y9f 3).trans (Y21.both (ns := [5, 4, 0, 1, 0, 0]) rfl rfl))) ?_
  rintro ⟨l46, l48, x49⟩ v47 y84 h
  refine zw ?_
  refine cnd h (fun hb50 h => ?_) fun hb50 h => ?_
  ·
   refine AW.ct hb50 rfl ?_
   refine zw ?_
   refine rD [0,0,0,0,1] [1,3,6] [11] [0,5,8,13,16,20,25,30,34,38,40,47] ?_
   refine zw ?_
   refine di h fun e62 g63 h => ?_
   refine zw ?_
   refine dc h fun r64 g65 h => ?_
   refine OpsD.one ?_
   refine Y3n.h (ns := []) rfl rfl rfl (Y39 (k := Y9f) (ys := [r64]) Ybg (.agg rfl rfl .nil) rfl rfl rfl) ?_
   rintro _ _ ⟨b66, rfl, rfl⟩
   refine zw ?_
   refine ob' h fun u68 c67 h => ?_
   refine Y3n.h (ns := [1, 0]) rfl rfl rfl (Y2s Ybg rfl rfl (Wo (Y3t c67)) (Y3w (by decide) c67) rfl) ?_
   rintro _ _ ⟨v69, rfl, rfl⟩
   refine OpsD.v rfl rfl (Y1b Ybv.h rfl rfl) ?_
   refine OpsD.learn (Sim.arr_one (p := 5) rfl) fun n70 => ?_
   refine OpsD.late (ns := [3]) rfl rfl rfl (Y1t (gs := [cV v69, cV v6]) Ybw.h rfl rfl (One.val n70) rfl rfl) ?_
   rintro _ _ ⟨rfl, rfl⟩
   refine zw ?_
   exact le h (gb [1, 1, 1, 0, 1, 0])
  refine AW.cf hb50 rfl ?_
  refine AW.exit ?_
  refine lx h fun h => ?_
  exact ⟨(l46, l48, v47), h, Y21.both (ns := [1, 1, 1, 1, 1]) rfl rfl⟩
 rintro ⟨l71, l73, v72⟩ h
 replace h : Z8d p0 l71 l73 = some r := h
 unfold Z8d at h
 refine zw ?_
 refine Ops.hd (ns := [0]) rfl rfl (Y1u (gs := [cV v72, cV v6]) Ybz.h rfl rfl rfl rfl rfl) ?_
 refine zw ?_
 refine AW.ret ?_
 rw [← Wj h]
 exact ⟨[C.agg [cV v72, cV v6]], _, Y21.refl _, (.cons (.cell (p := 0) rfl rfl Ybz.h rfl) .nil), [3, 3], _, _, rfl, ⟨v72, v6, rfl, rfl⟩⟩
instance Z8g' (p0 : Y91) : Sp Tryz.prog 149 [C.agg [cM Y9f 3 p0.rooms, cM Y9b 2 p0.stream]] (Z8f p0) (fun r => C.agg [cM Y9f 3 r.rooms, cM Y9b 2 r.stream]) := ⟨fun r h => Ok.freeze (Z8g p0 r h) (by rintro c qs ⟨v74, v75, rfl, rfl⟩; exact Frz.agg (FrzL.cons (os := [_]) (Frz.arr) (FrzL.cons (os := [_]) (Frz.arr) (FrzL.nil))))⟩

def Z8h (p0 : Y92) (l71 : List Y91) (l73 : List Y91) : Option Y92 := some (Y92.mk l73 (([] : List Y8y) ++ p0.letters))
def Z8i (p0 : Y92) (l46 : List Y91) (l48 : List Y91) (x49 : Int) : Option ((List Y91 × List Y91 × Int) ⊕ ((List Y91 × List Y91))) := cond (decide (x49 < (p0.hubs.length : Int))) ((getI p0.hubs x49).bind fun e62 => (Z8f e62).bind fun r64 => (chk (decide ((l48.length + [r64].length) * 48 ≤ 140737488355328))).bind fun u68 => some (.inl (l46, (l48 ++ [r64]), (IntKind.i64.wrap (x49 + 1))))) (some (.inr (l46, l48)))
def Z8j (p0 : Y92) : Option Y92 := (chk (decide ((([] : List Y8y).length + p0.letters.length) * 48 ≤ 140737488355328))).bind fun u5 => (iter (fun z76 => Z8i p0 z76.1 z76.2.1 z76.2.2) big ([], [], 0)).bind fun (y77, y78) => Z8h p0 y77 y78
theorem Z8k (p0 : Y92) (r : Y92) (h : Z8j p0 = some r) : Ok Tryz.prog 83 [C.agg [cM Y9i 2 p0.hubs, cM Y9c 5 p0.letters]] [] (fun c qs => ∃ (v74 : Value) (v75 : Value), c = C.agg [cV v74, cV v75] ∧ qs = [oA v74 32 Y9i 2 r.hubs, oA v75 115 Y9c 5 r.letters]) := by
 refine Ok.of_body (rs := [.cell 2 47]) Tryz.func83 rfl rfl rfl rfl rfl fun X => ?_
 unfold Z8j at h
 refine zw ?_
 refine ox fun b1 => ?_
 refine Ops.h (ns := []) rfl rfl (Y1p (cs := [cV s0, cV s0]) Ycj (Y42 rfl rfl) rfl) ?_
 rintro _ _ ⟨b2, rfl, rfl⟩
 refine zw ?_
 refine Ops.h (ns := []) rfl rfl (Y39 (k := Y9c) (ys := ([] : List Y8y)) Ych .nil rfl rfl rfl) ?_
 rintro _ _ ⟨b3, rfl, rfl⟩
 refine zw ?_
 refine ob' h fun u5 c4 h => ?_
 refine Ops.h (ns := [0]) rfl rfl (Y2r Ych rfl rfl (Wo (Y3t c4)) (Y3w (by decide) c4) rfl) ?_
 rintro _ _ ⟨v6, rfl, rfl⟩
 refine Ops.learn (Sim.arr_one (p := 0) rfl) fun n7 => ?_
 refine Ops.v rfl (Y38 (ds := [cV s0, cV v6]) Ydy Ycj (Y42 rfl rfl) (.one rfl (One.val n7) rfl rfl .nil) rfl) ?_
 refine Ops.h (ns := []) rfl rfl (Y1p (cs := [cV s0, cV s0]) Ycj (Y42 rfl rfl) rfl) ?_
 rintro _ _ ⟨b8, rfl, rfl⟩
 refine Ops.hd (ns := [0]) rfl rfl (Y1u (gs := [cV s0, cV v6]) Yco.h rfl rfl rfl rfl rfl) ?_
 refine Ops.nil ?_
 refine AW.seq ?_
 refine AW.cut (τ := List Y91 × List Y91 × Value) (fun (l71, l73, v72) => ⟨[(2, pt b2), (3, pt b8)], [oB b2 47 [cV s0, cV s0], oA s0 32 Y9i 2 l71, oB b8 47 [cV v72, cV v6], oA v72 32 Y9i 2 l73, oA v6 115 Y9c 5 (([] : List Y8y) ++ p0.letters)]⟩) (fun (l71, l73, v72) => Z8h p0 l71 l73 = some r) ?_ ?_
 ·
  refine zw ?_
  refine AW.lp h (fun (l46, l48, x49) (v47 : Value) => ⟨[(1, pt b1), (2, pt b2), (3, pt b8), (4, cI x49)], [oB b1 47 [cM Y9i 2 p0.hubs, cM Y9c 5 p0.letters], oB b2 47 [cV s0, cV s0], oA s0 32 Y9i 2 l46, oB b8 47 [cV v47, cV v6], oA v47 32 Y9i 2 l48, oA v6 115 Y9c 5 (([] : List Y8y) ++ p0.letters)]⟩) ((Y21.nil 32 Y9i 2).trans ((Y21.nil 32 Y9i 2).trans (Y21.both (ns := [5, 4, 0, 1, 0, 0]) rfl rfl))) ?_
  rintro ⟨l46, l48, x49⟩ v47 y84 h
  refine zw ?_
  refine cnd h (fun hb50 h => ?_) fun hb50 h => ?_
  ·
   refine AW.ct hb50 rfl ?_
   refine zw ?_
   refine rD [0,0,0,0,1] [1,3,6] [11] [0,5,8,13,16,20,25,30,34,38,40,47] ?_
   refine zw ?_
   refine di h fun e62 g63 h => ?_
   refine zw ?_
   refine dc h fun r64 g65 h => ?_
   refine OpsD.one ?_
   refine Y3n.h (ns := []) rfl rfl rfl (Y39 (k := Y9i) (ys := [r64]) Yc0 (.agg rfl rfl .nil) rfl rfl rfl) ?_
   rintro _ _ ⟨b66, rfl, rfl⟩
   refine zw ?_
   refine ob' h fun u68 c67 h => ?_
   refine Y3n.h (ns := [1, 0]) rfl rfl rfl (Y2s Yc0 rfl rfl (Wo (Y3t c67)) (Y3w (by decide) c67) rfl) ?_
   rintro _ _ ⟨v69, rfl, rfl⟩
   refine OpsD.v rfl rfl (Y1b Yck.h rfl rfl) ?_
   refine OpsD.learn (Sim.arr_one (p := 5) rfl) fun n70 => ?_
   refine OpsD.late (ns := [3]) rfl rfl rfl (Y1t (gs := [cV v69, cV v6]) Ycl.h rfl rfl (One.val n70) rfl rfl) ?_
   rintro _ _ ⟨rfl, rfl⟩
   refine zw ?_
   exact le h (gb [1, 1, 1, 0, 1, 0])
  refine AW.cf hb50 rfl ?_
  refine AW.exit ?_
  refine lx h fun h => ?_
  exact ⟨(l46, l48, v47), h, Y21.both (ns := [1, 1, 1, 1, 1]) rfl rfl⟩
 rintro ⟨l71, l73, v72⟩ h
 replace h : Z8h p0 l71 l73 = some r := h
 unfold Z8h at h
 refine zw ?_
 refine Ops.hd (ns := [0]) rfl rfl (Y1u (gs := [cV v72, cV v6]) Yco.h rfl rfl rfl rfl rfl) ?_
 refine zw ?_
 refine AW.ret ?_
 rw [← Wj h]
 exact ⟨[C.agg [cV v72, cV v6]], _, Y21.refl _, (.cons (.cell (p := 0) rfl rfl Yco.h rfl) .nil), [3, 3], _, _, rfl, ⟨v72, v6, rfl, rfl⟩⟩
instance Z8k' (p0 : Y92) : Sp Tryz.prog 83 [C.agg [cM Y9i 2 p0.hubs, cM Y9c 5 p0.letters]] (Z8j p0) (fun r => C.agg [cM Y9i 2 r.hubs, cM Y9c 5 r.letters]) := ⟨fun r h => Ok.freeze (Z8k p0 r h) (by rintro c qs ⟨v74, v75, rfl, rfl⟩; exact Frz.agg (FrzL.cons (os := [_]) (Frz.arr) (FrzL.cons (os := [_]) (Frz.arr) (FrzL.nil))))⟩

def Z8l (p0 : Y92) (p1 : Int) : Option Y96 := (Z83 p0 p1).bind fun r3 => cond (r3 != 0) ((Z85 r3).bind fun r6 => some r6) (cond (decide ((p0.letters.length : Int) ≥ 60)) ((Z85 9).bind fun r9 => some r9) ((Z8j p0).bind fun r11 => (getI p0.letters p1).bind fun e25 => (chk (decide ((r11.letters.length + [e25].length) * 48 ≤ 140737488355328))).bind fun u29 => some (Y96.mk (Y92.mk r11.hubs (r11.letters ++ [e25])) 0 0)))
instance Z8m (p0 : Y92) (p1 : Int) : Sp Tryz.prog 23 [C.agg [cM Y9i 2 p0.hubs, cM Y9c 5 p0.letters], cI p1] (Z8l p0 p1) (fun r => C.agg [cM Y9i 2 r.peers.hubs, cM Y9c 5 r.peers.letters, cI r.id, cI r.code]) := sp Tryz.func23 rfl rfl fun r X h => by
 unfold Z8l at h
 refine zw ?_
 refine ox fun b1 => ?_
 refine Ops.h (ns := []) rfl rfl (Y1p (cs := [cV s0, cV s0, cI 0, cI 0]) Ydt (Y42 rfl rfl) rfl) ?_
 rintro _ _ ⟨b2, rfl, rfl⟩
 refine zw ?_
 refine oc h fun r3 g4 h => ?_
 refine zw ?_
 refine cnd h (fun hb5 h => ?_) fun hb5 h => ?_
 ·
  refine AW.ct hb5 rfl ?_
  refine zw ?_
  refine oc h fun r6 g7 h => ?_
  refine Ops.hd (ns := [0]) rfl rfl (Y1u (gs := [cM Y9i 2 r6.peers.hubs, cM Y9c 5 r6.peers.letters, cI r6.id, cI r6.code]) Ydv.h rfl rfl rfl rfl rfl) ?_
  refine zw ?_
  refine AW.ret ?_
  rw [← Wj h]
  exact ⟨[C.agg [cM Y9i 2 r6.peers.hubs, cM Y9c 5 r6.peers.letters, cI r6.id, cI r6.code]], _, Y21.refl _, (.cons (.cell (p := 0) rfl rfl Ydv.h rfl) .nil), [], _, _, rfl, ⟨rfl, rfl⟩⟩
 refine AW.cf hb5 rfl ?_
 refine zw ?_
 refine cnd h (fun hb8 h => ?_) fun hb8 h => ?_
 ·
  refine AW.ct hb8 rfl ?_
  refine zw ?_
  refine oc h fun r9 g10 h => ?_
  refine Ops.hd (ns := [0]) rfl rfl (Y1u (gs := [cM Y9i 2 r9.peers.hubs, cM Y9c 5 r9.peers.letters, cI r9.id, cI r9.code]) Ydv.h rfl rfl rfl rfl rfl) ?_
  refine zw ?_
  refine AW.ret ?_
  rw [← Wj h]
  exact ⟨[C.agg [cM Y9i 2 r9.peers.hubs, cM Y9c 5 r9.peers.letters, cI r9.id, cI r9.code]], _, Y21.refl _, (.cons (.cell (p := 0) rfl rfl Ydv.h rfl) .nil), [], _, _, rfl, ⟨rfl, rfl⟩⟩
 refine AW.cf hb8 rfl ?_
 refine zw ?_
 refine ob' h fun r11 g12 h => ?_
 refine Ops.h (ns := []) rfl rfl (Y23 (Z8k _ _ g12) rfl rfl) ?_
 rintro _ _ ⟨_, ⟨v13, v14, rfl, rfl⟩, rfl⟩
 refine Ops.h (ns := []) rfl rfl (Y1p (cs := [cV s0, cV s0]) Ycj (Y42 rfl rfl) rfl) ?_
 rintro _ _ ⟨b15, rfl, rfl⟩
 refine Ops.hd (ns := [0]) rfl rfl (Y1u (gs := [cV v13, cV v14]) Yco.h rfl rfl rfl rfl rfl) ?_
 refine zw ?_
 refine rD [0,0,1,1] [1,3,6] [10] [0,5,8,13,16,20,25,30,34,36,43] ?_
 refine zw ?_
 refine di h fun e25 g26 h => ?_
 refine OpsD.v rfl rfl (Y1i Ycg.h rfl rfl rfl rfl) ?_
 refine OpsD.one ?_
 refine Y3n.h (ns := []) rfl rfl rfl (Y39 (k := Y9c) (ys := [e25]) Ych (.agg rfl rfl .nil) rfl rfl rfl) ?_
 rintro _ _ ⟨b27, rfl, rfl⟩
 refine zw ?_
 refine ob' h fun u29 c28 h => ?_
 refine Y3n.h (ns := [1, 0]) rfl rfl rfl (Y2s Ych rfl rfl (Wo (Y3t c28)) (Y3w (by decide) c28) rfl) ?_
 rintro _ _ ⟨v30, rfl, rfl⟩
 refine OpsD.v rfl rfl (Y1b Ycm.h rfl rfl) ?_
 refine OpsD.learn (Sim.arr_one (p := 4) rfl) fun n31 => ?_
 refine OpsD.late (ns := [0]) rfl rfl rfl (Y1t (gs := [cV v13, cV v30]) Ycn.h rfl rfl (One.val n31) rfl rfl) ?_
 rintro _ _ ⟨rfl, rfl⟩
 refine zw ?_
 refine Ops.v rfl (Y38 (ds := [cV v13, cV v30, cI 0, cI 0]) Ydu Ydt (Y42 rfl rfl) (.agg rfl rfl rfl .nil) rfl) ?_
 refine Ops.hd (ns := [2]) rfl rfl (Y1u (gs := [cV v13, cV v30, cI 0, cI 0]) Ydv.h rfl rfl rfl rfl rfl) ?_
 refine zw ?_
 refine AW.ret ?_
 rw [← Wj h]
 exact ⟨[C.agg [cM Y9i 2 r11.hubs, cM Y9c 5 (r11.letters ++ [e25]), cI 0, cI 0]], _, Y21.boxFrz (ns := [0, 1, 2]) rfl (FrzL.cons (os := [_]) Frz.arr (FrzL.cons (os := [_]) Frz.arr (fS (fS FrzL.nil)))), (.cons (.cell (p := 0) rfl rfl Ydv.h rfl) .nil), [], _, _, rfl, ⟨rfl, rfl⟩⟩

def Z8n (p0 : List Y8y) : Option (List Y8y) := (chk (decide (p0.length * 48 ≤ 140737488355328))).bind fun _ => some p0
theorem Z8o (p0 : List Y8y) (r : List Y8y) (h : Z8n p0 = some r) : Ok Tryz.prog 213 [cM Y9c 5 p0] [] (fun c qs => ∃ (v : Value), c = cV v ∧ qs = [oA v 115 Y9c 5 r]) := by
 refine ob' h fun u hc h => ?_
 obtain rfl := Wj h
 have hc := Wo (Y3t hc)
 refine Ok.of_body (rs := [.tmp 2]) Tryz.func213 rfl rfl rfl rfl rfl fun X => ?_
 refine zw ?_
 refine Ops.h (ns := []) rfl rfl (Y5m Yci.h rfl rfl) ?_
 rintro _ _ ⟨b, hb, rfl, rfl⟩
 refine zw ?_
 refine tf' b (fun hq => ?_) (fun hq => ?_)
 ·
  refine AW.cond rfl (fun _ => ?_) (fun hn => absurd (hq.symm.trans hn) (by decide))
  refine zw ?_
  refine AW.ret ?_
  obtain rfl := hb hq
  exact ⟨[cV s0], _, Y21.nil 115 Y9c 5, .cons (.tmp rfl) .nil, [0], _, _, rfl, ⟨_, rfl, rfl⟩⟩
 refine AW.cond rfl (fun hn => absurd (hq.symm.trans hn) (by decide)) (fun _ => ?_)
 refine zw ?_
 refine Ops.h (ns := []) rfl rfl (Y39 (k := Y9c) (ys := ([] : List Y8y)) Ych .nil rfl rfl rfl) ?_
 rintro _ _ ⟨b1, rfl, rfl⟩
 refine zw ?_
 refine Ops.h (ns := [0]) rfl rfl (Y2r Ych rfl rfl (by simpa using hc) (by simp; omega) rfl) ?_
 rintro _ _ ⟨v, rfl, rfl⟩
 refine zw ?_
 refine AW.ret ?_
 exact ⟨[cV v], _, Y21.refl _, .cons (.tmp rfl) .nil, [0], _, _, rfl, ⟨v, rfl, rfl⟩⟩
instance Z8o' (p0 : List Y8y) : Sp Tryz.prog 213 [cM Y9c 5 p0] (Z8n p0) (fun r => cM Y9c 5 r) := ⟨fun r h => Ok.freeze (Z8o p0 r h) (by rintro c qs ⟨v, rfl, rfl⟩; exact Frz.arr)⟩

def Z8p (x2 : Bool) : Option Bool := some x2
def Z8q (p0 : Int) (p1 : Int) (p2 : Int) : Option Bool := cond (decide (p1 ≤ p0)) (Z8p (decide (p0 ≤ p2))) (Z8p false)
instance Z8r (p0 : Int) (p1 : Int) (p2 : Int) : Sp Tryz.prog 115 [cI p0, cI p1, cI p2] (Z8q p0 p1 p2) C.bool := sp Tryz.func115 rfl rfl fun r X h => go

def Z8s (p0 : Int) : Option Bool := (Z8q p0 1 3).bind fun r1 => some r1
instance Z8t (p0 : Int) : Sp Tryz.prog 74 [cI p0] (Z8s p0) C.bool := sp Tryz.func74 rfl rfl fun r X h => go

def Z8u (p0 : Int) : Option Bool := (Z8q p0 1 1000000).bind fun r1 => some r1
instance Z8v (p0 : Int) : Sp Tryz.prog 301 [cI p0] (Z8u p0) C.bool := sp Tryz.func301 rfl rfl fun r X h => go

def Z8w (p0 : Int) : Option Bool := (Z8q p0 1 6).bind fun r1 => some r1
instance Z8x (p0 : Int) : Sp Tryz.prog 99 [cI p0] (Z8w p0) C.bool := sp Tryz.func99 rfl rfl fun r X h => go

def Z8y (p0 : Int) : Option Bool := (Z8q p0 0 1000000).bind fun r1 => some r1
instance Z8z (p0 : Int) : Sp Tryz.prog 302 [cI p0] (Z8y p0) C.bool := sp Tryz.func302 rfl rfl fun r X h => go

def Z90 : Option Bool := some true
def Z91 (x12 : Int) (x22 : Bool) : Option (Int ⊕ (Bool ⊕ Unit)) := cond x22 (some (.inr (.inl false))) (some (.inl (IntKind.i64.wrap (x12 + 1))))
def Z92 (p0 : List Int) (p1 : Int) (p2 : Int) (x12 : Int) : Option (Int ⊕ (Bool ⊕ Unit)) := cond (decide (x12 < (p0.length : Int))) ((getI p0 x12).bind fun e14 => (Z8q e14 p1 p2).bind fun r16 => cond r16 (cond (decide (x12 > 0)) ((getI p0 (IntKind.i64.wrap (x12 - 1))).bind fun e20 => Z91 x12 (decide (e20 ≥ e14))) (Z91 x12 false)) (Z91 x12 true)) (some (.inr (.inr ())))
def Z93 (p0 : List Int) (p1 : Int) (p2 : Int) : Option Bool := (iter (Z92 p0 p1 p2) big 0).bind (fun z25 => match z25 with | .inl y24 => some y24 | .inr () => Z90)
instance Z94 (p0 : List Int) (p1 : Int) (p2 : Int) : Sp Tryz.prog 303 [cM kI64 1 p0, cI p1, cI p2] (Z93 p0 p1 p2) C.bool := sp Tryz.func303 rfl rfl fun r X h => by
 unfold Z93 at h
 refine zw ?_
 refine AW.lp (v := ()) h (fun x12 (_ : Unit) => ⟨[(0, cM kI64 1 p0), (1, cI p1), (2, cI p2), (9, cM kI64 1 p0), (10, cI (p0.length : Int)), (11, cI x12)], []⟩) (gb []) ?_
 rintro x12 _ y31 h
 exact go

def Z95 : Option Int := some (-1)
def Z96 (p0 : List Int) (p1 : Int) (x5 : Int) : Option (Int ⊕ (Int ⊕ Unit)) := cond (decide (x5 < (p0.length : Int))) ((getI p0 x5).bind fun e7 => cond (p1 == e7) (some (.inr (.inl x5))) (some (.inl (IntKind.i64.wrap (x5 + 1))))) (some (.inr (.inr ())))
def Z97 (p0 : List Int) (p1 : Int) : Option Int := (iter (Z96 p0 p1) big 0).bind (fun z11 => match z11 with | .inl y10 => some y10 | .inr () => Z95)
instance Z98 (p0 : List Int) (p1 : Int) : Sp Tryz.prog 258 [cM kI64 1 p0, cI p1] (Z97 p0 p1) cI := sp Tryz.func258 rfl rfl fun r X h => by
 unfold Z97 at h
 refine zw ?_
 refine AW.lp (v := ()) h (fun x5 (_ : Unit) => ⟨[(0, cM kI64 1 p0), (1, cI p1), (7, cI (p0.length : Int)), (8, cI x5)], []⟩) (gb []) ?_
 rintro x5 _ y17 h
 exact go

def Z99 (p0 : List Int) (p1 : Int) : Option Bool := (Z97 p0 p1).bind fun r1 => some (decide (r1 ≥ 0))
instance Z9a (p0 : List Int) (p1 : Int) : Sp Tryz.prog 208 [cM kI64 1 p0, cI p1] (Z99 p0 p1) C.bool := sp Tryz.func208 rfl rfl fun r X h => go

def Z9b (x5 : Bool) : Option Bool := some x5
def Z9c (x13 : Bool) : Option Bool := some x13
def Z9d (x21 : Bool) : Option Bool := some x21
def Z9e (x25 : Bool) : Option Bool := some x25
def Z9f (x31 : Bool) : Option Bool := some x31
def Z9g (x37 : Bool) : Option Bool := some x37
def Z9h (x43 : Bool) : Option Bool := some x43
def Z9i (x49 : Bool) : Option Bool := some x49
def Z9j (p0 : Y8v) : Option Bool := cond (p0.kind == 1) (cond (p0.key == 0) (cond (p0.n == 0) (Z9b ((p0.text.size : Int) == 0)) (Z9b false)) (Z9b false)) (cond (p0.kind == 2) ((Z8w p0.key).bind fun r7 => cond r7 ((Z8q p0.n 1 4).bind fun r10 => cond r10 (Z9c ((p0.text.size : Int) == 0)) (Z9c false)) (Z9c false)) (cond (p0.kind == 3) ((Z8w p0.key).bind fun r15 => cond r15 ((Z8q p0.n 0 100).bind fun r18 => cond r18 (Z9d ((p0.text.size : Int) == 0)) (Z9d false)) (Z9d false)) (cond (p0.kind == 4) (cond (p0.key == 0) (cond (p0.n == 0) (Z9e (decide ((p0.text.size : Int) ≤ 30))) (Z9e false)) (Z9e false)) (cond (p0.kind == 5) (cond (p0.key == 0) ((Z8q p0.n 1 2).bind fun r28 => cond r28 (Z9f ((p0.text.size : Int) == 0)) (Z9f false)) (Z9f false)) (cond (p0.kind == 6) (cond (p0.key == 0) ((Z8q p0.n 1 3).bind fun r34 => cond r34 (Z9g ((p0.text.size : Int) == 0)) (Z9g false)) (Z9g false)) (cond (p0.kind == 7) (cond (p0.key == 0) (cond (p0.n == 0) ((Z8q (p0.text.size : Int) 1 30).bind fun r41 => Z9h r41) (Z9h false)) (Z9h false)) (cond (p0.kind == 8) ((Z8u p0.key).bind fun r45 => cond r45 (cond (p0.n == 0) (Z9i ((p0.text.size : Int) == 0)) (Z9i false)) (Z9i false)) (Z9i false))))))))
instance Z9k (p0 : Y8v) : Sp Tryz.prog 304 [C.agg [cI p0.id, cI p0.room, cI p0.author, cI p0.kind, cI p0.key, cI p0.n, C.str p0.text, cM kI64 1 p0.prev, cI p0.time]] (Z9j p0) C.bool := sp Tryz.func304 rfl rfl fun r X h => by
 unfold Z9j at h
 refine zw ?_
 refine ox fun b1 => ?_
 refine zw ?_
 refine rD [0] [1,4,7] [] [0,5,8,12,17,20,24,29,32,36,40,44] ?_
 refine zw ?_
 refine cnd h (fun hb2 h => go) fun hb2 h => ?_
 refine AW.cf hb2 rfl ?_
 refine zw ?_
 refine cnd h (fun hb6 h => ?_) fun hb6 h => ?_
 ·
  refine AW.ct hb6 rfl ?_
  refine zw ?_
  refine oc h fun r7 g8 h => ?_
  refine zw ?_
  refine cnd h (fun hb9 h => ?_) fun hb9 h => ?_
  ·
   refine zw ?_
   refine ob' h fun r10 g11 h => ?_
   refine Ops.ghd (ns := []) rfl rfl rfl rfl hb9 rfl (Y24 ((Z8r _ _ _).h _ g11) rfl rfl) ?_
   exact go
  exact go
 refine AW.cf hb6 rfl ?_
 refine zw ?_
 refine cnd h (fun hb14 h => ?_) fun hb14 h => ?_
 ·
  refine AW.ct hb14 rfl ?_
  refine zw ?_
  refine oc h fun r15 g16 h => ?_
  refine zw ?_
  refine cnd h (fun hb17 h => ?_) fun hb17 h => ?_
  ·
   refine zw ?_
   refine ob' h fun r18 g19 h => ?_
   refine Ops.ghd (ns := []) rfl rfl rfl rfl hb17 rfl (Y24 ((Z8r _ _ _).h _ g19) rfl rfl) ?_
   exact go
  exact go
 refine AW.cf hb14 rfl ?_
 refine zw ?_
 refine cnd h (fun hb22 h => go) fun hb22 h => ?_
 refine AW.cf hb22 rfl ?_
 refine zw ?_
 refine cnd h (fun hb26 h => ?_) fun hb26 h => ?_
 ·
  refine AW.ct hb26 rfl ?_
  refine zw ?_
  refine cnd h (fun hb27 h => ?_) fun hb27 h => ?_
  ·
   refine zw ?_
   refine ob' h fun r28 g29 h => ?_
   refine Ops.ghd (ns := []) rfl rfl rfl rfl hb27 rfl (Y24 ((Z8r _ _ _).h _ g29) rfl rfl) ?_
   exact go
  exact go
 refine AW.cf hb26 rfl ?_
 refine zw ?_
 refine cnd h (fun hb32 h => ?_) fun hb32 h => ?_
 ·
  refine AW.ct hb32 rfl ?_
  refine zw ?_
  refine cnd h (fun hb33 h => ?_) fun hb33 h => ?_
  ·
   refine zw ?_
   refine ob' h fun r34 g35 h => ?_
   refine Ops.ghd (ns := []) rfl rfl rfl rfl hb33 rfl (Y24 ((Z8r _ _ _).h _ g35) rfl rfl) ?_
   exact go
  exact go
 refine AW.cf hb32 rfl ?_
 refine zw ?_
 refine cnd h (fun hb38 h => ?_) fun hb38 h => ?_
 ·
  refine AW.ct hb38 rfl ?_
  refine zw ?_
  refine cnd h (fun hb39 h => ?_) fun hb39 h => ?_
  ·
   refine zw ?_
   refine cnd h (fun hb40 h => ?_) fun hb40 h => ?_
   ·
    refine zw ?_
    refine ob' h fun r41 g42 h => ?_
    refine Ops.ghd (ns := []) rfl rfl rfl rfl hb40 rfl (Y24 ((Z8r _ _ _).h _ g42) rfl rfl) ?_
    exact go
   exact go
  exact go
 refine AW.cf hb38 rfl ?_
 refine zw ?_
 refine cnd h (fun hb44 h => ?_) fun hb44 h => ?_
 ·
  refine zw ?_
  refine ob' h fun r45 g46 h => ?_
  refine Ops.ghd (ns := []) rfl rfl rfl rfl hb44 rfl (Y24 ((Z8v _).h _ g46) rfl rfl) ?_
  exact go
 exact go

def Z9l (x23 : Bool) : Option Bool := some x23
def Z9m (p0 : Y8v) : Option Bool := (Z8u p0.id).bind fun r2 => cond r2 ((Z8s p0.room).bind fun r5 => cond r5 ((Z8w p0.author).bind fun r8 => cond r8 ((Z8y p0.time).bind fun r11 => cond r11 (cond (decide ((p0.prev.length : Int) ≤ 4)) ((Z93 p0.prev 1 1000000).bind fun r15 => cond r15 ((Z99 p0.prev p0.id).bind fun r18 => cond r18 (Z9l false) ((Z9j p0).bind fun r21 => Z9l r21)) (Z9l false)) (Z9l false)) (Z9l false)) (Z9l false)) (Z9l false)) (Z9l false)
instance Z9n (p0 : Y8v) : Sp Tryz.prog 282 [C.agg [cI p0.id, cI p0.room, cI p0.author, cI p0.kind, cI p0.key, cI p0.n, C.str p0.text, cM kI64 1 p0.prev, cI p0.time]] (Z9m p0) C.bool := sp Tryz.func282 rfl rfl fun r X h => by
 unfold Z9m at h
 refine zw ?_
 refine ox fun b1 => ?_
 refine zw ?_
 refine oc h fun r2 g3 h => ?_
 refine zw ?_
 refine cnd h (fun hb4 h => ?_) fun hb4 h => ?_
 ·
  refine zw ?_
  refine ob' h fun r5 g6 h => ?_
  refine Ops.ghd (ns := []) rfl rfl rfl rfl hb4 rfl (Y24 ((Z8t _).h _ g6) rfl rfl) ?_
  refine zw ?_
  refine cnd h (fun hb7 h => ?_) fun hb7 h => ?_
  ·
   refine zw ?_
   refine ob' h fun r8 g9 h => ?_
   refine Ops.ghd (ns := []) rfl rfl rfl rfl hb7 rfl (Y24 ((Z8x _).h _ g9) rfl rfl) ?_
   refine zw ?_
   refine cnd h (fun hb10 h => ?_) fun hb10 h => ?_
   ·
    refine zw ?_
    refine ob' h fun r11 g12 h => ?_
    refine Ops.ghd (ns := []) rfl rfl rfl rfl hb10 rfl (Y24 ((Z8z _).h _ g12) rfl rfl) ?_
    refine zw ?_
    refine cnd h (fun hb13 h => ?_) fun hb13 h => ?_
    ·
     refine zw ?_
     refine cnd h (fun hb14 h => ?_) fun hb14 h => ?_
     ·
      refine zw ?_
      refine ob' h fun r15 g16 h => ?_
      refine Ops.ghd (ns := []) rfl rfl rfl rfl hb14 rfl (Y24 ((Z94 _ _ _).h _ g16) rfl rfl) ?_
      refine zw ?_
      refine cnd h (fun hb17 h => ?_) fun hb17 h => ?_
      ·
       refine zw ?_
       refine ob' h fun r18 g19 h => ?_
       refine Ops.ghd (ns := []) rfl rfl rfl rfl hb17 rfl (Y24 ((Z9a _ _).h _ g19) rfl rfl) ?_
       refine zw ?_
       refine cnd h (fun hb20 h => go) fun hb20 h => ?_
       refine zw ?_
       refine ob' h fun r21 g22 h => ?_
       refine Ops.ghd (ns := []) rfl rfl rfl rfl (Y3v hb20) rfl (Y24 ((Z9k _).h _ g22) rfl rfl) ?_
       exact go
      exact go
     exact go
    exact go
   exact go
  exact go
 exact go

def Z9o (x5 : Bool) : Option Bool := some x5
def Z9p (p0 : Y8v) : Option Bool := (Z9m p0).bind fun r2 => cond r2 (Z9o ((p0.kind == 1) == ((p0.prev.length : Int) == 0))) (Z9o false)
instance Z9q (p0 : Y8v) : Sp Tryz.prog 235 [C.agg [cI p0.id, cI p0.room, cI p0.author, cI p0.kind, cI p0.key, cI p0.n, C.str p0.text, cM kI64 1 p0.prev, cI p0.time]] (Z9p p0) C.bool := sp Tryz.func235 rfl rfl fun r X h => by
 unfold Z9p at h
 refine zw ?_
 refine ox fun b1 => ?_
 refine zw ?_
 refine oc h fun r2 g3 h => ?_
 refine zw ?_
 refine cnd h (fun hb4 h => ?_) fun hb4 h => ?_
 ·
  refine zw ?_
  refine Ops.gv rfl rfl rfl rfl hb4 (Y10 un_4 rfl rfl rfl) ?_
  exact go
 exact go

def Z9r : Option Bool := some true
def Z9s (x15 : Int) (x27 : Bool) : Option (Int ⊕ (Bool ⊕ Unit)) := cond x27 (some (.inr (.inl false))) (some (.inl (IntKind.i64.wrap (x15 + 1))))
def Z9t (p0 : Y90) (p1 : List Y8v) (x15 : Int) : Option (Int ⊕ (Bool ⊕ Unit)) := cond (decide (x15 < (p1.length : Int))) ((getI p1 x15).bind fun e17 => (Z9p e17).bind fun r20 => cond r20 (cond (e17.room != p0.room) (Z9s x15 true) (cond (decide (x15 > 0)) ((getI p1 (IntKind.i64.wrap (x15 - 1))).bind fun e25 => Z9s x15 (decide (e25.id ≥ e17.id))) (Z9s x15 false))) (Z9s x15 true)) (some (.inr (.inr ())))
def Z9u (p0 : Y90) (p1 : List Y8v) : Option Bool := (iter (Z9t p0 p1) big 0).bind (fun z30 => match z30 with | .inl y29 => some y29 | .inr () => Z9r)
instance Z9v (p0 : Y90) (p1 : List Y8v) : Sp Tryz.prog 184 [C.agg [cI p0.room, cM Y99 9 p0.events, cM Y99 9 p0.parked], cM Y99 9 p1] (Z9u p0 p1) C.bool := sp Tryz.func184 rfl rfl fun r X h => by
 unfold Z9u at h
 refine zw ?_
 refine ox fun b1 => ?_
 refine zw ?_
 refine AW.lp (v := ()) h (fun x15 (_ : Unit) => ⟨[(1, cM Y99 9 p1), (2, pt b1), (7, cM Y99 9 p1), (8, cI (p1.length : Int)), (9, cI x15)], [oB b1 139 [cI p0.room, cM Y99 9 p0.events, cM Y99 9 p0.parked]]⟩) (gb [0]) ?_
 rintro x15 _ y36 h
 refine zw ?_
 refine cnd h (fun hb16 h => ?_) fun hb16 h => ?_
 ·
  refine AW.ct hb16 rfl ?_
  refine zw ?_
  refine oi h fun e17 g18 h => ?_
  refine zw ?_
  refine Ops.h (ns := []) rfl rfl (Y1p (cs := [cI 0, cI 0, cI 0, cI 0, cI 0, cI 0, C.str ByteArray.empty, cV s0, cI 0]) Yal (Y42 rfl rfl) rfl) ?_
  rintro _ _ ⟨b19, rfl, rfl⟩
  refine zw ?_
  refine Ops.hd (ns := [0]) rfl rfl (Y1u (gs := [cI e17.id, cI e17.room, cI e17.author, cI e17.kind, cI e17.key, cI e17.n, C.str e17.text, cM kI64 1 e17.prev, cI e17.time]) Yb2.h rfl rfl rfl rfl rfl) ?_
  refine zw ?_
  refine rD [0,0] [0,5,7,19,21] [] [1,6,8,12,16,21,24,29,32,36,40,44,48,52,56,60,64,68,72,77,80,85,88,92,96] ?_
  exact go
 exact go

def Z9w (p0 : Int) : Option Bool := some (p0 != p0)
instance Z9x (p0 : Int) : Sp Tryz.prog 247 [cI p0] (Z9w p0) C.bool := sp Tryz.func247 rfl rfl fun r X h => go

def Z9y (p0 : Int) (p1 : Int) : Option Int := (Z9w p0).bind fun r1 => (Z9w p1).bind fun r3 => cond r1 (cond r3 (some 0) (some (-1))) (cond r3 (some 1) (cond (decide (p0 < p1)) (some (-1)) (cond (decide (p0 > p1)) (some 1) (some 0))))
instance Z9z (p0 : Int) (p1 : Int) : Sp Tryz.prog 202 [cI p0, cI p1] (Z9y p0 p1) cI := sp Tryz.func202 rfl rfl fun r X h => go

def Za0 (p0 : Y8v) (p1 : Int) : Option Int := (Z9y p0.id p1).bind fun r2 => some r2
instance Za1 (p0 : Y8v) (p1 : Int) : Sp Tryz.prog 242 [C.agg [cI p0.id, cI p0.room, cI p0.author, cI p0.kind, cI p0.key, cI p0.n, C.str p0.text, cM kI64 1 p0.prev, cI p0.time], cI p1] (Za0 p0 p1) cI := sp Tryz.func242 rfl rfl fun r X h => go

def Za2 (x15 : Int) (x21 : Bool) : Option (Int × Bool) := some (x15, x21)
def Za3 (p0 : List Y8v) (p1 : Int) (x15 : Int) : Option (Int × Bool) := cond (decide (x15 < (p0.length : Int))) ((getI p0 x15).bind fun e17 => (Za0 e17 p1).bind fun r19 => Za2 x15 (r19 == 0)) (Za2 x15 false)
def Za4 (p0 : List Y8v) (p1 : Int) (x7 : Int) (x8 : Int) : Option ((Int × Int) ⊕ (Int)) := cond (decide (x7 < x8)) ((getI p0 (IntKind.i64.wrap (shrI .u64 (IntKind.u64.wrap (IntKind.i64.wrap (x7 + x8))) 1))).bind fun e10 => (Za0 e10 p1).bind fun r12 => cond (decide (r12 < 0)) (some (.inl ((IntKind.i64.wrap ((IntKind.i64.wrap (shrI .u64 (IntKind.u64.wrap (IntKind.i64.wrap (x7 + x8))) 1)) + 1)), x8))) (some (.inl (x7, (IntKind.i64.wrap (shrI .u64 (IntKind.u64.wrap (IntKind.i64.wrap (x7 + x8))) 1)))))) (some (.inr x7))
def Za5 (p0 : List Y8v) (p1 : Int) : Option (Int × Bool) := (iter (fun z22 => Za4 p0 p1 z22.1 z22.2) big (0, (p0.length : Int))).bind fun y23 => Za3 p0 p1 y23
instance Za6 (p0 : List Y8v) (p1 : Int) : Sp Tryz.prog 241 [cM Y99 9 p0, cI p1, cV (.func (.func 242) #[] #[])] (Za5 p0 p1) (fun r => C.tup [cI r.1, C.bool r.2]) := sp Tryz.func241 rfl rfl fun r X h => by
 unfold Za5 at h
 refine AW.seq ?_
 refine AW.region ?_
 refine Ops.v rfl (Yr rfl rfl) ?_
 refine Ops.v rfl (Yr rfl rfl) ?_
 refine Ops.nil ?_
 refine AW.seq ?_
 refine AW.region ?_
 refine Ops.v rfl (Yq rfl rfl) ?_
 refine Ops.v rfl (Y2c Yb8.h rfl rfl) ?_
 refine Ops.v rfl (Yr rfl rfl) ?_
 refine Ops.nil ?_
 refine AW.seq ?_
 refine AW.region ?_
 refine Ops.v rfl (Yq rfl rfl) ?_
 refine Ops.v rfl (Yr rfl rfl) ?_
 refine Ops.v rfl (Yr rfl rfl) ?_
 refine Ops.nil ?_
 refine AW.seq ?_
 refine AW.cut (τ := Int) (fun x15 => ⟨[(0, cM Y99 9 p0), (1, cI p1), (2, cV (.func (.func 242) #[] #[])), (8, cI (p0.length : Int)), (9, cI x15)], []⟩) (fun x15 => Za3 p0 p1 x15 = some r) ?_ ?_
 ·
  refine zw ?_
  refine AW.lp (v := ()) h (fun (x7, x8) (_ : Unit) => ⟨[(0, cM Y99 9 p0), (1, cI p1), (2, cV (.func (.func 242) #[] #[])), (8, cI (p0.length : Int)), (9, cI x7), (10, cI x8)], []⟩) (gb []) ?_
  rintro ⟨x7, x8⟩ _ y29 h
  refine zw ?_
  refine cnd h (fun hb9 h => ?_) fun hb9 h => ?_
  ·
   refine AW.ct hb9 rfl ?_
   refine zw ?_
   refine Ops.v rfl (Y12 un_3 Ydz rfl rfl) ?_
   refine Ops.v rfl (Yz rfl rfl rfl rfl) ?_
   refine Ops.v rfl (Y12 Ydz un_3 rfl rfl) ?_
   refine zw ?_
   refine oi h fun e10 g11 h => ?_
   refine zw ?_
   refine ob' h fun r12 g13 h => ?_
   refine Ops.h (ns := []) rfl rfl (Y26 (cs := [_, _]) rfl rfl ((Za1 _ _).h _ g13) rfl rfl) ?_
   rintro _ _ ⟨_, ⟨rfl, rfl⟩, rfl⟩
   exact go
  exact go
 intro x15 h
 replace h : Za3 p0 p1 x15 = some r := h
 unfold Za3 at h
 refine AW.seq ?_
 refine AW.cut (τ := Bool) (fun x21 => ⟨[(6, cI x15), (7, C.bool x21)], []⟩) (fun x21 => Za2 x15 x21 = some r) ?_ ?_
 ·
  refine zw ?_
  refine cnd h (fun hb16 h => ?_) fun hb16 h => ?_
  ·
   refine zw ?_
   refine ob' h fun e17 g18 h => ?_
   refine zw ?_
   refine ob' h fun r19 g20 h => ?_
   refine Ops.gh (ns := []) rfl rfl rfl rfl hb16 rfl (Y26 (cs := [_, _]) rfl rfl ((Za1 _ _).h _ g20) rfl rfl) ?_
   rintro _ _ ⟨_, ⟨rfl, rfl⟩, rfl⟩
   exact go
  exact go
 intro x21 h
 replace h : Za2 x15 x21 = some r := h
 unfold Za2 at h
 refine AW.ret ?_
 rw [← Wj h]
 exact ⟨[cI x15, C.bool x21], _, Y21.refl _, (.cons (.tmp rfl) (.cons (.tmp rfl) .nil)), [], _, _, rfl, ⟨rfl, rfl⟩⟩

def Za7 (p0 : List Y8v) (p1 : Int) : Option (Int × Bool) := (Za5 p0 p1).bind fun r1 => some (r1.1, r1.2)
instance Za8 (p0 : List Y8v) (p1 : Int) : Sp Tryz.prog 193 [cM Y99 9 p0, cI p1] (Za7 p0 p1) (fun r => C.tup [cI r.1, C.bool r.2]) := sp Tryz.func193 rfl rfl fun r X h => by
 unfold Za7 at h
 refine zw ?_
 refine oc h fun r1 g2 h => ?_
 refine zw ?_
 refine AW.ret ?_
 rw [← Wj h]
 exact ⟨[cI r1.1, C.bool r1.2], _, Y21.refl _, (.cons (.tmp rfl) (.cons (.tmp rfl) .nil)), [], _, _, rfl, ⟨rfl, rfl⟩⟩

def Za9 (p0 : Y90) (p1 : Int) : Option Bool := (Za7 p0.events p1).bind fun r2 => some r2.2
instance Zaa (p0 : Y90) (p1 : Int) : Sp Tryz.prog 189 [C.agg [cI p0.room, cM Y99 9 p0.events, cM Y99 9 p0.parked], cI p1] (Za9 p0 p1) C.bool := sp Tryz.func189 rfl rfl fun r X h => go

def Zab (p0 : Int) (q0 : Y90) : Option Bool := (Za9 q0 p0).bind fun r1 => some (!r1)
theorem Zac {b00 : Nat} (p0 : Int) (q0 : Y90) (r : Bool) (h : Zab p0 q0 = some r) : Ok Tryz.prog 237 [cI p0, pt b00] [oB b00 139 [cI q0.room, cM Y99 9 q0.events, cM Y99 9 q0.parked]] (fun c qs => c = C.bool r ∧ qs = [oB b00 139 [cI q0.room, cM Y99 9 q0.events, cM Y99 9 q0.parked]]) := by
 refine Ok.of_body (rs := [.tmp 3]) Tryz.func237 rfl rfl rfl rfl rfl fun X => ?_
 unfold Zab at h
 refine zw ?_
 refine oc h fun r1 g2 h => ?_
 refine zw ?_
 refine AW.ret ?_
 rw [← Wj h]
 exact ⟨[C.bool (!r1)], _, Y21.refl _, (.cons (.tmp rfl) .nil), [0], _, _, rfl, ⟨rfl, rfl⟩⟩

def Zad : Option Int := some (-1)
def Zae (p0 : List Int) (p1_0 : Y90) (x7 : Int) : Option (Int ⊕ (Int ⊕ Unit)) := cond (decide (x7 < (p0.length : Int))) ((getI p0 x7).bind fun e9 => (Zab e9 p1_0).bind fun r11 => cond r11 (some (.inr (.inl x7))) (some (.inl (IntKind.i64.wrap (x7 + 1))))) (some (.inr (.inr ())))
def Zaf (p0 : List Int) (p1_0 : Y90) : Option Int := (iter (Zae p0 p1_0) big 0).bind (fun z15 => match z15 with | .inl y14 => some y14 | .inr () => Zad)
theorem Zag {b00 : Nat} (p0 : List Int) (p1_0 : Y90) (r : Int) (h : Zaf p0 p1_0 = some r) : Ok Tryz.prog 194 [cM kI64 1 p0, C.clo 237 [pt b00]] [oB b00 139 [cI p1_0.room, cM Y99 9 p1_0.events, cM Y99 9 p1_0.parked]] (fun c qs => c = cI r ∧ qs = [oB b00 139 [cI p1_0.room, cM Y99 9 p1_0.events, cM Y99 9 p1_0.parked]]) := by
 refine Ok.of_body (rs := [.tmp 4]) Tryz.func194 rfl rfl rfl rfl rfl fun X => ?_
 unfold Zaf at h
 refine AW.seq ?_
 refine AW.region ?_
 refine Ops.v rfl (Yr rfl rfl) ?_
 refine Ops.nil ?_
 refine AW.seq ?_
 refine AW.cut (τ := Unit) (fun (_ : Unit) => ⟨[], [oB b00 139 [cI p1_0.room, cM Y99 9 p1_0.events, cM Y99 9 p1_0.parked]]⟩) (fun (_ : Unit) => Zad = some r) ?_ ?_
 ·
  refine zw ?_
  refine AW.lp (v := ()) h (fun x7 (_ : Unit) => ⟨[(0, cM kI64 1 p0), (1, C.clo 237 [pt b00]), (7, cI (p0.length : Int)), (8, cI x7)], [oB b00 139 [cI p1_0.room, cM Y99 9 p1_0.events, cM Y99 9 p1_0.parked]]⟩) (gb [0]) ?_
  rintro x7 _ y21 h
  refine zw ?_
  refine cnd h (fun hb8 h => ?_) fun hb8 h => ?_
  ·
   refine AW.ct hb8 rfl ?_
   refine zw ?_
   refine oi h fun e9 g10 h => ?_
   refine zw ?_
   refine ob' h fun r11 g12 h => ?_
   refine Ops.hd (ns := [0]) rfl rfl (Y6s (cs := [_]) (ds := [_]) rfl (Zac e9 p1_0 _ g12) rfl rfl) ?_
   refine zw ?_
   refine cnd h (fun hb13 h => ?_) fun hb13 h => ?_
   ·
    refine AW.ct hb13 rfl ?_
    refine zw ?_
    refine AW.ret ?_
    refine lx h fun h => ?_
    rw [← Wj h]
    exact ⟨[cI x7], _, Y21.refl _, (.cons (.tmp rfl) .nil), [0], _, _, rfl, ⟨rfl, rfl⟩⟩
   exact go
  exact go
 rintro ⟨⟩ h
 replace h : Zad = some r := h
 unfold Zad at h
 refine zw ?_
 refine AW.ret ?_
 rw [← Wj h]
 exact ⟨[cI (-1)], _, Y21.refl _, (.cons (.tmp rfl) .nil), [0], _, _, rfl, ⟨rfl, rfl⟩⟩

def Zah (p0 : List Int) (p1_0 : Y90) : Option Bool := (Zaf p0 p1_0).bind fun r1 => some (decide (r1 ≥ 0))
theorem Zai {b00 : Nat} (p0 : List Int) (p1_0 : Y90) (r : Bool) (h : Zah p0 p1_0 = some r) : Ok Tryz.prog 140 [cM kI64 1 p0, C.clo 237 [pt b00]] [oB b00 139 [cI p1_0.room, cM Y99 9 p1_0.events, cM Y99 9 p1_0.parked]] (fun c qs => c = C.bool r ∧ qs = [oB b00 139 [cI p1_0.room, cM Y99 9 p1_0.events, cM Y99 9 p1_0.parked]]) := by
 refine Ok.of_body (rs := [.tmp 4]) Tryz.func140 rfl rfl rfl rfl rfl fun X => ?_
 unfold Zah at h
 refine zw ?_
 refine ob' h fun r1 g2 h => ?_
 refine Ops.hd (ns := [0]) rfl rfl (Y24 (Zag p0 p1_0 _ g2) rfl rfl) ?_
 refine zw ?_
 refine AW.ret ?_
 rw [← Wj h]
 exact ⟨[C.bool (decide (r1 ≥ 0))], _, Y21.refl _, (.cons (.tmp rfl) .nil), [0], _, _, rfl, ⟨rfl, rfl⟩⟩

def Zaj (p0 : Y90) (p1 : Y8v) : Option Bool := (Zah p1.prev p0).bind fun r3 => some (!r3)
instance Zak (p0 : Y90) (p1 : Y8v) : Sp Tryz.prog 187 [C.agg [cI p0.room, cM Y99 9 p0.events, cM Y99 9 p0.parked], C.agg [cI p1.id, cI p1.room, cI p1.author, cI p1.kind, cI p1.key, cI p1.n, C.str p1.text, cM kI64 1 p1.prev, cI p1.time]] (Zaj p0 p1) C.bool := sp Tryz.func187 rfl rfl fun r X h => by
 unfold Zaj at h
 refine zw ?_
 refine ox fun b1 => ?_
 refine ox fun b2 => ?_
 refine zw ?_
 refine Ops.v rfl (Y6q rfl rfl) ?_
 refine ob' h fun r3 g4 h => ?_
 refine Ops.hd (ns := [1]) rfl rfl (Y24 (Zai p1.prev p0 _ g4) rfl rfl) ?_
 exact go

def Zal (l140 : List Int) (x141 : Int) : Option (List Int × Bool) := some (l140, (x141 == 0))
def Zam (x109 : Int) (l137 : List Int) (x138 : Int) (x139 : Bool) : Option ((List Int × Int × Bool × Int) ⊕ ((List Int × Int × Bool))) := some (.inl (l137, x138, x139, (IntKind.i64.wrap (x109 + 1))))
def Zan (l106 : List Int) (x107 : Int) (x108 : Bool) (x109 : Int) (x135 : Int) : Option ((List Int × Int × Bool × Int) ⊕ ((List Int × Int × Bool))) := cond (decide (x135 > 0)) (Zam x109 (List.set l106 (Int.toNat x109) x135) (IntKind.i64.wrap (x107 - 1)) true) (Zam x109 l106 x107 x108)
def Zao (p0 : Y90) (l106 : List Int) (e111 : Y8v) (x125 : Int) (x126 : Int) : Option ((Int × Int) ⊕ (Int)) := cond (decide (x126 < (e111.prev.length : Int))) ((getI e111.prev x126).bind fun e128 => (Za7 p0.events e128).bind fun r130 => (getI l106 r130.1).bind fun e132 => cond (e132 == 0) (some (.inr 0)) (some (.inl ((if (IntKind.i64.wrap (e132 + 1)) > x125 then (IntKind.i64.wrap (e132 + 1)) else x125), (IntKind.i64.wrap (x126 + 1)))))) (some (.inr x125))
def Zap (p0 : Y90) (l106 : List Int) (x107 : Int) (x108 : Bool) (x109 : Int) : Option ((List Int × Int × Bool × Int) ⊕ ((List Int × Int × Bool))) := cond (decide (x109 < (p0.events.length : Int))) ((getI p0.events x109).bind fun e111 => (getI l106 x109).bind fun e114 => cond (decide (e114 > 0)) (Zam x109 l106 x107 x108) ((iter (fun z143 => Zao p0 l106 e111 z143.1 z143.2) big (1, 0)).bind fun y144 => Zan l106 x107 x108 x109 y144)) (some (.inr (l106, x107, x108)))
def Zaq (p0 : Y90) (l70 : List Int) (x71 : Int) (x74 : Bool) : Option ((List Int × Int × Bool) ⊕ ((List Int × Int))) := cond x74 ((iter (fun z145 => Zap p0 z145.1 z145.2.1 z145.2.2.1 z145.2.2.2) big (l70, x71, false, 0)).bind fun (y146, y147, y148) => some (.inl (y146, y147, y148))) (some (.inr (l70, x71)))
def Zar (p0 : Y90) (l70 : List Int) (x71 : Int) (x72 : Bool) : Option ((List Int × Int × Bool) ⊕ ((List Int × Int))) := cond x72 (Zaq p0 l70 x71 (decide (x71 > 0))) (Zaq p0 l70 x71 false)
def Zas (p0 : Y90) : Option (List Int × Bool) := (chk (decide (0 ≤ (p0.events.length : Int) ∧ (p0.events.length : Int) * 8 ≤ 140737488355328))).bind fun u3 => (iter (fun z149 => Zar p0 z149.1 z149.2.1 z149.2.2) big ((List.replicate (Int.toNat (p0.events.length : Int)) 0), (p0.events.length : Int), true)).bind fun (y150, y151) => Zal y150 y151
theorem Zat (p0 : Y90) (r : List Int × Bool) (h : Zas p0 = some r) : Ok Tryz.prog 190 [C.agg [cI p0.room, cM Y99 9 p0.events, cM Y99 9 p0.parked]] [] (fun c qs => ∃ (v142 : Value), c = C.tup [cV v142, C.bool r.2] ∧ qs = [oA v142 2 kI64 1 r.1]) := by
 refine Ok.of_body (rs := [.tmp 2, .tmp 3]) Tryz.func190 rfl rfl rfl rfl rfl fun X => ?_
 unfold Zas at h
 refine zw ?_
 refine ox fun b1 => ?_
 refine zw ?_
 refine rD [0] [1,5] [] [0,5,8,16,21,24,14,28,32] ?_
 refine zw ?_
 refine ob' h fun u3 c2 h => ?_
 refine Y3n.h (ns := []) rfl rfl rfl (Y3b (k := kI64) (z := 0) Yak ze_2 (Y42 rfl rfl) rfl rfl (Y3x c2).1 (Y3x c2).2 (Y3y (by decide) c2) rfl) ?_
 rintro _ _ ⟨b4, rfl, rfl⟩
 refine OpsD.v rfl rfl (Yr rfl rfl) ?_
 refine OpsD.v rfl rfl (Yr rfl rfl) ?_
 refine OpsD.done ?_
 refine AW.seq ?_
 refine AW.cut (τ := List Int × Int) (fun (l140, x141) => ⟨[(4, cV (sn b4 (p0.events.length : Int))), (5, cI x141)], [oA (sn b4 (p0.events.length : Int)) 2 kI64 1 l140]⟩) (fun (l140, x141) => Zal l140 x141 = some r) ?_ ?_
 ·
  refine zw ?_
  refine AW.lp (v := ()) h (fun (l70, x71, x72) (_ : Unit) => ⟨[(1, pt b1), (4, cV (sn b4 (p0.events.length : Int))), (5, cI x71), (6, C.bool x72)], [oB b1 139 [cI p0.room, cM Y99 9 p0.events, cM Y99 9 p0.parked], oA (sn b4 (p0.events.length : Int)) 2 kI64 1 l70]⟩) (gb [0, 0]) ?_
  rintro ⟨l70, x71, x72⟩ _ y157 h
  refine AW.seq ?_
  refine AW.seq ?_
  refine AW.cut (τ := Bool) (fun x74 => ⟨[(1, pt b1), (4, cV (sn b4 (p0.events.length : Int))), (5, cI x71), (25, C.bool x74)], [oB b1 139 [cI p0.room, cM Y99 9 p0.events, cM Y99 9 p0.parked], oA (sn b4 (p0.events.length : Int)) 2 kI64 1 l70]⟩) (fun x74 => Zaq p0 l70 x71 x74 = some y157) go fun x74 h => ?_
  replace h : Zaq p0 l70 x71 x74 = some y157 := h
  unfold Zaq at h
  refine cnd h (fun hb75 h => ?_) fun hb75 h => ?_
  ·
   refine AW.ct hb75 rfl ?_
   refine zw ?_
   refine AW.lp (v := ()) h (fun (l106, x107, x108, x109) (_ : Unit) => ⟨[(1, pt b1), (4, cV (sn b4 (p0.events.length : Int))), (5, cI x107), (6, C.bool x108), (27, cM Y99 9 p0.events), (28, cI (p0.events.length : Int)), (29, cI x109)], [oB b1 139 [cI p0.room, cM Y99 9 p0.events, cM Y99 9 p0.parked], oA (sn b4 (p0.events.length : Int)) 2 kI64 1 l106]⟩) (gb [0, 0]) ?_
   rintro ⟨l106, x107, x108, x109⟩ _ y164 h
   refine zw ?_
   refine cnd h (fun hb110 h => ?_) fun hb110 h => ?_
   ·
    refine AW.ct hb110 rfl ?_
    refine zw ?_
    refine oi h fun e111 g112 h => ?_
    refine zw ?_
    refine Ops.h (ns := []) rfl rfl (Y1p (cs := [cI 0, cI 0, cI 0, cI 0, cI 0, cI 0, C.str ByteArray.empty, cV s0, cI 0]) Yal (Y42 rfl rfl) rfl) ?_
    rintro _ _ ⟨b113, rfl, rfl⟩
    refine zw ?_
    refine Ops.hd (ns := [0]) rfl rfl (Y1u (gs := [cI e111.id, cI e111.room, cI e111.author, cI e111.kind, cI e111.key, cI e111.n, C.str e111.text, cM kI64 1 e111.prev, cI e111.time]) Yb2.h rfl rfl rfl rfl rfl) ?_
    refine zw ?_
    refine ob' h fun e114 g115 h => ?_
    refine Ops.v rfl (Y2x (p := 2) Y9v.h rfl rfl rfl g115 rfl) ?_
    refine Ops.v rfl (Y30 (p := 2) ld_2.h rfl rfl (Y29 g115).2.2 rfl rfl) ?_
    refine zw ?_
    refine cnd h (fun hb116 h => go) fun hb116 h => ?_
    refine AW.cf hb116 rfl ?_
    refine AW.skip ?_
    refine AW.seq ?_
    refine AW.region ?_
    refine Ops.v rfl (Yr rfl rfl) ?_
    refine Ops.nil ?_
    refine AW.seq ?_
    refine AW.cut (τ := Int) (fun x135 => ⟨[(1, pt b1), (4, cV (sn b4 (p0.events.length : Int))), (5, cI x107), (6, C.bool x108), (7, cI x109), (9, cI x135), (27, cM Y99 9 p0.events), (28, cI (p0.events.length : Int)), (29, cI x109)], [oB b1 139 [cI p0.room, cM Y99 9 p0.events, cM Y99 9 p0.parked], oA (sn b4 (p0.events.length : Int)) 2 kI64 1 l106]⟩) (fun x135 => Zan l106 x107 x108 x109 x135 = some y164) ?_ ?_
    ·
     refine zw ?_
     refine AW.lp (v := ()) h (fun (x125, x126) (_ : Unit) => ⟨[(1, pt b1), (4, cV (sn b4 (p0.events.length : Int))), (5, cI x107), (6, C.bool x108), (7, cI x109), (9, cI x125), (27, cM Y99 9 p0.events), (28, cI (p0.events.length : Int)), (29, cI x109), (40, cM kI64 1 e111.prev), (41, cI (e111.prev.length : Int)), (42, cI x126)], [oB b1 139 [cI p0.room, cM Y99 9 p0.events, cM Y99 9 p0.parked], oA (sn b4 (p0.events.length : Int)) 2 kI64 1 l106]⟩) (gb [1, 1]) ?_
     rintro ⟨x125, x126⟩ _ y171 h
     refine zw ?_
     refine cnd h (fun hb127 h => ?_) fun hb127 h => ?_
     ·
      refine AW.ct hb127 rfl ?_
      refine zw ?_
      refine oi h fun e128 g129 h => ?_
      refine zw ?_
      refine oc h fun r130 g131 h => ?_
      refine zw ?_
      refine ob' h fun e132 g133 h => ?_
      refine Ops.v rfl (Y2x (p := 1) Y9v.h rfl rfl rfl g133 rfl) ?_
      refine Ops.v rfl (Y30 (p := 1) ld_2.h rfl rfl (Y29 g133).2.2 rfl rfl) ?_
      refine zw ?_
      refine cnd h (fun hb134 h => go) fun hb134 h => ?_
      refine AW.cf hb134 rfl ?_
      refine AW.skip ?_
      refine AW.region ?_
      refine Ops.v rfl (Yq rfl rfl) ?_
      refine Ops.v rfl (Yq rfl rfl) ?_
      refine Ops.v rfl (Yq rfl rfl) ?_
      refine Ops.v rfl (Y2x (p := 1) Y9v.h rfl rfl rfl g133 rfl) ?_
      refine Ops.v rfl (Y30 (p := 1) ld_2.h rfl rfl (Y29 g133).2.2 rfl rfl) ?_
      refine zw ?_
      refine Ops.v rfl (Y2f rfl rfl rfl) ?_
      exact go
     exact go
    intro x135 h
    replace h : Zan l106 x107 x108 x109 x135 = some y164 := h
    unfold Zan at h
    refine zw ?_
    refine cnd h (fun hb136 h => ?_) fun hb136 h => ?_
    ·
     refine AW.ct hb136 rfl ?_
     refine AW.region ?_
     refine Ops.v rfl (Yq rfl rfl) ?_
     refine Ops.v rfl (Yq rfl rfl) ?_
     refine Ops.v rfl (Yq rfl rfl) ?_
     refine Ops.v rfl (Yq rfl rfl) ?_
     refine Ops.v rfl (Yv rfl rfl rfl rfl) ?_
     refine Ops.v rfl (Y2x (p := 1) Y9v.h rfl rfl rfl g115 rfl) ?_
     refine Ops.hd (ns := [1]) rfl rfl (Y33 (e' := x135) ld_2.h rfl rfl (One.val rfl) (Y29 g115).2.2 rfl rfl) ?_
     exact go
    exact go
   exact go
  exact go
 rintro ⟨l140, x141⟩ h
 replace h : Zal l140 x141 = some r := h
 unfold Zal at h
 refine zw ?_
 refine AW.ret ?_
 rw [← Wj h]
 exact ⟨[cV (sn b4 (p0.events.length : Int)), C.bool (x141 == 0)], _, Y21.refl _, (.cons (.tmp rfl) (.cons (.tmp rfl) .nil)), [0], _, _, rfl, ⟨(sn b4 (p0.events.length : Int)), rfl, rfl⟩⟩
instance Zat' (p0 : Y90) : Sp Tryz.prog 190 [C.agg [cI p0.room, cM Y99 9 p0.events, cM Y99 9 p0.parked]] (Zas p0) (fun r => C.tup [cM kI64 1 r.1, C.bool r.2]) := ⟨fun r h => Ok.freeze (Zat p0 r h) (by rintro c qs ⟨v142, rfl, rfl⟩; exact Frz.tup (FrzT.cons (os := [_]) (Frz.arr) (fT (FrzT.nil))))⟩

def Zau (p0 : Y8v) (q0 : Y90) : Option Bool := (Zaj q0 p0).bind fun r2 => some (!r2)
theorem Zav {b00 : Nat} (p0 : Y8v) (q0 : Y90) (r : Bool) (h : Zau p0 q0 = some r) : Ok Tryz.prog 186 [C.agg [cI p0.id, cI p0.room, cI p0.author, cI p0.kind, cI p0.key, cI p0.n, C.str p0.text, cM kI64 1 p0.prev, cI p0.time], pt b00] [oB b00 139 [cI q0.room, cM Y99 9 q0.events, cM Y99 9 q0.parked]] (fun c qs => c = C.bool r ∧ qs = [oB b00 139 [cI q0.room, cM Y99 9 q0.events, cM Y99 9 q0.parked]]) := by
 refine Ok.of_body (rs := [.tmp 3]) Tryz.func186 rfl rfl rfl rfl rfl fun X => ?_
 unfold Zau at h
 refine zw ?_
 refine ox fun b1 => ?_
 refine zw ?_
 refine oc h fun r2 g3 h => ?_
 refine zw ?_
 refine AW.ret ?_
 rw [← Wj h]
 exact ⟨[C.bool (!r2)], _, Y21.refl _, (.cons (.tmp rfl) .nil), [1], _, _, rfl, ⟨rfl, rfl⟩⟩

def Zaw : Option Int := some (-1)
def Zax (p0 : List Y8v) (p1_0 : Y90) (x7 : Int) : Option (Int ⊕ (Int ⊕ Unit)) := cond (decide (x7 < (p0.length : Int))) ((getI p0 x7).bind fun e9 => (Zau e9 p1_0).bind fun r11 => cond r11 (some (.inr (.inl x7))) (some (.inl (IntKind.i64.wrap (x7 + 1))))) (some (.inr (.inr ())))
def Zay (p0 : List Y8v) (p1_0 : Y90) : Option Int := (iter (Zax p0 p1_0) big 0).bind (fun z15 => match z15 with | .inl y14 => some y14 | .inr () => Zaw)
theorem Zaz {b00 : Nat} (p0 : List Y8v) (p1_0 : Y90) (r : Int) (h : Zay p0 p1_0 = some r) : Ok Tryz.prog 236 [cM Y99 9 p0, C.clo 186 [pt b00]] [oB b00 139 [cI p1_0.room, cM Y99 9 p1_0.events, cM Y99 9 p1_0.parked]] (fun c qs => c = cI r ∧ qs = [oB b00 139 [cI p1_0.room, cM Y99 9 p1_0.events, cM Y99 9 p1_0.parked]]) := by
 refine Ok.of_body (rs := [.tmp 4]) Tryz.func236 rfl rfl rfl rfl rfl fun X => ?_
 unfold Zay at h
 refine AW.seq ?_
 refine AW.region ?_
 refine Ops.v rfl (Yr rfl rfl) ?_
 refine Ops.nil ?_
 refine AW.seq ?_
 refine AW.cut (τ := Unit) (fun (_ : Unit) => ⟨[], [oB b00 139 [cI p1_0.room, cM Y99 9 p1_0.events, cM Y99 9 p1_0.parked]]⟩) (fun (_ : Unit) => Zaw = some r) ?_ ?_
 ·
  refine zw ?_
  refine AW.lp (v := ()) h (fun x7 (_ : Unit) => ⟨[(0, cM Y99 9 p0), (1, C.clo 186 [pt b00]), (7, cI (p0.length : Int)), (8, cI x7)], [oB b00 139 [cI p1_0.room, cM Y99 9 p1_0.events, cM Y99 9 p1_0.parked]]⟩) (gb [0]) ?_
  rintro x7 _ y21 h
  refine zw ?_
  refine cnd h (fun hb8 h => ?_) fun hb8 h => ?_
  ·
   refine AW.ct hb8 rfl ?_
   refine zw ?_
   refine oi h fun e9 g10 h => ?_
   refine zw ?_
   refine ob' h fun r11 g12 h => ?_
   refine Ops.hd (ns := [0]) rfl rfl (Y6s (cs := [_]) (ds := [_]) rfl (Zav e9 p1_0 _ g12) rfl rfl) ?_
   refine zw ?_
   refine cnd h (fun hb13 h => ?_) fun hb13 h => ?_
   ·
    refine AW.ct hb13 rfl ?_
    refine zw ?_
    refine AW.ret ?_
    refine lx h fun h => ?_
    rw [← Wj h]
    exact ⟨[cI x7], _, Y21.refl _, (.cons (.tmp rfl) .nil), [0], _, _, rfl, ⟨rfl, rfl⟩⟩
   exact go
  exact go
 rintro ⟨⟩ h
 replace h : Zaw = some r := h
 unfold Zaw at h
 refine zw ?_
 refine AW.ret ?_
 rw [← Wj h]
 exact ⟨[cI (-1)], _, Y21.refl _, (.cons (.tmp rfl) .nil), [0], _, _, rfl, ⟨rfl, rfl⟩⟩

def Zb0 (p0 : List Y8v) (p1_0 : Y90) : Option Bool := (Zay p0 p1_0).bind fun r1 => some (decide (r1 ≥ 0))
theorem Zb1 {b00 : Nat} (p0 : List Y8v) (p1_0 : Y90) (r : Bool) (h : Zb0 p0 p1_0 = some r) : Ok Tryz.prog 185 [cM Y99 9 p0, C.clo 186 [pt b00]] [oB b00 139 [cI p1_0.room, cM Y99 9 p1_0.events, cM Y99 9 p1_0.parked]] (fun c qs => c = C.bool r ∧ qs = [oB b00 139 [cI p1_0.room, cM Y99 9 p1_0.events, cM Y99 9 p1_0.parked]]) := by
 refine Ok.of_body (rs := [.tmp 4]) Tryz.func185 rfl rfl rfl rfl rfl fun X => ?_
 unfold Zb0 at h
 refine zw ?_
 refine ob' h fun r1 g2 h => ?_
 refine Ops.hd (ns := [0]) rfl rfl (Y24 (Zaz p0 p1_0 _ g2) rfl rfl) ?_
 refine zw ?_
 refine AW.ret ?_
 rw [← Wj h]
 exact ⟨[C.bool (decide (r1 ≥ 0))], _, Y21.refl _, (.cons (.tmp rfl) .nil), [0], _, _, rfl, ⟨rfl, rfl⟩⟩

def Zb2 (x7 : Bool) : Option Bool := some x7
def Zb3 (p0 : Y8v) (q0 : Y90) : Option Bool := (Za9 q0 p0.id).bind fun r2 => cond r2 (Zb2 true) ((Zaj q0 p0).bind fun r5 => Zb2 r5)
theorem Zb4 {b00 : Nat} (p0 : Y8v) (q0 : Y90) (r : Bool) (h : Zb3 p0 q0 = some r) : Ok Tryz.prog 188 [C.agg [cI p0.id, cI p0.room, cI p0.author, cI p0.kind, cI p0.key, cI p0.n, C.str p0.text, cM kI64 1 p0.prev, cI p0.time], pt b00] [oB b00 139 [cI q0.room, cM Y99 9 q0.events, cM Y99 9 q0.parked]] (fun c qs => c = C.bool r ∧ qs = [oB b00 139 [cI q0.room, cM Y99 9 q0.events, cM Y99 9 q0.parked]]) := by
 refine Ok.of_body (rs := [.tmp 3]) Tryz.func188 rfl rfl rfl rfl rfl fun X => ?_
 unfold Zb3 at h
 refine zw ?_
 refine ox fun b1 => ?_
 refine Ops.v rfl (Yr rfl rfl) ?_
 refine Ops.nil ?_
 refine AW.seq ?_
 refine AW.cut (τ := Bool) (fun x7 => ⟨[(3, C.bool x7)], [oB b00 139 [cI q0.room, cM Y99 9 q0.events, cM Y99 9 q0.parked]]⟩) (fun x7 => Zb2 x7 = some r) ?_ ?_
 ·
  refine zw ?_
  refine oc h fun r2 g3 h => ?_
  refine zw ?_
  refine cnd h (fun hb4 h => go) fun hb4 h => ?_
  refine zw ?_
  refine ob' h fun r5 g6 h => ?_
  refine Ops.ghd (ns := []) rfl rfl rfl rfl hb4 rfl (Y24 ((Zak _ _).h _ g6) rfl rfl) ?_
  exact go
 intro x7 h
 replace h : Zb2 x7 = some r := h
 unfold Zb2 at h
 refine AW.ret ?_
 rw [← Wj h]
 exact ⟨[C.bool x7], _, Y21.refl _, (.cons (.tmp rfl) .nil), [0], _, _, rfl, ⟨rfl, rfl⟩⟩

def Zb5 : Option Int := some (-1)
def Zb6 (p0 : List Y8v) (p1_0 : Y90) (x7 : Int) : Option (Int ⊕ (Int ⊕ Unit)) := cond (decide (x7 < (p0.length : Int))) ((getI p0 x7).bind fun e9 => (Zb3 e9 p1_0).bind fun r11 => cond r11 (some (.inr (.inl x7))) (some (.inl (IntKind.i64.wrap (x7 + 1))))) (some (.inr (.inr ())))
def Zb7 (p0 : List Y8v) (p1_0 : Y90) : Option Int := (iter (Zb6 p0 p1_0) big 0).bind (fun z15 => match z15 with | .inl y14 => some y14 | .inr () => Zb5)
theorem Zb8 {b00 : Nat} (p0 : List Y8v) (p1_0 : Y90) (r : Int) (h : Zb7 p0 p1_0 = some r) : Ok Tryz.prog 236 [cM Y99 9 p0, C.clo 188 [pt b00]] [oB b00 139 [cI p1_0.room, cM Y99 9 p1_0.events, cM Y99 9 p1_0.parked]] (fun c qs => c = cI r ∧ qs = [oB b00 139 [cI p1_0.room, cM Y99 9 p1_0.events, cM Y99 9 p1_0.parked]]) := by
 refine Ok.of_body (rs := [.tmp 4]) Tryz.func236 rfl rfl rfl rfl rfl fun X => ?_
 unfold Zb7 at h
 refine AW.seq ?_
 refine AW.region ?_
 refine Ops.v rfl (Yr rfl rfl) ?_
 refine Ops.nil ?_
 refine AW.seq ?_
 refine AW.cut (τ := Unit) (fun (_ : Unit) => ⟨[], [oB b00 139 [cI p1_0.room, cM Y99 9 p1_0.events, cM Y99 9 p1_0.parked]]⟩) (fun (_ : Unit) => Zb5 = some r) ?_ ?_
 ·
  refine zw ?_
  refine AW.lp (v := ()) h (fun x7 (_ : Unit) => ⟨[(0, cM Y99 9 p0), (1, C.clo 188 [pt b00]), (7, cI (p0.length : Int)), (8, cI x7)], [oB b00 139 [cI p1_0.room, cM Y99 9 p1_0.events, cM Y99 9 p1_0.parked]]⟩) (gb [0]) ?_
  rintro x7 _ y21 h
  refine zw ?_
  refine cnd h (fun hb8 h => ?_) fun hb8 h => ?_
  ·
   refine AW.ct hb8 rfl ?_
   refine zw ?_
   refine oi h fun e9 g10 h => ?_
   refine zw ?_
   refine ob' h fun r11 g12 h => ?_
   refine Ops.hd (ns := [0]) rfl rfl (Y6s (cs := [_]) (ds := [_]) rfl (Zb4 e9 p1_0 _ g12) rfl rfl) ?_
   refine zw ?_
   refine cnd h (fun hb13 h => ?_) fun hb13 h => ?_
   ·
    refine AW.ct hb13 rfl ?_
    refine zw ?_
    refine AW.ret ?_
    refine lx h fun h => ?_
    rw [← Wj h]
    exact ⟨[cI x7], _, Y21.refl _, (.cons (.tmp rfl) .nil), [0], _, _, rfl, ⟨rfl, rfl⟩⟩
   exact go
  exact go
 rintro ⟨⟩ h
 replace h : Zb5 = some r := h
 unfold Zb5 at h
 refine zw ?_
 refine AW.ret ?_
 rw [← Wj h]
 exact ⟨[cI (-1)], _, Y21.refl _, (.cons (.tmp rfl) .nil), [0], _, _, rfl, ⟨rfl, rfl⟩⟩

def Zb9 (p0 : List Y8v) (p1_0 : Y90) : Option Bool := (Zb7 p0 p1_0).bind fun r1 => some (decide (r1 ≥ 0))
theorem Zba {b00 : Nat} (p0 : List Y8v) (p1_0 : Y90) (r : Bool) (h : Zb9 p0 p1_0 = some r) : Ok Tryz.prog 185 [cM Y99 9 p0, C.clo 188 [pt b00]] [oB b00 139 [cI p1_0.room, cM Y99 9 p1_0.events, cM Y99 9 p1_0.parked]] (fun c qs => c = C.bool r ∧ qs = [oB b00 139 [cI p1_0.room, cM Y99 9 p1_0.events, cM Y99 9 p1_0.parked]]) := by
 refine Ok.of_body (rs := [.tmp 4]) Tryz.func185 rfl rfl rfl rfl rfl fun X => ?_
 unfold Zb9 at h
 refine zw ?_
 refine ob' h fun r1 g2 h => ?_
 refine Ops.hd (ns := [0]) rfl rfl (Y24 (Zb8 p0 p1_0 _ g2) rfl rfl) ?_
 refine zw ?_
 refine AW.ret ?_
 rw [← Wj h]
 exact ⟨[C.bool (decide (r1 ≥ 0))], _, Y21.refl _, (.cons (.tmp rfl) .nil), [0], _, _, rfl, ⟨rfl, rfl⟩⟩

def Zbb (p0 : Y90) (x12 : Bool) : Option Bool := cond x12 (some false) ((Zb0 p0.events p0).bind fun r14 => cond r14 (some false) ((Zb9 p0.parked p0).bind fun r17 => cond r17 (some false) ((Zas p0).bind fun r20 => some r20.2)))
def Zbc (p0 : Y90) : Option Bool := (Z8s p0.room).bind fun r2 => cond r2 (cond (decide ((p0.events.length : Int) > 60)) (Zbb p0 true) (cond (decide ((p0.parked.length : Int) > 20)) (Zbb p0 true) ((Z9u p0 p0.events).bind fun r7 => cond r7 ((Z9u p0 p0.parked).bind fun r10 => Zbb p0 (!r10)) (Zbb p0 true)))) (Zbb p0 true)
instance Zbd (p0 : Y90) : Sp Tryz.prog 135 [C.agg [cI p0.room, cM Y99 9 p0.events, cM Y99 9 p0.parked]] (Zbc p0) C.bool := sp Tryz.func135 rfl rfl fun r X h => by
 unfold Zbc at h
 refine zw ?_
 refine ox fun b1 => ?_
 refine Ops.v rfl (Yr rfl rfl) ?_
 refine Ops.nil ?_
 refine AW.seq ?_
 refine AW.seq ?_
 refine AW.cut (τ := Bool) (fun x12 => ⟨[(1, pt b1), (34, C.bool x12)], [oB b1 139 [cI p0.room, cM Y99 9 p0.events, cM Y99 9 p0.parked]]⟩) (fun x12 => Zbb p0 x12 = some r) ?_ ?_
 ·
  refine zw ?_
  refine oc h fun r2 g3 h => ?_
  refine zw ?_
  refine cnd h (fun hb4 h => ?_) fun hb4 h => ?_
  ·
   refine zw ?_
   refine cnd h (fun hb5 h => go) fun hb5 h => ?_
   refine zw ?_
   refine cnd h (fun hb6 h => go) fun hb6 h => ?_
   refine zw ?_
   refine ob' h fun r7 g8 h => ?_
   refine Ops.ghd (ns := []) rfl rfl rfl rfl hb6 rfl (Y24 ((Z9v _ _).h _ g8) rfl rfl) ?_
   refine zw ?_
   refine cnd h (fun hb9 h => ?_) fun hb9 h => ?_
   ·
    refine zw ?_
    refine ob' h fun r10 g11 h => ?_
    refine Ops.ghd (ns := []) rfl rfl rfl rfl (Y3u hb9) rfl (Y24 ((Z9v _ _).h _ g11) rfl rfl) ?_
    exact go
   exact go
  exact go
 intro x12 h
 replace h : Zbb p0 x12 = some r := h
 unfold Zbb at h
 refine cnd h (fun hb13 h => go) fun hb13 h => ?_
 refine AW.cf hb13 rfl ?_
 refine zw ?_
 refine Ops.v rfl (Y6q rfl rfl) ?_
 refine ob' h fun r14 g15 h => ?_
 refine Ops.hd (ns := [0]) rfl rfl (Y24 (Zb1 p0.events p0 _ g15) rfl rfl) ?_
 refine zw ?_
 refine cnd h (fun hb16 h => go) fun hb16 h => ?_
 refine AW.cf hb16 rfl ?_
 refine zw ?_
 refine Ops.v rfl (Y6q rfl rfl) ?_
 refine ob' h fun r17 g18 h => ?_
 refine Ops.hd (ns := [0]) rfl rfl (Y24 (Zba p0.parked p0 _ g18) rfl rfl) ?_
 exact go

def Zbe (p0 : Int) (p1 : Int) (q0 : List Int) : Option Int := (getI q0 p0).bind fun e1 => (getI q0 p1).bind fun e3 => (Z9y e1 e3).bind fun r5 => some r5
theorem Zbf {b00 : Nat} (p0 : Int) (p1 : Int) (q0 : List Int) (r : Int) (h : Zbe p0 p1 q0 = some r) : Ok Tryz.prog 239 [cI p0, cI p1, pt b00] [oB b00 57 [cM kI64 1 q0]] (fun c qs => c = cI r ∧ qs = [oB b00 57 [cM kI64 1 q0]]) := by
 refine Ok.of_body (rs := [.tmp 5]) Tryz.func239 rfl rfl rfl rfl rfl fun X => ?_
 unfold Zbe at h
 refine zw ?_
 refine rD [0] [0,3,4,7] [] [1,4,8,13,17,20,24,29,34,36] ?_
 refine zw ?_
 refine di h fun e1 g2 h => ?_
 refine zw ?_
 refine di h fun e3 g4 h => ?_
 refine zw ?_
 refine dc h fun r5 g6 h => ?_
 refine zw ?_
 refine AW.ret ?_
 rw [← Wj h]
 exact ⟨[cI r5], _, Y21.refl _, (.cons (.tmp rfl) .nil), [0], _, _, rfl, ⟨rfl, rfl⟩⟩

def Zbg (x62 : Int) (l122 : List Int) : Option ((List Int × Int) ⊕ ((List Int))) := some (.inl (l122, (IntKind.i64.wrap (x62 + 1))))
def Zbh (l92 : List Int) (x93 : Int) (x110 : Bool) : Option ((List Int × Int) ⊕ ((List Int))) := cond x110 ((getI l92 (IntKind.i64.wrap (x93 - 1))).bind fun e112 => (getI l92 x93).bind fun e114 => (getI (List.set l92 (Int.toNat x93) e112) (IntKind.i64.wrap (x93 - 1))).bind fun e120 => some (.inl ((List.set (List.set l92 (Int.toNat x93) e112) (Int.toNat (IntKind.i64.wrap (x93 - 1))) e114), (IntKind.i64.wrap (x93 - 1))))) (some (.inr l92))
def Zbi (p1 : Int) (p3_0 : List Int) (l92 : List Int) (x93 : Int) : Option ((List Int × Int) ⊕ ((List Int))) := cond (decide (x93 > p1)) ((getI l92 x93).bind fun e104 => (getI l92 (IntKind.i64.wrap (x93 - 1))).bind fun e106 => (Zbe e104 e106 p3_0).bind fun r108 => Zbh l92 x93 (decide (r108 < 0))) (Zbh l92 x93 false)
def Zbj (p1 : Int) (p2 : Int) (p3_0 : List Int) (l61 : List Int) (x62 : Int) : Option ((List Int × Int) ⊕ ((List Int))) := cond (decide (x62 < p2)) ((iter (fun z123 => Zbi p1 p3_0 z123.1 z123.2) big (l61, x62)).bind fun y124 => Zbg x62 y124) (some (.inr l61))
def Zbk (p0 : List Int) (p1 : Int) (p2 : Int) (p3_0 : List Int) : Option (List Int) := (iter (fun z125 => Zbj p1 p2 p3_0 z125.1 z125.2) big (p0, (IntKind.i64.wrap (p1 + 1)))).bind fun y126 => some y126
theorem Zbl {w00 : Value} {b01 : Nat} (p0 : List Int) (p1 : Int) (p2 : Int) (p3_0 : List Int) (r : List Int) (h : Zbk p0 p1 p2 p3_0 = some r) : Ok Tryz.prog 305 [cV w00, cI p1, cI p2, C.clo 239 [pt b01]] [oA w00 3 kI64 1 p0, oB b01 57 [cM kI64 1 p3_0]] (fun c qs => c = C.tup [] ∧ qs = [oA w00 3 kI64 1 r, oB b01 57 [cM kI64 1 p3_0]]) := by
 refine Ok.of_body (rs := []) Tryz.func305 rfl rfl rfl rfl rfl fun X => ?_
 unfold Zbk at h
 refine zw ?_
 refine AW.lp (v := ()) h (fun (l61, x62) (_ : Unit) => ⟨[(0, cV w00), (1, cI p1), (2, cI p2), (3, C.clo 239 [pt b01]), (8, cI x62)], [oA w00 3 kI64 1 l61, oB b01 57 [cM kI64 1 p3_0]]⟩) (gb [0, 0]) ?_
 rintro ⟨l61, x62⟩ _ y132 h
 refine zw ?_
 refine cnd h (fun hb63 h => ?_) fun hb63 h => ?_
 ·
  refine AW.ct hb63 rfl ?_
  refine zw ?_
  refine AW.lp (v := ()) h (fun (l92, x93) (_ : Unit) => ⟨[(0, cV w00), (1, cI p1), (2, cI p2), (3, C.clo 239 [pt b01]), (8, cI x62), (9, cI x93)], [oA w00 3 kI64 1 l92, oB b01 57 [cM kI64 1 p3_0]]⟩) (gb [0, 0]) ?_
  rintro ⟨l92, x93⟩ _ y139 h
  refine AW.seq ?_
  refine AW.seq ?_
  refine AW.cut (τ := Bool) (fun x110 => ⟨[(0, cV w00), (1, cI p1), (2, cI p2), (3, C.clo 239 [pt b01]), (8, cI x62), (9, cI x93), (34, C.bool x110)], [oA w00 3 kI64 1 l92, oB b01 57 [cM kI64 1 p3_0]]⟩) (fun x110 => Zbh l92 x93 x110 = some y139) ?_ ?_
  ·
   refine rD [0] [8,13] [] [0,4,8,12,16,20,24,28,33,36,40,44,48,53,58,60,64] ?_
   refine zw ?_
   refine cnd h (fun hb103 h => ?_) fun hb103 h => ?_
   ·
    refine zw ?_
    refine ob' h fun e104 g105 h => ?_
    refine OpsD.gv rfl rfl rfl rfl rfl hb103 (Y2x (p := 0) Ye2.h rfl rfl rfl g105 rfl) ?_
    refine OpsD.gv rfl rfl rfl rfl rfl hb103 (Y30 (p := 0) ld_3.h rfl rfl (Y29 g105).2.2 rfl rfl) ?_
    refine zw ?_
    refine ob' h fun e106 g107 h => ?_
    refine OpsD.gv rfl rfl rfl rfl rfl hb103 (Y2x (p := 0) Ye2.h rfl rfl rfl g107 rfl) ?_
    refine OpsD.gv rfl rfl rfl rfl rfl hb103 (Y30 (p := 0) ld_3.h rfl rfl (Y29 g107).2.2 rfl rfl) ?_
    refine zw ?_
    refine ob' h fun r108 g109 h => ?_
    refine Y3n.gh (ns := [0]) rfl rfl rfl rfl rfl hb103 rfl (Y6s (cs := [_, _]) (ds := [_]) rfl (Zbf e104 e106 p3_0 _ g109) rfl rfl) ?_
    rintro _ _ ⟨rfl, rfl⟩
    exact go
   refine OpsD.gs rfl rfl rfl rfl (.b rfl hb103) rfl rfl ?_
   refine OpsD.gs rfl rfl rfl rfl (.b rfl hb103) rfl rfl ?_
   refine OpsD.gs rfl rfl rfl rfl (.b rfl hb103) rfl rfl ?_
   refine OpsD.gs rfl rfl rfl rfl (.b rfl hb103) rfl rfl ?_
   refine OpsD.gs rfl rfl rfl rfl (.b rfl hb103) rfl rfl ?_
   refine OpsD.gs rfl rfl rfl rfl (.b rfl hb103) rfl rfl ?_
   refine OpsD.gs rfl rfl rfl rfl (.b rfl hb103) rfl rfl ?_
   refine OpsD.gs rfl rfl rfl rfl (.b rfl hb103) rfl rfl ?_
   refine OpsD.gs rfl rfl rfl rfl (.b rfl hb103) rfl rfl ?_
   refine OpsD.gs rfl rfl rfl rfl (.b rfl hb103) rfl rfl ?_
   refine OpsD.one ?_
   refine Y3n.gs rfl rfl rfl rfl (.b rfl hb103) rfl rfl ?_
   exact go
  intro x110 h
  replace h : Zbh l92 x93 x110 = some y139 := h
  unfold Zbh at h
  refine cnd h (fun hb111 h => ?_) fun hb111 h => ?_
  ·
   refine AW.ct hb111 rfl ?_
   refine zw ?_
   refine rD [0,0] [9,13] [15,17] [0,4,8,12,16,20,24,28,32,37,40,44,48,53,56,63,64,71] ?_
   refine zw ?_
   refine di h fun e112 g113 h => ?_
   refine OpsD.v rfl rfl (Y30 (p := 0) ld_3.h rfl rfl (Y29 g113).2.2 rfl rfl) ?_
   refine zw ?_
   refine di h fun e114 g115 h => ?_
   refine OpsD.v rfl rfl (Y30 (p := 0) ld_3.h rfl rfl (Y29 g115).2.2 rfl rfl) ?_
   refine zw ?_
   refine OpsD.late (ns := [0]) rfl rfl rfl (Y33 (e' := e112) ld_3.h rfl rfl (One.val rfl) (Y29 g115).2.2 rfl rfl) ?_
   rintro _ _ ⟨rfl, rfl⟩
   refine ob' h fun e120 g121 h => ?_
   refine OpsD.rest (ns := [0, 0]) rfl ?_
   refine zw ?_
   refine OpsD.late (ns := [0]) rfl rfl rfl (Y33 (e' := e114) ld_3.h rfl rfl (One.val rfl) (Y29 g121).2.2 rfl rfl) ?_
   rintro _ _ ⟨rfl, rfl⟩
   exact go
  exact go
 refine AW.cf hb63 rfl ?_
 refine AW.exit ?_
 refine lx h fun h => ?_
 rw [← Wj h]
 exact ⟨[], _, Y21.refl _, .nil, [0, 0], _, _, rfl, ⟨rfl, rfl⟩⟩

def Zbm (p1 : Int) (p2 : Int) (p3 : Int) (l12 : List Int) (x13 : Int) : Option ((List Int × Int) ⊕ ((List Int))) := cond (decide (x13 < p3)) ((getI l12 (IntKind.i64.wrap (p2 + x13))).bind fun e15 => (getI l12 (IntKind.i64.wrap (p1 + x13))).bind fun e17 => (getI (List.set l12 (Int.toNat (IntKind.i64.wrap (p1 + x13))) e15) (IntKind.i64.wrap (p2 + x13))).bind fun e23 => some (.inl ((List.set (List.set l12 (Int.toNat (IntKind.i64.wrap (p1 + x13))) e15) (Int.toNat (IntKind.i64.wrap (p2 + x13))) e17), (IntKind.i64.wrap (x13 + 1))))) (some (.inr l12))
def Zbn (p0 : List Int) (p1 : Int) (p2 : Int) (p3 : Int) (p4_0 : List Int) : Option (List Int) := (iter (fun z25 => Zbm p1 p2 p3 z25.1 z25.2) big (p0, 0)).bind fun y26 => some y26
theorem Zbo {w00 : Value} {b01 : Nat} (p0 : List Int) (p1 : Int) (p2 : Int) (p3 : Int) (p4_0 : List Int) (r : List Int) (h : Zbn p0 p1 p2 p3 p4_0 = some r) : Ok Tryz.prog 328 [cV w00, cI p1, cI p2, cI p3, C.clo 239 [pt b01]] [oA w00 3 kI64 1 p0, oB b01 57 [cM kI64 1 p4_0]] (fun c qs => c = C.tup [] ∧ qs = [oA w00 3 kI64 1 r, oB b01 57 [cM kI64 1 p4_0]]) := by
 refine Ok.of_body (rs := []) Tryz.func328 rfl rfl rfl rfl rfl fun X => ?_
 unfold Zbn at h
 refine zw ?_
 refine AW.lp (v := ()) h (fun (l12, x13) (_ : Unit) => ⟨[(0, cV w00), (1, cI p1), (2, cI p2), (3, cI p3), (10, cI x13)], [oA w00 3 kI64 1 l12, oB b01 57 [cM kI64 1 p4_0]]⟩) (gb [0, 0]) ?_
 rintro ⟨l12, x13⟩ _ y32 h
 refine zw ?_
 refine cnd h (fun hb14 h => ?_) fun hb14 h => ?_
 ·
  refine AW.ct hb14 rfl ?_
  refine zw ?_
  refine rD [0,0] [13,19] [21,23] [0,4,8,12,16,20,24,28,32,36,40,44,48,53,56,60,64,68,72,77,80,87,88,95] ?_
  refine zw ?_
  refine di h fun e15 g16 h => ?_
  refine OpsD.v rfl rfl (Y30 (p := 0) ld_3.h rfl rfl (Y29 g16).2.2 rfl rfl) ?_
  refine zw ?_
  refine di h fun e17 g18 h => ?_
  refine OpsD.v rfl rfl (Y30 (p := 0) ld_3.h rfl rfl (Y29 g18).2.2 rfl rfl) ?_
  refine zw ?_
  refine OpsD.late (ns := [0]) rfl rfl rfl (Y33 (e' := e15) ld_3.h rfl rfl (One.val rfl) (Y29 g18).2.2 rfl rfl) ?_
  rintro _ _ ⟨rfl, rfl⟩
  refine ob' h fun e23 g24 h => ?_
  refine OpsD.rest (ns := [0, 0]) rfl ?_
  refine zw ?_
  refine OpsD.late (ns := [0]) rfl rfl rfl (Y33 (e' := e17) ld_3.h rfl rfl (One.val rfl) (Y29 g24).2.2 rfl rfl) ?_
  rintro _ _ ⟨rfl, rfl⟩
  exact go
 refine AW.cf hb14 rfl ?_
 refine AW.exit ?_
 refine lx h fun h => ?_
 rw [← Wj h]
 exact ⟨[], _, Y21.refl _, .nil, [0, 0], _, _, rfl, ⟨rfl, rfl⟩⟩

end Go.Proofs.YtbgichfjcnibpaaGreat
