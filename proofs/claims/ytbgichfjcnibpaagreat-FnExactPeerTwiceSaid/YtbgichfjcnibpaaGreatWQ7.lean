/- Printed by gen.py: plain functions for Go functions, and that the walks keep to them. -/
import Derived.Test.YtbgichfjcnibpaaGreatWQ6
set_option autoImplicit false
set_option linter.unusedVariables false
set_option linter.unusedSimpArgs false
set_option maxHeartbeats 1000000
set_option maxRecDepth 100000
namespace Go.Proofs.YtbgichfjcnibpaaGreat
open Go Go.Abs
attribute [local irreducible] AW Ops OpsD Y3n
def Zho (p0 : TNet) : Option Bool := some (decide ((p0.letters.length : Int) ≥ 60))
theorem Zhp {b00 : Nat} {w01 : Value} {w02 : Value} (p0 : TNet) (r : Bool) (h : Zho p0 = some r) : Ok Tryz.prog 87 [pt b00] [oB b00 124 [cV w01, cV w02], oA w01 99 Y9u 1 p0.servers, oA w02 115 Y9c 5 p0.letters] (fun c qs => c = C.bool r ∧ qs = [oB b00 124 [cV w01, cV w02], oA w01 99 Y9u 1 p0.servers, oA w02 115 Y9c 5 p0.letters]) := by
 refine Ok.of_body (rs := [.tmp 2]) Tryz.func87 rfl rfl rfl rfl rfl fun X => ?_
 unfold Zho at h
 refine AW.seq ?_
 refine AW.region ?_
 refine Ops.v rfl (Yr rfl rfl) ?_
 refine Ops.nil ?_
 refine AW.seq ?_
 refine AW.region ?_
 refine Ops.v rfl (Yq rfl rfl) ?_
 refine Ops.v rfl (Y14 rfl rfl) ?_
 refine Ops.v rfl (Y1b Yf1.h rfl rfl) ?_
 refine Ops.v rfl (Y1k (p := 0) Ycn.h rfl rfl rfl rfl) ?_
 refine Ops.v rfl (Y2u (p := 2) Yci.h rfl rfl rfl) ?_
 refine zw ?_
 refine AW.ret ?_
 rw [← Wj h]
 exact ⟨[C.bool (decide ((p0.letters.length : Int) ≥ 60))], _, Y21.refl _, (.cons (.tmp rfl) .nil), [0, 0, 0], _, _, rfl, ⟨rfl, rfl⟩⟩

def Zhq (p0 : TNet) (l70 : List Y91) (l72 : List Y91) : Option Y96 := some (Y96.mk (Y92.mk l72 p0.letters) 0 0)
def Zhr (p0 : TNet) (l43 : List Y91) (l45 : List Y91) (x46 : Int) : Option ((List Y91 × List Y91 × Int) ⊕ ((List Y91 × List Y91))) := cond (decide (x46 < (p0.servers.length : Int))) ((getI p0.servers x46).bind fun e48 => (Zhm e48.hub).bind fun r61 => (chk (decide ((l45.length + [r61].length) * 48 ≤ 140737488355328))).bind fun u67 => some (.inl (l43, (l45 ++ [r61]), (IntKind.i64.wrap (x46 + 1))))) (some (.inr (l43, l45)))
def Zhs (p0 : TNet) : Option Y96 := (iter (fun z75 => Zhr p0 z75.1 z75.2.1 z75.2.2) big ([], [], 0)).bind fun (y76, y77) => Zhq p0 y76 y77
theorem Zht {b00 : Nat} {w01 : Value} {w02 : Value} (p0 : TNet) (r : Y96) (h : Zhs p0 = some r) : Ok Tryz.prog 88 [pt b00] [oB b00 124 [cV w01, cV w02], oA w01 99 Y9u 1 p0.servers, oA w02 115 Y9c 5 p0.letters] (fun c qs => ∃ (v73 : Value) (v74 : Value), c = C.agg [cV v73, cV v74, cI r.id, cI r.code] ∧ qs = [Obj.deep v73 32 Y9j Y9k 2 r.peers.hubs, oA v74 115 Y9c 5 r.peers.letters, oB b00 124 [cV w01, cV w02], oA w01 99 Y9u 1 p0.servers]) := by
 refine Ok.of_body (rs := [.cell 2 49]) Tryz.func88 rfl rfl rfl rfl rfl fun X => ?_
 unfold Zhs at h
 refine zw ?_
 refine Ops.h (ns := []) rfl rfl (Y1p (cs := [cV s0, cV s0, cI 0, cI 0]) Ydt (Y42 rfl rfl) rfl) ?_
 rintro _ _ ⟨b1, rfl, rfl⟩
 refine Ops.nil ?_
 refine AW.seq ?_
 refine AW.region ?_
 refine Ops.v rfl (Yq rfl rfl) ?_
 refine Ops.v rfl (Y14 rfl rfl) ?_
 refine Ops.v rfl (Y1b Yf1.h rfl rfl) ?_
 refine Ops.v rfl (Y1k (p := 1) Ycn.h rfl rfl rfl rfl) ?_
 refine Ops.learn (Sim.arr_one (p := 3) rfl) fun n2 => ?_
 refine Ops.v rfl (Y38 (ds := [cV s0, cV w02]) Ydy Ycj (Y42 rfl rfl) (.one rfl (One.val n2) rfl rfl .nil) rfl) ?_
 refine Ops.h (ns := []) rfl rfl (Y1p (cs := [cV s0, cV s0]) Ycj (Y42 rfl rfl) rfl) ?_
 rintro _ _ ⟨b3, rfl, rfl⟩
 refine Ops.hd (ns := [0]) rfl rfl (Y1u (gs := [cV s0, cV w02]) Yco.h rfl rfl rfl rfl rfl) ?_
 refine Ops.nil ?_
 refine AW.seq ?_
 refine AW.cut (τ := List Y91 × List Y91 × Value) (fun (l70, l72, v71) => ⟨[(2, pt b1), (3, pt b3)], [oB b1 49 [cV s0, cV s0, cI 0, cI 0], Obj.deep s0 32 Y9j Y9k 2 l70, oB b3 47 [cV v71, cV w02], Obj.deep v71 32 Y9j Y9k 2 l72, oA w02 115 Y9c 5 p0.letters, oB b00 124 [cV w01, cV w02], oA w01 99 Y9u 1 p0.servers]⟩) (fun (l70, l72, v71) => Zhq p0 l70 l72 = some r) ?_ ?_
 ·
  refine AW.seq ?_
  refine AW.region ?_
  refine Ops.v rfl (Yq rfl rfl) ?_
  refine Ops.v rfl (Y14 rfl rfl) ?_
  refine Ops.v rfl (Y1b Yet.h rfl rfl) ?_
  refine Ops.v rfl (Y1k (p := 2) Yeu.h rfl rfl rfl rfl) ?_
  refine Ops.v rfl (Y2u (p := 3) Yev.h rfl rfl rfl) ?_
  refine zw ?_
  refine AW.lp h (fun (l43, l45, x46) (v44 : Value) => ⟨[(2, pt b1), (3, pt b3), (14, cV w01), (15, cI (p0.servers.length : Int)), (16, cI x46)], [oB b1 49 [cV s0, cV s0, cI 0, cI 0], Obj.deep s0 32 Y9j Y9k 2 l43, oB b3 47 [cV v44, cV w02], Obj.deep v44 32 Y9j Y9k 2 l45, oA w02 115 Y9c 5 p0.letters, oA w01 99 Y9u 1 p0.servers, oB b00 124 [cV w01, cV w02]]⟩) ((Y21.nilD 32 Y9j Y9k 2).trans ((Y21.nilD 32 Y9j Y9k 2).trans (Y21.both (ns := [3, 0, 1, 0, 2, 1, 0]) rfl rfl))) ?_
  rintro ⟨l43, l45, x46⟩ v44 y83 h
  refine zw ?_
  refine cnd h (fun hb47 h => ?_) fun hb47 h => ?_
  ·
   refine AW.ct hb47 rfl ?_
   refine zw ?_
   refine ob' h fun e48 g49 h => ?_
   refine Ops.v rfl (Y2x (p := 5) Yev.h rfl rfl rfl g49 rfl) ?_
   refine Ops.v rfl (Y30 (p := 5) Yf2.h rfl rfl (Y29 g49).2.2 rfl rfl) ?_
   refine zw ?_
   refine rD [0,0,0,1,1,1] [1,5] [10] [0,5,8,12,16,21,26,30,34,36,43] ?_
   refine zw ?_
   refine ob' h fun r61 g62 h => ?_
   refine Y3n.h (ns := []) rfl rfl rfl (Y23 (Zhn _ _ g62) rfl rfl) ?_
   rintro _ _ ⟨_, ⟨v63, v64, rfl, rfl⟩, rfl⟩
   refine OpsD.one ?_
   refine Y3n.h (ns := [0, 0]) rfl rfl rfl (Y8k (k := Y9j) (ob := Y9k) (e := r61) (u := (v63, v64)) Yc0 (.agg rfl rfl .nil) rfl rfl rfl) ?_
   rintro _ _ ⟨b65, rfl, rfl⟩
   refine zw ?_
   refine ob' h fun u67 c66 h => ?_
   refine Y3n.h (ns := [1, 0]) rfl rfl rfl (Y8m Yc0 rfl rfl (Wo (Y3t c66)) (Y3w (by decide) c66) rfl) ?_
   rintro _ _ ⟨v68, rfl, rfl⟩
   refine OpsD.v rfl rfl (Y1b Yck.h rfl rfl) ?_
   refine OpsD.learn (Sim.deep_one (p := 6) rfl) fun n69 => ?_
   refine OpsD.late (ns := [2]) rfl rfl rfl (Y1t (gs := [cV v68, cV w02]) Ycl.h rfl rfl (One.val n69) rfl rfl) ?_
   rintro _ _ ⟨rfl, rfl⟩
   refine zw ?_
   exact le h (gb [1, 1, 0, 3, 0, 0, 0])
  refine AW.cf hb47 rfl ?_
  refine AW.exit ?_
  refine lx h fun h => ?_
  exact ⟨(l43, l45, v44), h, Y21.both (ns := [0, 0, 0, 0, 0, 1, 0]) rfl rfl⟩
 rintro ⟨l70, l72, v71⟩ h
 replace h : Zhq p0 l70 l72 = some r := h
 unfold Zhq at h
 refine zw ?_
 refine Ops.v rfl (Y38 (ds := [cV v71, cV w02, cI 0, cI 0]) Ydu Ydt (Y42 rfl rfl) (.agg rfl rfl rfl .nil) rfl) ?_
 refine Ops.hd (ns := [0]) rfl rfl (Y1u (gs := [cV v71, cV w02, cI 0, cI 0]) Ydv.h rfl rfl rfl rfl rfl) ?_
 refine zw ?_
 refine AW.ret ?_
 rw [← Wj h]
 exact ⟨[C.agg [cV v71, cV w02, cI 0, cI 0]], _, Y21.refl _, (.cons (.cell (p := 0) rfl rfl Ydv.h rfl) .nil), [3, 3, 3, 3], _, _, rfl, ⟨v71, w02, rfl, rfl⟩⟩

def Zhu (r3 : TNet × Int) (l177 : List Y8y) : Option Y96 := (Zhs (TNet.mk r3.1.servers l177)).bind fun r178 => some r178
def Zhv (p0 : Y92) (p1 : Int) : Option Y96 := (Zh8 p0 p1).bind fun r3 => cond (r3.2 != 0) (some (Y96.mk (Y92.mk [] []) 0 r3.2)) ((Zho r3.1).bind fun r9 => cond r9 (some (Y96.mk (Y92.mk [] []) 0 9)) ((getI r3.1.letters p1).bind fun e65 => (chk (decide ((r3.1.letters.length + [e65].length) * 48 ≤ 140737488355328))).bind fun u69 => Zhu r3 (r3.1.letters ++ [e65])))
theorem Zhw (p0 : Y92) (p1 : Int) (r : Y96) (h : Zhv p0 p1 = some r) : Ok Tryz.prog 25 [C.agg [cM Y9i 2 p0.hubs, cM Y9c 5 p0.letters], cI p1] [] (fun c qs => ∃ (v182 : Value) (v183 : Value), c = C.agg [cV v182, cV v183, cI r.id, cI r.code] ∧ qs = [Obj.deep v182 32 Y9j Y9k 2 r.peers.hubs, oA v183 115 Y9c 5 r.peers.letters]) := by
 refine Ok.of_body (rs := [.cell 4 49]) Tryz.func25 rfl rfl rfl rfl rfl fun X => ?_
 unfold Zhv at h
 refine zw ?_
 refine ox fun b1 => ?_
 refine Ops.h (ns := []) rfl rfl (Y1p (cs := [cV s0, cV s0, cI 0, cI 0]) Ydt (Y42 rfl rfl) rfl) ?_
 rintro _ _ ⟨b2, rfl, rfl⟩
 refine zw ?_
 refine ob' h fun r3 g4 h => ?_
 refine Ops.h (ns := []) rfl rfl (Y23 (Zh9 _ _ _ g4) rfl rfl) ?_
 rintro _ _ ⟨_, ⟨hb8, b5, v6, v7, rfl, rfl⟩ | ⟨hb8, rfl, rfl⟩, rfl⟩
 ·
  replace h := Y3s hb8 h
  refine zw ?_
  refine AW.cf hb8 rfl ?_
  refine zw ?_
  refine ob' h fun r9 g10 h => ?_
  refine Ops.hd (ns := [0, 0, 0]) rfl rfl (Y24 (Zhp r3.1 _ g10) rfl rfl) ?_
  refine zw ?_
  refine cnd h (fun hb11 h => ?_) fun hb11 h => ?_
  ·
   refine AW.ct hb11 rfl ?_
   refine zw ?_
   refine Ops.v rfl (Y38 (ds := [cV s0, cV s0, cI 0, cI 9]) Ydu Ydt (Y42 rfl rfl) (.one rfl (One.val rfl) rfl rfl .nil) rfl) ?_
   refine Ops.hd (ns := [3]) rfl rfl (Y1u (gs := [cV s0, cV s0, cI 0, cI 9]) Ydv.h rfl rfl rfl rfl rfl) ?_
   refine zw ?_
   refine AW.ret ?_
   rw [← Wj h]
   exact ⟨[C.agg [cV s0, cV s0, cI 0, cI 9]], _, (Y21.nilD 32 Y9j Y9k 2).trans (Y21.nil 115 Y9c 5), (.cons (.cell (p := 2) rfl rfl Ydv.h rfl) .nil), [1, 0], _, _, rfl, ⟨s0, s0, rfl, rfl⟩⟩
  refine AW.cf hb11 rfl ?_
  refine AW.skip ?_
  refine AW.seq ?_
  refine AW.cut (τ := List Y8y × Value) (fun (l177, v176) => ⟨[(4, pt b2), (5, pt b5)], [oB b2 49 [cV s0, cV s0, cI 0, cI 0], oB b5 124 [cV v6, cV v176], oA v6 99 Y9u 1 r3.1.servers, oA v176 115 Y9c 5 l177]⟩) (fun (l177, v176) => Zhu r3 l177 = some r) ?_ ?_
  ·
   refine AW.regionD (L := [4, 8, 11]) (Lt := [16]) (k := .light 0 false (.light 1 false (.light 2 false (.light 5 false (.light 6 false (.light 9 false (.two 3 7 (.two 4 7 (.one 7 (.one 8 (.one 10 (.one 11 (.one 12 (.one 13 (.light 14 false (.one 15 (.late 16 (.done)))))))))) (.two 4 8 (.one 8 (.one 10 (.one 11 (.one 12 (.one 13 (.light 14 false (.one 15 (.late 16 (.done))))))))) (.two 4 10 (.one 10 (.one 11 (.one 12 (.one 13 (.light 14 false (.one 15 (.late 16 (.done)))))))) (.two 4 11 (.one 11 (.one 12 (.one 13 (.light 14 false (.one 15 (.late 16 (.done))))))) (.two 4 12 (.one 12 (.one 13 (.light 14 false (.one 15 (.late 16 (.done)))))) (.one 4 (.one 13 (.light 14 false (.one 15 (.late 16 (.done))))))))))) (.two 3 8 (.two 4 8 (.one 8 (.one 10 (.one 11 (.one 12 (.one 13 (.light 14 false (.one 15 (.late 16 (.done))))))))) (.two 4 10 (.one 10 (.one 11 (.one 12 (.one 13 (.light 14 false (.one 15 (.late 16 (.done)))))))) (.two 4 11 (.one 11 (.one 12 (.one 13 (.light 14 false (.one 15 (.late 16 (.done))))))) (.two 4 12 (.one 12 (.one 13 (.light 14 false (.one 15 (.late 16 (.done)))))) (.one 4 (.one 13 (.light 14 false (.one 15 (.late 16 (.done)))))))))) (.two 3 10 (.two 4 10 (.one 10 (.one 11 (.one 12 (.one 13 (.light 14 false (.one 15 (.late 16 (.done)))))))) (.two 4 11 (.one 11 (.one 12 (.one 13 (.light 14 false (.one 15 (.late 16 (.done))))))) (.two 4 12 (.one 12 (.one 13 (.light 14 false (.one 15 (.late 16 (.done)))))) (.one 4 (.one 13 (.light 14 false (.one 15 (.late 16 (.done))))))))) (.two 3 11 (.two 4 11 (.one 11 (.one 12 (.one 13 (.light 14 false (.one 15 (.late 16 (.done))))))) (.two 4 12 (.one 12 (.one 13 (.light 14 false (.one 15 (.late 16 (.done)))))) (.one 4 (.one 13 (.light 14 false (.one 15 (.late 16 (.done)))))))) (.two 3 12 (.two 4 12 (.one 12 (.one 13 (.light 14 false (.one 15 (.late 16 (.done)))))) (.one 4 (.one 13 (.light 14 false (.one 15 (.late 16 (.done))))))) (.one 3 (.one 4 (.one 13 (.light 14 false (.one 15 (.late 16 (.done)))))))))))))))))) (ns := [0, 0, 1, 1]) (by kernel_rfl) (by kernel_rfl) (by kernel_rfl) (by kernel_rfl) rfl ?_
   refine zw ?_
   refine OpsD.two ?_ ?_
   ·
    refine Y3n.v rfl rfl (Y1b Yf1.h rfl rfl) ?_
    refine OpsD.two ?_ ?_
    ·
     refine Y3n.v rfl rfl (Y1k (p := 0) Ycn.h rfl rfl rfl rfl) ?_
     refine OpsD.one ?_
     refine Y3n.v rfl rfl (Y1b Yf1.h rfl rfl) ?_
     refine OpsD.one ?_
     refine Y3n.v rfl rfl (Y1k (p := 0) Ycn.h rfl rfl rfl rfl) ?_
     refine zw ?_
     refine ob' h fun e65 g66 h => ?_
     refine Y3n.v rfl rfl (Y2x (p := 4) Yci.h rfl rfl rfl g66 rfl) ?_
     refine OpsD.one ?_
     refine Y3n.v rfl rfl (Y31 (p := 4) Ycg.h rfl rfl (Y29 g66).2.2 rfl rfl rfl) ?_
     refine OpsD.one ?_
     refine Y3n.h (ns := []) rfl rfl rfl (Y39 (k := Y9c) (ys := [e65]) Ych (.agg rfl rfl .nil) rfl rfl rfl) ?_
     rintro _ _ ⟨b67, rfl, rfl⟩
     refine zw ?_
     refine ob' h fun u69 c68 h => ?_
     refine Y3n.h (ns := [1, 0]) rfl rfl rfl (Y2s Ych rfl rfl (Wo (Y3t c68)) (Y3w (by decide) c68) rfl) ?_
     rintro _ _ ⟨v70, rfl, rfl⟩
     refine OpsD.v rfl rfl (Y14 rfl rfl) ?_
     refine OpsD.one ?_
     refine Y3n.v rfl rfl (Y1b Yf1.h rfl rfl) ?_
     refine OpsD.learn (Sim.arr_one (p := 4) rfl) fun n71 => ?_
     refine OpsD.late (ns := [0]) rfl rfl rfl (Y1t (gs := [cV v6, cV v70]) Ycn.h rfl rfl (One.val n71) rfl rfl) ?_
     rintro _ _ ⟨rfl, rfl⟩
     refine zw ?_
     exact ⟨((r3.1.letters ++ [e65]), v70), h, Y21.both (ns := [2, 0, 0, 1]) rfl rfl⟩
    refine Y3n.v rfl rfl (Y1b Yf1.h rfl rfl) ?_
    refine OpsD.two ?_ ?_
    ·
     refine Y3n.v rfl rfl (Y1k (p := 0) Ycn.h rfl rfl rfl rfl) ?_
     refine OpsD.one ?_
     refine Y3n.v rfl rfl (Y1k (p := 0) Ycn.h rfl rfl rfl rfl) ?_
     refine zw ?_
     refine ob' h fun e72 g73 h => ?_
     refine Y3n.v rfl rfl (Y2x (p := 4) Yci.h rfl rfl rfl g73 rfl) ?_
     refine OpsD.one ?_
     refine Y3n.v rfl rfl (Y31 (p := 4) Ycg.h rfl rfl (Y29 g73).2.2 rfl rfl rfl) ?_
     refine OpsD.one ?_
     refine Y3n.h (ns := []) rfl rfl rfl (Y39 (k := Y9c) (ys := [e72]) Ych (.agg rfl rfl .nil) rfl rfl rfl) ?_
     rintro _ _ ⟨b74, rfl, rfl⟩
     refine zw ?_
     refine ob' h fun u76 c75 h => ?_
     refine Y3n.h (ns := [1, 0]) rfl rfl rfl (Y2s Ych rfl rfl (Wo (Y3t c75)) (Y3w (by decide) c75) rfl) ?_
     rintro _ _ ⟨v77, rfl, rfl⟩
     refine OpsD.v rfl rfl (Y14 rfl rfl) ?_
     refine OpsD.one ?_
     refine Y3n.v rfl rfl (Y1b Yf1.h rfl rfl) ?_
     refine OpsD.learn (Sim.arr_one (p := 4) rfl) fun n78 => ?_
     refine OpsD.late (ns := [0]) rfl rfl rfl (Y1t (gs := [cV v6, cV v77]) Ycn.h rfl rfl (One.val n78) rfl rfl) ?_
     rintro _ _ ⟨rfl, rfl⟩
     refine zw ?_
     exact ⟨((r3.1.letters ++ [e72]), v77), h, Y21.both (ns := [2, 0, 0, 1]) rfl rfl⟩
    refine Y3n.v rfl rfl (Y1k (p := 0) Ycn.h rfl rfl rfl rfl) ?_
    refine ob' h fun e79 g80 h => ?_
    refine OpsD.two ?_ ?_
    ·
     refine Y3n.v rfl rfl (Y1k (p := 0) Ycn.h rfl rfl rfl rfl) ?_
     refine OpsD.one ?_
     refine Y3n.v rfl rfl (Y2x (p := 4) Yci.h rfl rfl rfl g80 rfl) ?_
     refine OpsD.one ?_
     refine Y3n.v rfl rfl (Y31 (p := 4) Ycg.h rfl rfl (Y29 g80).2.2 rfl rfl rfl) ?_
     refine OpsD.one ?_
     refine Y3n.h (ns := []) rfl rfl rfl (Y39 (k := Y9c) (ys := [e79]) Ych (.agg rfl rfl .nil) rfl rfl rfl) ?_
     rintro _ _ ⟨b81, rfl, rfl⟩
     refine zw ?_
     refine ob' h fun u83 c82 h => ?_
     refine Y3n.h (ns := [1, 0]) rfl rfl rfl (Y2s Ych rfl rfl (Wo (Y3t c82)) (Y3w (by decide) c82) rfl) ?_
     rintro _ _ ⟨v84, rfl, rfl⟩
     refine OpsD.v rfl rfl (Y14 rfl rfl) ?_
     refine OpsD.one ?_
     refine Y3n.v rfl rfl (Y1b Yf1.h rfl rfl) ?_
     refine OpsD.learn (Sim.arr_one (p := 4) rfl) fun n85 => ?_
     refine OpsD.late (ns := [0]) rfl rfl rfl (Y1t (gs := [cV v6, cV v84]) Ycn.h rfl rfl (One.val n85) rfl rfl) ?_
     rintro _ _ ⟨rfl, rfl⟩
     refine zw ?_
     exact ⟨((r3.1.letters ++ [e79]), v84), h, Y21.both (ns := [2, 0, 0, 1]) rfl rfl⟩
    refine Y3n.v rfl rfl (Y2x (p := 4) Yci.h rfl rfl rfl g80 rfl) ?_
    refine OpsD.two ?_ ?_
    ·
     refine Y3n.v rfl rfl (Y1k (p := 0) Ycn.h rfl rfl rfl rfl) ?_
     refine OpsD.one ?_
     refine Y3n.v rfl rfl (Y31 (p := 4) Ycg.h rfl rfl (Y29 g80).2.2 rfl rfl rfl) ?_
     refine OpsD.one ?_
     refine Y3n.h (ns := []) rfl rfl rfl (Y39 (k := Y9c) (ys := [e79]) Ych (.agg rfl rfl .nil) rfl rfl rfl) ?_
     rintro _ _ ⟨b86, rfl, rfl⟩
     refine zw ?_
     refine ob' h fun u88 c87 h => ?_
     refine Y3n.h (ns := [1, 0]) rfl rfl rfl (Y2s Ych rfl rfl (Wo (Y3t c87)) (Y3w (by decide) c87) rfl) ?_
     rintro _ _ ⟨v89, rfl, rfl⟩
     refine OpsD.v rfl rfl (Y14 rfl rfl) ?_
     refine OpsD.one ?_
     refine Y3n.v rfl rfl (Y1b Yf1.h rfl rfl) ?_
     refine OpsD.learn (Sim.arr_one (p := 4) rfl) fun n90 => ?_
     refine OpsD.late (ns := [0]) rfl rfl rfl (Y1t (gs := [cV v6, cV v89]) Ycn.h rfl rfl (One.val n90) rfl rfl) ?_
     rintro _ _ ⟨rfl, rfl⟩
     refine zw ?_
     exact ⟨((r3.1.letters ++ [e79]), v89), h, Y21.both (ns := [2, 0, 0, 1]) rfl rfl⟩
    refine Y3n.v rfl rfl (Y31 (p := 4) Ycg.h rfl rfl (Y29 g80).2.2 rfl rfl rfl) ?_
    refine OpsD.two ?_ ?_
    ·
     refine Y3n.v rfl rfl (Y1k (p := 0) Ycn.h rfl rfl rfl rfl) ?_
     refine OpsD.one ?_
     refine Y3n.h (ns := []) rfl rfl rfl (Y39 (k := Y9c) (ys := [e79]) Ych (.agg rfl rfl .nil) rfl rfl rfl) ?_
     rintro _ _ ⟨b91, rfl, rfl⟩
     refine zw ?_
     refine ob' h fun u93 c92 h => ?_
     refine Y3n.h (ns := [1, 0]) rfl rfl rfl (Y2s Ych rfl rfl (Wo (Y3t c92)) (Y3w (by decide) c92) rfl) ?_
     rintro _ _ ⟨v94, rfl, rfl⟩
     refine OpsD.v rfl rfl (Y14 rfl rfl) ?_
     refine OpsD.one ?_
     refine Y3n.v rfl rfl (Y1b Yf1.h rfl rfl) ?_
     refine OpsD.learn (Sim.arr_one (p := 4) rfl) fun n95 => ?_
     refine OpsD.late (ns := [0]) rfl rfl rfl (Y1t (gs := [cV v6, cV v94]) Ycn.h rfl rfl (One.val n95) rfl rfl) ?_
     rintro _ _ ⟨rfl, rfl⟩
     refine zw ?_
     exact ⟨((r3.1.letters ++ [e79]), v94), h, Y21.both (ns := [2, 0, 0, 1]) rfl rfl⟩
    refine Y3n.h (ns := []) rfl rfl rfl (Y39 (k := Y9c) (ys := [e79]) Ych (.agg rfl rfl .nil) rfl rfl rfl) ?_
    rintro _ _ ⟨b91, rfl, rfl⟩
    refine OpsD.one ?_
    refine Y3n.v rfl rfl (Y1k (p := 0) Ycn.h rfl rfl rfl rfl) ?_
    refine zw ?_
    refine ob' h fun u97 c96 h => ?_
    refine Y3n.h (ns := [1, 0]) rfl rfl rfl (Y2s Ych rfl rfl (Wo (Y3t c96)) (Y3w (by decide) c96) rfl) ?_
    rintro _ _ ⟨v98, rfl, rfl⟩
    refine OpsD.v rfl rfl (Y14 rfl rfl) ?_
    refine OpsD.one ?_
    refine Y3n.v rfl rfl (Y1b Yf1.h rfl rfl) ?_
    refine OpsD.learn (Sim.arr_one (p := 4) rfl) fun n99 => ?_
    refine OpsD.late (ns := [0]) rfl rfl rfl (Y1t (gs := [cV v6, cV v98]) Ycn.h rfl rfl (One.val n99) rfl rfl) ?_
    rintro _ _ ⟨rfl, rfl⟩
    refine zw ?_
    exact ⟨((r3.1.letters ++ [e79]), v98), h, Y21.both (ns := [2, 0, 0, 1]) rfl rfl⟩
   refine Y3n.v rfl rfl (Y1b Yf1.h rfl rfl) ?_
   refine OpsD.two ?_ ?_
   ·
    refine Y3n.v rfl rfl (Y1b Yf1.h rfl rfl) ?_
    refine OpsD.two ?_ ?_
    ·
     refine Y3n.v rfl rfl (Y1k (p := 0) Ycn.h rfl rfl rfl rfl) ?_
     refine OpsD.one ?_
     refine Y3n.v rfl rfl (Y1k (p := 0) Ycn.h rfl rfl rfl rfl) ?_
     refine zw ?_
     refine ob' h fun e100 g101 h => ?_
     refine Y3n.v rfl rfl (Y2x (p := 4) Yci.h rfl rfl rfl g101 rfl) ?_
     refine OpsD.one ?_
     refine Y3n.v rfl rfl (Y31 (p := 4) Ycg.h rfl rfl (Y29 g101).2.2 rfl rfl rfl) ?_
     refine OpsD.one ?_
     refine Y3n.h (ns := []) rfl rfl rfl (Y39 (k := Y9c) (ys := [e100]) Ych (.agg rfl rfl .nil) rfl rfl rfl) ?_
     rintro _ _ ⟨b102, rfl, rfl⟩
     refine zw ?_
     refine ob' h fun u104 c103 h => ?_
     refine Y3n.h (ns := [1, 0]) rfl rfl rfl (Y2s Ych rfl rfl (Wo (Y3t c103)) (Y3w (by decide) c103) rfl) ?_
     rintro _ _ ⟨v105, rfl, rfl⟩
     refine OpsD.v rfl rfl (Y14 rfl rfl) ?_
     refine OpsD.one ?_
     refine Y3n.v rfl rfl (Y1b Yf1.h rfl rfl) ?_
     refine OpsD.learn (Sim.arr_one (p := 4) rfl) fun n106 => ?_
     refine OpsD.late (ns := [0]) rfl rfl rfl (Y1t (gs := [cV v6, cV v105]) Ycn.h rfl rfl (One.val n106) rfl rfl) ?_
     rintro _ _ ⟨rfl, rfl⟩
     refine zw ?_
     exact ⟨((r3.1.letters ++ [e100]), v105), h, Y21.both (ns := [2, 0, 0, 1]) rfl rfl⟩
    refine Y3n.v rfl rfl (Y1k (p := 0) Ycn.h rfl rfl rfl rfl) ?_
    refine ob' h fun e107 g108 h => ?_
    refine OpsD.two ?_ ?_
    ·
     refine Y3n.v rfl rfl (Y1k (p := 0) Ycn.h rfl rfl rfl rfl) ?_
     refine OpsD.one ?_
     refine Y3n.v rfl rfl (Y2x (p := 4) Yci.h rfl rfl rfl g108 rfl) ?_
     refine OpsD.one ?_
     refine Y3n.v rfl rfl (Y31 (p := 4) Ycg.h rfl rfl (Y29 g108).2.2 rfl rfl rfl) ?_
     refine OpsD.one ?_
     refine Y3n.h (ns := []) rfl rfl rfl (Y39 (k := Y9c) (ys := [e107]) Ych (.agg rfl rfl .nil) rfl rfl rfl) ?_
     rintro _ _ ⟨b109, rfl, rfl⟩
     refine zw ?_
     refine ob' h fun u111 c110 h => ?_
     refine Y3n.h (ns := [1, 0]) rfl rfl rfl (Y2s Ych rfl rfl (Wo (Y3t c110)) (Y3w (by decide) c110) rfl) ?_
     rintro _ _ ⟨v112, rfl, rfl⟩
     refine OpsD.v rfl rfl (Y14 rfl rfl) ?_
     refine OpsD.one ?_
     refine Y3n.v rfl rfl (Y1b Yf1.h rfl rfl) ?_
     refine OpsD.learn (Sim.arr_one (p := 4) rfl) fun n113 => ?_
     refine OpsD.late (ns := [0]) rfl rfl rfl (Y1t (gs := [cV v6, cV v112]) Ycn.h rfl rfl (One.val n113) rfl rfl) ?_
     rintro _ _ ⟨rfl, rfl⟩
     refine zw ?_
     exact ⟨((r3.1.letters ++ [e107]), v112), h, Y21.both (ns := [2, 0, 0, 1]) rfl rfl⟩
    refine Y3n.v rfl rfl (Y2x (p := 4) Yci.h rfl rfl rfl g108 rfl) ?_
    refine OpsD.two ?_ ?_
    ·
     refine Y3n.v rfl rfl (Y1k (p := 0) Ycn.h rfl rfl rfl rfl) ?_
     refine OpsD.one ?_
     refine Y3n.v rfl rfl (Y31 (p := 4) Ycg.h rfl rfl (Y29 g108).2.2 rfl rfl rfl) ?_
     refine OpsD.one ?_
     refine Y3n.h (ns := []) rfl rfl rfl (Y39 (k := Y9c) (ys := [e107]) Ych (.agg rfl rfl .nil) rfl rfl rfl) ?_
     rintro _ _ ⟨b114, rfl, rfl⟩
     refine zw ?_
     refine ob' h fun u116 c115 h => ?_
     refine Y3n.h (ns := [1, 0]) rfl rfl rfl (Y2s Ych rfl rfl (Wo (Y3t c115)) (Y3w (by decide) c115) rfl) ?_
     rintro _ _ ⟨v117, rfl, rfl⟩
     refine OpsD.v rfl rfl (Y14 rfl rfl) ?_
     refine OpsD.one ?_
     refine Y3n.v rfl rfl (Y1b Yf1.h rfl rfl) ?_
     refine OpsD.learn (Sim.arr_one (p := 4) rfl) fun n118 => ?_
     refine OpsD.late (ns := [0]) rfl rfl rfl (Y1t (gs := [cV v6, cV v117]) Ycn.h rfl rfl (One.val n118) rfl rfl) ?_
     rintro _ _ ⟨rfl, rfl⟩
     refine zw ?_
     exact ⟨((r3.1.letters ++ [e107]), v117), h, Y21.both (ns := [2, 0, 0, 1]) rfl rfl⟩
    refine Y3n.v rfl rfl (Y31 (p := 4) Ycg.h rfl rfl (Y29 g108).2.2 rfl rfl rfl) ?_
    refine OpsD.two ?_ ?_
    ·
     refine Y3n.v rfl rfl (Y1k (p := 0) Ycn.h rfl rfl rfl rfl) ?_
     refine OpsD.one ?_
     refine Y3n.h (ns := []) rfl rfl rfl (Y39 (k := Y9c) (ys := [e107]) Ych (.agg rfl rfl .nil) rfl rfl rfl) ?_
     rintro _ _ ⟨b119, rfl, rfl⟩
     refine zw ?_
     refine ob' h fun u121 c120 h => ?_
     refine Y3n.h (ns := [1, 0]) rfl rfl rfl (Y2s Ych rfl rfl (Wo (Y3t c120)) (Y3w (by decide) c120) rfl) ?_
     rintro _ _ ⟨v122, rfl, rfl⟩
     refine OpsD.v rfl rfl (Y14 rfl rfl) ?_
     refine OpsD.one ?_
     refine Y3n.v rfl rfl (Y1b Yf1.h rfl rfl) ?_
     refine OpsD.learn (Sim.arr_one (p := 4) rfl) fun n123 => ?_
     refine OpsD.late (ns := [0]) rfl rfl rfl (Y1t (gs := [cV v6, cV v122]) Ycn.h rfl rfl (One.val n123) rfl rfl) ?_
     rintro _ _ ⟨rfl, rfl⟩
     refine zw ?_
     exact ⟨((r3.1.letters ++ [e107]), v122), h, Y21.both (ns := [2, 0, 0, 1]) rfl rfl⟩
    refine Y3n.h (ns := []) rfl rfl rfl (Y39 (k := Y9c) (ys := [e107]) Ych (.agg rfl rfl .nil) rfl rfl rfl) ?_
    rintro _ _ ⟨b119, rfl, rfl⟩
    refine OpsD.one ?_
    refine Y3n.v rfl rfl (Y1k (p := 0) Ycn.h rfl rfl rfl rfl) ?_
    refine zw ?_
    refine ob' h fun u125 c124 h => ?_
    refine Y3n.h (ns := [1, 0]) rfl rfl rfl (Y2s Ych rfl rfl (Wo (Y3t c124)) (Y3w (by decide) c124) rfl) ?_
    rintro _ _ ⟨v126, rfl, rfl⟩
    refine OpsD.v rfl rfl (Y14 rfl rfl) ?_
    refine OpsD.one ?_
    refine Y3n.v rfl rfl (Y1b Yf1.h rfl rfl) ?_
    refine OpsD.learn (Sim.arr_one (p := 4) rfl) fun n127 => ?_
    refine OpsD.late (ns := [0]) rfl rfl rfl (Y1t (gs := [cV v6, cV v126]) Ycn.h rfl rfl (One.val n127) rfl rfl) ?_
    rintro _ _ ⟨rfl, rfl⟩
    refine zw ?_
    exact ⟨((r3.1.letters ++ [e107]), v126), h, Y21.both (ns := [2, 0, 0, 1]) rfl rfl⟩
   refine Y3n.v rfl rfl (Y1k (p := 0) Ycn.h rfl rfl rfl rfl) ?_
   refine ob' h fun e128 g129 h => ?_
   refine OpsD.two ?_ ?_
   ·
    refine Y3n.v rfl rfl (Y1b Yf1.h rfl rfl) ?_
    refine OpsD.two ?_ ?_
    ·
     refine Y3n.v rfl rfl (Y1k (p := 0) Ycn.h rfl rfl rfl rfl) ?_
     refine OpsD.one ?_
     refine Y3n.v rfl rfl (Y2x (p := 4) Yci.h rfl rfl rfl g129 rfl) ?_
     refine OpsD.one ?_
     refine Y3n.v rfl rfl (Y31 (p := 4) Ycg.h rfl rfl (Y29 g129).2.2 rfl rfl rfl) ?_
     refine OpsD.one ?_
     refine Y3n.h (ns := []) rfl rfl rfl (Y39 (k := Y9c) (ys := [e128]) Ych (.agg rfl rfl .nil) rfl rfl rfl) ?_
     rintro _ _ ⟨b130, rfl, rfl⟩
     refine zw ?_
     refine ob' h fun u132 c131 h => ?_
     refine Y3n.h (ns := [1, 0]) rfl rfl rfl (Y2s Ych rfl rfl (Wo (Y3t c131)) (Y3w (by decide) c131) rfl) ?_
     rintro _ _ ⟨v133, rfl, rfl⟩
     refine OpsD.v rfl rfl (Y14 rfl rfl) ?_
     refine OpsD.one ?_
     refine Y3n.v rfl rfl (Y1b Yf1.h rfl rfl) ?_
     refine OpsD.learn (Sim.arr_one (p := 4) rfl) fun n134 => ?_
     refine OpsD.late (ns := [0]) rfl rfl rfl (Y1t (gs := [cV v6, cV v133]) Ycn.h rfl rfl (One.val n134) rfl rfl) ?_
     rintro _ _ ⟨rfl, rfl⟩
     refine zw ?_
     exact ⟨((r3.1.letters ++ [e128]), v133), h, Y21.both (ns := [2, 0, 0, 1]) rfl rfl⟩
    refine Y3n.v rfl rfl (Y2x (p := 4) Yci.h rfl rfl rfl g129 rfl) ?_
    refine OpsD.two ?_ ?_
    ·
     refine Y3n.v rfl rfl (Y1k (p := 0) Ycn.h rfl rfl rfl rfl) ?_
     refine OpsD.one ?_
     refine Y3n.v rfl rfl (Y31 (p := 4) Ycg.h rfl rfl (Y29 g129).2.2 rfl rfl rfl) ?_
     refine OpsD.one ?_
     refine Y3n.h (ns := []) rfl rfl rfl (Y39 (k := Y9c) (ys := [e128]) Ych (.agg rfl rfl .nil) rfl rfl rfl) ?_
     rintro _ _ ⟨b135, rfl, rfl⟩
     refine zw ?_
     refine ob' h fun u137 c136 h => ?_
     refine Y3n.h (ns := [1, 0]) rfl rfl rfl (Y2s Ych rfl rfl (Wo (Y3t c136)) (Y3w (by decide) c136) rfl) ?_
     rintro _ _ ⟨v138, rfl, rfl⟩
     refine OpsD.v rfl rfl (Y14 rfl rfl) ?_
     refine OpsD.one ?_
     refine Y3n.v rfl rfl (Y1b Yf1.h rfl rfl) ?_
     refine OpsD.learn (Sim.arr_one (p := 4) rfl) fun n139 => ?_
     refine OpsD.late (ns := [0]) rfl rfl rfl (Y1t (gs := [cV v6, cV v138]) Ycn.h rfl rfl (One.val n139) rfl rfl) ?_
     rintro _ _ ⟨rfl, rfl⟩
     refine zw ?_
     exact ⟨((r3.1.letters ++ [e128]), v138), h, Y21.both (ns := [2, 0, 0, 1]) rfl rfl⟩
    refine Y3n.v rfl rfl (Y31 (p := 4) Ycg.h rfl rfl (Y29 g129).2.2 rfl rfl rfl) ?_
    refine OpsD.two ?_ ?_
    ·
     refine Y3n.v rfl rfl (Y1k (p := 0) Ycn.h rfl rfl rfl rfl) ?_
     refine OpsD.one ?_
     refine Y3n.h (ns := []) rfl rfl rfl (Y39 (k := Y9c) (ys := [e128]) Ych (.agg rfl rfl .nil) rfl rfl rfl) ?_
     rintro _ _ ⟨b140, rfl, rfl⟩
     refine zw ?_
     refine ob' h fun u142 c141 h => ?_
     refine Y3n.h (ns := [1, 0]) rfl rfl rfl (Y2s Ych rfl rfl (Wo (Y3t c141)) (Y3w (by decide) c141) rfl) ?_
     rintro _ _ ⟨v143, rfl, rfl⟩
     refine OpsD.v rfl rfl (Y14 rfl rfl) ?_
     refine OpsD.one ?_
     refine Y3n.v rfl rfl (Y1b Yf1.h rfl rfl) ?_
     refine OpsD.learn (Sim.arr_one (p := 4) rfl) fun n144 => ?_
     refine OpsD.late (ns := [0]) rfl rfl rfl (Y1t (gs := [cV v6, cV v143]) Ycn.h rfl rfl (One.val n144) rfl rfl) ?_
     rintro _ _ ⟨rfl, rfl⟩
     refine zw ?_
     exact ⟨((r3.1.letters ++ [e128]), v143), h, Y21.both (ns := [2, 0, 0, 1]) rfl rfl⟩
    refine Y3n.h (ns := []) rfl rfl rfl (Y39 (k := Y9c) (ys := [e128]) Ych (.agg rfl rfl .nil) rfl rfl rfl) ?_
    rintro _ _ ⟨b140, rfl, rfl⟩
    refine OpsD.one ?_
    refine Y3n.v rfl rfl (Y1k (p := 0) Ycn.h rfl rfl rfl rfl) ?_
    refine zw ?_
    refine ob' h fun u146 c145 h => ?_
    refine Y3n.h (ns := [1, 0]) rfl rfl rfl (Y2s Ych rfl rfl (Wo (Y3t c145)) (Y3w (by decide) c145) rfl) ?_
    rintro _ _ ⟨v147, rfl, rfl⟩
    refine OpsD.v rfl rfl (Y14 rfl rfl) ?_
    refine OpsD.one ?_
    refine Y3n.v rfl rfl (Y1b Yf1.h rfl rfl) ?_
    refine OpsD.learn (Sim.arr_one (p := 4) rfl) fun n148 => ?_
    refine OpsD.late (ns := [0]) rfl rfl rfl (Y1t (gs := [cV v6, cV v147]) Ycn.h rfl rfl (One.val n148) rfl rfl) ?_
    rintro _ _ ⟨rfl, rfl⟩
    refine zw ?_
    exact ⟨((r3.1.letters ++ [e128]), v147), h, Y21.both (ns := [2, 0, 0, 1]) rfl rfl⟩
   refine Y3n.v rfl rfl (Y2x (p := 4) Yci.h rfl rfl rfl g129 rfl) ?_
   refine OpsD.two ?_ ?_
   ·
    refine Y3n.v rfl rfl (Y1b Yf1.h rfl rfl) ?_
    refine OpsD.two ?_ ?_
    ·
     refine Y3n.v rfl rfl (Y1k (p := 0) Ycn.h rfl rfl rfl rfl) ?_
     refine OpsD.one ?_
     refine Y3n.v rfl rfl (Y31 (p := 4) Ycg.h rfl rfl (Y29 g129).2.2 rfl rfl rfl) ?_
     refine OpsD.one ?_
     refine Y3n.h (ns := []) rfl rfl rfl (Y39 (k := Y9c) (ys := [e128]) Ych (.agg rfl rfl .nil) rfl rfl rfl) ?_
     rintro _ _ ⟨b149, rfl, rfl⟩
     refine zw ?_
     refine ob' h fun u151 c150 h => ?_
     refine Y3n.h (ns := [1, 0]) rfl rfl rfl (Y2s Ych rfl rfl (Wo (Y3t c150)) (Y3w (by decide) c150) rfl) ?_
     rintro _ _ ⟨v152, rfl, rfl⟩
     refine OpsD.v rfl rfl (Y14 rfl rfl) ?_
     refine OpsD.one ?_
     refine Y3n.v rfl rfl (Y1b Yf1.h rfl rfl) ?_
     refine OpsD.learn (Sim.arr_one (p := 4) rfl) fun n153 => ?_
     refine OpsD.late (ns := [0]) rfl rfl rfl (Y1t (gs := [cV v6, cV v152]) Ycn.h rfl rfl (One.val n153) rfl rfl) ?_
     rintro _ _ ⟨rfl, rfl⟩
     refine zw ?_
     exact ⟨((r3.1.letters ++ [e128]), v152), h, Y21.both (ns := [2, 0, 0, 1]) rfl rfl⟩
    refine Y3n.v rfl rfl (Y31 (p := 4) Ycg.h rfl rfl (Y29 g129).2.2 rfl rfl rfl) ?_
    refine OpsD.two ?_ ?_
    ·
     refine Y3n.v rfl rfl (Y1k (p := 0) Ycn.h rfl rfl rfl rfl) ?_
     refine OpsD.one ?_
     refine Y3n.h (ns := []) rfl rfl rfl (Y39 (k := Y9c) (ys := [e128]) Ych (.agg rfl rfl .nil) rfl rfl rfl) ?_
     rintro _ _ ⟨b154, rfl, rfl⟩
     refine zw ?_
     refine ob' h fun u156 c155 h => ?_
     refine Y3n.h (ns := [1, 0]) rfl rfl rfl (Y2s Ych rfl rfl (Wo (Y3t c155)) (Y3w (by decide) c155) rfl) ?_
     rintro _ _ ⟨v157, rfl, rfl⟩
     refine OpsD.v rfl rfl (Y14 rfl rfl) ?_
     refine OpsD.one ?_
     refine Y3n.v rfl rfl (Y1b Yf1.h rfl rfl) ?_
     refine OpsD.learn (Sim.arr_one (p := 4) rfl) fun n158 => ?_
     refine OpsD.late (ns := [0]) rfl rfl rfl (Y1t (gs := [cV v6, cV v157]) Ycn.h rfl rfl (One.val n158) rfl rfl) ?_
     rintro _ _ ⟨rfl, rfl⟩
     refine zw ?_
     exact ⟨((r3.1.letters ++ [e128]), v157), h, Y21.both (ns := [2, 0, 0, 1]) rfl rfl⟩
    refine Y3n.h (ns := []) rfl rfl rfl (Y39 (k := Y9c) (ys := [e128]) Ych (.agg rfl rfl .nil) rfl rfl rfl) ?_
    rintro _ _ ⟨b154, rfl, rfl⟩
    refine OpsD.one ?_
    refine Y3n.v rfl rfl (Y1k (p := 0) Ycn.h rfl rfl rfl rfl) ?_
    refine zw ?_
    refine ob' h fun u160 c159 h => ?_
    refine Y3n.h (ns := [1, 0]) rfl rfl rfl (Y2s Ych rfl rfl (Wo (Y3t c159)) (Y3w (by decide) c159) rfl) ?_
    rintro _ _ ⟨v161, rfl, rfl⟩
    refine OpsD.v rfl rfl (Y14 rfl rfl) ?_
    refine OpsD.one ?_
    refine Y3n.v rfl rfl (Y1b Yf1.h rfl rfl) ?_
    refine OpsD.learn (Sim.arr_one (p := 4) rfl) fun n162 => ?_
    refine OpsD.late (ns := [0]) rfl rfl rfl (Y1t (gs := [cV v6, cV v161]) Ycn.h rfl rfl (One.val n162) rfl rfl) ?_
    rintro _ _ ⟨rfl, rfl⟩
    refine zw ?_
    exact ⟨((r3.1.letters ++ [e128]), v161), h, Y21.both (ns := [2, 0, 0, 1]) rfl rfl⟩
   refine Y3n.v rfl rfl (Y31 (p := 4) Ycg.h rfl rfl (Y29 g129).2.2 rfl rfl rfl) ?_
   refine OpsD.two ?_ ?_
   ·
    refine Y3n.v rfl rfl (Y1b Yf1.h rfl rfl) ?_
    refine OpsD.two ?_ ?_
    ·
     refine Y3n.v rfl rfl (Y1k (p := 0) Ycn.h rfl rfl rfl rfl) ?_
     refine OpsD.one ?_
     refine Y3n.h (ns := []) rfl rfl rfl (Y39 (k := Y9c) (ys := [e128]) Ych (.agg rfl rfl .nil) rfl rfl rfl) ?_
     rintro _ _ ⟨b163, rfl, rfl⟩
     refine zw ?_
     refine ob' h fun u165 c164 h => ?_
     refine Y3n.h (ns := [1, 0]) rfl rfl rfl (Y2s Ych rfl rfl (Wo (Y3t c164)) (Y3w (by decide) c164) rfl) ?_
     rintro _ _ ⟨v166, rfl, rfl⟩
     refine OpsD.v rfl rfl (Y14 rfl rfl) ?_
     refine OpsD.one ?_
     refine Y3n.v rfl rfl (Y1b Yf1.h rfl rfl) ?_
     refine OpsD.learn (Sim.arr_one (p := 4) rfl) fun n167 => ?_
     refine OpsD.late (ns := [0]) rfl rfl rfl (Y1t (gs := [cV v6, cV v166]) Ycn.h rfl rfl (One.val n167) rfl rfl) ?_
     rintro _ _ ⟨rfl, rfl⟩
     refine zw ?_
     exact ⟨((r3.1.letters ++ [e128]), v166), h, Y21.both (ns := [2, 0, 0, 1]) rfl rfl⟩
    refine Y3n.h (ns := []) rfl rfl rfl (Y39 (k := Y9c) (ys := [e128]) Ych (.agg rfl rfl .nil) rfl rfl rfl) ?_
    rintro _ _ ⟨b163, rfl, rfl⟩
    refine OpsD.one ?_
    refine Y3n.v rfl rfl (Y1k (p := 0) Ycn.h rfl rfl rfl rfl) ?_
    refine zw ?_
    refine ob' h fun u169 c168 h => ?_
    refine Y3n.h (ns := [1, 0]) rfl rfl rfl (Y2s Ych rfl rfl (Wo (Y3t c168)) (Y3w (by decide) c168) rfl) ?_
    rintro _ _ ⟨v170, rfl, rfl⟩
    refine OpsD.v rfl rfl (Y14 rfl rfl) ?_
    refine OpsD.one ?_
    refine Y3n.v rfl rfl (Y1b Yf1.h rfl rfl) ?_
    refine OpsD.learn (Sim.arr_one (p := 4) rfl) fun n171 => ?_
    refine OpsD.late (ns := [0]) rfl rfl rfl (Y1t (gs := [cV v6, cV v170]) Ycn.h rfl rfl (One.val n171) rfl rfl) ?_
    rintro _ _ ⟨rfl, rfl⟩
    refine zw ?_
    exact ⟨((r3.1.letters ++ [e128]), v170), h, Y21.both (ns := [2, 0, 0, 1]) rfl rfl⟩
   refine Y3n.h (ns := []) rfl rfl rfl (Y39 (k := Y9c) (ys := [e128]) Ych (.agg rfl rfl .nil) rfl rfl rfl) ?_
   rintro _ _ ⟨b163, rfl, rfl⟩
   refine OpsD.one ?_
   refine Y3n.v rfl rfl (Y1b Yf1.h rfl rfl) ?_
   refine OpsD.one ?_
   refine Y3n.v rfl rfl (Y1k (p := 0) Ycn.h rfl rfl rfl rfl) ?_
   refine zw ?_
   refine ob' h fun u173 c172 h => ?_
   refine Y3n.h (ns := [1, 0]) rfl rfl rfl (Y2s Ych rfl rfl (Wo (Y3t c172)) (Y3w (by decide) c172) rfl) ?_
   rintro _ _ ⟨v174, rfl, rfl⟩
   refine OpsD.v rfl rfl (Y14 rfl rfl) ?_
   refine OpsD.one ?_
   refine Y3n.v rfl rfl (Y1b Yf1.h rfl rfl) ?_
   refine OpsD.learn (Sim.arr_one (p := 4) rfl) fun n175 => ?_
   refine OpsD.late (ns := [0]) rfl rfl rfl (Y1t (gs := [cV v6, cV v174]) Ycn.h rfl rfl (One.val n175) rfl rfl) ?_
   rintro _ _ ⟨rfl, rfl⟩
   refine zw ?_
   exact ⟨((r3.1.letters ++ [e128]), v174), h, Y21.both (ns := [2, 0, 0, 1]) rfl rfl⟩
  rintro ⟨l177, v176⟩ h
  replace h : Zhu r3 l177 = some r := h
  unfold Zhu at h
  refine zw ?_
  refine ob' h fun r178 g179 h => ?_
  refine Ops.h (ns := [1, 1, 1]) rfl rfl (Y23 (Zht (TNet.mk r3.1.servers l177) _ g179) rfl rfl) ?_
  rintro _ _ ⟨_, ⟨v180, v181, rfl, rfl⟩, rfl⟩
  refine Ops.hd (ns := [4]) rfl rfl (Y1u (gs := [cV v180, cV v181, cI r178.id, cI r178.code]) Ydv.h rfl rfl rfl rfl rfl) ?_
  refine zw ?_
  refine AW.ret ?_
  rw [← Wj h]
  exact ⟨[C.agg [cV v180, cV v181, cI r178.id, cI r178.code]], _, Y21.refl _, (.cons (.cell (p := 0) rfl rfl Ydv.h rfl) .nil), [1, 1], _, _, rfl, ⟨v180, v181, rfl, rfl⟩⟩
 replace h := Y3r hb8 h
 refine zw ?_
 refine AW.ct hb8 rfl ?_
 refine zw ?_
 refine Ops.v rfl (Y38 (ds := [cV s0, cV s0, cI 0, cI r3.2]) Ydu Ydt (Y42 rfl rfl) (.one rfl (One.val rfl) rfl rfl .nil) rfl) ?_
 refine Ops.hd (ns := [0]) rfl rfl (Y1u (gs := [cV s0, cV s0, cI 0, cI r3.2]) Ydv.h rfl rfl rfl rfl rfl) ?_
 refine zw ?_
 refine AW.ret ?_
 rw [← Wj h]
 exact ⟨[C.agg [cV s0, cV s0, cI 0, cI r3.2]], _, (Y21.nilD 32 Y9j Y9k 2).trans (Y21.nil 115 Y9c 5), (.cons (.cell (p := 2) rfl rfl Ydv.h rfl) .nil), [1, 0], _, _, rfl, ⟨s0, s0, rfl, rfl⟩⟩
instance Zhw' (p0 : Y92) (p1 : Int) : Sp Tryz.prog 25 [C.agg [cM Y9i 2 p0.hubs, cM Y9c 5 p0.letters], cI p1] (Zhv p0 p1) (fun r => C.agg [cM Y9i 2 r.peers.hubs, cM Y9c 5 r.peers.letters, cI r.id, cI r.code]) := ⟨fun r h => Ok.freeze (Zhw p0 p1 r h) (by rintro c qs ⟨v182, v183, rfl, rfl⟩; exact Frz.agg (FrzL.cons (os := [_]) ((Frz.deep Yc2)) (FrzL.cons (os := [_]) (Frz.arr) (fS (fS (FrzL.nil))))))⟩

def Zhx : Option Bool := some true
def Zhy (p0 : List Int) (p1 : List Int) (x8 : Int) : Option (Int ⊕ (Bool ⊕ Unit)) := cond (decide (x8 < (p0.length : Int))) ((getI p0 x8).bind fun e10 => (getI p1 x8).bind fun e12 => cond (e10 != e12) (some (.inr (.inl false))) (some (.inl (IntKind.i64.wrap (x8 + 1))))) (some (.inr (.inr ())))
def Zhz (p0 : List Int) (p1 : List Int) : Option Bool := cond ((p0.length : Int) != (p1.length : Int)) (some false) ((iter (Zhy p0 p1) big 0).bind (fun z16 => match z16 with | .inl y15 => some y15 | .inr () => Zhx))
instance Zi0 (p0 : List Int) (p1 : List Int) : Sp Tryz.prog 35 [cM kI64 1 p0, cM kI64 1 p1] (Zhz p0 p1) C.bool := sp Tryz.func35 rfl rfl fun r X h => by
 unfold Zhz at h
 refine zw ?_
 refine cnd h (fun hb1 h => go) fun hb1 h => ?_
 refine AW.cf hb1 rfl ?_
 refine zw ?_
 refine AW.lp (v := ()) h (fun x8 (_ : Unit) => ⟨[(0, cM kI64 1 p0), (1, cM kI64 1 p1), (5, cI x8)], []⟩) (gb []) ?_
 rintro x8 _ y22 h
 refine zw ?_
 refine cnd h (fun hb9 h => ?_) fun hb9 h => ?_
 ·
  refine AW.ct hb9 rfl ?_
  refine zw ?_
  refine rD [] [3,7] [] [0,4,8,13,16,20,24,29,32] ?_
  exact go
 exact go

def Zi1 (p0 : Y8v) (p1 : Y8v) : Option Bool := cond (p0.id != p1.id) (some false) (cond (p0.room != p1.room) (some false) (cond (p0.author != p1.author) (some false) (cond (p0.kind != p1.kind) (some false) (cond (p0.key != p1.key) (some false) (cond (p0.n != p1.n) (some false) (cond (p0.text.toList == p1.text.toList) ((Zhz p0.prev p1.prev).bind fun r10 => cond r10 (cond (p0.time != p1.time) (some false) (some true)) (some false)) (some false)))))))
instance Zi2 (p0 : Y8v) (p1 : Y8v) : Sp Tryz.prog 173 [C.agg [cI p0.id, cI p0.room, cI p0.author, cI p0.kind, cI p0.key, cI p0.n, C.str p0.text, cM kI64 1 p0.prev, cI p0.time], C.agg [cI p1.id, cI p1.room, cI p1.author, cI p1.kind, cI p1.key, cI p1.n, C.str p1.text, cM kI64 1 p1.prev, cI p1.time]] (Zi1 p0 p1) C.bool := sp Tryz.func173 rfl rfl fun r X h => go

def Zi3 : Option Bool := some true
def Zi4 (p0 : List Y8v) (p1 : List Y8v) (x10 : Int) : Option (Int ⊕ (Bool ⊕ Unit)) := cond (decide (x10 < (p0.length : Int))) ((getI p0 x10).bind fun e12 => (getI p1 x10).bind fun e14 => (Zi1 e12 e14).bind fun r16 => cond r16 (some (.inl (IntKind.i64.wrap (x10 + 1)))) (some (.inr (.inl false)))) (some (.inr (.inr ())))
def Zi5 (p0 : List Y8v) (p1 : List Y8v) : Option Bool := cond ((p0.length : Int) != (p1.length : Int)) (some false) ((iter (Zi4 p0 p1) big 0).bind (fun z20 => match z20 with | .inl y19 => some y19 | .inr () => Zi3))
instance Zi6 (p0 : List Y8v) (p1 : List Y8v) : Sp Tryz.prog 209 [cM Y99 9 p0, cM Y99 9 p1] (Zi5 p0 p1) C.bool := sp Tryz.func209 rfl rfl fun r X h => by
 unfold Zi5 at h
 refine zw ?_
 refine cnd h (fun hb1 h => go) fun hb1 h => ?_
 refine AW.cf hb1 rfl ?_
 refine zw ?_
 refine AW.lp (v := ()) h (fun x10 (_ : Unit) => ⟨[(0, cM Y99 9 p0), (1, cM Y99 9 p1), (5, cI x10)], []⟩) (gb []) ?_
 rintro x10 _ y26 h
 refine zw ?_
 refine cnd h (fun hb11 h => ?_) fun hb11 h => ?_
 ·
  refine AW.ct hb11 rfl ?_
  refine zw ?_
  refine rD [] [3,7] [] [0,4,8,13,16,20,24,29,34,36] ?_
  exact go
 exact go

def Zi7 (p0 : Y90) (p1 : Y90) : Option Bool := cond (p0.room != p1.room) (some false) ((Zi5 p0.events p1.events).bind fun r4 => cond r4 ((Zi5 p0.parked p1.parked).bind fun r7 => cond r7 (some true) (some false)) (some false))
instance Zi8 (p0 : Y90) (p1 : Y90) : Sp Tryz.prog 145 [C.agg [cI p0.room, cM Y99 9 p0.events, cM Y99 9 p0.parked], C.agg [cI p1.room, cM Y99 9 p1.events, cM Y99 9 p1.parked]] (Zi7 p0 p1) C.bool := sp Tryz.func145 rfl rfl fun r X h => go

def Zi9 : Option Bool := some true
def Zia (p0 : List Y90) (p1 : List Y90) (x10 : Int) : Option (Int ⊕ (Bool ⊕ Unit)) := cond (decide (x10 < (p0.length : Int))) ((getI p0 x10).bind fun e12 => (getI p1 x10).bind fun e14 => (Zi7 e12 e14).bind fun r16 => cond r16 (some (.inl (IntKind.i64.wrap (x10 + 1)))) (some (.inr (.inl false)))) (some (.inr (.inr ())))
def Zib (p0 : List Y90) (p1 : List Y90) : Option Bool := cond ((p0.length : Int) != (p1.length : Int)) (some false) ((iter (Zia p0 p1) big 0).bind (fun z20 => match z20 with | .inl y19 => some y19 | .inr () => Zi9))
instance Zic (p0 : List Y90) (p1 : List Y90) : Sp Tryz.prog 77 [cM Y9f 3 p0, cM Y9f 3 p1] (Zib p0 p1) C.bool := sp Tryz.func77 rfl rfl fun r X h => by
 unfold Zib at h
 refine zw ?_
 refine cnd h (fun hb1 h => go) fun hb1 h => ?_
 refine AW.cf hb1 rfl ?_
 refine zw ?_
 refine AW.lp (v := ()) h (fun x10 (_ : Unit) => ⟨[(0, cM Y9f 3 p0), (1, cM Y9f 3 p1), (5, cI x10)], []⟩) (gb []) ?_
 rintro x10 _ y26 h
 refine zw ?_
 refine cnd h (fun hb11 h => ?_) fun hb11 h => ?_
 ·
  refine AW.ct hb11 rfl ?_
  refine zw ?_
  refine rD [] [3,7] [] [0,4,8,13,16,20,24,29,34,36] ?_
  exact go
 exact go

def Zid (p0 : Y8x) (p1 : Y8x) : Option Bool := cond (p0.room != p1.room) (some false) (cond (p0.id != p1.id) (some false) (some true))
instance Zie (p0 : Y8x) (p1 : Y8x) : Sp Tryz.prog 118 [C.agg [cI p0.room, cI p0.id], C.agg [cI p1.room, cI p1.id]] (Zid p0 p1) C.bool := sp Tryz.func118 rfl rfl fun r X h => go

def Zif : Option Bool := some true
def Zig (p0 : List Y8x) (p1 : List Y8x) (x10 : Int) : Option (Int ⊕ (Bool ⊕ Unit)) := cond (decide (x10 < (p0.length : Int))) ((getI p0 x10).bind fun e12 => (getI p1 x10).bind fun e14 => (Zid e12 e14).bind fun r16 => cond r16 (some (.inl (IntKind.i64.wrap (x10 + 1)))) (some (.inr (.inl false)))) (some (.inr (.inr ())))
def Zih (p0 : List Y8x) (p1 : List Y8x) : Option Bool := cond ((p0.length : Int) != (p1.length : Int)) (some false) ((iter (Zig p0 p1) big 0).bind (fun z20 => match z20 with | .inl y19 => some y19 | .inr () => Zif))
instance Zii (p0 : List Y8x) (p1 : List Y8x) : Sp Tryz.prog 51 [cM Y9b 2 p0, cM Y9b 2 p1] (Zih p0 p1) C.bool := sp Tryz.func51 rfl rfl fun r X h => by
 unfold Zih at h
 refine zw ?_
 refine cnd h (fun hb1 h => go) fun hb1 h => ?_
 refine AW.cf hb1 rfl ?_
 refine zw ?_
 refine AW.lp (v := ()) h (fun x10 (_ : Unit) => ⟨[(0, cM Y9b 2 p0), (1, cM Y9b 2 p1), (5, cI x10)], []⟩) (gb []) ?_
 rintro x10 _ y26 h
 refine zw ?_
 refine cnd h (fun hb11 h => ?_) fun hb11 h => ?_
 ·
  refine AW.ct hb11 rfl ?_
  refine zw ?_
  refine rD [] [3,7] [] [0,4,8,13,16,20,24,29,34,36] ?_
  exact go
 exact go

def Zij (p0 : Y91) (p1 : Y91) : Option Bool := (Zib p0.rooms p1.rooms).bind fun r3 => cond r3 ((Zih p0.stream p1.stream).bind fun r6 => cond r6 (some true) (some false)) (some false)
instance Zik (p0 : Y91) (p1 : Y91) : Sp Tryz.prog 18 [C.agg [cM Y9f 3 p0.rooms, cM Y9b 2 p0.stream], C.agg [cM Y9f 3 p1.rooms, cM Y9b 2 p1.stream]] (Zij p0 p1) C.bool := sp Tryz.func18 rfl rfl fun r X h => go

def Zil : Option Bool := some true
def Zim (p0 : List Y91) (p1 : List Y91) (x10 : Int) : Option (Int ⊕ (Bool ⊕ Unit)) := cond (decide (x10 < (p0.length : Int))) ((getI p0 x10).bind fun e12 => (getI p1 x10).bind fun e14 => (Zij e12 e14).bind fun r16 => cond r16 (some (.inl (IntKind.i64.wrap (x10 + 1)))) (some (.inr (.inl false)))) (some (.inr (.inr ())))
def Zin (p0 : List Y91) (p1 : List Y91) : Option Bool := cond ((p0.length : Int) != (p1.length : Int)) (some false) ((iter (Zim p0 p1) big 0).bind (fun z20 => match z20 with | .inl y19 => some y19 | .inr () => Zil))
instance Zio (p0 : List Y91) (p1 : List Y91) : Sp Tryz.prog 89 [cM Y9i 2 p0, cM Y9i 2 p1] (Zin p0 p1) C.bool := sp Tryz.func89 rfl rfl fun r X h => by
 unfold Zin at h
 refine zw ?_
 refine cnd h (fun hb1 h => go) fun hb1 h => ?_
 refine AW.cf hb1 rfl ?_
 refine zw ?_
 refine AW.lp (v := ()) h (fun x10 (_ : Unit) => ⟨[(0, cM Y9i 2 p0), (1, cM Y9i 2 p1), (5, cI x10)], []⟩) (gb []) ?_
 rintro x10 _ y26 h
 refine zw ?_
 refine cnd h (fun hb11 h => ?_) fun hb11 h => ?_
 ·
  refine AW.ct hb11 rfl ?_
  refine zw ?_
  refine rD [] [3,7] [] [0,4,8,13,16,20,24,29,34,36] ?_
  exact go
 exact go

def Zip (p0 : Y8y) (p1 : Y8y) : Option Bool := cond (p0.kind != p1.kind) (some false) (cond (p0.from_ != p1.from_) (some false) (cond (p0.to_ != p1.to_) (some false) (cond (p0.room != p1.room) (some false) (cond (p0.text.toList == p1.text.toList) (some true) (some false)))))
instance Ziq (p0 : Y8y) (p1 : Y8y) : Sp Tryz.prog 154 [C.agg [cI p0.kind, cI p0.from_, cI p0.to_, cI p0.room, C.str p0.text], C.agg [cI p1.kind, cI p1.from_, cI p1.to_, cI p1.room, C.str p1.text]] (Zip p0 p1) C.bool := sp Tryz.func154 rfl rfl fun r X h => go

def Zir : Option Bool := some true
def Zis (p0 : List Y8y) (p1 : List Y8y) (x10 : Int) : Option (Int ⊕ (Bool ⊕ Unit)) := cond (decide (x10 < (p0.length : Int))) ((getI p0 x10).bind fun e12 => (getI p1 x10).bind fun e14 => (Zip e12 e14).bind fun r16 => cond r16 (some (.inl (IntKind.i64.wrap (x10 + 1)))) (some (.inr (.inl false)))) (some (.inr (.inr ())))
def Zit (p0 : List Y8y) (p1 : List Y8y) : Option Bool := cond ((p0.length : Int) != (p1.length : Int)) (some false) ((iter (Zis p0 p1) big 0).bind (fun z20 => match z20 with | .inl y19 => some y19 | .inr () => Zir))
instance Ziu (p0 : List Y8y) (p1 : List Y8y) : Sp Tryz.prog 90 [cM Y9c 5 p0, cM Y9c 5 p1] (Zit p0 p1) C.bool := sp Tryz.func90 rfl rfl fun r X h => by
 unfold Zit at h
 refine zw ?_
 refine cnd h (fun hb1 h => go) fun hb1 h => ?_
 refine AW.cf hb1 rfl ?_
 refine zw ?_
 refine AW.lp (v := ()) h (fun x10 (_ : Unit) => ⟨[(0, cM Y9c 5 p0), (1, cM Y9c 5 p1), (5, cI x10)], []⟩) (gb []) ?_
 rintro x10 _ y26 h
 refine zw ?_
 refine cnd h (fun hb11 h => ?_) fun hb11 h => ?_
 ·
  refine AW.ct hb11 rfl ?_
  refine zw ?_
  refine rD [] [3,7] [] [0,4,8,13,16,20,24,29,34,36] ?_
  exact go
 exact go

def Ziv (p0 : Y92) (p1 : Y92) : Option Bool := (Zin p0.hubs p1.hubs).bind fun r3 => cond r3 ((Zit p0.letters p1.letters).bind fun r6 => cond r6 (some true) (some false)) (some false)
instance Ziw (p0 : Y92) (p1 : Y92) : Sp Tryz.prog 27 [C.agg [cM Y9i 2 p0.hubs, cM Y9c 5 p0.letters], C.agg [cM Y9i 2 p1.hubs, cM Y9c 5 p1.letters]] (Ziv p0 p1) C.bool := sp Tryz.func27 rfl rfl fun r X h => go

def Zix (p0 : Y96) (p1 : Y96) : Option Bool := (Ziv p0.peers p1.peers).bind fun r3 => cond r3 (cond (p0.id != p1.id) (some false) (cond (p0.code != p1.code) (some false) (some true))) (some false)
instance Ziy (p0 : Y96) (p1 : Y96) : Sp Tryz.prog 26 [C.agg [cM Y9i 2 p0.peers.hubs, cM Y9c 5 p0.peers.letters, cI p0.id, cI p0.code], C.agg [cM Y9i 2 p1.peers.hubs, cM Y9c 5 p1.peers.letters, cI p1.id, cI p1.code]] (Zix p0 p1) C.bool := sp Tryz.func26 rfl rfl fun r X h => go

def Ziz (x12 : ByteArray) : Option ByteArray := (chk (decide ((ByteArray.mk #[109]).size + x12.size ≤ 9223372036854775807))).bind fun u14 => some ((ByteArray.mk #[109]) ++ x12)
def Zj0 (x6 : Int) (x7 : ByteArray) : Option ((Int × ByteArray) ⊕ (ByteArray)) := cond (decide (x6 > 0)) ((chk (decide ((Y6w [(IntKind.u8.wrap (IntKind.i64.wrap (48 + (Int.tmod x6 10))))]).size + x7.size ≤ 9223372036854775807))).bind fun u11 => some (.inl ((IntKind.i64.wrap (Int.tdiv x6 10)), ((Y6w [(IntKind.u8.wrap (IntKind.i64.wrap (48 + (Int.tmod x6 10))))]) ++ x7)))) (some (.inr x7))
def Zj1 (p0 : Int) : Option ByteArray := cond (decide (p0 ≤ 0)) (some (ByteArray.mk #[109, 48])) ((iter (fun z15 => Zj0 z15.1 z15.2) big (p0, ByteArray.empty)).bind fun y16 => Ziz y16)
instance Zj2 (p0 : Int) : Sp Tryz.prog 125 [cI p0] (Zj1 p0) C.str := sp Tryz.func125 rfl rfl fun r X h => by
 unfold Zj1 at h
 refine zw ?_
 refine cnd h (fun hb1 h => go) fun hb1 h => ?_
 refine AW.cf hb1 rfl ?_
 refine AW.skip ?_
 refine AW.seq ?_
 refine AW.region ?_
 refine Ops.v rfl (Yr rfl rfl) ?_
 refine Ops.nil ?_
 refine AW.seq ?_
 refine AW.cut (τ := ByteArray) (fun x12 => ⟨[(3, C.str x12)], []⟩) (fun x12 => Ziz x12 = some r) ?_ ?_
 ·
  refine zw ?_
  refine AW.lp (v := ()) h (fun (x6, x7) (_ : Unit) => ⟨[(0, cI x6), (3, C.str x7)], []⟩) (gb []) ?_
  rintro ⟨x6, x7⟩ _ y22 h
  refine zw ?_
  refine cnd h (fun hb8 h => ?_) fun hb8 h => ?_
  ·
   refine AW.ct hb8 rfl ?_
   refine zw ?_
   refine Ops.v rfl (Yw rfl rfl (by decide) rfl) ?_
   refine zw ?_
   refine Ops.v rfl (Y12 un_3 un_5 rfl rfl) ?_
   refine Ops.h (ns := []) rfl rfl (Y39 (k := kU8) (ys := [(IntKind.u8.wrap (IntKind.i64.wrap (48 + (Int.tmod x6 10))))]) Yf7 (.one rfl (One.val rfl) rfl rfl .nil) rfl rfl rfl) ?_
   rintro _ _ ⟨b9, rfl, rfl⟩
   refine Ops.v rfl (Y70 (p := 0) Yf8 un_9 (fun _ => rfl) rfl rfl rfl) ?_
   refine zw ?_
   refine ob' h fun u11 c10 h => ?_
   refine Ops.v rfl (Y71 rfl rfl (Wo (Y3t c10)) rfl) ?_
   refine zw ?_
   refine Ops.v rfl (Yx rfl rfl (by decide) rfl) ?_
   exact go
  exact go
 intro x12 h
 replace h : Ziz x12 = some r := h
 unfold Ziz at h
 refine zw ?_
 refine ob' h fun u14 c13 h => ?_
 refine Ops.v rfl (Y71 rfl rfl (Wo (Y3t c13)) rfl) ?_
 exact go

def Zj3 (x10 : Int) (l11 : List Int) : Option (Int × List Int) := some (x10, l11)
def Zj4 (l4 : List Int) (x5 : Int) (x6 : Int) : Option ((List Int × Int × Int) ⊕ ((Int × List Int))) := cond (decide (x6 < (l4.length : Int))) ((getI l4 x6).bind fun e8 => some (.inl ((List.set l4 (Int.toNat x6) x5), (IntKind.i64.wrap (x5 + 1)), (IntKind.i64.wrap (x6 + 1))))) (some (.inr (x5, l4)))
def Zj5 (p0 : List Int) (p1 : Int) : Option (Int × List Int) := (iter (fun z12 => Zj4 z12.1 z12.2.1 z12.2.2) big (p0, p1, 0)).bind fun (y13, y14) => Zj3 y13 y14
theorem Zj6 {w00 : Value} (p0 : List Int) (p1 : Int) (r : Int × List Int) (h : Zj5 p0 p1 = some r) : Ok Tryz.prog 36 [cV w00, cI p1] [oA w00 2 kI64 1 p0] (fun c qs => c = cI r.1 ∧ qs = [oA w00 2 kI64 1 r.2]) := by
 refine Ok.of_body (rs := [.tmp 4]) Tryz.func36 rfl rfl rfl rfl rfl fun X => ?_
 unfold Zj5 at h
 refine AW.seq ?_
 refine AW.region ?_
 refine Ops.v rfl (Yr rfl rfl) ?_
 refine Ops.nil ?_
 refine AW.seq ?_
 refine AW.cut (τ := Int × List Int) (fun (x10, l11) => ⟨[(1, cI x10)], [oA w00 2 kI64 1 l11]⟩) (fun (x10, l11) => Zj3 x10 l11 = some r) ?_ ?_
 ·
  refine zw ?_
  refine AW.lp (v := ()) h (fun (l4, x5, x6) (_ : Unit) => ⟨[(0, cV w00), (1, cI x5), (5, cI x6)], [oA w00 2 kI64 1 l4]⟩) (gb [0]) ?_
  rintro ⟨l4, x5, x6⟩ _ y20 h
  refine zw ?_
  refine cnd h (fun hb7 h => ?_) fun hb7 h => ?_
  ·
   refine AW.ct hb7 rfl ?_
   refine zw ?_
   refine oi h fun e8 g9 h => ?_
   refine Ops.hd (ns := [0]) rfl rfl (Y33 (e' := x5) ld_2.h rfl rfl (One.val rfl) (Y29 g9).2.2 rfl rfl) ?_
   exact go
  exact go
 rintro ⟨x10, l11⟩ h
 replace h : Zj3 x10 l11 = some r := h
 unfold Zj3 at h
 refine zw ?_
 refine AW.ret ?_
 rw [← Wj h]
 exact ⟨[cI x10], _, Y21.refl _, (.cons (.tmp rfl) .nil), [0], _, _, rfl, ⟨rfl, rfl⟩⟩

def Zj7 (x52 : Int) (l53 : List Y8v) : Option (Int × List Y8v) := some (x52, l53)
def Zj8 (l25 : List Y8v) (x26 : Int) (x27 : Int) : Option ((List Y8v × Int × Int) ⊕ ((Int × List Y8v))) := cond (decide (x27 < (l25.length : Int))) ((getI l25 x27).bind fun e29 => (getI (List.set l25 (Int.toNat x27) (Y8v.mk x26 e29.room e29.author e29.kind e29.key e29.n e29.text e29.prev e29.time)) x27).bind fun e31 => (getI (List.set (List.set l25 (Int.toNat x27) (Y8v.mk x26 e29.room e29.author e29.kind e29.key e29.n e29.text e29.prev e29.time)) (Int.toNat x27) (Y8v.mk e31.id (IntKind.i64.wrap (x26 + 1)) e31.author e31.kind e31.key e31.n e31.text e31.prev e31.time)) x27).bind fun e33 => (getI (List.set (List.set (List.set l25 (Int.toNat x27) (Y8v.mk x26 e29.room e29.author e29.kind e29.key e29.n e29.text e29.prev e29.time)) (Int.toNat x27) (Y8v.mk e31.id (IntKind.i64.wrap (x26 + 1)) e31.author e31.kind e31.key e31.n e31.text e31.prev e31.time)) (Int.toNat x27) (Y8v.mk e33.id e33.room (IntKind.i64.wrap ((IntKind.i64.wrap (x26 + 1)) + 1)) e33.kind e33.key e33.n e33.text e33.prev e33.time)) x27).bind fun e35 => (getI (List.set (List.set (List.set (List.set l25 (Int.toNat x27) (Y8v.mk x26 e29.room e29.author e29.kind e29.key e29.n e29.text e29.prev e29.time)) (Int.toNat x27) (Y8v.mk e31.id (IntKind.i64.wrap (x26 + 1)) e31.author e31.kind e31.key e31.n e31.text e31.prev e31.time)) (Int.toNat x27) (Y8v.mk e33.id e33.room (IntKind.i64.wrap ((IntKind.i64.wrap (x26 + 1)) + 1)) e33.kind e33.key e33.n e33.text e33.prev e33.time)) (Int.toNat x27) (Y8v.mk e35.id e35.room e35.author (IntKind.i64.wrap ((IntKind.i64.wrap ((IntKind.i64.wrap (x26 + 1)) + 1)) + 1)) e35.key e35.n e35.text e35.prev e35.time)) x27).bind fun e37 => (getI (List.set (List.set (List.set (List.set (List.set l25 (Int.toNat x27) (Y8v.mk x26 e29.room e29.author e29.kind e29.key e29.n e29.text e29.prev e29.time)) (Int.toNat x27) (Y8v.mk e31.id (IntKind.i64.wrap (x26 + 1)) e31.author e31.kind e31.key e31.n e31.text e31.prev e31.time)) (Int.toNat x27) (Y8v.mk e33.id e33.room (IntKind.i64.wrap ((IntKind.i64.wrap (x26 + 1)) + 1)) e33.kind e33.key e33.n e33.text e33.prev e33.time)) (Int.toNat x27) (Y8v.mk e35.id e35.room e35.author (IntKind.i64.wrap ((IntKind.i64.wrap ((IntKind.i64.wrap (x26 + 1)) + 1)) + 1)) e35.key e35.n e35.text e35.prev e35.time)) (Int.toNat x27) (Y8v.mk e37.id e37.room e37.author e37.kind (IntKind.i64.wrap ((IntKind.i64.wrap ((IntKind.i64.wrap ((IntKind.i64.wrap (x26 + 1)) + 1)) + 1)) + 1)) e37.n e37.text e37.prev e37.time)) x27).bind fun e39 => (Zj1 (IntKind.i64.wrap ((IntKind.i64.wrap ((IntKind.i64.wrap ((IntKind.i64.wrap ((IntKind.i64.wrap ((IntKind.i64.wrap (x26 + 1)) + 1)) + 1)) + 1)) + 1)) + 1))).bind fun r41 => (getI (List.set (List.set (List.set (List.set (List.set (List.set l25 (Int.toNat x27) (Y8v.mk x26 e29.room e29.author e29.kind e29.key e29.n e29.text e29.prev e29.time)) (Int.toNat x27) (Y8v.mk e31.id (IntKind.i64.wrap (x26 + 1)) e31.author e31.kind e31.key e31.n e31.text e31.prev e31.time)) (Int.toNat x27) (Y8v.mk e33.id e33.room (IntKind.i64.wrap ((IntKind.i64.wrap (x26 + 1)) + 1)) e33.kind e33.key e33.n e33.text e33.prev e33.time)) (Int.toNat x27) (Y8v.mk e35.id e35.room e35.author (IntKind.i64.wrap ((IntKind.i64.wrap ((IntKind.i64.wrap (x26 + 1)) + 1)) + 1)) e35.key e35.n e35.text e35.prev e35.time)) (Int.toNat x27) (Y8v.mk e37.id e37.room e37.author e37.kind (IntKind.i64.wrap ((IntKind.i64.wrap ((IntKind.i64.wrap ((IntKind.i64.wrap (x26 + 1)) + 1)) + 1)) + 1)) e37.n e37.text e37.prev e37.time)) (Int.toNat x27) (Y8v.mk e39.id e39.room e39.author e39.kind e39.key (IntKind.i64.wrap ((IntKind.i64.wrap ((IntKind.i64.wrap ((IntKind.i64.wrap ((IntKind.i64.wrap (x26 + 1)) + 1)) + 1)) + 1)) + 1)) e39.text e39.prev e39.time)) x27).bind fun e43 => (getI (List.set (List.set (List.set (List.set (List.set (List.set (List.set l25 (Int.toNat x27) (Y8v.mk x26 e29.room e29.author e29.kind e29.key e29.n e29.text e29.prev e29.time)) (Int.toNat x27) (Y8v.mk e31.id (IntKind.i64.wrap (x26 + 1)) e31.author e31.kind e31.key e31.n e31.text e31.prev e31.time)) (Int.toNat x27) (Y8v.mk e33.id e33.room (IntKind.i64.wrap ((IntKind.i64.wrap (x26 + 1)) + 1)) e33.kind e33.key e33.n e33.text e33.prev e33.time)) (Int.toNat x27) (Y8v.mk e35.id e35.room e35.author (IntKind.i64.wrap ((IntKind.i64.wrap ((IntKind.i64.wrap (x26 + 1)) + 1)) + 1)) e35.key e35.n e35.text e35.prev e35.time)) (Int.toNat x27) (Y8v.mk e37.id e37.room e37.author e37.kind (IntKind.i64.wrap ((IntKind.i64.wrap ((IntKind.i64.wrap ((IntKind.i64.wrap (x26 + 1)) + 1)) + 1)) + 1)) e37.n e37.text e37.prev e37.time)) (Int.toNat x27) (Y8v.mk e39.id e39.room e39.author e39.kind e39.key (IntKind.i64.wrap ((IntKind.i64.wrap ((IntKind.i64.wrap ((IntKind.i64.wrap ((IntKind.i64.wrap (x26 + 1)) + 1)) + 1)) + 1)) + 1)) e39.text e39.prev e39.time)) (Int.toNat x27) (Y8v.mk e43.id e43.room e43.author e43.kind e43.key e43.n r41 e43.prev e43.time)) x27).bind fun e45 => (Zj5 e45.prev (IntKind.i64.wrap ((IntKind.i64.wrap ((IntKind.i64.wrap ((IntKind.i64.wrap ((IntKind.i64.wrap ((IntKind.i64.wrap ((IntKind.i64.wrap (x26 + 1)) + 1)) + 1)) + 1)) + 1)) + 1)) + 1))).bind fun r48 => (getI (List.set (List.set (List.set (List.set (List.set (List.set (List.set (List.set l25 (Int.toNat x27) (Y8v.mk x26 e29.room e29.author e29.kind e29.key e29.n e29.text e29.prev e29.time)) (Int.toNat x27) (Y8v.mk e31.id (IntKind.i64.wrap (x26 + 1)) e31.author e31.kind e31.key e31.n e31.text e31.prev e31.time)) (Int.toNat x27) (Y8v.mk e33.id e33.room (IntKind.i64.wrap ((IntKind.i64.wrap (x26 + 1)) + 1)) e33.kind e33.key e33.n e33.text e33.prev e33.time)) (Int.toNat x27) (Y8v.mk e35.id e35.room e35.author (IntKind.i64.wrap ((IntKind.i64.wrap ((IntKind.i64.wrap (x26 + 1)) + 1)) + 1)) e35.key e35.n e35.text e35.prev e35.time)) (Int.toNat x27) (Y8v.mk e37.id e37.room e37.author e37.kind (IntKind.i64.wrap ((IntKind.i64.wrap ((IntKind.i64.wrap ((IntKind.i64.wrap (x26 + 1)) + 1)) + 1)) + 1)) e37.n e37.text e37.prev e37.time)) (Int.toNat x27) (Y8v.mk e39.id e39.room e39.author e39.kind e39.key (IntKind.i64.wrap ((IntKind.i64.wrap ((IntKind.i64.wrap ((IntKind.i64.wrap ((IntKind.i64.wrap (x26 + 1)) + 1)) + 1)) + 1)) + 1)) e39.text e39.prev e39.time)) (Int.toNat x27) (Y8v.mk e43.id e43.room e43.author e43.kind e43.key e43.n r41 e43.prev e43.time)) (Int.toNat x27) (Y8v.mk e45.id e45.room e45.author e45.kind e45.key e45.n e45.text r48.2 e45.time)) x27).bind fun e50 => some (.inl ((List.set (List.set (List.set (List.set (List.set (List.set (List.set (List.set (List.set l25 (Int.toNat x27) (Y8v.mk x26 e29.room e29.author e29.kind e29.key e29.n e29.text e29.prev e29.time)) (Int.toNat x27) (Y8v.mk e31.id (IntKind.i64.wrap (x26 + 1)) e31.author e31.kind e31.key e31.n e31.text e31.prev e31.time)) (Int.toNat x27) (Y8v.mk e33.id e33.room (IntKind.i64.wrap ((IntKind.i64.wrap (x26 + 1)) + 1)) e33.kind e33.key e33.n e33.text e33.prev e33.time)) (Int.toNat x27) (Y8v.mk e35.id e35.room e35.author (IntKind.i64.wrap ((IntKind.i64.wrap ((IntKind.i64.wrap (x26 + 1)) + 1)) + 1)) e35.key e35.n e35.text e35.prev e35.time)) (Int.toNat x27) (Y8v.mk e37.id e37.room e37.author e37.kind (IntKind.i64.wrap ((IntKind.i64.wrap ((IntKind.i64.wrap ((IntKind.i64.wrap (x26 + 1)) + 1)) + 1)) + 1)) e37.n e37.text e37.prev e37.time)) (Int.toNat x27) (Y8v.mk e39.id e39.room e39.author e39.kind e39.key (IntKind.i64.wrap ((IntKind.i64.wrap ((IntKind.i64.wrap ((IntKind.i64.wrap ((IntKind.i64.wrap (x26 + 1)) + 1)) + 1)) + 1)) + 1)) e39.text e39.prev e39.time)) (Int.toNat x27) (Y8v.mk e43.id e43.room e43.author e43.kind e43.key e43.n r41 e43.prev e43.time)) (Int.toNat x27) (Y8v.mk e45.id e45.room e45.author e45.kind e45.key e45.n e45.text r48.2 e45.time)) (Int.toNat x27) (Y8v.mk e50.id e50.room e50.author e50.kind e50.key e50.n e50.text e50.prev r48.1)), (IntKind.i64.wrap (r48.1 + 1)), (IntKind.i64.wrap (x27 + 1))))) (some (.inr (x26, l25)))
def Zj9 (p0 : List Y8v) (p1 : Int) : Option (Int × List Y8v) := (iter (fun z54 => Zj8 z54.1 z54.2.1 z54.2.2) big (p0, p1, 0)).bind fun (y55, y56) => Zj7 y55 y56
theorem Zja {w00 : Value} (p0 : List Y8v) (p1 : Int) (r : Int × List Y8v) (h : Zj9 p0 p1 = some r) : Ok Tryz.prog 146 [cV w00, cI p1] [Obj.deep w00 136 Y9d Y9e 9 p0] (fun c qs => c = cI r.1 ∧ qs = [Obj.deep w00 136 Y9d Y9e 9 r.2]) := by
 refine Ok.of_body (rs := [.tmp 4]) Tryz.func146 rfl rfl rfl rfl rfl fun X => ?_
 unfold Zj9 at h
 refine AW.seq ?_
 refine AW.region ?_
 refine Ops.v rfl (Yr rfl rfl) ?_
 refine Ops.nil ?_
 refine AW.seq ?_
 refine AW.cut (τ := Int × List Y8v) (fun (x52, l53) => ⟨[(1, cI x52)], [Obj.deep w00 136 Y9d Y9e 9 l53]⟩) (fun (x52, l53) => Zj7 x52 l53 = some r) ?_ ?_
 ·
  refine zw ?_
  refine AW.lp (v := ()) h (fun (l25, x26, x27) (_ : Unit) => ⟨[(0, cV w00), (1, cI x26), (5, cI x27)], [Obj.deep w00 136 Y9d Y9e 9 l25]⟩) (gb [0]) ?_
  rintro ⟨l25, x26, x27⟩ _ y62 h
  refine zw ?_
  refine Ops.v rfl (Y5w (p := 0) Yb8.h rfl rfl rfl) ?_
  refine zw ?_
  refine cnd h (fun hb28 h => ?_) fun hb28 h => ?_
  ·
   refine AW.ct hb28 rfl ?_
   refine zw ?_
   refine ob' h fun e29 g30 h => ?_
   refine Ops.v rfl (Y5y (p := 0) Yb8.h rfl rfl rfl g30 rfl) ?_
   refine Ops.v rfl (Y5z (p := 0) Yan.h rfl rfl (Y29 g30).2.2 rfl) ?_
   refine Ops.hd (ns := [0]) rfl rfl (Y61 (e' := (Y8v.mk x26 e29.room e29.author e29.kind e29.key e29.n e29.text e29.prev e29.time)) ld_2.h rfl rfl (One.val rfl) (Y29 g30).2.2 (fun _ => rfl) (fun _ => rfl) (fun _ => rfl)) ?_
   refine zw ?_
   refine ob' h fun e31 g32 h => ?_
   refine Ops.v rfl (Y5y (p := 0) Yb8.h rfl rfl rfl g32 rfl) ?_
   refine Ops.v rfl (Y5z (p := 0) Yap.h rfl rfl (Y29 g32).2.2 rfl) ?_
   refine Ops.hd (ns := [0]) rfl rfl (Y61 (e' := (Y8v.mk e31.id (IntKind.i64.wrap (x26 + 1)) e31.author e31.kind e31.key e31.n e31.text e31.prev e31.time)) ld_2.h rfl rfl (One.val rfl) (Y29 g32).2.2 (fun _ => rfl) (fun _ => rfl) (fun _ => rfl)) ?_
   refine zw ?_
   refine ob' h fun e33 g34 h => ?_
   refine Ops.v rfl (Y5y (p := 0) Yb8.h rfl rfl rfl g34 rfl) ?_
   refine Ops.v rfl (Y5z (p := 0) Yar.h rfl rfl (Y29 g34).2.2 rfl) ?_
   refine Ops.hd (ns := [0]) rfl rfl (Y61 (e' := (Y8v.mk e33.id e33.room (IntKind.i64.wrap ((IntKind.i64.wrap (x26 + 1)) + 1)) e33.kind e33.key e33.n e33.text e33.prev e33.time)) ld_2.h rfl rfl (One.val rfl) (Y29 g34).2.2 (fun _ => rfl) (fun _ => rfl) (fun _ => rfl)) ?_
   refine zw ?_
   refine ob' h fun e35 g36 h => ?_
   refine Ops.v rfl (Y5y (p := 0) Yb8.h rfl rfl rfl g36 rfl) ?_
   refine Ops.v rfl (Y5z (p := 0) Yat.h rfl rfl (Y29 g36).2.2 rfl) ?_
   refine Ops.hd (ns := [0]) rfl rfl (Y61 (e' := (Y8v.mk e35.id e35.room e35.author (IntKind.i64.wrap ((IntKind.i64.wrap ((IntKind.i64.wrap (x26 + 1)) + 1)) + 1)) e35.key e35.n e35.text e35.prev e35.time)) ld_2.h rfl rfl (One.val rfl) (Y29 g36).2.2 (fun _ => rfl) (fun _ => rfl) (fun _ => rfl)) ?_
   refine zw ?_
   refine ob' h fun e37 g38 h => ?_
   refine Ops.v rfl (Y5y (p := 0) Yb8.h rfl rfl rfl g38 rfl) ?_
   refine Ops.v rfl (Y5z (p := 0) Yav.h rfl rfl (Y29 g38).2.2 rfl) ?_
   refine Ops.hd (ns := [0]) rfl rfl (Y61 (e' := (Y8v.mk e37.id e37.room e37.author e37.kind (IntKind.i64.wrap ((IntKind.i64.wrap ((IntKind.i64.wrap ((IntKind.i64.wrap (x26 + 1)) + 1)) + 1)) + 1)) e37.n e37.text e37.prev e37.time)) ld_2.h rfl rfl (One.val rfl) (Y29 g38).2.2 (fun _ => rfl) (fun _ => rfl) (fun _ => rfl)) ?_
   refine zw ?_
   refine ob' h fun e39 g40 h => ?_
   refine Ops.v rfl (Y5y (p := 0) Yb8.h rfl rfl rfl g40 rfl) ?_
   refine Ops.v rfl (Y5z (p := 0) Yax.h rfl rfl (Y29 g40).2.2 rfl) ?_
   refine Ops.hd (ns := [0]) rfl rfl (Y61 (e' := (Y8v.mk e39.id e39.room e39.author e39.kind e39.key (IntKind.i64.wrap ((IntKind.i64.wrap ((IntKind.i64.wrap ((IntKind.i64.wrap ((IntKind.i64.wrap (x26 + 1)) + 1)) + 1)) + 1)) + 1)) e39.text e39.prev e39.time)) ld_2.h rfl rfl (One.val rfl) (Y29 g40).2.2 (fun _ => rfl) (fun _ => rfl) (fun _ => rfl)) ?_
   refine zw ?_
   refine oc h fun r41 g42 h => ?_
   refine ob' h fun e43 g44 h => ?_
   refine Ops.v rfl (Y5y (p := 0) Yb8.h rfl rfl rfl g44 rfl) ?_
   refine Ops.v rfl (Y5z (p := 0) Yay.h rfl rfl (Y29 g44).2.2 rfl) ?_
   refine Ops.hd (ns := [0]) rfl rfl (Y61 (e' := (Y8v.mk e43.id e43.room e43.author e43.kind e43.key e43.n r41 e43.prev e43.time)) ld_9.h rfl rfl (One.val rfl) (Y29 g44).2.2 (fun _ => rfl) (fun _ => rfl) (fun _ => rfl)) ?_
   refine zw ?_
   refine ob' h fun e45 g46 h => ?_
   refine Ops.v rfl (Y5y (p := 0) Yb8.h rfl rfl rfl g46 rfl) ?_
   refine Ops.v rfl (Y5z (p := 0) Yaz.h rfl rfl (Y29 g46).2.2 rfl) ?_
   refine Ops.take (p := 0) rfl (Y29 g46).2.2 fun q47 => ?_
   refine Ops.v rfl (Y60 (p := 1) Y9y.h rfl rfl (Y29 g46).2.2 rfl rfl) ?_
   refine zw ?_
   refine ob' h fun r48 g49 h => ?_
   refine Ops.hd (ns := [0]) rfl rfl (Y24 (Zj6 e45.prev (IntKind.i64.wrap ((IntKind.i64.wrap ((IntKind.i64.wrap ((IntKind.i64.wrap ((IntKind.i64.wrap ((IntKind.i64.wrap ((IntKind.i64.wrap (x26 + 1)) + 1)) + 1)) + 1)) + 1)) + 1)) + 1)) _ g49) rfl rfl) ?_
   refine Ops.ghost (Y21.back (x' := (Y8v.mk e45.id e45.room e45.author e45.kind e45.key e45.n e45.text r48.2 e45.time)) (ns := [1, 0]) rfl (Y29 g46).2.2 rfl rfl) ?_
   refine zw ?_
   refine ob' h fun e50 g51 h => ?_
   refine Ops.v rfl (Y5y (p := 0) Yb8.h rfl rfl rfl g51 rfl) ?_
   refine Ops.v rfl (Y5z (p := 0) Yb1.h rfl rfl (Y29 g51).2.2 rfl) ?_
   refine Ops.hd (ns := [0]) rfl rfl (Y61 (e' := (Y8v.mk e50.id e50.room e50.author e50.kind e50.key e50.n e50.text e50.prev r48.1)) ld_2.h rfl rfl (One.val rfl) (Y29 g51).2.2 (fun _ => rfl) (fun _ => rfl) (fun _ => rfl)) ?_
   exact go
  exact go
 rintro ⟨x52, l53⟩ h
 replace h : Zj7 x52 l53 = some r := h
 unfold Zj7 at h
 refine zw ?_
 refine AW.ret ?_
 rw [← Wj h]
 exact ⟨[cI x52], _, Y21.refl _, (.cons (.tmp rfl) .nil), [0], _, _, rfl, ⟨rfl, rfl⟩⟩

def Zjb (x30 : Int) (l31 : List Y90) : Option (Int × List Y90) := some (x30, l31)
def Zjc (l14 : List Y90) (x15 : Int) (x16 : Int) : Option ((List Y90 × Int × Int) ⊕ ((Int × List Y90))) := cond (decide (x16 < (l14.length : Int))) ((getI l14 x16).bind fun e18 => (getI (List.set l14 (Int.toNat x16) (Y90.mk x15 e18.events e18.parked)) x16).bind fun e20 => (Zj9 e20.events (IntKind.i64.wrap (x15 + 1))).bind fun r23 => (getI (List.set (List.set l14 (Int.toNat x16) (Y90.mk x15 e18.events e18.parked)) (Int.toNat x16) (Y90.mk e20.room r23.2 e20.parked)) x16).bind fun e25 => (Zj9 e25.parked r23.1).bind fun r28 => some (.inl ((List.set (List.set (List.set l14 (Int.toNat x16) (Y90.mk x15 e18.events e18.parked)) (Int.toNat x16) (Y90.mk e20.room r23.2 e20.parked)) (Int.toNat x16) (Y90.mk e25.room e25.events r28.2)), r28.1, (IntKind.i64.wrap (x16 + 1))))) (some (.inr (x15, l14)))
def Zjd (p0 : List Y90) (p1 : Int) : Option (Int × List Y90) := (iter (fun z32 => Zjc z32.1 z32.2.1 z32.2.2) big (p0, p1, 0)).bind fun (y33, y34) => Zjb y33 y34
theorem Zje {w00 : Value} (p0 : List Y90) (p1 : Int) (r : Int × List Y90) (h : Zjd p0 p1 = some r) : Ok Tryz.prog 78 [cV w00, cI p1] [Obj.deep w00 139 Y9g Y9h 3 p0] (fun c qs => c = cI r.1 ∧ qs = [Obj.deep w00 139 Y9g Y9h 3 r.2]) := by
 refine Ok.of_body (rs := [.tmp 4]) Tryz.func78 rfl rfl rfl rfl rfl fun X => ?_
 unfold Zjd at h
 refine AW.seq ?_
 refine AW.region ?_
 refine Ops.v rfl (Yr rfl rfl) ?_
 refine Ops.nil ?_
 refine AW.seq ?_
 refine AW.cut (τ := Int × List Y90) (fun (x30, l31) => ⟨[(1, cI x30)], [Obj.deep w00 139 Y9g Y9h 3 l31]⟩) (fun (x30, l31) => Zjb x30 l31 = some r) ?_ ?_
 ·
  refine zw ?_
  refine AW.lp (v := ()) h (fun (l14, x15, x16) (_ : Unit) => ⟨[(0, cV w00), (1, cI x15), (5, cI x16)], [Obj.deep w00 139 Y9g Y9h 3 l14]⟩) (gb [0]) ?_
  rintro ⟨l14, x15, x16⟩ _ y40 h
  refine zw ?_
  refine Ops.v rfl (Y5w (p := 0) Ybk.h rfl rfl rfl) ?_
  refine zw ?_
  refine cnd h (fun hb17 h => ?_) fun hb17 h => ?_
  ·
   refine AW.ct hb17 rfl ?_
   refine zw ?_
   refine ob' h fun e18 g19 h => ?_
   refine Ops.v rfl (Y5y (p := 0) Ybk.h rfl rfl rfl g19 rfl) ?_
   refine Ops.v rfl (Y5z (p := 0) Ybb.h rfl rfl (Y29 g19).2.2 rfl) ?_
   refine Ops.hd (ns := [0]) rfl rfl (Y61 (e' := (Y90.mk x15 e18.events e18.parked)) ld_2.h rfl rfl (One.val rfl) (Y29 g19).2.2 (fun _ => rfl) (fun _ => rfl) (fun _ => rfl)) ?_
   refine zw ?_
   refine ob' h fun e20 g21 h => ?_
   refine Ops.v rfl (Y5y (p := 0) Ybk.h rfl rfl rfl g21 rfl) ?_
   refine Ops.v rfl (Y5z (p := 0) Ybc.h rfl rfl (Y29 g21).2.2 rfl) ?_
   refine Ops.take (p := 0) rfl (Y29 g21).2.2 fun q22 => ?_
   refine Ops.v rfl (Y60 (p := 2) Ybd.h rfl rfl (Y29 g21).2.2 rfl rfl) ?_
   refine zw ?_
   refine ob' h fun r23 g24 h => ?_
   refine Ops.hd (ns := [0]) rfl rfl (Y24 (Zja e20.events (IntKind.i64.wrap (x15 + 1)) _ g24) rfl rfl) ?_
   refine Ops.ghost (Y21.back (x' := (Y90.mk e20.room r23.2 e20.parked)) (ns := [2, 0, 0]) rfl (Y29 g21).2.2 rfl rfl) ?_
   refine zw ?_
   refine ob' h fun e25 g26 h => ?_
   refine Ops.v rfl (Y5y (p := 0) Ybk.h rfl rfl rfl g26 rfl) ?_
   refine Ops.v rfl (Y5z (p := 0) Ybe.h rfl rfl (Y29 g26).2.2 rfl) ?_
   refine Ops.take (p := 0) rfl (Y29 g26).2.2 fun q27 => ?_
   refine Ops.v rfl (Y60 (p := 2) Ybd.h rfl rfl (Y29 g26).2.2 rfl rfl) ?_
   refine zw ?_
   refine ob' h fun r28 g29 h => ?_
   refine Ops.hd (ns := [1]) rfl rfl (Y24 (Zja e25.parked r23.1 _ g29) rfl rfl) ?_
   refine Ops.ghost (Y21.back (x' := (Y90.mk e25.room e25.events r28.2)) (ns := [2, 1, 0]) rfl (Y29 g26).2.2 rfl rfl) ?_
   exact go
  exact go
 rintro ⟨x30, l31⟩ h
 replace h : Zjb x30 l31 = some r := h
 unfold Zjb at h
 refine zw ?_
 refine AW.ret ?_
 rw [← Wj h]
 exact ⟨[cI x30], _, Y21.refl _, (.cons (.tmp rfl) .nil), [0], _, _, rfl, ⟨rfl, rfl⟩⟩

def Zjf (x14 : Int) (l15 : List Y8x) : Option (Int × List Y8x) := some (x14, l15)
def Zjg (l6 : List Y8x) (x7 : Int) (x8 : Int) : Option ((List Y8x × Int × Int) ⊕ ((Int × List Y8x))) := cond (decide (x8 < (l6.length : Int))) ((getI l6 x8).bind fun e10 => (getI (List.set l6 (Int.toNat x8) (Y8x.mk x7 e10.id)) x8).bind fun e12 => some (.inl ((List.set (List.set l6 (Int.toNat x8) (Y8x.mk x7 e10.id)) (Int.toNat x8) (Y8x.mk e12.room (IntKind.i64.wrap (x7 + 1)))), (IntKind.i64.wrap ((IntKind.i64.wrap (x7 + 1)) + 1)), (IntKind.i64.wrap (x8 + 1))))) (some (.inr (x7, l6)))
def Zjh (p0 : List Y8x) (p1 : Int) : Option (Int × List Y8x) := (iter (fun z16 => Zjg z16.1 z16.2.1 z16.2.2) big (p0, p1, 0)).bind fun (y17, y18) => Zjf y17 y18
theorem Zji {w00 : Value} (p0 : List Y8x) (p1 : Int) (r : Int × List Y8x) (h : Zjh p0 p1 = some r) : Ok Tryz.prog 52 [cV w00, cI p1] [oA w00 142 Y9b 2 p0] (fun c qs => c = cI r.1 ∧ qs = [oA w00 142 Y9b 2 r.2]) := by
 refine Ok.of_body (rs := [.tmp 4]) Tryz.func52 rfl rfl rfl rfl rfl fun X => ?_
 unfold Zjh at h
 refine AW.seq ?_
 refine AW.region ?_
 refine Ops.v rfl (Yr rfl rfl) ?_
 refine Ops.nil ?_
 refine AW.seq ?_
 refine AW.cut (τ := Int × List Y8x) (fun (x14, l15) => ⟨[(1, cI x14)], [oA w00 142 Y9b 2 l15]⟩) (fun (x14, l15) => Zjf x14 l15 = some r) ?_ ?_
 ·
  refine zw ?_
  refine AW.lp (v := ()) h (fun (l6, x7, x8) (_ : Unit) => ⟨[(0, cV w00), (1, cI x7), (5, cI x8)], [oA w00 142 Y9b 2 l6]⟩) (gb [0]) ?_
  rintro ⟨l6, x7, x8⟩ _ y24 h
  refine zw ?_
  refine cnd h (fun hb9 h => ?_) fun hb9 h => ?_
  ·
   refine AW.ct hb9 rfl ?_
   refine zw ?_
   refine oi h fun e10 g11 h => ?_
   refine Ops.v rfl (Y2y (p := 0) Ybn.h rfl rfl (Y29 g11).2.2 rfl) ?_
   refine Ops.hd (ns := [0]) rfl rfl (Y33 (e' := (Y8x.mk x7 e10.id)) ld_2.h rfl rfl (One.val rfl) (Y29 g11).2.2 rfl rfl) ?_
   refine zw ?_
   refine oi h fun e12 g13 h => ?_
   refine Ops.v rfl (Y2y (p := 0) Ybp.h rfl rfl (Y29 g13).2.2 rfl) ?_
   refine Ops.hd (ns := [0]) rfl rfl (Y33 (e' := (Y8x.mk e12.room (IntKind.i64.wrap (x7 + 1)))) ld_2.h rfl rfl (One.val rfl) (Y29 g13).2.2 rfl rfl) ?_
   exact go
  exact go
 rintro ⟨x14, l15⟩ h
 replace h : Zjf x14 l15 = some r := h
 unfold Zjf at h
 refine zw ?_
 refine AW.ret ?_
 rw [← Wj h]
 exact ⟨[cI x14], _, Y21.refl _, (.cons (.tmp rfl) .nil), [0], _, _, rfl, ⟨rfl, rfl⟩⟩

def Zjj (x26 : Int) (l27 : List Y91) : Option (Int × List Y91) := some (x26, l27)
def Zjk (l12 : List Y91) (x13 : Int) (x14 : Int) : Option ((List Y91 × Int × Int) ⊕ ((Int × List Y91))) := cond (decide (x14 < (l12.length : Int))) ((getI l12 x14).bind fun e16 => (Zjd e16.rooms x13).bind fun r19 => (getI (List.set l12 (Int.toNat x14) (Y91.mk r19.2 e16.stream)) x14).bind fun e21 => (Zjh e21.stream r19.1).bind fun r24 => some (.inl ((List.set (List.set l12 (Int.toNat x14) (Y91.mk r19.2 e16.stream)) (Int.toNat x14) (Y91.mk e21.rooms r24.2)), r24.1, (IntKind.i64.wrap (x14 + 1))))) (some (.inr (x13, l12)))
def Zjl (p0 : List Y91) (p1 : Int) : Option (Int × List Y91) := (iter (fun z28 => Zjk z28.1 z28.2.1 z28.2.2) big (p0, p1, 0)).bind fun (y29, y30) => Zjj y29 y30
theorem Zjm {w00 : Value} (p0 : List Y91) (p1 : Int) (r : Int × List Y91) (h : Zjl p0 p1 = some r) : Ok Tryz.prog 91 [cV w00, cI p1] [Obj.deep w00 32 Y9j Y9k 2 p0] (fun c qs => c = cI r.1 ∧ qs = [Obj.deep w00 32 Y9j Y9k 2 r.2]) := by
 refine Ok.of_body (rs := [.tmp 4]) Tryz.func91 rfl rfl rfl rfl rfl fun X => ?_
 unfold Zjl at h
 refine AW.seq ?_
 refine AW.region ?_
 refine Ops.v rfl (Yr rfl rfl) ?_
 refine Ops.nil ?_
 refine AW.seq ?_
 refine AW.cut (τ := Int × List Y91) (fun (x26, l27) => ⟨[(1, cI x26)], [Obj.deep w00 32 Y9j Y9k 2 l27]⟩) (fun (x26, l27) => Zjj x26 l27 = some r) ?_ ?_
 ·
  refine zw ?_
  refine AW.lp (v := ()) h (fun (l12, x13, x14) (_ : Unit) => ⟨[(0, cV w00), (1, cI x13), (5, cI x14)], [Obj.deep w00 32 Y9j Y9k 2 l12]⟩) (gb [0]) ?_
  rintro ⟨l12, x13, x14⟩ _ y36 h
  refine zw ?_
  refine Ops.v rfl (Y5w (p := 0) Yc5.h rfl rfl rfl) ?_
  refine zw ?_
  refine cnd h (fun hb15 h => ?_) fun hb15 h => ?_
  ·
   refine AW.ct hb15 rfl ?_
   refine zw ?_
   refine ob' h fun e16 g17 h => ?_
   refine Ops.v rfl (Y5y (p := 0) Yc5.h rfl rfl rfl g17 rfl) ?_
   refine Ops.v rfl (Y5z (p := 0) Ybv.h rfl rfl (Y29 g17).2.2 rfl) ?_
   refine Ops.take (p := 0) rfl (Y29 g17).2.2 fun q18 => ?_
   refine Ops.v rfl (Y60 (p := 2) Ybw.h rfl rfl (Y29 g17).2.2 rfl rfl) ?_
   refine zw ?_
   refine ob' h fun r19 g20 h => ?_
   refine Ops.hd (ns := [0]) rfl rfl (Y24 (Zje e16.rooms x13 _ g20) rfl rfl) ?_
   refine Ops.ghost (Y21.back (x' := (Y91.mk r19.2 e16.stream)) (ns := [2, 0, 0]) rfl (Y29 g17).2.2 rfl rfl) ?_
   refine zw ?_
   refine ob' h fun e21 g22 h => ?_
   refine Ops.v rfl (Y5y (p := 0) Yc5.h rfl rfl rfl g22 rfl) ?_
   refine Ops.v rfl (Y5z (p := 0) Ybx.h rfl rfl (Y29 g22).2.2 rfl) ?_
   refine Ops.take (p := 0) rfl (Y29 g22).2.2 fun q23 => ?_
   refine Ops.v rfl (Y60 (p := 2) Yby.h rfl rfl (Y29 g22).2.2 rfl rfl) ?_
   refine zw ?_
   refine ob' h fun r24 g25 h => ?_
   refine Ops.hd (ns := [1]) rfl rfl (Y24 (Zji e21.stream r19.1 _ g25) rfl rfl) ?_
   refine Ops.ghost (Y21.back (x' := (Y91.mk e21.rooms r24.2)) (ns := [2, 1, 0]) rfl (Y29 g22).2.2 rfl rfl) ?_
   exact go
  exact go
 rintro ⟨x26, l27⟩ h
 replace h : Zjj x26 l27 = some r := h
 unfold Zjj at h
 refine zw ?_
 refine AW.ret ?_
 rw [← Wj h]
 exact ⟨[cI x26], _, Y21.refl _, (.cons (.tmp rfl) .nil), [0], _, _, rfl, ⟨rfl, rfl⟩⟩

def Zjn (x30 : Int) (l31 : List Y8y) : Option (Int × List Y8y) := some (x30, l31)
def Zjo (l14 : List Y8y) (x15 : Int) (x16 : Int) : Option ((List Y8y × Int × Int) ⊕ ((Int × List Y8y))) := cond (decide (x16 < (l14.length : Int))) ((getI l14 x16).bind fun e18 => (getI (List.set l14 (Int.toNat x16) (Y8y.mk x15 e18.from_ e18.to_ e18.room e18.text)) x16).bind fun e20 => (getI (List.set (List.set l14 (Int.toNat x16) (Y8y.mk x15 e18.from_ e18.to_ e18.room e18.text)) (Int.toNat x16) (Y8y.mk e20.kind (IntKind.i64.wrap (x15 + 1)) e20.to_ e20.room e20.text)) x16).bind fun e22 => (getI (List.set (List.set (List.set l14 (Int.toNat x16) (Y8y.mk x15 e18.from_ e18.to_ e18.room e18.text)) (Int.toNat x16) (Y8y.mk e20.kind (IntKind.i64.wrap (x15 + 1)) e20.to_ e20.room e20.text)) (Int.toNat x16) (Y8y.mk e22.kind e22.from_ (IntKind.i64.wrap ((IntKind.i64.wrap (x15 + 1)) + 1)) e22.room e22.text)) x16).bind fun e24 => (Zj1 (IntKind.i64.wrap ((IntKind.i64.wrap ((IntKind.i64.wrap ((IntKind.i64.wrap (x15 + 1)) + 1)) + 1)) + 1))).bind fun r26 => (getI (List.set (List.set (List.set (List.set l14 (Int.toNat x16) (Y8y.mk x15 e18.from_ e18.to_ e18.room e18.text)) (Int.toNat x16) (Y8y.mk e20.kind (IntKind.i64.wrap (x15 + 1)) e20.to_ e20.room e20.text)) (Int.toNat x16) (Y8y.mk e22.kind e22.from_ (IntKind.i64.wrap ((IntKind.i64.wrap (x15 + 1)) + 1)) e22.room e22.text)) (Int.toNat x16) (Y8y.mk e24.kind e24.from_ e24.to_ (IntKind.i64.wrap ((IntKind.i64.wrap ((IntKind.i64.wrap (x15 + 1)) + 1)) + 1)) e24.text)) x16).bind fun e28 => some (.inl ((List.set (List.set (List.set (List.set (List.set l14 (Int.toNat x16) (Y8y.mk x15 e18.from_ e18.to_ e18.room e18.text)) (Int.toNat x16) (Y8y.mk e20.kind (IntKind.i64.wrap (x15 + 1)) e20.to_ e20.room e20.text)) (Int.toNat x16) (Y8y.mk e22.kind e22.from_ (IntKind.i64.wrap ((IntKind.i64.wrap (x15 + 1)) + 1)) e22.room e22.text)) (Int.toNat x16) (Y8y.mk e24.kind e24.from_ e24.to_ (IntKind.i64.wrap ((IntKind.i64.wrap ((IntKind.i64.wrap (x15 + 1)) + 1)) + 1)) e24.text)) (Int.toNat x16) (Y8y.mk e28.kind e28.from_ e28.to_ e28.room r26)), (IntKind.i64.wrap ((IntKind.i64.wrap ((IntKind.i64.wrap ((IntKind.i64.wrap ((IntKind.i64.wrap (x15 + 1)) + 1)) + 1)) + 1)) + 1)), (IntKind.i64.wrap (x16 + 1))))) (some (.inr (x15, l14)))
def Zjp (p0 : List Y8y) (p1 : Int) : Option (Int × List Y8y) := (iter (fun z32 => Zjo z32.1 z32.2.1 z32.2.2) big (p0, p1, 0)).bind fun (y33, y34) => Zjn y33 y34
theorem Zjq {w00 : Value} (p0 : List Y8y) (p1 : Int) (r : Int × List Y8y) (h : Zjp p0 p1 = some r) : Ok Tryz.prog 92 [cV w00, cI p1] [oA w00 115 Y9c 5 p0] (fun c qs => c = cI r.1 ∧ qs = [oA w00 115 Y9c 5 r.2]) := by
 refine Ok.of_body (rs := [.tmp 4]) Tryz.func92 rfl rfl rfl rfl rfl fun X => ?_
 unfold Zjp at h
 refine AW.seq ?_
 refine AW.region ?_
 refine Ops.v rfl (Yr rfl rfl) ?_
 refine Ops.nil ?_
 refine AW.seq ?_
 refine AW.cut (τ := Int × List Y8y) (fun (x30, l31) => ⟨[(1, cI x30)], [oA w00 115 Y9c 5 l31]⟩) (fun (x30, l31) => Zjn x30 l31 = some r) ?_ ?_
 ·
  refine zw ?_
  refine AW.lp (v := ()) h (fun (l14, x15, x16) (_ : Unit) => ⟨[(0, cV w00), (1, cI x15), (5, cI x16)], [oA w00 115 Y9c 5 l14]⟩) (gb [0]) ?_
  rintro ⟨l14, x15, x16⟩ _ y40 h
  refine zw ?_
  refine cnd h (fun hb17 h => ?_) fun hb17 h => ?_
  ·
   refine AW.ct hb17 rfl ?_
   refine zw ?_
   refine oi h fun e18 g19 h => ?_
   refine Ops.v rfl (Y2y (p := 0) Yc8.h rfl rfl (Y29 g19).2.2 rfl) ?_
   refine Ops.hd (ns := [0]) rfl rfl (Y33 (e' := (Y8y.mk x15 e18.from_ e18.to_ e18.room e18.text)) ld_2.h rfl rfl (One.val rfl) (Y29 g19).2.2 rfl rfl) ?_
   refine zw ?_
   refine oi h fun e20 g21 h => ?_
   refine Ops.v rfl (Y2y (p := 0) Yca.h rfl rfl (Y29 g21).2.2 rfl) ?_
   refine Ops.hd (ns := [0]) rfl rfl (Y33 (e' := (Y8y.mk e20.kind (IntKind.i64.wrap (x15 + 1)) e20.to_ e20.room e20.text)) ld_2.h rfl rfl (One.val rfl) (Y29 g21).2.2 rfl rfl) ?_
   refine zw ?_
   refine oi h fun e22 g23 h => ?_
   refine Ops.v rfl (Y2y (p := 0) Ycc.h rfl rfl (Y29 g23).2.2 rfl) ?_
   refine Ops.hd (ns := [0]) rfl rfl (Y33 (e' := (Y8y.mk e22.kind e22.from_ (IntKind.i64.wrap ((IntKind.i64.wrap (x15 + 1)) + 1)) e22.room e22.text)) ld_2.h rfl rfl (One.val rfl) (Y29 g23).2.2 rfl rfl) ?_
   refine zw ?_
   refine oi h fun e24 g25 h => ?_
   refine Ops.v rfl (Y2y (p := 0) Yce.h rfl rfl (Y29 g25).2.2 rfl) ?_
   refine Ops.hd (ns := [0]) rfl rfl (Y33 (e' := (Y8y.mk e24.kind e24.from_ e24.to_ (IntKind.i64.wrap ((IntKind.i64.wrap ((IntKind.i64.wrap (x15 + 1)) + 1)) + 1)) e24.text)) ld_2.h rfl rfl (One.val rfl) (Y29 g25).2.2 rfl rfl) ?_
   refine zw ?_
   refine oc h fun r26 g27 h => ?_
   refine oi h fun e28 g29 h => ?_
   refine Ops.v rfl (Y2y (p := 0) Ycf.h rfl rfl (Y29 g29).2.2 rfl) ?_
   refine Ops.hd (ns := [0]) rfl rfl (Y33 (e' := (Y8y.mk e28.kind e28.from_ e28.to_ e28.room r26)) ld_9.h rfl rfl (One.val rfl) (Y29 g29).2.2 rfl rfl) ?_
   exact go
  exact go
 rintro ⟨x30, l31⟩ h
 replace h : Zjn x30 l31 = some r := h
 unfold Zjn at h
 refine zw ?_
 refine AW.ret ?_
 rw [← Wj h]
 exact ⟨[cI x30], _, Y21.refl _, (.cons (.tmp rfl) .nil), [0], _, _, rfl, ⟨rfl, rfl⟩⟩

def Zjr (p0 : Y92) (p1 : Int) : Option (Int × List Y91 × List Y8y) := (Zjl p0.hubs p1).bind fun r2 => (Zjp p0.letters r2.1).bind fun r4 => some (r4.1, r2.2, r4.2)
theorem Zjs {w00 : Value} {w01 : Value} (p0 : Y92) (p1 : Int) (r : Int × List Y91 × List Y8y) (h : Zjr p0 p1 = some r) : Ok Tryz.prog 28 [C.agg [cV w00, cV w01], cI p1] [Obj.deep w00 32 Y9j Y9k 2 p0.hubs, oA w01 115 Y9c 5 p0.letters] (fun c qs => c = cI r.1 ∧ qs = [Obj.deep w00 32 Y9j Y9k 2 r.2.1, oA w01 115 Y9c 5 r.2.2]) := by
 refine Ok.of_body (rs := [.tmp 4]) Tryz.func28 rfl rfl rfl rfl rfl fun X => ?_
 unfold Zjr at h
 refine zw ?_
 refine ox fun b1 => ?_
 refine zw ?_
 refine ob' h fun r2 g3 h => ?_
 refine Ops.hd (ns := [1]) rfl rfl (Y24 (Zjm p0.hubs p1 _ g3) rfl rfl) ?_
 refine zw ?_
 refine ob' h fun r4 g5 h => ?_
 refine Ops.hd (ns := [2]) rfl rfl (Y24 (Zjq p0.letters r2.1 _ g5) rfl rfl) ?_
 refine zw ?_
 refine AW.ret ?_
 rw [← Wj h]
 exact ⟨[cI r4.1], _, Y21.refl _, (.cons (.tmp rfl) .nil), [1, 0], _, _, rfl, ⟨rfl, rfl⟩⟩

def Zjt (p0 : Y96) (p1 : Int) : Option (Int × List Y91 × List Y8y) := (Zjr p0.peers p1).bind fun r2 => some (r2.1, r2.2.1, r2.2.2)
theorem Zju {w00 : Value} {w01 : Value} (p0 : Y96) (p1 : Int) (r : Int × List Y91 × List Y8y) (h : Zjt p0 p1 = some r) : Ok Tryz.prog 29 [C.agg [cV w00, cV w01, cI p0.id, cI p0.code], cI p1] [Obj.deep w00 32 Y9j Y9k 2 p0.peers.hubs, oA w01 115 Y9c 5 p0.peers.letters] (fun c qs => c = cI r.1 ∧ qs = [Obj.deep w00 32 Y9j Y9k 2 r.2.1, oA w01 115 Y9c 5 r.2.2]) := by
 refine Ok.of_body (rs := [.tmp 4]) Tryz.func29 rfl rfl rfl rfl rfl fun X => ?_
 unfold Zjt at h
 refine zw ?_
 refine ox fun b1 => ?_
 refine zw ?_
 refine ob' h fun r2 g3 h => ?_
 refine Ops.hd (ns := [1, 1]) rfl rfl (Y24 (Zjs p0.peers p1 _ g3) rfl rfl) ?_
 refine zw ?_
 refine AW.ret ?_
 rw [← Wj h]
 exact ⟨[cI r2.1], _, Y21.refl _, (.cons (.tmp rfl) .nil), [0, 0], _, _, rfl, ⟨rfl, rfl⟩⟩

def Zjv (x11 : Int) : Option Int := some x11
def Zjw (p0 : List Int) (x5 : Int) (x6 : Int) : Option ((Int × Int) ⊕ (Int ⊕ Int)) := cond (decide (x6 < (p0.length : Int))) ((getI p0 x6).bind fun e8 => cond (e8 != x5) (some (.inr (.inl (-1)))) (some (.inl ((IntKind.i64.wrap (x5 + 1)), (IntKind.i64.wrap (x6 + 1)))))) (some (.inr (.inr x5)))
def Zjx (p0 : List Int) (p1 : Int) : Option Int := (iter (fun z12 => Zjw p0 z12.1 z12.2) big (p1, 0)).bind (fun z15 => match z15 with | .inl y13 => some y13 | .inr y14 => Zjv y14)
instance Zjy (p0 : List Int) (p1 : Int) : Sp Tryz.prog 37 [cM kI64 1 p0, cI p1] (Zjx p0 p1) cI := sp Tryz.func37 rfl rfl fun r X h => by
 unfold Zjx at h
 refine zw ?_
 refine AW.lp (v := ()) h (fun (x5, x6) (_ : Unit) => ⟨[(0, cM kI64 1 p0), (1, cI x5), (5, cI x6)], []⟩) (gb []) ?_
 rintro ⟨x5, x6⟩ _ y21 h
 exact go

def Zjz (x35 : Int) : Option Int := some x35
def Zk0 (p0 : List Y8v) (x17 : Int) (x18 : Int) : Option ((Int × Int) ⊕ (Int ⊕ Int)) := cond (decide (x18 < (p0.length : Int))) ((getI p0 x18).bind fun e20 => cond (e20.id != x17) (some (.inr (.inl (-1)))) (cond (e20.room != (IntKind.i64.wrap (x17 + 1))) (some (.inr (.inl (-1)))) (cond (e20.author != (IntKind.i64.wrap ((IntKind.i64.wrap (x17 + 1)) + 1))) (some (.inr (.inl (-1)))) (cond (e20.kind != (IntKind.i64.wrap ((IntKind.i64.wrap ((IntKind.i64.wrap (x17 + 1)) + 1)) + 1))) (some (.inr (.inl (-1)))) (cond (e20.key != (IntKind.i64.wrap ((IntKind.i64.wrap ((IntKind.i64.wrap ((IntKind.i64.wrap (x17 + 1)) + 1)) + 1)) + 1))) (some (.inr (.inl (-1)))) (cond (e20.n != (IntKind.i64.wrap ((IntKind.i64.wrap ((IntKind.i64.wrap ((IntKind.i64.wrap ((IntKind.i64.wrap (x17 + 1)) + 1)) + 1)) + 1)) + 1))) (some (.inr (.inl (-1)))) ((Zj1 (IntKind.i64.wrap ((IntKind.i64.wrap ((IntKind.i64.wrap ((IntKind.i64.wrap ((IntKind.i64.wrap ((IntKind.i64.wrap (x17 + 1)) + 1)) + 1)) + 1)) + 1)) + 1))).bind fun r28 => cond (e20.text.toList == r28.toList) ((Zjx e20.prev (IntKind.i64.wrap ((IntKind.i64.wrap ((IntKind.i64.wrap ((IntKind.i64.wrap ((IntKind.i64.wrap ((IntKind.i64.wrap ((IntKind.i64.wrap (x17 + 1)) + 1)) + 1)) + 1)) + 1)) + 1)) + 1))).bind fun r31 => cond (decide (r31 < 0)) (some (.inr (.inl (-1)))) (cond (e20.time != r31) (some (.inr (.inl (-1)))) (some (.inl ((IntKind.i64.wrap (r31 + 1)), (IntKind.i64.wrap (x18 + 1))))))) (some (.inr (.inl (-1))))))))))) (some (.inr (.inr x17)))
def Zk1 (p0 : List Y8v) (p1 : Int) : Option Int := (iter (fun z36 => Zk0 p0 z36.1 z36.2) big (p1, 0)).bind (fun z39 => match z39 with | .inl y37 => some y37 | .inr y38 => Zjz y38)
instance Zk2 (p0 : List Y8v) (p1 : Int) : Sp Tryz.prog 262 [cM Y99 9 p0, cI p1] (Zk1 p0 p1) cI := sp Tryz.func262 rfl rfl fun r X h => by
 unfold Zk1 at h
 refine zw ?_
 refine AW.lp (v := ()) h (fun (x17, x18) (_ : Unit) => ⟨[(0, cM Y99 9 p0), (1, cI x17), (5, cI x18)], []⟩) (gb []) ?_
 rintro ⟨x17, x18⟩ _ y45 h
 refine zw ?_
 refine cnd h (fun hb19 h => ?_) fun hb19 h => ?_
 ·
  refine AW.ct hb19 rfl ?_
  refine zw ?_
  refine oi h fun e20 g21 h => ?_
  refine zw ?_
  refine cnd h (fun hb22 h => go) fun hb22 h => ?_
  refine AW.cf hb22 rfl ?_
  refine zw ?_
  refine cnd h (fun hb23 h => go) fun hb23 h => ?_
  refine AW.cf hb23 rfl ?_
  refine zw ?_
  refine cnd h (fun hb24 h => go) fun hb24 h => ?_
  refine AW.cf hb24 rfl ?_
  refine zw ?_
  refine cnd h (fun hb25 h => go) fun hb25 h => ?_
  refine AW.cf hb25 rfl ?_
  refine zw ?_
  refine cnd h (fun hb26 h => go) fun hb26 h => ?_
  refine AW.cf hb26 rfl ?_
  refine zw ?_
  refine cnd h (fun hb27 h => go) fun hb27 h => ?_
  refine AW.cf hb27 rfl ?_
  refine zw ?_
  refine rD [] [4] [] [0,4,8,12,17,20,26,28] ?_
  exact go
 exact go

def Zk3 (x23 : Int) : Option Int := some x23
def Zk4 (p0 : List Y90) (x11 : Int) (x12 : Int) : Option ((Int × Int) ⊕ (Int ⊕ Int)) := cond (decide (x12 < (p0.length : Int))) ((getI p0 x12).bind fun e14 => cond (e14.room != x11) (some (.inr (.inl (-1)))) ((Zk1 e14.events (IntKind.i64.wrap (x11 + 1))).bind fun r17 => cond (decide (r17 < 0)) (some (.inr (.inl (-1)))) ((Zk1 e14.parked r17).bind fun r20 => cond (decide (r20 < 0)) (some (.inr (.inl (-1)))) (some (.inl (r20, (IntKind.i64.wrap (x12 + 1)))))))) (some (.inr (.inr x11)))
def Zk5 (p0 : List Y90) (p1 : Int) : Option Int := (iter (fun z24 => Zk4 p0 z24.1 z24.2) big (p1, 0)).bind (fun z27 => match z27 with | .inl y25 => some y25 | .inr y26 => Zk3 y26)
instance Zk6 (p0 : List Y90) (p1 : Int) : Sp Tryz.prog 219 [cM Y9f 3 p0, cI p1] (Zk5 p0 p1) cI := sp Tryz.func219 rfl rfl fun r X h => by
 unfold Zk5 at h
 refine zw ?_
 refine AW.lp (v := ()) h (fun (x11, x12) (_ : Unit) => ⟨[(0, cM Y9f 3 p0), (1, cI x11), (5, cI x12)], []⟩) (gb []) ?_
 rintro ⟨x11, x12⟩ _ y33 h
 exact go

def Zk7 (x13 : Int) : Option Int := some x13
def Zk8 (p0 : List Y8x) (x6 : Int) (x7 : Int) : Option ((Int × Int) ⊕ (Int ⊕ Int)) := cond (decide (x7 < (p0.length : Int))) ((getI p0 x7).bind fun e9 => cond (e9.room != x6) (some (.inr (.inl (-1)))) (cond (e9.id != (IntKind.i64.wrap (x6 + 1))) (some (.inr (.inl (-1)))) (some (.inl ((IntKind.i64.wrap ((IntKind.i64.wrap (x6 + 1)) + 1)), (IntKind.i64.wrap (x7 + 1))))))) (some (.inr (.inr x6)))
def Zk9 (p0 : List Y8x) (p1 : Int) : Option Int := (iter (fun z14 => Zk8 p0 z14.1 z14.2) big (p1, 0)).bind (fun z17 => match z17 with | .inl y15 => some y15 | .inr y16 => Zk7 y16)
instance Zka (p0 : List Y8x) (p1 : Int) : Sp Tryz.prog 53 [cM Y9b 2 p0, cI p1] (Zk9 p0 p1) cI := sp Tryz.func53 rfl rfl fun r X h => by
 unfold Zk9 at h
 refine zw ?_
 refine AW.lp (v := ()) h (fun (x6, x7) (_ : Unit) => ⟨[(0, cM Y9b 2 p0), (1, cI x6), (5, cI x7)], []⟩) (gb []) ?_
 rintro ⟨x6, x7⟩ _ y23 h
 exact go

def Zkb (x21 : Int) : Option Int := some x21
def Zkc (p0 : List Y91) (x10 : Int) (x11 : Int) : Option ((Int × Int) ⊕ (Int ⊕ Int)) := cond (decide (x11 < (p0.length : Int))) ((getI p0 x11).bind fun e13 => (Zk5 e13.rooms x10).bind fun r15 => cond (decide (r15 < 0)) (some (.inr (.inl (-1)))) ((Zk9 e13.stream r15).bind fun r18 => cond (decide (r18 < 0)) (some (.inr (.inl (-1)))) (some (.inl (r18, (IntKind.i64.wrap (x11 + 1))))))) (some (.inr (.inr x10)))
def Zkd (p0 : List Y91) (p1 : Int) : Option Int := (iter (fun z22 => Zkc p0 z22.1 z22.2) big (p1, 0)).bind (fun z25 => match z25 with | .inl y23 => some y23 | .inr y24 => Zkb y24)
instance Zke (p0 : List Y91) (p1 : Int) : Sp Tryz.prog 155 [cM Y9i 2 p0, cI p1] (Zkd p0 p1) cI := sp Tryz.func155 rfl rfl fun r X h => by
 unfold Zkd at h
 refine zw ?_
 refine AW.lp (v := ()) h (fun (x10, x11) (_ : Unit) => ⟨[(0, cM Y9i 2 p0), (1, cI x10), (5, cI x11)], []⟩) (gb []) ?_
 rintro ⟨x10, x11⟩ _ y31 h
 exact go

def Zkf (x23 : Int) : Option Int := some x23
def Zkg (p0 : List Y8y) (x11 : Int) (x12 : Int) : Option ((Int × Int) ⊕ (Int ⊕ Int)) := cond (decide (x12 < (p0.length : Int))) ((getI p0 x12).bind fun e14 => cond (e14.kind != x11) (some (.inr (.inl (-1)))) (cond (e14.from_ != (IntKind.i64.wrap (x11 + 1))) (some (.inr (.inl (-1)))) (cond (e14.to_ != (IntKind.i64.wrap ((IntKind.i64.wrap (x11 + 1)) + 1))) (some (.inr (.inl (-1)))) (cond (e14.room != (IntKind.i64.wrap ((IntKind.i64.wrap ((IntKind.i64.wrap (x11 + 1)) + 1)) + 1))) (some (.inr (.inl (-1)))) ((Zj1 (IntKind.i64.wrap ((IntKind.i64.wrap ((IntKind.i64.wrap ((IntKind.i64.wrap (x11 + 1)) + 1)) + 1)) + 1))).bind fun r20 => cond (e14.text.toList == r20.toList) (some (.inl ((IntKind.i64.wrap ((IntKind.i64.wrap ((IntKind.i64.wrap ((IntKind.i64.wrap ((IntKind.i64.wrap (x11 + 1)) + 1)) + 1)) + 1)) + 1)), (IntKind.i64.wrap (x12 + 1))))) (some (.inr (.inl (-1))))))))) (some (.inr (.inr x11)))
def Zkh (p0 : List Y8y) (p1 : Int) : Option Int := (iter (fun z24 => Zkg p0 z24.1 z24.2) big (p1, 0)).bind (fun z27 => match z27 with | .inl y25 => some y25 | .inr y26 => Zkf y26)
instance Zki (p0 : List Y8y) (p1 : Int) : Sp Tryz.prog 156 [cM Y9c 5 p0, cI p1] (Zkh p0 p1) cI := sp Tryz.func156 rfl rfl fun r X h => by
 unfold Zkh at h
 refine zw ?_
 refine AW.lp (v := ()) h (fun (x11, x12) (_ : Unit) => ⟨[(0, cM Y9c 5 p0), (1, cI x11), (5, cI x12)], []⟩) (gb []) ?_
 rintro ⟨x11, x12⟩ _ y33 h
 refine zw ?_
 refine cnd h (fun hb13 h => ?_) fun hb13 h => ?_
 ·
  refine AW.ct hb13 rfl ?_
  refine zw ?_
  refine oi h fun e14 g15 h => ?_
  refine zw ?_
  refine cnd h (fun hb16 h => go) fun hb16 h => ?_
  refine AW.cf hb16 rfl ?_
  refine zw ?_
  refine cnd h (fun hb17 h => go) fun hb17 h => ?_
  refine AW.cf hb17 rfl ?_
  refine zw ?_
  refine cnd h (fun hb18 h => go) fun hb18 h => ?_
  refine AW.cf hb18 rfl ?_
  refine zw ?_
  refine cnd h (fun hb19 h => go) fun hb19 h => ?_
  refine AW.cf hb19 rfl ?_
  refine zw ?_
  refine rD [] [4] [] [0,4,8,12,17,20,26,28] ?_
  exact go
 exact go

def Zkj (p0 : Y92) (p1 : Int) : Option Int := (Zkd p0.hubs p1).bind fun r2 => cond (decide (r2 < 0)) (some (-1)) ((Zkh p0.letters r2).bind fun r5 => cond (decide (r5 < 0)) (some (-1)) (some r5))
instance Zkk (p0 : Y92) (p1 : Int) : Sp Tryz.prog 93 [C.agg [cM Y9i 2 p0.hubs, cM Y9c 5 p0.letters], cI p1] (Zkj p0 p1) cI := sp Tryz.func93 rfl rfl fun r X h => go

def Zkl (p0 : Y96) (p1 : Int) : Option Int := (Zkj p0.peers p1).bind fun r2 => cond (decide (r2 < 0)) (some (-1)) (some r2)
instance Zkm (p0 : Y96) (p1 : Int) : Sp Tryz.prog 30 [C.agg [cM Y9i 2 p0.peers.hubs, cM Y9c 5 p0.peers.letters, cI p0.id, cI p0.code], cI p1] (Zkl p0 p1) cI := sp Tryz.func30 rfl rfl fun r X h => go

end Go.Proofs.YtbgichfjcnibpaaGreat
