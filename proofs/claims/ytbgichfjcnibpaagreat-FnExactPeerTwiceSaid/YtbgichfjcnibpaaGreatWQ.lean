/- Printed by gen.py: plain functions for Go functions, and that the walks keep to them. -/
import Derived.Test.YtbgichfjcnibpaaGreatWQ7
set_option autoImplicit false
set_option linter.unusedVariables false
set_option linter.unusedSimpArgs false
set_option maxHeartbeats 1000000
set_option maxRecDepth 100000
namespace Go.Proofs.YtbgichfjcnibpaaGreat
open Go Go.Abs
attribute [local irreducible] AW Ops OpsD Y3n
def Zkn (p0 : Y8z) (p1 : Int) (r7 : Y96) (r15 : Y96) (x47 : Bool) : Option Bool := cond x47 (some false) ((Zjt r15 1).bind fun r49 => (Zkl (Y96.mk (Y92.mk r49.2.1 r49.2.2) r15.id r15.code) 1).bind fun r51 => cond (decide (r51 < 0)) (some false) (cond (r51 != r49.1) (some false) ((Z1t p0).bind fun r55 => (Zhv r55 p1).bind fun r57 => (Zix r57 r7).bind fun r60 => cond r60 ((Zkl (Y96.mk (Y92.mk r49.2.1 r49.2.2) r15.id r15.code) 1).bind fun r63 => cond (decide (r63 < 0)) (some false) (cond (r63 != r49.1) (some false) (some true))) (some false))))
def Zko (p0 : Y8z) (p1 : Int) : Option Bool := (Zt p0 1048576).bind fun r2 => cond (decide (r2 < 0)) (some true) ((Z1t p0).bind fun r5 => (Z8l r5 p1).bind fun r7 => (Z1t p0).bind fun r10 => (Zhv r10 p1).bind fun r15 => (Zix r15 r7).bind fun r22 => cond r22 ((Z1t p0).bind fun r37 => (Ziv r10 r37).bind fun r39 => cond r39 ((Zjr r10 1).bind fun r42 => cond (decide (r42.1 < 0)) (Zkn p0 p1 r7 r15 true) ((Zix r15 r7).bind fun r45 => Zkn p0 p1 r7 r15 (!r45))) (some false)) (some false))
instance Zkp (p0 : Y8z) (p1 : Int) : Sp Tryz.prog 4 [C.agg [cM kHub 2 p0.hubs, cM Y9c 5 p0.letters], cI p1] (Zko p0 p1) C.bool := sp Tryz.func4 rfl rfl fun r X h => by
 unfold Zko at h
 refine zw ?_
 refine ox fun b1 => ?_
 refine zw ?_
 refine oc h fun r2 g3 h => ?_
 refine zw ?_
 refine cnd h (fun hb4 h => go) fun hb4 h => ?_
 refine AW.cf hb4 rfl ?_
 refine zw ?_
 refine oc h fun r5 g6 h => ?_
 refine zw ?_
 refine oc h fun r7 g8 h => ?_
 refine Ops.h (ns := []) rfl rfl (Y1p (cs := [cV s0, cV s0, cI 0, cI 0]) Ydt (Y42 rfl rfl) rfl) ?_
 rintro _ _ ⟨b9, rfl, rfl⟩
 refine Ops.hd (ns := [0]) rfl rfl (Y1u (gs := [cM Y9i 2 r7.peers.hubs, cM Y9c 5 r7.peers.letters, cI r7.id, cI r7.code]) Ydv.h rfl rfl rfl rfl rfl) ?_
 refine zw ?_
 refine ob' h fun r10 g11 h => ?_
 refine Ops.h (ns := []) rfl rfl (Y23 (Z1u _ _ g11) rfl rfl) ?_
 rintro _ _ ⟨_, ⟨v12, v13, rfl, rfl⟩, rfl⟩
 refine Ops.h (ns := []) rfl rfl (Y1p (cs := [cV s0, cV s0]) Ycj (Y42 rfl rfl) rfl) ?_
 rintro _ _ ⟨b14, rfl, rfl⟩
 refine Ops.hd (ns := [0]) rfl rfl (Y1u (gs := [cV v12, cV v13]) Yco.h rfl rfl rfl rfl rfl) ?_
 refine zw ?_
 refine ob' h fun r15 g16 h => ?_
 refine Ops.h (ns := [1, 1]) rfl rfl (Y23 (Ok.lend (Zhw r10 p1 _ g16) (FrzT.cons (os := [_,_]) (Frz.agg (FrzL.cons (os := [_]) (Frz.deep Yc2) (FrzL.cons (os := [_]) Frz.arr (FrzL.nil)))) (fT (FrzT.nil))) (by rintro _ _ ⟨_, _, rfl, rfl⟩; exact ⟨(Y44.agg (Y45.cons (Y44.val _) (Y45.cons (Y44.val _) (Y45.cons (Y44.val _) (Y45.cons (Y44.val _) (Y45.nil)))))), Y48 (Y46.deep Yc3 Yc4) (Y48 (Y46.arr Yfa) (Y47))⟩)) rfl rfl) ?_
 rintro _ _ ⟨_, ⟨_, ⟨v17, v18, rfl, rfl⟩, rfl⟩, rfl⟩
 refine Ops.h (ns := []) rfl rfl (Y1p (cs := [cV s0, cV s0, cI 0, cI 0]) Ydt (Y42 rfl rfl) rfl) ?_
 rintro _ _ ⟨b21, rfl, rfl⟩
 refine Ops.hd (ns := [0]) rfl rfl (Y1u (gs := [cV v17, cV v18, cI r15.id, cI r15.code]) Ydv.h rfl rfl rfl rfl rfl) ?_
 refine Ops.nil ?_
 refine AW.seq ?_
 refine AW.seq ?_
 refine AW.region ?_
 refine Ops.v rfl (Y1l (p := 0) (ds := [cV v17, cV v18, cI r15.id, cI r15.code]) Ydv.h rfl rfl rfl rfl rfl) ?_
 refine Ops.v rfl (Y1l (p := 6) (ds := [cM Y9i 2 r7.peers.hubs, cM Y9c 5 r7.peers.letters, cI r7.id, cI r7.code]) Ydv.h rfl rfl rfl rfl rfl) ?_
 refine ob' h fun r22 g23 h => ?_
 refine Ops.hd (ns := [1, 1]) rfl rfl (Y24 (Ok.lendE ((Ziy r15 r7).h _ g23) (FrzT.cons (os := [_,_]) (Frz.agg (FrzL.cons (os := [_]) (Frz.deep Yc2) (FrzL.cons (os := [_]) Frz.arr (fS (fS (FrzL.nil)))))) (fT (FrzT.nil))) (Y44.val _)) rfl rfl) ?_
 refine zw ?_
 refine cnd h (fun hb24 h => ?_) fun hb24 h => ?_
 ·
  refine AW.cond rfl (fun hn => absurd ((Y3u hb24).symm.trans hn) (by decide)) (fun _ => ?_)
  refine zw ?_
  refine rD [0,0,0,2,2,2] [0,1] [] [1,5,10,14,16] ?_
  refine OpsD.v rfl rfl (Y1l (p := 3) (ds := [cV v12, cV v13]) Yco.h rfl rfl rfl rfl rfl) ?_
  refine OpsD.v rfl rfl (Y1l (p := 5) (ds := [cM kHub 2 p0.hubs, cM Y9c 5 p0.letters]) Yf9.h rfl rfl rfl rfl rfl) ?_
  refine zw ?_
  refine dc h fun r37 g38 h => ?_
  refine zw ?_
  refine ob' h fun r39 g40 h => ?_
  refine Y3n.h (ns := [0, 0]) rfl rfl rfl (Y24 (Ok.lendE ((Ziw r10 r37).h _ g40) (FrzT.cons (os := [_,_]) (Frz.agg (FrzL.cons (os := [_]) (Frz.deep Yc2) (FrzL.cons (os := [_]) Frz.arr (FrzL.nil)))) (fT (FrzT.nil))) (Y44.val _)) rfl rfl) ?_
  rintro _ _ ⟨rfl, rfl⟩
  refine zw ?_
  refine cnd h (fun hb41 h => ?_) fun hb41 h => ?_
  ·
   refine AW.cond rfl (fun hn => absurd ((Y3u hb41).symm.trans hn) (by decide)) (fun _ => ?_)
   refine AW.skip ?_
   refine AW.seq ?_
   refine AW.region ?_
   refine Ops.v rfl (Yr rfl rfl) ?_
   refine Ops.nil ?_
   refine AW.seq ?_
   refine AW.region ?_
   refine Ops.v rfl (Y1l (p := 3) (ds := [cV v12, cV v13]) Yco.h rfl rfl rfl rfl rfl) ?_
   refine zw ?_
   refine ob' h fun r42 g43 h => ?_
   refine Ops.hd (ns := [6, 6]) rfl rfl (Y24 (Zjs r10 1 _ g43) rfl rfl) ?_
   refine Ops.v rfl (Yr rfl rfl) ?_
   refine Ops.nil ?_
   refine AW.seq ?_
   refine AW.seq ?_
   refine AW.cut (τ := Bool) (fun x47 => ⟨[(1, cI p1), (2, pt b1), (6, pt b9), (8, pt b21), (46, C.bool x47)], [oB b1 42 [cM kHub 2 p0.hubs, cM Y9c 5 p0.letters], oB b9 49 [cM Y9i 2 r7.peers.hubs, cM Y9c 5 r7.peers.letters, cI r7.id, cI r7.code], oB b21 49 [cV v17, cV v18, cI r15.id, cI r15.code], Obj.deep v17 32 Y9j Y9k 2 r15.peers.hubs, oA v18 115 Y9c 5 r15.peers.letters]⟩) (fun x47 => Zkn p0 p1 r7 r15 x47 = some r) ?_ ?_
   ·
    refine zw ?_
    refine cnd h (fun hb44 h => ?_) fun hb44 h => ?_
    ·
     refine zw ?_
     exact ⟨true, h, Y21.both (ns := [7, 6, 4, 2, 2]) rfl rfl⟩
    refine Ops.gv rfl rfl rfl rfl hb44 (Y1l (p := 4) (ds := [cV v17, cV v18, cI r15.id, cI r15.code]) Ydv.h rfl rfl rfl rfl rfl) ?_
    refine Ops.gv rfl rfl rfl rfl hb44 (Y1l (p := 6) (ds := [cM Y9i 2 r7.peers.hubs, cM Y9c 5 r7.peers.letters, cI r7.id, cI r7.code]) Ydv.h rfl rfl rfl rfl rfl) ?_
    refine ob' h fun r45 g46 h => ?_
    refine Ops.ghd (ns := [2, 2]) rfl rfl rfl rfl hb44 rfl (Y24 (Ok.lendE ((Ziy r15 r7).h _ g46) (FrzT.cons (os := [_,_]) (Frz.agg (FrzL.cons (os := [_]) (Frz.deep Yc2) (FrzL.cons (os := [_]) Frz.arr (fS (fS (FrzL.nil)))))) (fT (FrzT.nil))) (Y44.val _)) rfl rfl) ?_
    refine zw ?_
    exact ⟨(!r45), h, Y21.both (ns := [7, 6, 4, 0, 0]) rfl rfl⟩
   intro x47 h
   replace h : Zkn p0 p1 r7 r15 x47 = some r := h
   unfold Zkn at h
   refine cnd h (fun hb48 h => go) fun hb48 h => ?_
   refine AW.cf hb48 rfl ?_
   refine zw ?_
   refine ob' h fun r49 g50 h => ?_
   refine Ops.hd (ns := [3, 3]) rfl rfl (Y24 (Zju r15 1 _ g50) rfl rfl) ?_
   refine Ops.v rfl (Yr rfl rfl) ?_
   refine Ops.nil ?_
   refine AW.seq ?_
   refine AW.region ?_
   refine Ops.v rfl (Yr rfl rfl) ?_
   refine Ops.nil ?_
   refine AW.seq ?_
   refine AW.region ?_
   refine Ops.v rfl (Y1l (p := 4) (ds := [cV v17, cV v18, cI r15.id, cI r15.code]) Ydv.h rfl rfl rfl rfl rfl) ?_
   refine zw ?_
   refine ob' h fun r51 g52 h => ?_
   refine Ops.hd (ns := [0, 0]) rfl rfl (Y24 (Ok.lendE ((Zkm (Y96.mk (Y92.mk r49.2.1 r49.2.2) r15.id r15.code) 1).h _ g52) (FrzT.cons (os := [_,_]) (Frz.agg (FrzL.cons (os := [_]) (Frz.deep Yc2) (FrzL.cons (os := [_]) Frz.arr (fS (fS (FrzL.nil)))))) (fT (FrzT.nil))) (Y44.val _)) rfl rfl) ?_
   refine zw ?_
   refine cnd h (fun hb53 h => go) fun hb53 h => ?_
   refine AW.cf hb53 rfl ?_
   refine zw ?_
   refine cnd h (fun hb54 h => go) fun hb54 h => ?_
   refine AW.cf hb54 rfl ?_
   refine zw ?_
   refine oc h fun r55 g56 h => ?_
   refine zw ?_
   refine oc h fun r57 g58 h => ?_
   refine Ops.h (ns := []) rfl rfl (Y1p (cs := [cV s0, cV s0, cI 0, cI 0]) Ydt (Y42 rfl rfl) rfl) ?_
   rintro _ _ ⟨b59, rfl, rfl⟩
   refine Ops.hd (ns := [0]) rfl rfl (Y1u (gs := [cM Y9i 2 r57.peers.hubs, cM Y9c 5 r57.peers.letters, cI r57.id, cI r57.code]) Ydv.h rfl rfl rfl rfl rfl) ?_
   refine Ops.nil ?_
   refine AW.seq ?_
   refine AW.seq ?_
   refine AW.region ?_
   refine Ops.v rfl (Y1l (p := 0) (ds := [cM Y9i 2 r57.peers.hubs, cM Y9c 5 r57.peers.letters, cI r57.id, cI r57.code]) Ydv.h rfl rfl rfl rfl rfl) ?_
   refine Ops.v rfl (Y1l (p := 4) (ds := [cM Y9i 2 r7.peers.hubs, cM Y9c 5 r7.peers.letters, cI r7.id, cI r7.code]) Ydv.h rfl rfl rfl rfl rfl) ?_
   refine oc h fun r60 g61 h => ?_
   refine zw ?_
   refine cnd h (fun hb62 h => ?_) fun hb62 h => ?_
   ·
    refine AW.cond rfl (fun hn => absurd ((Y3u hb62).symm.trans hn) (by decide)) (fun _ => ?_)
    refine AW.skip ?_
    refine AW.seq ?_
    refine AW.region ?_
    refine Ops.v rfl (Yr rfl rfl) ?_
    refine Ops.nil ?_
    refine AW.seq ?_
    refine AW.region ?_
    refine Ops.v rfl (Y1l (p := 5) (ds := [cV v17, cV v18, cI r15.id, cI r15.code]) Ydv.h rfl rfl rfl rfl rfl) ?_
    refine zw ?_
    refine ob' h fun r63 g64 h => ?_
    refine Ops.hd (ns := [1, 1]) rfl rfl (Y24 (Ok.lendE ((Zkm (Y96.mk (Y92.mk r49.2.1 r49.2.2) r15.id r15.code) 1).h _ g64) (FrzT.cons (os := [_,_]) (Frz.agg (FrzL.cons (os := [_]) (Frz.deep Yc2) (FrzL.cons (os := [_]) Frz.arr (fS (fS (FrzL.nil)))))) (fT (FrzT.nil))) (Y44.val _)) rfl rfl) ?_
    exact go
   exact go
  exact go
 exact go

end Go.Proofs.YtbgichfjcnibpaaGreat
