/- Printed by gen.py: plain functions for Go functions, and that the walks keep to them. -/
import Derived.Test.YtbgichfjcnibpaaGreatESorts
import Derived.Test.YtbgichfjcnibpaaGreatEX
import Derived.Test.YtbgichfjcnibpaaGreatEL
import Derived.Test.YtbgichfjcnibpaaGreatChecked
set_option autoImplicit false
set_option linter.unusedVariables false
set_option linter.unusedSimpArgs false
set_option maxRecDepth 100000
namespace Go.Proofs.YtbgichfjcnibpaaGreat
open Go Go.Abs
attribute [local irreducible] AW Ops OpsD Y3n
structure Y8w where
  id : Int
  room : Int
  author : Int
  kind : Int
  key : Int
  n : Int
  text : ByteArray
  prev : List Int
  time : Int
structure Y8x where
  room : Int
  events : List Y8w
  parked : List Y8w
structure Y8y where
  room : Int
  id : Int
structure THub where
  rooms : List Y8x
  stream : List Y8y
structure Y8z where
  user : Int
  at_ : List Int
structure Y90 where
  room : Int
  events : List Y8w
  parked : List Y8w
structure Y91 where
  rooms : List Y90
  stream : List Y8y
structure Y92 where
  kind : Int
  key : Int
  id : Int
structure Y93 where
  depths : List Int
  ahead : List (List Y92)
  behind : List (List Y92)
  code : List Int
structure Y94 where
  h : Y91
  rooms : List Y93
  pos : List (List Int)
  now : List (List Y92)
structure Y95 where
  marks : Y8z
  code : Int
structure Y96 where
  graph : Y90
  depth : List (Int × Int)
  before : List (Int × List Y92)
  after : List (Int × List Y92)
  refused : List (Int × Int)
structure Y97 where
  hub : Y91
  rooms : List Y96
def kI64 (x : Int) : List C := [C.int x]
def Y98 (x : Y8w) : List C := [C.int x.id, C.int x.room, C.int x.author, C.int x.kind, C.int x.key, C.int x.n, C.str x.text, C.im kI64 1 x.prev, C.int x.time]
def Y99 (x : Y8x) : List C := [C.int x.room, C.im Y98 9 x.events, C.im Y98 9 x.parked]
def Y9a (x : Y8y) : List C := [C.int x.room, C.int x.id]
def Y9b (x : Y8w) (u : Value) : List C := [C.int x.id, C.int x.room, C.int x.author, C.int x.kind, C.int x.key, C.int x.n, C.str x.text, C.val u, C.int x.time]
def Y9c (x : Y8w) (u : Value) : List Abs.Obj := [Obj.arr u 2 kI64 1 x.prev]
def Y9d (x : Y90) : List C := [C.int x.room, C.im Y98 9 x.events, C.im Y98 9 x.parked]
def Y9e (x : Y90) (u : Value × Value) : List C := [C.int x.room, C.val u.1, C.val u.2]
def Y9f (x : Y90) (u : Value × Value) : List Abs.Obj := [Obj.deep u.1 136 Y9b Y9c 9 x.events, Obj.deep u.2 136 Y9b Y9c 9 x.parked]
def Y9g (x : Y92) : List C := [C.int x.kind, C.int x.key, C.int x.id]
def Y9h (x : List Y92) : List C := [C.im Y9g 3 x]
def Y9i (x : Bool) : List C := [C.bool x]
def Y9j (x : Y93) : List C := [C.ip [C.im kI64 1 x.depths, C.im Y9h 1 x.ahead, C.im Y9h 1 x.behind, C.im kI64 1 x.code]]
def Y9k (x : List Int) : List C := [C.im kI64 1 x]
abbrev Y9l (x : Int) : C := C.int x
abbrev Y9m (x : List Y92) : C := C.im Y9g 3 x
abbrev Y9n (x : Bool) : C := C.bool x
def Y9o (x : Y96) : List C := [C.ip [C.int x.graph.room, C.im Y98 9 x.graph.events, C.im Y98 9 x.graph.parked, C.imap .i64 Y9l x.depth, C.imap .i64 Y9m x.before, C.imap .i64 Y9m x.after, C.imap .i64 Y9l x.refused]]
def kU8 (x : Int) : List C := [C.val (.int .u8 x)]
instance Y9p : SlI Tryz.prog 57 2 1 8 := ⟨by kernel_rfl⟩
instance Y9q : FldI Tryz.prog 273 6 6 := ⟨by kernel_rfl⟩
instance ld_9 : LdI Tryz.prog 9 false 1 := ⟨by kernel_rfl⟩
theorem un_9 : Tryz.prog.underlying 9 = some .string := by kernel_rfl
instance : UnI Tryz.prog 9 .string := ⟨un_9⟩
instance Y9r : FldI Tryz.prog 273 7 7 := ⟨by kernel_rfl⟩
instance Y9s : LdI Tryz.prog 57 false 1 := ⟨by kernel_rfl⟩
instance Y9t : SlI Tryz.prog 174 273 9 96 := ⟨by kernel_rfl⟩
instance Y9u : LdI Tryz.prog 273 true 9 := ⟨by kernel_rfl⟩
instance Y9v : FldI Tryz.prog 176 1 1 := ⟨by kernel_rfl⟩
instance Y9w : LdI Tryz.prog 174 false 1 := ⟨by kernel_rfl⟩
instance Y9x : FldI Tryz.prog 176 2 2 := ⟨by kernel_rfl⟩
instance Y9y : SlI Tryz.prog 22 176 3 56 := ⟨by kernel_rfl⟩
instance Y9z : LdI Tryz.prog 176 true 3 := ⟨by kernel_rfl⟩
instance Ya0 : SlI Tryz.prog 23 185 2 16 := ⟨by kernel_rfl⟩
instance Ya1 : FldI Tryz.prog 25 0 0 := ⟨by kernel_rfl⟩
instance Ya2 : LdI Tryz.prog 22 false 1 := ⟨by kernel_rfl⟩
instance Ya3 : FldI Tryz.prog 25 1 1 := ⟨by kernel_rfl⟩
instance Ya4 : LdI Tryz.prog 23 false 1 := ⟨by kernel_rfl⟩
instance Ya5 : FldI Tryz.prog 62 1 1 := ⟨by kernel_rfl⟩
theorem Ya6 : Y2o Tryz.prog 57 = some (2, 1, 8) := by kernel_rfl
theorem ze_2 : Y18 Tryz.prog 2 = some [.int .i64 0] := by kernel_rfl
instance ld_2 : LdI Tryz.prog 2 false 1 := ⟨by kernel_rfl⟩
theorem Ya7 : Y18 Tryz.prog 136 = some [.int .i64 0, .int .i64 0, .int .i64 0, .int .i64 0, .int .i64 0, .int .i64 0, .string ByteArray.empty, .slice none 0 0, .int .i64 0] := by kernel_rfl
instance Ya8 : FldI Tryz.prog 273 0 0 := ⟨by kernel_rfl⟩
instance Ya9 : FldI Tryz.prog 136 0 0 := ⟨by kernel_rfl⟩
instance Yaa : FldI Tryz.prog 273 1 1 := ⟨by kernel_rfl⟩
instance Yab : FldI Tryz.prog 136 1 1 := ⟨by kernel_rfl⟩
instance Yac : FldI Tryz.prog 273 2 2 := ⟨by kernel_rfl⟩
instance Yad : FldI Tryz.prog 136 2 2 := ⟨by kernel_rfl⟩
instance Yae : FldI Tryz.prog 273 3 3 := ⟨by kernel_rfl⟩
instance Yaf : FldI Tryz.prog 136 3 3 := ⟨by kernel_rfl⟩
instance Yag : FldI Tryz.prog 273 4 4 := ⟨by kernel_rfl⟩
instance Yah : FldI Tryz.prog 136 4 4 := ⟨by kernel_rfl⟩
instance Yai : FldI Tryz.prog 273 5 5 := ⟨by kernel_rfl⟩
instance Yaj : FldI Tryz.prog 136 5 5 := ⟨by kernel_rfl⟩
instance Yak : FldI Tryz.prog 136 6 6 := ⟨by kernel_rfl⟩
instance Yal : FldI Tryz.prog 136 7 7 := ⟨by kernel_rfl⟩
instance Yam : FldI Tryz.prog 273 8 8 := ⟨by kernel_rfl⟩
instance Yan : FldI Tryz.prog 136 8 8 := ⟨by kernel_rfl⟩
instance Yao : LdI Tryz.prog 136 true 9 := ⟨by kernel_rfl⟩
theorem Yap : Y2o Tryz.prog 137 = some (136, 9, 96) := by kernel_rfl
theorem Yaq : ∀ x, Y45 (kI64 x) := fun x => (Y45.cons (Y44.val _) (Y45.nil) : Y45 [C.int x])
theorem Yar : ∀ x u, FrzL (Y9b x u) (Y9c x u) (Y98 x) := fun _ _ => (FrzL.cons (os := []) (Frz.same _) (FrzL.cons (os := []) (Frz.same _) (FrzL.cons (os := []) (Frz.same _) (FrzL.cons (os := []) (Frz.same _) (FrzL.cons (os := []) (Frz.same _) (FrzL.cons (os := []) (Frz.same _) (FrzL.cons (os := []) (Frz.same _) (FrzL.cons (os := [_]) Frz.arr (FrzL.cons (os := []) (Frz.same _) FrzL.nil)))))))))
instance Yas : SlI Tryz.prog 137 136 9 96 := ⟨by kernel_rfl⟩
theorem Yat : Y18 Tryz.prog 139 = some [.int .i64 0, .slice none 0 0, .slice none 0 0] := by kernel_rfl
instance Yau : FldI Tryz.prog 176 0 0 := ⟨by kernel_rfl⟩
instance Yav : FldI Tryz.prog 139 0 0 := ⟨by kernel_rfl⟩
instance Yaw : FldI Tryz.prog 139 1 1 := ⟨by kernel_rfl⟩
instance Yax : LdI Tryz.prog 137 false 1 := ⟨by kernel_rfl⟩
instance Yay : FldI Tryz.prog 139 2 2 := ⟨by kernel_rfl⟩
instance Yaz : LdI Tryz.prog 139 true 3 := ⟨by kernel_rfl⟩
theorem Yb0 : Y2o Tryz.prog 29 = some (139, 3, 56) := by kernel_rfl
theorem Yb1 : ∀ x u, FrzL (Y9e x u) (Y9f x u) (Y9d x) := fun _ _ => (FrzL.cons (os := []) (Frz.same _) (FrzL.cons (os := [_]) (Frz.deep Yar) (FrzL.cons (os := [_]) (Frz.deep Yar) FrzL.nil)))
instance Yb2 : SlI Tryz.prog 29 139 3 56 := ⟨by kernel_rfl⟩
theorem Yb3 : Y18 Tryz.prog 142 = some [.int .i64 0, .int .i64 0] := by kernel_rfl
instance Yb4 : FldI Tryz.prog 185 0 0 := ⟨by kernel_rfl⟩
instance Yb5 : FldI Tryz.prog 142 0 0 := ⟨by kernel_rfl⟩
instance Yb6 : FldI Tryz.prog 185 1 1 := ⟨by kernel_rfl⟩
instance Yb7 : FldI Tryz.prog 142 1 1 := ⟨by kernel_rfl⟩
instance Yb8 : LdI Tryz.prog 142 true 2 := ⟨by kernel_rfl⟩
theorem Yb9 : Y2o Tryz.prog 30 = some (142, 2, 16) := by kernel_rfl
instance Yba : LdI Tryz.prog 185 true 2 := ⟨by kernel_rfl⟩
instance Ybb : SlI Tryz.prog 30 142 2 16 := ⟨by kernel_rfl⟩
theorem Ybc : Y18 Tryz.prog 32 = some [.slice none 0 0, .slice none 0 0] := by kernel_rfl
instance Ybd : FldI Tryz.prog 32 0 0 := ⟨by kernel_rfl⟩
instance Ybe : LdI Tryz.prog 29 false 1 := ⟨by kernel_rfl⟩
instance Ybf : FldI Tryz.prog 32 1 1 := ⟨by kernel_rfl⟩
instance Ybg : LdI Tryz.prog 30 false 1 := ⟨by kernel_rfl⟩
instance Ybh : LdI Tryz.prog 32 true 2 := ⟨by kernel_rfl⟩
theorem Ybi : Y18 Tryz.prog 65 = some [.int .i64 0, .slice none 0 0] := by kernel_rfl
instance Ybj : FldI Tryz.prog 62 0 0 := ⟨by kernel_rfl⟩
instance Ybk : FldI Tryz.prog 65 0 0 := ⟨by kernel_rfl⟩
instance Ybl : FldI Tryz.prog 65 1 1 := ⟨by kernel_rfl⟩
instance Ybm : LdI Tryz.prog 65 true 2 := ⟨by kernel_rfl⟩
theorem un_4 : Tryz.prog.underlying 4 = some .bool := by kernel_rfl
instance : UnI Tryz.prog 4 .bool := ⟨un_4⟩
instance Ybn : SlI Tryz.prog 27 106 3 24 := ⟨by kernel_rfl⟩
instance Ybo : FldI Tryz.prog 106 0 0 := ⟨by kernel_rfl⟩
instance Ybp : FldI Tryz.prog 106 1 1 := ⟨by kernel_rfl⟩
instance Ybq : FldI Tryz.prog 106 2 2 := ⟨by kernel_rfl⟩
instance Ybr : SlI Tryz.prog 154 27 1 24 := ⟨by kernel_rfl⟩
instance Ybs : LdI Tryz.prog 27 false 1 := ⟨by kernel_rfl⟩
theorem Ybt : Y2o Tryz.prog 27 = some (106, 3, 24) := by kernel_rfl
instance Ybu : LdI Tryz.prog 106 true 3 := ⟨by kernel_rfl⟩
theorem Ybv : places Tryz.prog 136 = some [(0, 1), (1, 1), (2, 1), (3, 1), (4, 1), (5, 1), (6, 1), (7, 1), (8, 1)] := by kernel_rfl
theorem Ybw : Y6t Tryz.prog 136 5 = some (5, 1, false) := by kernel_rfl
theorem Ybx : Y6t Tryz.prog 136 2 = some (2, 1, false) := by kernel_rfl
theorem Yby : ∀ x, Y45 (Y9g x) := fun x => (Y45.cons (Y44.val _) (Y45.cons (Y44.val _) (Y45.cons (Y44.val _) (Y45.nil))) : Y45 [C.int x.kind, C.int x.key, C.int x.id])
theorem Ybz : places Tryz.prog 106 = some [(0, 1), (1, 1), (2, 1)] := by kernel_rfl
theorem Yc0 : Y18 Tryz.prog 106 = some [.int .i64 0, .int .i64 0, .int .i64 0] := by kernel_rfl
theorem Yc1 : Y2o Tryz.prog 180 = some (4, 1, 1) := by kernel_rfl
theorem ze_4 : Y18 Tryz.prog 4 = some [.bool false] := by kernel_rfl
theorem Yc2 : Y6t Tryz.prog 136 7 = some (7, 1, false) := by kernel_rfl
instance Yc3 : SlI Tryz.prog 180 4 1 1 := ⟨by kernel_rfl⟩
instance ld_4 : LdI Tryz.prog 4 false 1 := ⟨by kernel_rfl⟩
theorem Yc4 : Y2o Tryz.prog 154 = some (27, 1, 24) := by kernel_rfl
theorem Yc5 : Y18 Tryz.prog 27 = some [.slice none 0 0] := by kernel_rfl
theorem Yc6 : places Tryz.prog 215 = some [(0, 1), (1, 1), (2, 1), (3, 1)] := by kernel_rfl
theorem Yc7 : Y18 Tryz.prog 215 = some [.slice none 0 0, .slice none 0 0, .slice none 0 0, .slice none 0 0] := by kernel_rfl
instance Yc8 : FldI Tryz.prog 215 2 2 := ⟨by kernel_rfl⟩
instance Yc9 : LdI Tryz.prog 154 false 1 := ⟨by kernel_rfl⟩
instance Yca : FldI Tryz.prog 215 1 1 := ⟨by kernel_rfl⟩
instance Ycb : FldI Tryz.prog 215 0 0 := ⟨by kernel_rfl⟩
instance Ycc : FldI Tryz.prog 215 3 3 := ⟨by kernel_rfl⟩
theorem Ycd : places Tryz.prog 156 = some [(0, 2), (2, 1), (3, 1), (4, 1)] := by kernel_rfl
theorem Yce : Y18 Tryz.prog 156 = some [.slice none 0 0, .slice none 0 0, .slice none 0 0, .slice none 0 0, .slice none 0 0] := by kernel_rfl
instance Ycf : FldI Tryz.prog 156 1 2 := ⟨by kernel_rfl⟩
instance Ycg : LdI Tryz.prog 152 false 1 := ⟨by kernel_rfl⟩
theorem Ych : Y2o Tryz.prog 152 = some (182, 1, 8) := by kernel_rfl
instance Yci : FldI Tryz.prog 156 3 4 := ⟨by kernel_rfl⟩
instance Ycj : FldI Tryz.prog 156 2 3 := ⟨by kernel_rfl⟩
instance Yck : LdI Tryz.prog 153 false 1 := ⟨by kernel_rfl⟩
theorem Ycl : Y2o Tryz.prog 153 = some (57, 1, 24) := by kernel_rfl
instance Ycm : FldI Tryz.prog 156 0 0 := ⟨by kernel_rfl⟩
instance Ycn : SlI Tryz.prog 152 182 1 8 := ⟨by kernel_rfl⟩
instance Yco : LdI Tryz.prog 182 false 1 := ⟨by kernel_rfl⟩
instance Ycp : SlI Tryz.prog 153 57 1 24 := ⟨by kernel_rfl⟩
theorem Ycq : Y5e Tryz.prog 142 = some [0, 0] := by kernel_rfl
theorem Ycr : Y18 Tryz.prog 70 = some [.int .i64 0, .slice none 0 0, .int .i64 0] := by kernel_rfl
theorem Ycs : places Tryz.prog 70 = some [(0, 2), (2, 1)] := by kernel_rfl
instance Yct : LdI Tryz.prog 70 true 3 := ⟨by kernel_rfl⟩
theorem Ycu : places Tryz.prog 65 = some [(0, 1), (1, 1)] := by kernel_rfl
theorem un_3 : Tryz.prog.underlying 3 = some (.int .i64) := by kernel_rfl
instance : UnI Tryz.prog 3 (.int .i64) := ⟨un_3⟩
theorem Ycv : Tryz.prog.underlying 290 = some (.int .u64) := by kernel_rfl
instance : UnI Tryz.prog 290 (.int .u64) := ⟨Ycv⟩
theorem Ycw : Y18 Tryz.prog 57 = some [.slice none 0 0] := by kernel_rfl
theorem Ycx : Y2o Tryz.prog 133 = some (3, 1, 8) := by kernel_rfl
instance Ycy : SlI Tryz.prog 133 3 1 8 := ⟨by kernel_rfl⟩
instance ld_3 : LdI Tryz.prog 3 false 1 := ⟨by kernel_rfl⟩
instance Ycz : FldI Tryz.prog 196 3 5 := ⟨by kernel_rfl⟩
instance Yd0 : LdI Tryz.prog 194 false 1 := ⟨by kernel_rfl⟩
theorem Yd1 : Y6c Tryz.prog 194 = some (.i64, 27) := by kernel_rfl
theorem Yd2 : Y6e Tryz.prog 27 = some s0 := by kernel_rfl
theorem Yd3 : Y5e Tryz.prog 106 = some [0, 0, 0] := by kernel_rfl
theorem Yd4 : Y6c Tryz.prog 250 = some (.i64, 4) := by kernel_rfl
theorem zv_4 : Y6e Tryz.prog 4 = some (.bool false) := by kernel_rfl
instance Yd5 : LdI Tryz.prog 186 false 1 := ⟨by kernel_rfl⟩
instance Yd6 : FldI Tryz.prog 196 0 0 := ⟨by kernel_rfl⟩
instance Yd7 : FldI Tryz.prog 196 1 3 := ⟨by kernel_rfl⟩
instance Yd8 : LdI Tryz.prog 193 false 1 := ⟨by kernel_rfl⟩
theorem Yd9 : Y6c Tryz.prog 193 = some (.i64, 2) := by kernel_rfl
theorem zv_2 : Y6e Tryz.prog 2 = some (.int .i64 0) := by kernel_rfl
instance Yda : FldI Tryz.prog 196 2 4 := ⟨by kernel_rfl⟩
instance Ydb : FldI Tryz.prog 196 4 6 := ⟨by kernel_rfl⟩
theorem Ydc : places Tryz.prog 196 = some [(0, 3), (3, 1), (4, 1), (5, 1), (6, 1)] := by kernel_rfl
theorem Ydd : Y18 Tryz.prog 196 = some [.int .i64 0, .slice none 0 0, .slice none 0 0, .map none, .map none, .map none, .map none] := by kernel_rfl
instance Yde : FldI Tryz.prog 145 1 2 := ⟨by kernel_rfl⟩
instance Ydf : LdI Tryz.prog 143 false 1 := ⟨by kernel_rfl⟩
instance Ydg : SlI Tryz.prog 143 186 1 8 := ⟨by kernel_rfl⟩
theorem Ydh : places Tryz.prog 145 = some [(0, 2), (2, 1)] := by kernel_rfl
theorem Ydi : Y18 Tryz.prog 145 = some [.slice none 0 0, .slice none 0 0, .slice none 0 0] := by kernel_rfl
theorem Ydj : Y2o Tryz.prog 143 = some (186, 1, 8) := by kernel_rfl
theorem Ydk : Y18 Tryz.prog 189 = some [.map none] := by kernel_rfl
instance Ydl : LdI Tryz.prog 189 false 1 := ⟨by kernel_rfl⟩
theorem Ydm : Y8d Tryz.prog 189 = some (142, 4) := by kernel_rfl
theorem Ydn : Y18 Tryz.prog 186 = some [.pointer none] := by kernel_rfl
theorem Ydo : places Tryz.prog 142 = some [(0, 1), (1, 1)] := by kernel_rfl
instance Ydp : FldI Tryz.prog 145 0 0 := ⟨by kernel_rfl⟩
instance Ydq : FldI Tryz.prog 70 0 0 := ⟨by kernel_rfl⟩
instance Ydr : FldI Tryz.prog 70 1 2 := ⟨by kernel_rfl⟩
theorem un_5 : Tryz.prog.underlying 5 = some (.int .u8) := by kernel_rfl
instance : UnI Tryz.prog 5 (.int .u8) := ⟨un_5⟩
theorem Yds : Y2o Tryz.prog 227 = some (5, 1, 1) := by kernel_rfl
theorem Ydt : Y6x Tryz.prog 227 = true := by kernel_rfl
instance Ydu : LdI Tryz.prog 25 true 2 := ⟨by kernel_rfl⟩
instance Ydv : LdI Tryz.prog 62 true 2 := ⟨by kernel_rfl⟩

def Z1 (p0 : List Int) (p1 : Int) : Option Int := cond (decide ((IntKind.i64.wrap (p1 - (p0.length : Int))) < 0)) (some (-1)) (some (IntKind.i64.wrap (p1 - (p0.length : Int))))
instance Z2 (p0 : List Int) (p1 : Int) : Sp Tryz.prog 101 [C.im kI64 1 p0, C.int p1] (Z1 p0 p1) C.int := sp Tryz.func101 rfl rfl fun r X h => go

def Z3 (p0 : Y8w) (p1 : Int) : Option Int := cond (decide ((IntKind.i64.wrap (p1 - (p0.text.size : Int))) < 0)) (some (-1)) ((Z1 p0.prev (IntKind.i64.wrap (p1 - (p0.text.size : Int)))).bind fun r3 => cond (decide (r3 < 0)) (some (-1)) (some r3))
set_option maxHeartbeats 1000000 in
instance Z4 (p0 : Y8w) (p1 : Int) : Sp Tryz.prog 225 [C.agg [C.int p0.id, C.int p0.room, C.int p0.author, C.int p0.kind, C.int p0.key, C.int p0.n, C.str p0.text, C.im kI64 1 p0.prev, C.int p0.time], C.int p1] (Z3 p0 p1) C.int := sp Tryz.func225 rfl rfl fun r X h => go

def Z5 (x16 : Int) : Option Int := some x16
def Z6 (p0 : List Y8w) (x8 : Int) (x9 : Int) : Option ((Int × Int) ⊕ (Int ⊕ Int)) := cond (decide (x9 < (p0.length : Int))) ((getI p0 x9).bind fun e11 => (Z3 e11 x8).bind fun r13 => cond (decide (r13 < 0)) (some (.inr (.inl (-1)))) (some (.inl (r13, (IntKind.i64.wrap (x9 + 1)))))) (some (.inr (.inr x8)))
def Z7 (p0 : List Y8w) (p1 : Int) : Option Int := cond (decide ((IntKind.i64.wrap (p1 - (p0.length : Int))) < 0)) (some (-1)) ((iter (fun z17 => Z6 p0 z17.1 z17.2) big ((IntKind.i64.wrap (p1 - (p0.length : Int))), 0)).bind (fun z20 => match z20 with | .inl y18 => some y18 | .inr y19 => Z5 y19))
set_option maxHeartbeats 1000000 in
instance Z8 (p0 : List Y8w) (p1 : Int) : Sp Tryz.prog 175 [C.im Y98 9 p0, C.int p1] (Z7 p0 p1) C.int := sp Tryz.func175 rfl rfl fun r X h => by
 unfold Z7 at h
 refine zw ?_
 refine cnd h (fun hb1 h => go) fun hb1 h => ?_
 refine AW.cf hb1 rfl ?_
 refine zw ?_
 refine AW.lp (v := ()) h (fun (x8, x9) (_ : Unit) => ⟨[(0, C.im Y98 9 p0), (1, C.int x8), (5, C.int x9)], []⟩) (gb []) ?_
 rintro ⟨x8, x9⟩ _ y26 h
 exact go

def Z9 (p0 : Y8x) (p1 : Int) : Option Int := (Z7 p0.events p1).bind fun r2 => cond (decide (r2 < 0)) (some (-1)) ((Z7 p0.parked r2).bind fun r5 => cond (decide (r5 < 0)) (some (-1)) (some r5))
set_option maxHeartbeats 1000000 in
instance Za (p0 : Y8x) (p1 : Int) : Sp Tryz.prog 128 [C.agg [C.int p0.room, C.im Y98 9 p0.events, C.im Y98 9 p0.parked], C.int p1] (Z9 p0 p1) C.int := sp Tryz.func128 rfl rfl fun r X h => go

def Zb (x16 : Int) : Option Int := some x16
def Zc (p0 : List Y8x) (x8 : Int) (x9 : Int) : Option ((Int × Int) ⊕ (Int ⊕ Int)) := cond (decide (x9 < (p0.length : Int))) ((getI p0 x9).bind fun e11 => (Z9 e11 x8).bind fun r13 => cond (decide (r13 < 0)) (some (.inr (.inl (-1)))) (some (.inl (r13, (IntKind.i64.wrap (x9 + 1)))))) (some (.inr (.inr x8)))
def Zd (p0 : List Y8x) (p1 : Int) : Option Int := cond (decide ((IntKind.i64.wrap (p1 - (p0.length : Int))) < 0)) (some (-1)) ((iter (fun z17 => Zc p0 z17.1 z17.2) big ((IntKind.i64.wrap (p1 - (p0.length : Int))), 0)).bind (fun z20 => match z20 with | .inl y18 => some y18 | .inr y19 => Zb y19))
set_option maxHeartbeats 1000000 in
instance Ze (p0 : List Y8x) (p1 : Int) : Sp Tryz.prog 66 [C.im Y99 3 p0, C.int p1] (Zd p0 p1) C.int := sp Tryz.func66 rfl rfl fun r X h => by
 unfold Zd at h
 refine zw ?_
 refine cnd h (fun hb1 h => go) fun hb1 h => ?_
 refine AW.cf hb1 rfl ?_
 refine zw ?_
 refine AW.lp (v := ()) h (fun (x8, x9) (_ : Unit) => ⟨[(0, C.im Y99 3 p0), (1, C.int x8), (5, C.int x9)], []⟩) (gb []) ?_
 rintro ⟨x8, x9⟩ _ y26 h
 exact go

def Zf (p0 : List Y8y) (p1 : Int) : Option Int := cond (decide ((IntKind.i64.wrap (p1 - (p0.length : Int))) < 0)) (some (-1)) (some (IntKind.i64.wrap (p1 - (p0.length : Int))))
instance Zg (p0 : List Y8y) (p1 : Int) : Sp Tryz.prog 67 [C.im Y9a 2 p0, C.int p1] (Zf p0 p1) C.int := sp Tryz.func67 rfl rfl fun r X h => go

def Zh (p0 : THub) (p1 : Int) : Option Int := (Zd p0.rooms p1).bind fun r2 => cond (decide (r2 < 0)) (some (-1)) ((Zf p0.stream r2).bind fun r5 => cond (decide (r5 < 0)) (some (-1)) (some r5))
set_option maxHeartbeats 1000000 in
instance Zi (p0 : THub) (p1 : Int) : Sp Tryz.prog 13 [C.agg [C.im Y99 3 p0.rooms, C.im Y9a 2 p0.stream], C.int p1] (Zh p0 p1) C.int := sp Tryz.func13 rfl rfl fun r X h => go

def Zj (p0 : Y8z) (p1 : Int) : Option Int := (Z1 p0.at_ p1).bind fun r2 => cond (decide (r2 < 0)) (some (-1)) (some r2)
instance Zk (p0 : Y8z) (p1 : Int) : Sp Tryz.prog 38 [C.agg [C.int p0.user, C.im kI64 1 p0.at_], C.int p1] (Zj p0 p1) C.int := sp Tryz.func38 rfl rfl fun r X h => go

def Zl (l16 : List Int) : Option (List Int) := some l16
def Zm (p0 : List Int) (l9 : List Int) (x10 : Int) : Option ((List Int × Int) ⊕ ((List Int))) := cond (decide (x10 < (p0.length : Int))) ((getI p0 x10).bind fun e12 => (getI l9 x10).bind fun e14 => some (.inl ((List.set l9 (Int.toNat x10) e12), (IntKind.i64.wrap (x10 + 1))))) (some (.inr l9))
def Zn (p0 : List Int) : Option (List Int) := (chk (decide (0 ≤ (p0.length : Int) ∧ (p0.length : Int) * 8 ≤ 140737488355328))).bind fun u2 => (iter (fun z18 => Zm p0 z18.1 z18.2) big ((List.replicate (Int.toNat (p0.length : Int)) 0), 0)).bind fun y19 => Zl y19
set_option maxHeartbeats 1000000 in
theorem Zo (p0 : List Int) (r : List Int) (h : Zn p0 = some r) : Ok Tryz.prog 104 [C.im kI64 1 p0] [] (fun c qs => ∃ (v17 : Value), c = C.val v17 ∧ qs = [Obj.arr v17 2 kI64 1 r]) := by
 refine Ok.of_body (rs := [.tmp 2]) Tryz.func104 rfl rfl rfl rfl rfl fun X => ?_
 unfold Zn at h
 refine zw ?_
 refine ob' h fun u2 c1 h => ?_
 refine Ops.h (ns := []) rfl rfl (Y3b (k := kI64) (z := 0) Ya6 ze_2 (Y42 rfl rfl) rfl rfl (Y3x c1).1 (Y3x c1).2 (Y3y (by decide) c1) rfl) ?_
 rintro _ _ ⟨b3, rfl, rfl⟩
 refine Ops.v rfl (Yr rfl rfl) ?_
 refine Ops.nil ?_
 refine AW.seq ?_
 refine AW.cut (τ := List Int) (fun l16 => ⟨[(3, C.val (sv b3 (Int.toNat (p0.length : Int)) (Int.toNat (p0.length : Int))))], [Obj.arr (sv b3 (Int.toNat (p0.length : Int)) (Int.toNat (p0.length : Int))) 2 kI64 1 l16]⟩) (fun l16 => Zl l16 = some r) ?_ ?_
 ·
  refine zw ?_
  refine AW.lp (v := ()) h (fun (l9, x10) (_ : Unit) => ⟨[(0, C.im kI64 1 p0), (3, C.val (sv b3 (Int.toNat (p0.length : Int)) (Int.toNat (p0.length : Int)))), (4, C.int x10)], [Obj.arr (sv b3 (Int.toNat (p0.length : Int)) (Int.toNat (p0.length : Int))) 2 kI64 1 l9]⟩) (gb [0]) ?_
  rintro ⟨l9, x10⟩ _ y25 h
  refine zw ?_
  refine cnd h (fun hb11 h => ?_) fun hb11 h => ?_
  ·
   refine AW.ct hb11 rfl ?_
   refine zw ?_
   refine oi h fun e12 g13 h => ?_
   refine zw ?_
   refine oi h fun e14 g15 h => ?_
   refine Ops.hd (ns := [0]) rfl rfl (Y33 (e' := e12) ld_2.h rfl rfl (One.val rfl) (Y29 g15).2.2 rfl rfl) ?_
   exact go
  exact go
 intro l16 h
 replace h : Zl l16 = some r := h
 unfold Zl at h
 refine zw ?_
 refine AW.ret ?_
 rw [← Option.some.inj h]
 exact ⟨[C.val (sv b3 (Int.toNat (p0.length : Int)) (Int.toNat (p0.length : Int)))], _, Y21.refl _, (.cons (.tmp rfl) .nil), [0], _, _, rfl, ⟨(sv b3 (Int.toNat (p0.length : Int)) (Int.toNat (p0.length : Int))), rfl, rfl⟩⟩
instance Zo' (p0 : List Int) : Sp Tryz.prog 104 [C.im kI64 1 p0] (Zn p0) (fun r => C.im kI64 1 r) := ⟨fun r h => Ok.freeze (Zo p0 r h) (by rintro c qs ⟨v17, rfl, rfl⟩; exact Frz.arr)⟩

def Zp (p0 : Y8w) : Option Y8w := (Zn p0.prev).bind fun r4 => some (Y8w.mk p0.id p0.room p0.author p0.kind p0.key p0.n p0.text r4 p0.time)
set_option maxHeartbeats 1000000 in
theorem Zq (p0 : Y8w) (r : Y8w) (h : Zp p0 = some r) : Ok Tryz.prog 234 [C.agg [C.int p0.id, C.int p0.room, C.int p0.author, C.int p0.kind, C.int p0.key, C.int p0.n, C.str p0.text, C.im kI64 1 p0.prev, C.int p0.time]] [] (fun c qs => ∃ (v8 : Value), c = C.agg [C.int r.id, C.int r.room, C.int r.author, C.int r.kind, C.int r.key, C.int r.n, C.str r.text, C.val v8, C.int r.time] ∧ qs = [Obj.arr v8 2 kI64 1 r.prev]) := by
 refine Ok.of_body (rs := [.cell 2 136]) Tryz.func234 rfl rfl rfl rfl rfl fun X => ?_
 unfold Zp at h
 refine zw ?_
 refine ox fun b1 => ?_
 refine Ops.h (ns := []) rfl rfl (Y1p (cs := [C.int 0, C.int 0, C.int 0, C.int 0, C.int 0, C.int 0, C.str ByteArray.empty, C.val s0, C.int 0]) Ya7 (Y42 rfl rfl) rfl) ?_
 rintro _ _ ⟨b2, rfl, rfl⟩
 refine zw ?_
 refine Ops.h (ns := []) rfl rfl (Y1p (cs := [C.int 0, C.int 0, C.int 0, C.int 0, C.int 0, C.int 0, C.str ByteArray.empty, C.val s0, C.int 0]) Ya7 (Y42 rfl rfl) rfl) ?_
 rintro _ _ ⟨b3, rfl, rfl⟩
 refine zw ?_
 refine Ops.hd (ns := [0]) rfl rfl (Y1t (gs := [C.int p0.id, C.int 0, C.int 0, C.int 0, C.int 0, C.int 0, C.str ByteArray.empty, C.val s0, C.int 0]) ld_2.h rfl rfl (One.val rfl) rfl rfl) ?_
 refine zw ?_
 refine Ops.hd (ns := [0]) rfl rfl (Y1t (gs := [C.int p0.id, C.int p0.room, C.int 0, C.int 0, C.int 0, C.int 0, C.str ByteArray.empty, C.val s0, C.int 0]) ld_2.h rfl rfl (One.val rfl) rfl rfl) ?_
 refine zw ?_
 refine Ops.hd (ns := [0]) rfl rfl (Y1t (gs := [C.int p0.id, C.int p0.room, C.int p0.author, C.int 0, C.int 0, C.int 0, C.str ByteArray.empty, C.val s0, C.int 0]) ld_2.h rfl rfl (One.val rfl) rfl rfl) ?_
 refine zw ?_
 refine Ops.hd (ns := [0]) rfl rfl (Y1t (gs := [C.int p0.id, C.int p0.room, C.int p0.author, C.int p0.kind, C.int 0, C.int 0, C.str ByteArray.empty, C.val s0, C.int 0]) ld_2.h rfl rfl (One.val rfl) rfl rfl) ?_
 refine zw ?_
 refine Ops.hd (ns := [0]) rfl rfl (Y1t (gs := [C.int p0.id, C.int p0.room, C.int p0.author, C.int p0.kind, C.int p0.key, C.int 0, C.str ByteArray.empty, C.val s0, C.int 0]) ld_2.h rfl rfl (One.val rfl) rfl rfl) ?_
 refine zw ?_
 refine Ops.hd (ns := [0]) rfl rfl (Y1t (gs := [C.int p0.id, C.int p0.room, C.int p0.author, C.int p0.kind, C.int p0.key, C.int p0.n, C.str ByteArray.empty, C.val s0, C.int 0]) ld_2.h rfl rfl (One.val rfl) rfl rfl) ?_
 refine zw ?_
 refine Ops.hd (ns := [0]) rfl rfl (Y1t (gs := [C.int p0.id, C.int p0.room, C.int p0.author, C.int p0.kind, C.int p0.key, C.int p0.n, C.str p0.text, C.val s0, C.int 0]) ld_9.h rfl rfl (One.val rfl) rfl rfl) ?_
 refine zw ?_
 refine ob' h fun r4 g5 h => ?_
 refine Ops.h (ns := []) rfl rfl (Y23 (Zo _ _ g5) rfl rfl) ?_
 rintro _ _ ⟨_, ⟨v6, rfl, rfl⟩, rfl⟩
 refine Ops.v rfl (Y1b Yal.h rfl rfl) ?_
 refine Ops.learn (Sim.arr_one (p := 0) rfl) fun n7 => ?_
 refine Ops.hd (ns := [1]) rfl rfl (Y1t (gs := [C.int p0.id, C.int p0.room, C.int p0.author, C.int p0.kind, C.int p0.key, C.int p0.n, C.str p0.text, C.val v6, C.int 0]) Y9s.h rfl rfl (One.val n7) rfl rfl) ?_
 refine zw ?_
 refine Ops.hd (ns := [0]) rfl rfl (Y1t (gs := [C.int p0.id, C.int p0.room, C.int p0.author, C.int p0.kind, C.int p0.key, C.int p0.n, C.str p0.text, C.val v6, C.int p0.time]) ld_2.h rfl rfl (One.val rfl) rfl rfl) ?_
 refine zw ?_
 refine Ops.hd (ns := [2]) rfl rfl (Y1u (gs := [C.int p0.id, C.int p0.room, C.int p0.author, C.int p0.kind, C.int p0.key, C.int p0.n, C.str p0.text, C.val v6, C.int p0.time]) Yao.h rfl rfl rfl rfl rfl) ?_
 refine zw ?_
 refine AW.ret ?_
 rw [← Option.some.inj h]
 exact ⟨[C.agg [C.int p0.id, C.int p0.room, C.int p0.author, C.int p0.kind, C.int p0.key, C.int p0.n, C.str p0.text, C.val v6, C.int p0.time]], _, Y21.refl _, (.cons (.cell (p := 0) rfl rfl Yao.h rfl) .nil), [2], _, _, rfl, ⟨v6, rfl, rfl⟩⟩
instance Zq' (p0 : Y8w) : Sp Tryz.prog 234 [C.agg [C.int p0.id, C.int p0.room, C.int p0.author, C.int p0.kind, C.int p0.key, C.int p0.n, C.str p0.text, C.im kI64 1 p0.prev, C.int p0.time]] (Zp p0) (fun r => C.agg [C.int r.id, C.int r.room, C.int r.author, C.int r.kind, C.int r.key, C.int r.n, C.str r.text, C.im kI64 1 r.prev, C.int r.time]) := ⟨fun r h => Ok.freeze (Zq p0 r h) (by rintro c qs ⟨v8, rfl, rfl⟩; exact Frz.agg (FrzL.cons (os := []) (Frz.same _) (FrzL.cons (os := []) (Frz.same _) (FrzL.cons (os := []) (Frz.same _) (FrzL.cons (os := []) (Frz.same _) (FrzL.cons (os := []) (Frz.same _) (FrzL.cons (os := []) (Frz.same _) (FrzL.cons (os := []) (Frz.same _) (FrzL.cons (os := [_]) (Frz.arr) (FrzL.cons (os := []) (Frz.same _) (FrzL.nil)))))))))))⟩

def Zr (l22 : List Y8w) : Option (List Y8w) := some l22
def Zs (p0 : List Y8w) (l12 : List Y8w) (x13 : Int) : Option ((List Y8w × Int) ⊕ ((List Y8w))) := cond (decide (x13 < (p0.length : Int))) ((getI p0 x13).bind fun e15 => (Zp e15).bind fun r17 => (getI l12 x13).bind fun e20 => some (.inl ((List.set l12 (Int.toNat x13) r17), (IntKind.i64.wrap (x13 + 1))))) (some (.inr l12))
def Zt (p0 : List Y8w) : Option (List Y8w) := (chk (decide (0 ≤ (p0.length : Int) ∧ (p0.length : Int) * 96 ≤ 140737488355328))).bind fun u2 => (iter (fun z24 => Zs p0 z24.1 z24.2) big ((List.replicate (Int.toNat (p0.length : Int)) (Y8w.mk 0 0 0 0 0 0 ByteArray.empty [] 0)), 0)).bind fun y25 => Zr y25
set_option maxHeartbeats 1000000 in
theorem Zu (p0 : List Y8w) (r : List Y8w) (h : Zt p0 = some r) : Ok Tryz.prog 183 [C.im Y98 9 p0] [] (fun c qs => ∃ (v23 : Value), c = C.val v23 ∧ qs = [Obj.deep v23 136 Y9b Y9c 9 r]) := by
 refine Ok.of_body (rs := [.tmp 2]) Tryz.func183 rfl rfl rfl rfl rfl fun X => ?_
 unfold Zt at h
 refine zw ?_
 refine ob' h fun u2 c1 h => ?_
 refine Ops.h (ns := []) rfl rfl (Y66 (k := Y9b) (ob := Y9c) (z := (Y8w.mk 0 0 0 0 0 0 ByteArray.empty [] 0)) (u0 := s0) Yap Ya7 (Y42 rfl rfl) (fun _ _ => (Own.none_cons Y63 Own.none_nil)) rfl rfl (Y3x c1).1 (Y3x c1).2 (Y3y (by decide) c1) rfl) ?_
 rintro _ _ ⟨b3, rfl, rfl⟩
 refine Ops.v rfl (Yr rfl rfl) ?_
 refine Ops.nil ?_
 refine AW.seq ?_
 refine AW.cut (τ := List Y8w) (fun l22 => ⟨[(3, C.val (sv b3 (Int.toNat (p0.length : Int)) (Int.toNat (p0.length : Int))))], [Obj.deep (sv b3 (Int.toNat (p0.length : Int)) (Int.toNat (p0.length : Int))) 136 Y9b Y9c 9 l22]⟩) (fun l22 => Zr l22 = some r) ?_ ?_
 ·
  refine zw ?_
  refine AW.lp (v := ()) h (fun (l12, x13) (_ : Unit) => ⟨[(0, C.im Y98 9 p0), (3, C.val (sv b3 (Int.toNat (p0.length : Int)) (Int.toNat (p0.length : Int)))), (4, C.int x13)], [Obj.deep (sv b3 (Int.toNat (p0.length : Int)) (Int.toNat (p0.length : Int))) 136 Y9b Y9c 9 l12]⟩) (gb [0]) ?_
  rintro ⟨l12, x13⟩ _ y31 h
  refine zw ?_
  refine cnd h (fun hb14 h => ?_) fun hb14 h => ?_
  ·
   refine AW.ct hb14 rfl ?_
   refine zw ?_
   refine oi h fun e15 g16 h => ?_
   refine zw ?_
   refine ob' h fun r17 g18 h => ?_
   refine Ops.h (ns := []) rfl rfl (Y23 (Zq _ _ g18) rfl rfl) ?_
   rintro _ _ ⟨_, ⟨v19, rfl, rfl⟩, rfl⟩
   refine ob' h fun e20 g21 h => ?_
   refine Ops.v rfl (Y5y (p := 1) Yas.h rfl rfl rfl g21 rfl) ?_
   refine Ops.hd (ns := [1, 0]) rfl rfl (Y62 (e' := r17) (u' := v19) Yao.h rfl rfl rfl (Y29 g21).2.2 (fun _ => rfl) rfl rfl) ?_
   exact go
  exact go
 intro l22 h
 replace h : Zr l22 = some r := h
 unfold Zr at h
 refine zw ?_
 refine AW.ret ?_
 rw [← Option.some.inj h]
 exact ⟨[C.val (sv b3 (Int.toNat (p0.length : Int)) (Int.toNat (p0.length : Int)))], _, Y21.refl _, (.cons (.tmp rfl) .nil), [0], _, _, rfl, ⟨(sv b3 (Int.toNat (p0.length : Int)) (Int.toNat (p0.length : Int))), rfl, rfl⟩⟩
instance Zu' (p0 : List Y8w) : Sp Tryz.prog 183 [C.im Y98 9 p0] (Zt p0) (fun r => C.im Y98 9 r) := ⟨fun r h => Ok.freeze (Zu p0 r h) (by rintro c qs ⟨v23, rfl, rfl⟩; exact (Frz.deep Yar))⟩

def Zv (p0 : Y8x) : Option Y90 := (Zt p0.events).bind fun r4 => (Zt p0.parked).bind fun r8 => some (Y90.mk p0.room r4 r8)
set_option maxHeartbeats 1000000 in
theorem Zw (p0 : Y8x) (r : Y90) (h : Zv p0 = some r) : Ok Tryz.prog 133 [C.agg [C.int p0.room, C.im Y98 9 p0.events, C.im Y98 9 p0.parked]] [] (fun c qs => ∃ (v12 : Value) (v13 : Value), c = C.agg [C.int r.room, C.val v12, C.val v13] ∧ qs = [Obj.deep v12 136 Y9b Y9c 9 r.events, Obj.deep v13 136 Y9b Y9c 9 r.parked]) := by
 refine Ok.of_body (rs := [.cell 2 139]) Tryz.func133 rfl rfl rfl rfl rfl fun X => ?_
 unfold Zv at h
 refine zw ?_
 refine ox fun b1 => ?_
 refine Ops.h (ns := []) rfl rfl (Y1p (cs := [C.int 0, C.val s0, C.val s0]) Yat (Y42 rfl rfl) rfl) ?_
 rintro _ _ ⟨b2, rfl, rfl⟩
 refine zw ?_
 refine Ops.h (ns := []) rfl rfl (Y1p (cs := [C.int 0, C.val s0, C.val s0]) Yat (Y42 rfl rfl) rfl) ?_
 rintro _ _ ⟨b3, rfl, rfl⟩
 refine zw ?_
 refine Ops.hd (ns := [0]) rfl rfl (Y1t (gs := [C.int p0.room, C.val s0, C.val s0]) ld_2.h rfl rfl (One.val rfl) rfl rfl) ?_
 refine zw ?_
 refine ob' h fun r4 g5 h => ?_
 refine Ops.h (ns := []) rfl rfl (Y23 (Zu _ _ g5) rfl rfl) ?_
 rintro _ _ ⟨_, ⟨v6, rfl, rfl⟩, rfl⟩
 refine Ops.v rfl (Y1b Yaw.h rfl rfl) ?_
 refine Ops.learn (Sim.deep_one (p := 0) rfl) fun n7 => ?_
 refine Ops.hd (ns := [1]) rfl rfl (Y1t (gs := [C.int p0.room, C.val v6, C.val s0]) Yax.h rfl rfl (One.val n7) rfl rfl) ?_
 refine zw ?_
 refine ob' h fun r8 g9 h => ?_
 refine Ops.h (ns := []) rfl rfl (Y23 (Zu _ _ g9) rfl rfl) ?_
 rintro _ _ ⟨_, ⟨v10, rfl, rfl⟩, rfl⟩
 refine Ops.v rfl (Y1b Yay.h rfl rfl) ?_
 refine Ops.learn (Sim.deep_one (p := 0) rfl) fun n11 => ?_
 refine Ops.hd (ns := [1]) rfl rfl (Y1t (gs := [C.int p0.room, C.val v6, C.val v10]) Yax.h rfl rfl (One.val n11) rfl rfl) ?_
 refine zw ?_
 refine Ops.hd (ns := [3]) rfl rfl (Y1u (gs := [C.int p0.room, C.val v6, C.val v10]) Yaz.h rfl rfl rfl rfl rfl) ?_
 refine zw ?_
 refine AW.ret ?_
 rw [← Option.some.inj h]
 exact ⟨[C.agg [C.int p0.room, C.val v6, C.val v10]], _, Y21.refl _, (.cons (.cell (p := 0) rfl rfl Yaz.h rfl) .nil), [3, 2], _, _, rfl, ⟨v6, v10, rfl, rfl⟩⟩
instance Zw' (p0 : Y8x) : Sp Tryz.prog 133 [C.agg [C.int p0.room, C.im Y98 9 p0.events, C.im Y98 9 p0.parked]] (Zv p0) (fun r => C.agg [C.int r.room, C.im Y98 9 r.events, C.im Y98 9 r.parked]) := ⟨fun r h => Ok.freeze (Zw p0 r h) (by rintro c qs ⟨v12, v13, rfl, rfl⟩; exact Frz.agg (FrzL.cons (os := []) (Frz.same _) (FrzL.cons (os := [_]) ((Frz.deep Yar)) (FrzL.cons (os := [_]) ((Frz.deep Yar)) (FrzL.nil)))))⟩

def Zx (l24 : List Y90) : Option (List Y90) := some l24
def Zy (p0 : List Y8x) (l13 : List Y90) (x14 : Int) : Option ((List Y90 × Int) ⊕ ((List Y90))) := cond (decide (x14 < (p0.length : Int))) ((getI p0 x14).bind fun e16 => (Zv e16).bind fun r18 => (getI l13 x14).bind fun e22 => some (.inl ((List.set l13 (Int.toNat x14) r18), (IntKind.i64.wrap (x14 + 1))))) (some (.inr l13))
def Zz (p0 : List Y8x) : Option (List Y90) := (chk (decide (0 ≤ (p0.length : Int) ∧ (p0.length : Int) * 56 ≤ 140737488355328))).bind fun u2 => (iter (fun z26 => Zy p0 z26.1 z26.2) big ((List.replicate (Int.toNat (p0.length : Int)) (Y90.mk 0 [] [])), 0)).bind fun y27 => Zx y27
set_option maxHeartbeats 1000000 in
theorem Z10 (p0 : List Y8x) (r : List Y90) (h : Zz p0 = some r) : Ok Tryz.prog 71 [C.im Y99 3 p0] [] (fun c qs => ∃ (v25 : Value), c = C.val v25 ∧ qs = [Obj.deep v25 139 Y9e Y9f 3 r]) := by
 refine Ok.of_body (rs := [.tmp 2]) Tryz.func71 rfl rfl rfl rfl rfl fun X => ?_
 unfold Zz at h
 refine zw ?_
 refine ob' h fun u2 c1 h => ?_
 refine Ops.h (ns := []) rfl rfl (Y66 (k := Y9e) (ob := Y9f) (z := (Y90.mk 0 [] [])) (u0 := (s0, s0)) Yb0 Yat (Y42 rfl rfl) (fun _ _ => (Own.none_cons Y64 (Own.none_cons Y64 Own.none_nil))) rfl rfl (Y3x c1).1 (Y3x c1).2 (Y3y (by decide) c1) rfl) ?_
 rintro _ _ ⟨b3, rfl, rfl⟩
 refine Ops.v rfl (Yr rfl rfl) ?_
 refine Ops.nil ?_
 refine AW.seq ?_
 refine AW.cut (τ := List Y90) (fun l24 => ⟨[(3, C.val (sv b3 (Int.toNat (p0.length : Int)) (Int.toNat (p0.length : Int))))], [Obj.deep (sv b3 (Int.toNat (p0.length : Int)) (Int.toNat (p0.length : Int))) 139 Y9e Y9f 3 l24]⟩) (fun l24 => Zx l24 = some r) ?_ ?_
 ·
  refine zw ?_
  refine AW.lp (v := ()) h (fun (l13, x14) (_ : Unit) => ⟨[(0, C.im Y99 3 p0), (3, C.val (sv b3 (Int.toNat (p0.length : Int)) (Int.toNat (p0.length : Int)))), (4, C.int x14)], [Obj.deep (sv b3 (Int.toNat (p0.length : Int)) (Int.toNat (p0.length : Int))) 139 Y9e Y9f 3 l13]⟩) (gb [0]) ?_
  rintro ⟨l13, x14⟩ _ y33 h
  refine zw ?_
  refine cnd h (fun hb15 h => ?_) fun hb15 h => ?_
  ·
   refine AW.ct hb15 rfl ?_
   refine zw ?_
   refine oi h fun e16 g17 h => ?_
   refine zw ?_
   refine ob' h fun r18 g19 h => ?_
   refine Ops.h (ns := []) rfl rfl (Y23 (Zw _ _ g19) rfl rfl) ?_
   rintro _ _ ⟨_, ⟨v20, v21, rfl, rfl⟩, rfl⟩
   refine ob' h fun e22 g23 h => ?_
   refine Ops.v rfl (Y5y (p := 2) Yb2.h rfl rfl rfl g23 rfl) ?_
   refine Ops.hd (ns := [2, 0, 0]) rfl rfl (Y62 (e' := r18) (u' := (v20, v21)) Yaz.h rfl rfl rfl (Y29 g23).2.2 (fun _ => rfl) rfl rfl) ?_
   exact go
  exact go
 intro l24 h
 replace h : Zx l24 = some r := h
 unfold Zx at h
 refine zw ?_
 refine AW.ret ?_
 rw [← Option.some.inj h]
 exact ⟨[C.val (sv b3 (Int.toNat (p0.length : Int)) (Int.toNat (p0.length : Int)))], _, Y21.refl _, (.cons (.tmp rfl) .nil), [0], _, _, rfl, ⟨(sv b3 (Int.toNat (p0.length : Int)) (Int.toNat (p0.length : Int))), rfl, rfl⟩⟩
instance Z10' (p0 : List Y8x) : Sp Tryz.prog 71 [C.im Y99 3 p0] (Zz p0) (fun r => C.im Y9d 3 r) := ⟨fun r h => Ok.freeze (Z10 p0 r h) (by rintro c qs ⟨v25, rfl, rfl⟩; exact (Frz.deep Yb1))⟩

def Z11 (p0 : Y8y) : Option Y8y := some p0
instance Z12 (p0 : Y8y) : Sp Tryz.prog 134 [C.agg [C.int p0.room, C.int p0.id]] (Z11 p0) (fun r => C.agg [C.int r.room, C.int r.id]) := sp Tryz.func134 rfl rfl fun r X h => by
 unfold Z11 at h
 refine zw ?_
 refine ox fun b1 => ?_
 refine Ops.h (ns := []) rfl rfl (Y1p (cs := [C.int 0, C.int 0]) Yb3 (Y42 rfl rfl) rfl) ?_
 rintro _ _ ⟨b2, rfl, rfl⟩
 refine zw ?_
 refine Ops.h (ns := []) rfl rfl (Y1p (cs := [C.int 0, C.int 0]) Yb3 (Y42 rfl rfl) rfl) ?_
 rintro _ _ ⟨b3, rfl, rfl⟩
 refine zw ?_
 refine Ops.hd (ns := [0]) rfl rfl (Y1t (gs := [C.int p0.room, C.int 0]) ld_2.h rfl rfl (One.val rfl) rfl rfl) ?_
 refine zw ?_
 refine Ops.hd (ns := [0]) rfl rfl (Y1t (gs := [C.int p0.room, C.int p0.id]) ld_2.h rfl rfl (One.val rfl) rfl rfl) ?_
 refine zw ?_
 refine Ops.hd (ns := [1]) rfl rfl (Y1u (gs := [C.int p0.room, C.int p0.id]) Yb8.h rfl rfl rfl rfl rfl) ?_
 refine zw ?_
 refine AW.ret ?_
 rw [← Option.some.inj h]
 exact ⟨[C.agg [C.int p0.room, C.int p0.id]], _, Y21.refl _, (.cons (.cell (p := 0) rfl rfl Yb8.h rfl) .nil), [], _, _, rfl, ⟨rfl, rfl⟩⟩

def Z13 (l20 : List Y8y) : Option (List Y8y) := some l20
def Z14 (p0 : List Y8y) (l11 : List Y8y) (x12 : Int) : Option ((List Y8y × Int) ⊕ ((List Y8y))) := cond (decide (x12 < (p0.length : Int))) ((getI p0 x12).bind fun e14 => (Z11 e14).bind fun r16 => (getI l11 x12).bind fun e18 => some (.inl ((List.set l11 (Int.toNat x12) r16), (IntKind.i64.wrap (x12 + 1))))) (some (.inr l11))
def Z15 (p0 : List Y8y) : Option (List Y8y) := (chk (decide (0 ≤ (p0.length : Int) ∧ (p0.length : Int) * 16 ≤ 140737488355328))).bind fun u2 => (iter (fun z22 => Z14 p0 z22.1 z22.2) big ((List.replicate (Int.toNat (p0.length : Int)) (Y8y.mk 0 0)), 0)).bind fun y23 => Z13 y23
set_option maxHeartbeats 1000000 in
theorem Z16 (p0 : List Y8y) (r : List Y8y) (h : Z15 p0 = some r) : Ok Tryz.prog 72 [C.im Y9a 2 p0] [] (fun c qs => ∃ (v21 : Value), c = C.val v21 ∧ qs = [Obj.arr v21 142 Y9a 2 r]) := by
 refine Ok.of_body (rs := [.tmp 2]) Tryz.func72 rfl rfl rfl rfl rfl fun X => ?_
 unfold Z15 at h
 refine zw ?_
 refine ob' h fun u2 c1 h => ?_
 refine Ops.h (ns := []) rfl rfl (Y3b (k := Y9a) (z := (Y8y.mk 0 0)) Yb9 Yb3 (Y42 rfl rfl) rfl rfl (Y3x c1).1 (Y3x c1).2 (Y3y (by decide) c1) rfl) ?_
 rintro _ _ ⟨b3, rfl, rfl⟩
 refine Ops.v rfl (Yr rfl rfl) ?_
 refine Ops.nil ?_
 refine AW.seq ?_
 refine AW.cut (τ := List Y8y) (fun l20 => ⟨[(3, C.val (sv b3 (Int.toNat (p0.length : Int)) (Int.toNat (p0.length : Int))))], [Obj.arr (sv b3 (Int.toNat (p0.length : Int)) (Int.toNat (p0.length : Int))) 142 Y9a 2 l20]⟩) (fun l20 => Z13 l20 = some r) ?_ ?_
 ·
  refine zw ?_
  refine AW.lp (v := ()) h (fun (l11, x12) (_ : Unit) => ⟨[(0, C.im Y9a 2 p0), (3, C.val (sv b3 (Int.toNat (p0.length : Int)) (Int.toNat (p0.length : Int)))), (4, C.int x12)], [Obj.arr (sv b3 (Int.toNat (p0.length : Int)) (Int.toNat (p0.length : Int))) 142 Y9a 2 l11]⟩) (gb [0]) ?_
  rintro ⟨l11, x12⟩ _ y29 h
  refine zw ?_
  refine cnd h (fun hb13 h => ?_) fun hb13 h => ?_
  ·
   refine AW.ct hb13 rfl ?_
   refine zw ?_
   refine oi h fun e14 g15 h => ?_
   refine zw ?_
   refine oc h fun r16 g17 h => ?_
   refine oi h fun e18 g19 h => ?_
   refine Ops.hd (ns := [0]) rfl rfl (Y34 (e' := r16) Yb8.h rfl rfl rfl (Y29 g19).2.2 rfl rfl) ?_
   exact go
  exact go
 intro l20 h
 replace h : Z13 l20 = some r := h
 unfold Z13 at h
 refine zw ?_
 refine AW.ret ?_
 rw [← Option.some.inj h]
 exact ⟨[C.val (sv b3 (Int.toNat (p0.length : Int)) (Int.toNat (p0.length : Int)))], _, Y21.refl _, (.cons (.tmp rfl) .nil), [0], _, _, rfl, ⟨(sv b3 (Int.toNat (p0.length : Int)) (Int.toNat (p0.length : Int))), rfl, rfl⟩⟩
instance Z16' (p0 : List Y8y) : Sp Tryz.prog 72 [C.im Y9a 2 p0] (Z15 p0) (fun r => C.im Y9a 2 r) := ⟨fun r h => Ok.freeze (Z16 p0 r h) (by rintro c qs ⟨v21, rfl, rfl⟩; exact Frz.arr)⟩

def Z17 (p0 : THub) : Option Y91 := (Zz p0.rooms).bind fun r4 => (Z15 p0.stream).bind fun r8 => some (Y91.mk r4 r8)
theorem Z18 (p0 : THub) (r : Y91) (h : Z17 p0 = some r) : Ok Tryz.prog 15 [C.agg [C.im Y99 3 p0.rooms, C.im Y9a 2 p0.stream]] [] (fun c qs => ∃ (v12 : Value) (v13 : Value), c = C.agg [C.val v12, C.val v13] ∧ qs = [Obj.deep v12 139 Y9e Y9f 3 r.rooms, Obj.arr v13 142 Y9a 2 r.stream]) := by
 refine Ok.of_body (rs := [.cell 2 32]) Tryz.func15 rfl rfl rfl rfl rfl fun X => ?_
 unfold Z17 at h
 refine zw ?_
 refine ox fun b1 => ?_
 refine Ops.h (ns := []) rfl rfl (Y1p (cs := [C.val s0, C.val s0]) Ybc (Y42 rfl rfl) rfl) ?_
 rintro _ _ ⟨b2, rfl, rfl⟩
 refine zw ?_
 refine Ops.h (ns := []) rfl rfl (Y1p (cs := [C.val s0, C.val s0]) Ybc (Y42 rfl rfl) rfl) ?_
 rintro _ _ ⟨b3, rfl, rfl⟩
 refine zw ?_
 refine ob' h fun r4 g5 h => ?_
 refine Ops.h (ns := []) rfl rfl (Y23 (Z10 _ _ g5) rfl rfl) ?_
 rintro _ _ ⟨_, ⟨v6, rfl, rfl⟩, rfl⟩
 refine Ops.v rfl (Y1b Ybd.h rfl rfl) ?_
 refine Ops.learn (Sim.deep_one (p := 0) rfl) fun n7 => ?_
 refine Ops.hd (ns := [1]) rfl rfl (Y1t (gs := [C.val v6, C.val s0]) Ybe.h rfl rfl (One.val n7) rfl rfl) ?_
 refine zw ?_
 refine ob' h fun r8 g9 h => ?_
 refine Ops.h (ns := []) rfl rfl (Y23 (Z16 _ _ g9) rfl rfl) ?_
 rintro _ _ ⟨_, ⟨v10, rfl, rfl⟩, rfl⟩
 refine Ops.v rfl (Y1b Ybf.h rfl rfl) ?_
 refine Ops.learn (Sim.arr_one (p := 0) rfl) fun n11 => ?_
 refine Ops.hd (ns := [1]) rfl rfl (Y1t (gs := [C.val v6, C.val v10]) Ybg.h rfl rfl (One.val n11) rfl rfl) ?_
 refine zw ?_
 refine Ops.hd (ns := [3]) rfl rfl (Y1u (gs := [C.val v6, C.val v10]) Ybh.h rfl rfl rfl rfl rfl) ?_
 refine zw ?_
 refine AW.ret ?_
 rw [← Option.some.inj h]
 exact ⟨[C.agg [C.val v6, C.val v10]], _, Y21.refl _, (.cons (.cell (p := 0) rfl rfl Ybh.h rfl) .nil), [3, 2], _, _, rfl, ⟨v6, v10, rfl, rfl⟩⟩
instance Z18' (p0 : THub) : Sp Tryz.prog 15 [C.agg [C.im Y99 3 p0.rooms, C.im Y9a 2 p0.stream]] (Z17 p0) (fun r => C.agg [C.im Y9d 3 r.rooms, C.im Y9a 2 r.stream]) := ⟨fun r h => Ok.freeze (Z18 p0 r h) (by rintro c qs ⟨v12, v13, rfl, rfl⟩; exact Frz.agg (FrzL.cons (os := [_]) ((Frz.deep Yb1)) (FrzL.cons (os := [_]) (Frz.arr) (FrzL.nil))))⟩

def Z19 (p0 : Y8z) : Option Y8z := (Zn p0.at_).bind fun r4 => some (Y8z.mk p0.user r4)
theorem Z1a (p0 : Y8z) (r : Y8z) (h : Z19 p0 = some r) : Ok Tryz.prog 40 [C.agg [C.int p0.user, C.im kI64 1 p0.at_]] [] (fun c qs => ∃ (v8 : Value), c = C.agg [C.int r.user, C.val v8] ∧ qs = [Obj.arr v8 2 kI64 1 r.at_]) := by
 refine Ok.of_body (rs := [.cell 2 65]) Tryz.func40 rfl rfl rfl rfl rfl fun X => ?_
 unfold Z19 at h
 refine zw ?_
 refine ox fun b1 => ?_
 refine Ops.h (ns := []) rfl rfl (Y1p (cs := [C.int 0, C.val s0]) Ybi (Y42 rfl rfl) rfl) ?_
 rintro _ _ ⟨b2, rfl, rfl⟩
 refine zw ?_
 refine Ops.h (ns := []) rfl rfl (Y1p (cs := [C.int 0, C.val s0]) Ybi (Y42 rfl rfl) rfl) ?_
 rintro _ _ ⟨b3, rfl, rfl⟩
 refine zw ?_
 refine Ops.hd (ns := [0]) rfl rfl (Y1t (gs := [C.int p0.user, C.val s0]) ld_2.h rfl rfl (One.val rfl) rfl rfl) ?_
 refine zw ?_
 refine ob' h fun r4 g5 h => ?_
 refine Ops.h (ns := []) rfl rfl (Y23 (Zo _ _ g5) rfl rfl) ?_
 rintro _ _ ⟨_, ⟨v6, rfl, rfl⟩, rfl⟩
 refine Ops.v rfl (Y1b Ybl.h rfl rfl) ?_
 refine Ops.learn (Sim.arr_one (p := 0) rfl) fun n7 => ?_
 refine Ops.hd (ns := [1]) rfl rfl (Y1t (gs := [C.int p0.user, C.val v6]) Y9s.h rfl rfl (One.val n7) rfl rfl) ?_
 refine zw ?_
 refine Ops.hd (ns := [2]) rfl rfl (Y1u (gs := [C.int p0.user, C.val v6]) Ybm.h rfl rfl rfl rfl rfl) ?_
 refine zw ?_
 refine AW.ret ?_
 rw [← Option.some.inj h]
 exact ⟨[C.agg [C.int p0.user, C.val v6]], _, Y21.refl _, (.cons (.cell (p := 0) rfl rfl Ybm.h rfl) .nil), [2], _, _, rfl, ⟨v6, rfl, rfl⟩⟩
instance Z1a' (p0 : Y8z) : Sp Tryz.prog 40 [C.agg [C.int p0.user, C.im kI64 1 p0.at_]] (Z19 p0) (fun r => C.agg [C.int r.user, C.im kI64 1 r.at_]) := ⟨fun r h => Ok.freeze (Z1a p0 r h) (by rintro c qs ⟨v8, rfl, rfl⟩; exact Frz.agg (FrzL.cons (os := []) (Frz.same _) (FrzL.cons (os := [_]) (Frz.arr) (FrzL.nil))))⟩

def Z1b (x2 : Bool) : Option Bool := some x2
def Z1c (p0 : Int) (p1 : Int) (p2 : Int) : Option Bool := cond (decide (p0 ≥ p1)) (Z1b (decide (p0 ≤ p2))) (Z1b false)
instance Z1d (p0 : Int) (p1 : Int) (p2 : Int) : Sp Tryz.prog 69 [C.int p0, C.int p1, C.int p2] (Z1c p0 p1 p2) C.bool := sp Tryz.func69 rfl rfl fun r X h => go

def Z1e (p0 : Int) : Option Bool := (Z1c p0 1 1000000).bind fun r1 => some r1
instance Z1f (p0 : Int) : Sp Tryz.prog 270 [C.int p0] (Z1e p0) C.bool := sp Tryz.func270 rfl rfl fun r X h => go

def Z1g (p0 : Int) : Option Bool := (Z1c p0 1 6).bind fun r1 => some r1
instance Z1h (p0 : Int) : Sp Tryz.prog 97 [C.int p0] (Z1g p0) C.bool := sp Tryz.func97 rfl rfl fun r X h => go

def Z1i (p0 : Int) : Option Bool := (Z1c p0 0 1000000).bind fun r1 => some r1
instance Z1j (p0 : Int) : Sp Tryz.prog 271 [C.int p0] (Z1i p0) C.bool := sp Tryz.func271 rfl rfl fun r X h => go

def Z1k : Option Bool := some true
def Z1l (x14 : Int) (x25 : Bool) : Option (Int ⊕ (Bool ⊕ Unit)) := cond x25 (some (.inr (.inl false))) (some (.inl (IntKind.i64.wrap (x14 + 1))))
def Z1m (p0 : List Int) (p1 : Int) (x14 : Int) : Option (Int ⊕ (Bool ⊕ Unit)) := cond (decide (x14 < (p0.length : Int))) ((getI p0 x14).bind fun e16 => (Z1e e16).bind fun r18 => cond r18 (cond (e16 == p1) (Z1l x14 true) (cond (decide (x14 > 0)) ((getI p0 (IntKind.i64.wrap (x14 - 1))).bind fun e23 => Z1l x14 (decide (e23 ≥ e16))) (Z1l x14 false))) (Z1l x14 true)) (some (.inr (.inr ())))
def Z1n (p0 : List Int) (p1 : Int) : Option Bool := cond (decide ((p0.length : Int) > 4)) (some false) ((iter (Z1m p0 p1) big 0).bind (fun z28 => match z28 with | .inl y27 => some y27 | .inr () => Z1k))
set_option maxHeartbeats 1000000 in
instance Z1o (p0 : List Int) (p1 : Int) : Sp Tryz.prog 272 [C.im kI64 1 p0, C.int p1] (Z1n p0 p1) C.bool := sp Tryz.func272 rfl rfl fun r X h => by
 unfold Z1n at h
 refine zw ?_
 refine cnd h (fun hb1 h => go) fun hb1 h => ?_
 refine AW.cf hb1 rfl ?_
 refine zw ?_
 refine AW.lp (v := ()) h (fun x14 (_ : Unit) => ⟨[(0, C.im kI64 1 p0), (1, C.int p1), (5, C.int x14)], []⟩) (gb []) ?_
 rintro x14 _ y34 h
 refine zw ?_
 refine cnd h (fun hb15 h => ?_) fun hb15 h => ?_
 ·
  refine AW.ct hb15 rfl ?_
  refine zw ?_
  refine AW.regionD (L := [3, 10, 22, 26]) (Lt := []) (k := dec [0,3,6,10,14,15,18,21,24,27,31,33,36,39,42,45,48,51,54,57,60,63,67,69,72,75,79,81,84,87]) (ns := []) (by kernel_rfl) (by kernel_rfl) (by kernel_rfl) (by kernel_rfl) rfl ?_
  exact go
 exact go

def Z1p (x5 : Bool) : Option Bool := some x5
def Z1q (x13 : Bool) : Option Bool := some x13
def Z1r (x21 : Bool) : Option Bool := some x21
def Z1s (x25 : Bool) : Option Bool := some x25
def Z1t (x31 : Bool) : Option Bool := some x31
def Z1u (x37 : Bool) : Option Bool := some x37
def Z1v (x42 : Bool) : Option Bool := some x42
def Z1w (x48 : Bool) : Option Bool := some x48
def Z1x (p0 : Y8w) : Option Bool := cond (p0.kind == 1) (cond (p0.key == 0) (cond (p0.n == 0) (Z1p (p0.text.toList == ByteArray.empty.toList)) (Z1p false)) (Z1p false)) (cond (p0.kind == 2) ((Z1g p0.key).bind fun r7 => cond r7 ((Z1c p0.n 1 4).bind fun r10 => cond r10 (Z1q (p0.text.toList == ByteArray.empty.toList)) (Z1q false)) (Z1q false)) (cond (p0.kind == 3) ((Z1g p0.key).bind fun r15 => cond r15 ((Z1c p0.n 0 100).bind fun r18 => cond r18 (Z1r (p0.text.toList == ByteArray.empty.toList)) (Z1r false)) (Z1r false)) (cond (p0.kind == 4) (cond (p0.key == 0) (cond (p0.n == 0) (Z1s (decide ((p0.text.size : Int) ≤ 30))) (Z1s false)) (Z1s false)) (cond (p0.kind == 5) (cond (p0.key == 0) ((Z1c p0.n 1 2).bind fun r28 => cond r28 (Z1t (p0.text.toList == ByteArray.empty.toList)) (Z1t false)) (Z1t false)) (cond (p0.kind == 6) (cond (p0.key == 0) ((Z1c p0.n 1 3).bind fun r34 => cond r34 (Z1u (p0.text.toList == ByteArray.empty.toList)) (Z1u false)) (Z1u false)) (cond (p0.kind == 7) (cond (p0.key == 0) (cond (p0.n == 0) (cond (decide ((p0.text.size : Int) ≥ 1)) (Z1v (decide ((p0.text.size : Int) ≤ 30))) (Z1v false)) (Z1v false)) (Z1v false)) (cond (p0.kind == 8) ((Z1e p0.key).bind fun r44 => cond r44 (cond (p0.n == 0) (Z1w (p0.text.toList == ByteArray.empty.toList)) (Z1w false)) (Z1w false)) (some false))))))))
set_option maxHeartbeats 1000000 in
instance Z1y (p0 : Y8w) : Sp Tryz.prog 273 [C.agg [C.int p0.id, C.int p0.room, C.int p0.author, C.int p0.kind, C.int p0.key, C.int p0.n, C.str p0.text, C.im kI64 1 p0.prev, C.int p0.time]] (Z1x p0) C.bool := sp Tryz.func273 rfl rfl fun r X h => by
 unfold Z1x at h
 refine zw ?_
 refine ox fun b1 => ?_
 refine zw ?_
 refine AW.regionD (L := [1, 4, 7]) (Lt := []) (k := dec [0,4,6,9,13,15,18,22,24,27,30,33]) (ns := [0]) (by kernel_rfl) (by kernel_rfl) (by kernel_rfl) (by kernel_rfl) rfl ?_
 refine zw ?_
 refine cnd h (fun hb2 h => go) fun hb2 h => ?_
 refine AW.cf hb2 rfl ?_
 refine zw ?_
 refine cnd h (fun hb6 h => ?_) fun hb6 h => ?_
 ·
  refine AW.ct hb6 rfl ?_
  refine zw ?_
  refine oc h fun r7 g8 h => ?_
  refine zw ?_
  refine cnd h (fun hb9 h => ?_) fun hb9 h => ?_
  ·
   refine zw ?_
   refine ob' h fun r10 g11 h => ?_
   refine Ops.ghd (ns := []) rfl rfl rfl rfl hb9 rfl (Y24 ((Z1d _ _ _).h _ g11) rfl rfl) ?_
   exact go
  exact go
 refine AW.cf hb6 rfl ?_
 refine zw ?_
 refine cnd h (fun hb14 h => ?_) fun hb14 h => ?_
 ·
  refine AW.ct hb14 rfl ?_
  refine zw ?_
  refine oc h fun r15 g16 h => ?_
  refine zw ?_
  refine cnd h (fun hb17 h => ?_) fun hb17 h => ?_
  ·
   refine zw ?_
   refine ob' h fun r18 g19 h => ?_
   refine Ops.ghd (ns := []) rfl rfl rfl rfl hb17 rfl (Y24 ((Z1d _ _ _).h _ g19) rfl rfl) ?_
   exact go
  exact go
 refine AW.cf hb14 rfl ?_
 refine zw ?_
 refine cnd h (fun hb22 h => go) fun hb22 h => ?_
 refine AW.cf hb22 rfl ?_
 refine zw ?_
 refine cnd h (fun hb26 h => ?_) fun hb26 h => ?_
 ·
  refine AW.ct hb26 rfl ?_
  refine zw ?_
  refine cnd h (fun hb27 h => ?_) fun hb27 h => ?_
  ·
   refine zw ?_
   refine ob' h fun r28 g29 h => ?_
   refine Ops.ghd (ns := []) rfl rfl rfl rfl hb27 rfl (Y24 ((Z1d _ _ _).h _ g29) rfl rfl) ?_
   exact go
  exact go
 refine AW.cf hb26 rfl ?_
 refine zw ?_
 refine cnd h (fun hb32 h => ?_) fun hb32 h => ?_
 ·
  refine AW.ct hb32 rfl ?_
  refine zw ?_
  refine cnd h (fun hb33 h => ?_) fun hb33 h => ?_
  ·
   refine zw ?_
   refine ob' h fun r34 g35 h => ?_
   refine Ops.ghd (ns := []) rfl rfl rfl rfl hb33 rfl (Y24 ((Z1d _ _ _).h _ g35) rfl rfl) ?_
   exact go
  exact go
 exact go

def Z1z (x20 : Bool) : Option Bool := some x20
def Z20 (p0 : Y8w) : Option Bool := (Z1e p0.id).bind fun r2 => cond r2 ((Z1c p0.room 1 3).bind fun r5 => cond r5 ((Z1g p0.author).bind fun r8 => cond r8 ((Z1i p0.time).bind fun r11 => cond r11 ((Z1n p0.prev p0.id).bind fun r14 => cond r14 (cond ((p0.kind == 1) == ((p0.prev.length : Int) == 0)) ((Z1x p0).bind fun r18 => Z1z r18) (Z1z false)) (Z1z false)) (Z1z false)) (Z1z false)) (Z1z false)) (Z1z false)
set_option maxHeartbeats 1000000 in
instance Z21 (p0 : Y8w) : Sp Tryz.prog 226 [C.agg [C.int p0.id, C.int p0.room, C.int p0.author, C.int p0.kind, C.int p0.key, C.int p0.n, C.str p0.text, C.im kI64 1 p0.prev, C.int p0.time]] (Z20 p0) C.bool := sp Tryz.func226 rfl rfl fun r X h => by
 unfold Z20 at h
 refine zw ?_
 refine ox fun b1 => ?_
 refine zw ?_
 refine oc h fun r2 g3 h => ?_
 refine zw ?_
 refine cnd h (fun hb4 h => ?_) fun hb4 h => ?_
 ·
  refine zw ?_
  refine ob' h fun r5 g6 h => ?_
  refine Ops.ghd (ns := []) rfl rfl rfl rfl hb4 rfl (Y24 ((Z1d _ _ _).h _ g6) rfl rfl) ?_
  refine zw ?_
  refine cnd h (fun hb7 h => ?_) fun hb7 h => ?_
  ·
   refine zw ?_
   refine ob' h fun r8 g9 h => ?_
   refine Ops.ghd (ns := []) rfl rfl rfl rfl hb7 rfl (Y24 ((Z1h _).h _ g9) rfl rfl) ?_
   refine zw ?_
   refine cnd h (fun hb10 h => ?_) fun hb10 h => ?_
   ·
    refine zw ?_
    refine ob' h fun r11 g12 h => ?_
    refine Ops.ghd (ns := []) rfl rfl rfl rfl hb10 rfl (Y24 ((Z1j _).h _ g12) rfl rfl) ?_
    refine zw ?_
    refine cnd h (fun hb13 h => ?_) fun hb13 h => ?_
    ·
     refine zw ?_
     refine ob' h fun r14 g15 h => ?_
     refine Ops.ghd (ns := []) rfl rfl rfl rfl hb13 rfl (Y24 ((Z1o _ _).h _ g15) rfl rfl) ?_
     refine zw ?_
     refine cnd h (fun hb16 h => ?_) fun hb16 h => ?_
     ·
      refine zw ?_
      refine Ops.gv rfl rfl rfl rfl hb16 (Y10 un_4 rfl rfl rfl) ?_
      refine zw ?_
      refine cnd h (fun hb17 h => ?_) fun hb17 h => ?_
      ·
       refine zw ?_
       refine ob' h fun r18 g19 h => ?_
       refine Ops.ghd (ns := []) rfl rfl rfl rfl hb17 rfl (Y24 ((Z1y _).h _ g19) rfl rfl) ?_
       exact go
      exact go
     exact go
    exact go
   exact go
  exact go
 exact go

def Z22 : Option Bool := some true
def Z23 (x14 : Int) (x25 : Bool) : Option (Int ⊕ (Bool ⊕ Unit)) := cond x25 (some (.inr (.inl false))) (some (.inl (IntKind.i64.wrap (x14 + 1))))
def Z24 (p0 : List Y8w) (p1 : Int) (x14 : Int) : Option (Int ⊕ (Bool ⊕ Unit)) := cond (decide (x14 < (p0.length : Int))) ((getI p0 x14).bind fun e16 => (Z20 e16).bind fun r18 => cond r18 (cond (e16.room != p1) (Z23 x14 true) (cond (decide (x14 > 0)) ((getI p0 (IntKind.i64.wrap (x14 - 1))).bind fun e23 => Z23 x14 (decide (e23.id ≥ e16.id))) (Z23 x14 false))) (Z23 x14 true)) (some (.inr (.inr ())))
def Z25 (p0 : List Y8w) (p1 : Int) (p2 : Int) : Option Bool := cond (decide ((p0.length : Int) > p2)) (some false) ((iter (Z24 p0 p1) big 0).bind (fun z28 => match z28 with | .inl y27 => some y27 | .inr () => Z22))
set_option maxHeartbeats 1000000 in
instance Z26 (p0 : List Y8w) (p1 : Int) (p2 : Int) : Sp Tryz.prog 176 [C.im Y98 9 p0, C.int p1, C.int p2] (Z25 p0 p1 p2) C.bool := sp Tryz.func176 rfl rfl fun r X h => by
 unfold Z25 at h
 refine zw ?_
 refine cnd h (fun hb1 h => go) fun hb1 h => ?_
 refine AW.cf hb1 rfl ?_
 refine zw ?_
 refine AW.lp (v := ()) h (fun x14 (_ : Unit) => ⟨[(0, C.im Y98 9 p0), (1, C.int p1), (7, C.int x14)], []⟩) (gb []) ?_
 rintro x14 _ y34 h
 refine zw ?_
 refine cnd h (fun hb15 h => ?_) fun hb15 h => ?_
 ·
  refine AW.ct hb15 rfl ?_
  refine zw ?_
  refine AW.regionD (L := [3, 11, 24, 29]) (Lt := []) (k := dec [0,3,6,10,14,15,18,21,24,27,30,34,36,39,42,45,48,51,54,57,60,63,66,69,73,75,78,81,84,88,90,93,96]) (ns := []) (by kernel_rfl) (by kernel_rfl) (by kernel_rfl) (by kernel_rfl) rfl ?_
  exact go
 exact go

def Z27 : Option Int := some (-1)
def Z28 (p0 : List Y8w) (p1 : Int) (x5 : Int) : Option (Int ⊕ (Int ⊕ Unit)) := cond (decide (x5 < (p0.length : Int))) ((getI p0 x5).bind fun e7 => cond (e7.id == p1) (some (.inr (.inl x5))) (some (.inl (IntKind.i64.wrap (x5 + 1))))) (some (.inr (.inr ())))
def Z29 (p0 : List Y8w) (p1 : Int) : Option Int := (iter (Z28 p0 p1) big 0).bind (fun z11 => match z11 with | .inl y10 => some y10 | .inr () => Z27)
set_option maxHeartbeats 1000000 in
instance Z2a (p0 : List Y8w) (p1 : Int) : Sp Tryz.prog 107 [C.im Y98 9 p0, C.int p1] (Z29 p0 p1) C.int := sp Tryz.func107 rfl rfl fun r X h => by
 unfold Z29 at h
 refine zw ?_
 refine AW.lp (v := ()) h (fun x5 (_ : Unit) => ⟨[(0, C.im Y98 9 p0), (1, C.int p1), (5, C.int x5)], []⟩) (gb []) ?_
 rintro x5 _ y17 h
 exact go

def Z2b : Option Bool := some true
def Z2c (p0 : List Y8w) (p1 : Y8w) (x8 : Int) : Option (Int ⊕ (Bool ⊕ Unit)) := cond (decide (x8 < (p1.prev.length : Int))) ((getI p1.prev x8).bind fun e10 => (Z29 p0 e10).bind fun r12 => cond (decide (r12 < 0)) (some (.inr (.inl false))) (some (.inl (IntKind.i64.wrap (x8 + 1))))) (some (.inr (.inr ())))
def Z2d (p0 : List Y8w) (p1 : Y8w) : Option Bool := (iter (Z2c p0 p1) big 0).bind (fun z16 => match z16 with | .inl y15 => some y15 | .inr () => Z2b)
set_option maxHeartbeats 1000000 in
instance Z2e (p0 : List Y8w) (p1 : Y8w) : Sp Tryz.prog 177 [C.im Y98 9 p0, C.agg [C.int p1.id, C.int p1.room, C.int p1.author, C.int p1.kind, C.int p1.key, C.int p1.n, C.str p1.text, C.im kI64 1 p1.prev, C.int p1.time]] (Z2d p0 p1) C.bool := sp Tryz.func177 rfl rfl fun r X h => by
 unfold Z2d at h
 refine zw ?_
 refine ox fun b1 => ?_
 refine zw ?_
 refine AW.lp (v := ()) h (fun x8 (_ : Unit) => ⟨[(0, C.im Y98 9 p0), (3, pt b1), (5, C.int x8)], [Obj.box b1 136 [C.int p1.id, C.int p1.room, C.int p1.author, C.int p1.kind, C.int p1.key, C.int p1.n, C.str p1.text, C.im kI64 1 p1.prev, C.int p1.time]]⟩) (gb [0]) ?_
 rintro x8 _ y22 h
 exact go

def Z2f (l161 : List Int) : Option (List Int) := some l161
def Z2g (x82 : Int) (l160 : List Int) : Option ((List Int × Int) ⊕ ((List Int))) := some (.inl (l160, (IntKind.i64.wrap (x82 + 1))))
def Z2h (x122 : Int) (l159 : List Int) : Option ((List Int × Int) ⊕ ((List Int))) := some (.inl (l159, (IntKind.i64.wrap (x122 + 1))))
def Z2i (l121 : List Int) (x122 : Int) (x156 : Int) (x157 : Bool) : Option ((List Int × Int) ⊕ ((List Int))) := cond x157 (Z2h x122 (List.set l121 (Int.toNat x122) (IntKind.i64.wrap (x156 + 1)))) (Z2h x122 l121)
def Z2j (x141 : Int) (x154 : Int) (x155 : Bool) : Option ((Int × Bool × Int) ⊕ ((Int × Bool))) := some (.inl (x154, x155, (IntKind.i64.wrap (x141 + 1))))
def Z2k (x139 : Int) (x141 : Int) (e149 : Int) (x152 : Bool) : Option ((Int × Bool × Int) ⊕ ((Int × Bool))) := cond (decide (e149 > x139)) (Z2j x141 e149 x152) (Z2j x141 x139 x152)
def Z2l (p0 : List Y8w) (l121 : List Int) (x122 : Int) (x139 : Int) (x140 : Bool) (x141 : Int) : Option ((Int × Bool × Int) ⊕ ((Int × Bool))) := (getI p0 x122).bind fun e142 => cond (decide (x141 < (e142.prev.length : Int))) ((getI e142.prev x141).bind fun e145 => (Z29 p0 e145).bind fun r147 => (getI l121 r147).bind fun e149 => cond x140 (Z2k x139 x141 e149 (decide (e149 > 0))) (Z2k x139 x141 e149 false)) (some (.inr (x139, x140)))
def Z2m (p0 : List Y8w) (l121 : List Int) (x122 : Int) : Option ((List Int × Int) ⊕ ((List Int))) := cond (decide (x122 < (p0.length : Int))) ((getI l121 x122).bind fun e124 => cond (decide (e124 > 0)) (Z2h x122 l121) ((iter (fun z163 => Z2l p0 l121 x122 z163.1 z163.2.1 z163.2.2) big (0, true, 0)).bind fun (y164, y165) => Z2i l121 x122 y164 y165)) (some (.inr l121))
def Z2n (p0 : List Y8w) (l81 : List Int) (x82 : Int) : Option ((List Int × Int) ⊕ ((List Int))) := cond (decide (x82 < (p0.length : Int))) ((iter (fun z166 => Z2m p0 z166.1 z166.2) big (l81, 0)).bind fun y167 => Z2g x82 y167) (some (.inr l81))
def Z2o (p0 : List Y8w) : Option (List Int) := (chk (decide (0 ≤ (p0.length : Int) ∧ (p0.length : Int) * 8 ≤ 140737488355328))).bind fun u2 => (iter (fun z168 => Z2n p0 z168.1 z168.2) big ((List.replicate (Int.toNat (p0.length : Int)) 0), 0)).bind fun y169 => Z2f y169
set_option maxHeartbeats 1000000 in
theorem Z2p (p0 : List Y8w) (r : List Int) (h : Z2o p0 = some r) : Ok Tryz.prog 178 [C.im Y98 9 p0] [] (fun c qs => ∃ (v162 : Value), c = C.val v162 ∧ qs = [Obj.arr v162 2 kI64 1 r]) := by
 refine Ok.of_body (rs := [.tmp 2]) Tryz.func178 rfl rfl rfl rfl rfl fun X => ?_
 unfold Z2o at h
 refine zw ?_
 refine ob' h fun u2 c1 h => ?_
 refine Ops.h (ns := []) rfl rfl (Y3b (k := kI64) (z := 0) Ya6 ze_2 (Y42 rfl rfl) rfl rfl (Y3x c1).1 (Y3x c1).2 (Y3y (by decide) c1) rfl) ?_
 rintro _ _ ⟨b3, rfl, rfl⟩
 refine Ops.v rfl (Yr rfl rfl) ?_
 refine Ops.nil ?_
 refine AW.seq ?_
 refine AW.cut (τ := List Int) (fun l161 => ⟨[(3, C.val (sv b3 (Int.toNat (p0.length : Int)) (Int.toNat (p0.length : Int))))], [Obj.arr (sv b3 (Int.toNat (p0.length : Int)) (Int.toNat (p0.length : Int))) 2 kI64 1 l161]⟩) (fun l161 => Z2f l161 = some r) ?_ ?_
 ·
  refine zw ?_
  refine AW.lp (v := ()) h (fun (l81, x82) (_ : Unit) => ⟨[(0, C.im Y98 9 p0), (3, C.val (sv b3 (Int.toNat (p0.length : Int)) (Int.toNat (p0.length : Int)))), (4, C.int x82)], [Obj.arr (sv b3 (Int.toNat (p0.length : Int)) (Int.toNat (p0.length : Int))) 2 kI64 1 l81]⟩) (gb [0]) ?_
  rintro ⟨l81, x82⟩ _ y175 h
  refine zw ?_
  refine cnd h (fun hb83 h => ?_) fun hb83 h => ?_
  ·
   refine AW.ct hb83 rfl ?_
   refine zw ?_
   refine AW.lp (v := ()) h (fun (l121, x122) (_ : Unit) => ⟨[(0, C.im Y98 9 p0), (3, C.val (sv b3 (Int.toNat (p0.length : Int)) (Int.toNat (p0.length : Int)))), (4, C.int x82), (5, C.int x122)], [Obj.arr (sv b3 (Int.toNat (p0.length : Int)) (Int.toNat (p0.length : Int))) 2 kI64 1 l121]⟩) (gb [0]) ?_
   rintro ⟨l121, x122⟩ _ y182 h
   refine zw ?_
   refine cnd h (fun hb123 h => ?_) fun hb123 h => ?_
   ·
    refine AW.ct hb123 rfl ?_
    refine zw ?_
    refine oi h fun e124 g125 h => ?_
    refine Ops.v rfl (Y30 (p := 0) ld_2.h rfl rfl (Y29 g125).2.2 rfl rfl) ?_
    refine zw ?_
    refine cnd h (fun hb126 h => go) fun hb126 h => ?_
    refine AW.cf hb126 rfl ?_
    refine AW.skip ?_
    refine AW.seq ?_
    refine AW.region ?_
    refine Ops.v rfl (Yr rfl rfl) ?_
    refine Ops.nil ?_
    refine AW.seq ?_
    refine AW.region ?_
    refine Ops.v rfl (Yr rfl rfl) ?_
    refine Ops.nil ?_
    refine AW.seq ?_
    refine AW.cut (τ := Int × Bool) (fun (x156, x157) => ⟨[(0, C.im Y98 9 p0), (3, C.val (sv b3 (Int.toNat (p0.length : Int)) (Int.toNat (p0.length : Int)))), (4, C.int x82), (5, C.int x122), (6, C.int x156), (7, C.bool x157)], [Obj.arr (sv b3 (Int.toNat (p0.length : Int)) (Int.toNat (p0.length : Int))) 2 kI64 1 l121]⟩) (fun (x156, x157) => Z2i l121 x122 x156 x157 = some y182) ?_ ?_
    ·
     refine zw ?_
     refine AW.lp (v := ()) h (fun (x139, x140, x141) (_ : Unit) => ⟨[(0, C.im Y98 9 p0), (3, C.val (sv b3 (Int.toNat (p0.length : Int)) (Int.toNat (p0.length : Int)))), (4, C.int x82), (5, C.int x122), (6, C.int x139), (7, C.bool x140), (8, C.int x141)], [Obj.arr (sv b3 (Int.toNat (p0.length : Int)) (Int.toNat (p0.length : Int))) 2 kI64 1 l121]⟩) (gb [0]) ?_
     rintro ⟨x139, x140, x141⟩ _ y189 h
     refine zw ?_
     refine oi h fun e142 g143 h => ?_
     refine zw ?_
     refine cnd h (fun hb144 h => ?_) fun hb144 h => ?_
     ·
      refine AW.ct hb144 rfl ?_
      refine zw ?_
      refine oi h fun e145 g146 h => ?_
      refine zw ?_
      refine oc h fun r147 g148 h => ?_
      refine oi h fun e149 g150 h => ?_
      refine Ops.v rfl (Y30 (p := 0) ld_2.h rfl rfl (Y29 g150).2.2 rfl rfl) ?_
      exact go
     exact go
    rintro ⟨x156, x157⟩ h
    replace h : Z2i l121 x122 x156 x157 = some y182 := h
    unfold Z2i at h
    refine zw ?_
    refine cnd h (fun hb158 h => ?_) fun hb158 h => ?_
    ·
     refine AW.ct hb158 rfl ?_
     refine zw ?_
     refine Ops.hd (ns := [0]) rfl rfl (Y33 (e' := (IntKind.i64.wrap (x156 + 1))) ld_2.h rfl rfl (One.val rfl) (Y29 g125).2.2 rfl rfl) ?_
     exact go
    exact go
   exact go
  exact go
 intro l161 h
 replace h : Z2f l161 = some r := h
 unfold Z2f at h
 refine zw ?_
 refine AW.ret ?_
 rw [← Option.some.inj h]
 exact ⟨[C.val (sv b3 (Int.toNat (p0.length : Int)) (Int.toNat (p0.length : Int)))], _, Y21.refl _, (.cons (.tmp rfl) .nil), [0], _, _, rfl, ⟨(sv b3 (Int.toNat (p0.length : Int)) (Int.toNat (p0.length : Int))), rfl, rfl⟩⟩
instance Z2p' (p0 : List Y8w) : Sp Tryz.prog 178 [C.im Y98 9 p0] (Z2o p0) (fun r => C.im kI64 1 r) := ⟨fun r h => Ok.freeze (Z2p p0 r h) (by rintro c qs ⟨v162, rfl, rfl⟩; exact Frz.arr)⟩

def Z2q : Option Bool := some true
def Z2r (r46 : List Int) (x52 : Int) : Option (Int ⊕ (Bool ⊕ Unit)) := cond (decide (x52 < (r46.length : Int))) ((getI r46 x52).bind fun e54 => cond (e54 == 0) (some (.inr (.inl false))) (some (.inl (IntKind.i64.wrap (x52 + 1))))) (some (.inr (.inr ())))
def Z2s (p0 : Y90) : Option Bool := (Z2o p0.events).bind fun r46 => (iter (Z2r r46) big 0).bind (fun z58 => match z58 with | .inl y57 => some y57 | .inr () => Z2q)
def Z2t (p0 : Y90) (x39 : Int) : Option (Int ⊕ (Bool ⊕ Unit)) := cond (decide (x39 < (p0.parked.length : Int))) ((getI p0.parked x39).bind fun e41 => (Z2d p0.events e41).bind fun r43 => cond r43 (some (.inr (.inl false))) (some (.inl (IntKind.i64.wrap (x39 + 1))))) (some (.inr (.inr ())))
def Z2u (p0 : Y90) : Option Bool := (iter (Z2t p0) big 0).bind (fun z60 => match z60 with | .inl y59 => some y59 | .inr () => Z2s p0)
def Z2v (x22 : Int) (x31 : Bool) : Option (Int ⊕ (Bool ⊕ Unit)) := cond x31 (some (.inr (.inl false))) (some (.inl (IntKind.i64.wrap (x22 + 1))))
def Z2w (p0 : Y90) (x22 : Int) : Option (Int ⊕ (Bool ⊕ Unit)) := cond (decide (x22 < (p0.events.length : Int))) ((getI p0.events x22).bind fun e24 => (Z2d p0.events e24).bind fun r26 => cond r26 ((Z29 p0.parked e24.id).bind fun r29 => Z2v x22 (decide (r29 ≥ 0))) (Z2v x22 true)) (some (.inr (.inr ())))
def Z2x (p0 : Y90) (x10 : Bool) : Option Bool := cond x10 (some false) ((iter (Z2w p0) big 0).bind (fun z62 => match z62 with | .inl y61 => some y61 | .inr () => Z2u p0))
def Z2y (p0 : Y90) : Option Bool := (Z1c p0.room 1 3).bind fun r2 => cond r2 ((Z25 p0.events p0.room 60).bind fun r5 => cond r5 ((Z25 p0.parked p0.room 20).bind fun r8 => Z2x p0 (!r8)) (Z2x p0 true)) (Z2x p0 true)
set_option maxHeartbeats 1000000 in
instance Z2z (p0 : Y90) : Sp Tryz.prog 129 [C.agg [C.int p0.room, C.im Y98 9 p0.events, C.im Y98 9 p0.parked]] (Z2y p0) C.bool := sp Tryz.func129 rfl rfl fun r X h => by
 unfold Z2y at h
 refine zw ?_
 refine ox fun b1 => ?_
 refine Ops.v rfl (Yr rfl rfl) ?_
 refine Ops.nil ?_
 refine AW.seq ?_
 refine AW.seq ?_
 refine AW.cut (τ := Bool) (fun x10 => ⟨[(1, pt b1), (26, C.bool x10)], [Obj.box b1 139 [C.int p0.room, C.im Y98 9 p0.events, C.im Y98 9 p0.parked]]⟩) (fun x10 => Z2x p0 x10 = some r) ?_ ?_
 ·
  refine zw ?_
  refine oc h fun r2 g3 h => ?_
  refine zw ?_
  refine cnd h (fun hb4 h => ?_) fun hb4 h => ?_
  ·
   refine zw ?_
   refine ob' h fun r5 g6 h => ?_
   refine Ops.ghd (ns := []) rfl rfl rfl rfl (Y3u hb4) rfl (Y24 ((Z26 _ _ _).h _ g6) rfl rfl) ?_
   refine zw ?_
   refine cnd h (fun hb7 h => ?_) fun hb7 h => ?_
   ·
    refine zw ?_
    refine ob' h fun r8 g9 h => ?_
    refine Ops.ghd (ns := []) rfl rfl rfl rfl (Y3u hb7) rfl (Y24 ((Z26 _ _ _).h _ g9) rfl rfl) ?_
    exact go
   exact go
  exact go
 intro x10 h
 replace h : Z2x p0 x10 = some r := h
 unfold Z2x at h
 refine cnd h (fun hb11 h => go) fun hb11 h => ?_
 refine AW.cf hb11 rfl ?_
 refine AW.skip ?_
 refine AW.seq ?_
 refine AW.cut (τ := Unit) (fun (_ : Unit) => ⟨[(1, pt b1)], [Obj.box b1 139 [C.int p0.room, C.im Y98 9 p0.events, C.im Y98 9 p0.parked]]⟩) (fun (_ : Unit) => Z2u p0 = some r) ?_ ?_
 ·
  refine zw ?_
  refine AW.lp (v := ()) h (fun x22 (_ : Unit) => ⟨[(1, pt b1), (3, C.int x22)], [Obj.box b1 139 [C.int p0.room, C.im Y98 9 p0.events, C.im Y98 9 p0.parked]]⟩) (gb [0]) ?_
  rintro x22 _ y82 h
  refine zw ?_
  refine cnd h (fun hb23 h => ?_) fun hb23 h => ?_
  ·
   refine AW.ct hb23 rfl ?_
   refine zw ?_
   refine AW.regionD (L := [1, 3, 6, 11, 13, 17]) (Lt := []) (k := dec [0,4,6,10,12,15,19,23,24,27,30,34,36,40,42,45,48,52,56,57,60]) (ns := [0]) (by kernel_rfl) (by kernel_rfl) (by kernel_rfl) (by kernel_rfl) rfl ?_
   refine zw ?_
   refine di h fun e24 g25 h => ?_
   refine zw ?_
   refine dc h fun r26 g27 h => ?_
   refine zw ?_
   refine cnd h (fun hb28 h => ?_) fun hb28 h => ?_
   ·
    refine zw ?_
    refine ob' h fun r29 g30 h => ?_
    refine Y3n.gh (ns := []) rfl rfl rfl rfl rfl (Y3u hb28) rfl (Y24 ((Z2a _ _).h _ g30) rfl rfl) ?_
    rintro _ _ ⟨rfl, rfl⟩
    exact go
   refine OpsD.gs rfl rfl rfl rfl (.b rfl (Y3v hb28)) rfl rfl ?_
   refine OpsD.gs rfl rfl rfl rfl (.b rfl (Y3v hb28)) rfl rfl ?_
   refine OpsD.gs rfl rfl rfl rfl (.b rfl (Y3v hb28)) rfl rfl ?_
   refine OpsD.gs rfl rfl rfl rfl (.b rfl (Y3v hb28)) rfl rfl ?_
   refine OpsD.gs rfl rfl rfl rfl (.b rfl (Y3v hb28)) rfl rfl ?_
   refine OpsD.gs rfl rfl rfl rfl (.b rfl (Y3v hb28)) rfl rfl ?_
   refine OpsD.gs rfl rfl rfl rfl (.b rfl (Y3v hb28)) rfl rfl ?_
   refine OpsD.gs rfl rfl rfl rfl (.b rfl (Y3v hb28)) rfl rfl ?_
   refine OpsD.one ?_
   refine Y3n.gs rfl rfl rfl rfl (.b rfl (Y3v hb28)) rfl rfl ?_
   exact go
  exact go
 rintro ⟨⟩ h
 replace h : Z2u p0 = some r := h
 unfold Z2u at h
 refine AW.seq ?_
 refine AW.cut (τ := Unit) (fun (_ : Unit) => ⟨[(1, pt b1)], [Obj.box b1 139 [C.int p0.room, C.im Y98 9 p0.events, C.im Y98 9 p0.parked]]⟩) (fun (_ : Unit) => Z2s p0 = some r) ?_ ?_
 ·
  refine zw ?_
  refine AW.lp (v := ()) h (fun x39 (_ : Unit) => ⟨[(1, pt b1), (4, C.int x39)], [Obj.box b1 139 [C.int p0.room, C.im Y98 9 p0.events, C.im Y98 9 p0.parked]]⟩) (gb [0]) ?_
  rintro x39 _ y75 h
  refine zw ?_
  refine cnd h (fun hb40 h => ?_) fun hb40 h => ?_
  ·
   refine AW.ct hb40 rfl ?_
   refine zw ?_
   refine AW.regionD (L := [1, 3, 6]) (Lt := []) (k := dec [0,4,6,10,12,15,19,23]) (ns := [0]) (by kernel_rfl) (by kernel_rfl) (by kernel_rfl) (by kernel_rfl) rfl ?_
   exact go
  exact go
 rintro ⟨⟩ h
 replace h : Z2s p0 = some r := h
 unfold Z2s at h
 refine zw ?_
 refine oc h fun r46 g47 h => ?_
 refine zw ?_
 refine AW.lp (v := ()) h (fun x52 (_ : Unit) => ⟨[(5, C.im kI64 1 r46), (6, C.int x52)], []⟩) (gb []) ?_
 rintro x52 _ y68 h
 exact go

def Z30 (l69 : List Int) : Option (List Int) := some l69
def Z31 (x37 : Int) (l67 : List Int) : Option ((List Int × Int) ⊕ ((List Int))) := some (.inl (l67, (IntKind.i64.wrap (x37 + 1))))
def Z32 (x53 : Int) (l65 : List Int) : Option ((List Int × Int) ⊕ ((List Int))) := some (.inl (l65, (IntKind.i64.wrap (x53 + 1))))
def Z33 (p0 : Y90) (r2 : List Int) (x37 : Int) (l52 : List Int) (x53 : Int) : Option ((List Int × Int) ⊕ ((List Int))) := cond (decide (x53 < (p0.events.length : Int))) ((getI r2 x53).bind fun e55 => cond (e55 == x37) ((getI p0.events x53).bind fun e58 => (chk (decide ((l52.length + [e58.id].length) * 8 ≤ 140737488355328))).bind fun u62 => Z32 x53 (l52 ++ [e58.id])) (Z32 x53 l52)) (some (.inr l52))
def Z34 (p0 : Y90) (r2 : List Int) (l36 : List Int) (x37 : Int) : Option ((List Int × Int) ⊕ ((List Int))) := cond (decide ((l36.length : Int) < (p0.events.length : Int))) ((iter (fun z71 => Z33 p0 r2 x37 z71.1 z71.2) big (l36, 0)).bind fun y72 => Z31 x37 y72) (some (.inr l36))
def Z35 (p0 : Y90) : Option (List Int) := (Z2o p0.events).bind fun r2 => (iter (fun z73 => Z34 p0 r2 z73.1 z73.2) big (([] : List Int), 1)).bind fun y74 => Z30 y74
set_option maxHeartbeats 1000000 in
theorem Z36 (p0 : Y90) (r : List Int) (h : Z35 p0 = some r) : Ok Tryz.prog 227 [C.agg [C.int p0.room, C.im Y98 9 p0.events, C.im Y98 9 p0.parked]] [] (fun c qs => ∃ (v70 : Value), c = C.val v70 ∧ qs = [Obj.arr v70 2 kI64 1 r]) := by
 refine Ok.of_body (rs := [.tmp 2]) Tryz.func227 rfl rfl rfl rfl rfl fun X => ?_
 unfold Z35 at h
 refine zw ?_
 refine ox fun b1 => ?_
 refine zw ?_
 refine oc h fun r2 g3 h => ?_
 refine zw ?_
 refine Ops.h (ns := []) rfl rfl (Y39 (k := kI64) (ys := ([] : List Int)) Ya6 .nil rfl rfl rfl) ?_
 rintro _ _ ⟨b4, rfl, rfl⟩
 refine Ops.v rfl (Yr rfl rfl) ?_
 refine Ops.nil ?_
 refine AW.seq ?_
 refine AW.cut (τ := List Int × Value) (fun (l69, v68) => ⟨[(4, C.val v68)], [Obj.arr v68 2 kI64 1 l69]⟩) (fun (l69, v68) => Z30 l69 = some r) ?_ ?_
 ·
  refine zw ?_
  refine AW.lp h (fun (l36, x37) (v35 : Value) => ⟨[(1, pt b1), (3, C.im kI64 1 r2), (4, C.val v35), (5, C.int x37)], [Obj.box b1 139 [C.int p0.room, C.im Y98 9 p0.events, C.im Y98 9 p0.parked], Obj.arr v35 2 kI64 1 l36]⟩) (gb [1, 0]) ?_
  rintro ⟨l36, x37⟩ v35 y80 h
  refine zw ?_
  refine cnd h (fun hb38 h => ?_) fun hb38 h => ?_
  ·
   refine AW.ct hb38 rfl ?_
   refine zw ?_
   refine AW.lp h (fun (l52, x53) (v51 : Value) => ⟨[(1, pt b1), (3, C.im kI64 1 r2), (4, C.val v51), (5, C.int x37), (6, C.int x53)], [Obj.box b1 139 [C.int p0.room, C.im Y98 9 p0.events, C.im Y98 9 p0.parked], Obj.arr v51 2 kI64 1 l52]⟩) (gb [0, 0]) ?_
   rintro ⟨l52, x53⟩ v51 y87 h
   refine zw ?_
   refine cnd h (fun hb54 h => ?_) fun hb54 h => ?_
   ·
    refine AW.ct hb54 rfl ?_
    refine zw ?_
    refine oi h fun e55 g56 h => ?_
    refine zw ?_
    refine cnd h (fun hb57 h => ?_) fun hb57 h => ?_
    ·
     refine AW.ct hb57 rfl ?_
     refine zw ?_
     refine oi h fun e58 g59 h => ?_
     refine zw ?_
     refine Ops.h (ns := []) rfl rfl (Y39 (k := kI64) (ys := [e58.id]) Ya6 (.one rfl (One.val rfl) rfl rfl .nil) rfl rfl rfl) ?_
     rintro _ _ ⟨b60, rfl, rfl⟩
     refine ob' h fun u62 c61 h => ?_
     refine Ops.h (ns := [2, 0]) rfl rfl (Y2s Ya6 rfl rfl (of_decide_eq_true (Y3t c61)) (Y3w (by decide) c61) rfl) ?_
     rintro _ _ ⟨v63, rfl, rfl⟩
     exact go
    exact go
   exact go
  exact go
 rintro ⟨l69, v68⟩ h
 replace h : Z30 l69 = some r := h
 unfold Z30 at h
 refine zw ?_
 refine AW.ret ?_
 rw [← Option.some.inj h]
 exact ⟨[C.val v68], _, Y21.refl _, (.cons (.tmp rfl) .nil), [0], _, _, rfl, ⟨v68, rfl, rfl⟩⟩
instance Z36' (p0 : Y90) : Sp Tryz.prog 227 [C.agg [C.int p0.room, C.im Y98 9 p0.events, C.im Y98 9 p0.parked]] (Z35 p0) (fun r => C.im kI64 1 r) := ⟨fun r h => Ok.freeze (Z36 p0 r h) (by rintro c qs ⟨v70, rfl, rfl⟩; exact Frz.arr)⟩

def Z37 : Option Int := some 0
def Z38 (p0 : List Y92) (x9 : Int) (x14 : Bool) : Option (Int ⊕ (Int ⊕ Unit)) := cond x14 ((getI p0 x9).bind fun e16 => some (.inr (.inl e16.id))) (some (.inl (IntKind.i64.wrap (x9 + 1))))
def Z39 (p0 : List Y92) (p1 : Int) (p2 : Int) (x9 : Int) : Option (Int ⊕ (Int ⊕ Unit)) := cond (decide (x9 < (p0.length : Int))) ((getI p0 x9).bind fun e11 => cond (e11.kind == p1) (Z38 p0 x9 (e11.key == p2)) (Z38 p0 x9 false)) (some (.inr (.inr ())))
def Z3a (p0 : List Y92) (p1 : Int) (p2 : Int) : Option Int := (iter (Z39 p0 p1 p2) big 0).bind (fun z19 => match z19 with | .inl y18 => some y18 | .inr () => Z37)
set_option maxHeartbeats 1000000 in
instance Z3b (p0 : List Y92) (p1 : Int) (p2 : Int) : Sp Tryz.prog 263 [C.im Y9g 3 p0, C.int p1, C.int p2] (Z3a p0 p1 p2) C.int := sp Tryz.func263 rfl rfl fun r X h => by
 unfold Z3a at h
 refine zw ?_
 refine AW.lp (v := ()) h (fun x9 (_ : Unit) => ⟨[(0, C.im Y9g 3 p0), (1, C.int p1), (2, C.int p2), (7, C.int x9)], []⟩) (gb []) ?_
 rintro x9 _ y25 h
 exact go

def Z3c : Option Bool := some true
def Z3d (p0 : List (List Y92)) (p1 : Y92) (x8 : Int) : Option (Int ⊕ (Bool ⊕ Unit)) := cond (decide (x8 < (p0.length : Int))) ((getI p0 x8).bind fun e10 => (Z3a e10 p1.kind p1.key).bind fun r12 => cond (r12 != p1.id) (some (.inr (.inl false))) (some (.inl (IntKind.i64.wrap (x8 + 1))))) (some (.inr (.inr ())))
def Z3e (p0 : List (List Y92)) (p1 : Y92) : Option Bool := (iter (Z3d p0 p1) big 0).bind (fun z16 => match z16 with | .inl y15 => some y15 | .inr () => Z3c)
set_option maxHeartbeats 1000000 in
instance Z3f (p0 : List (List Y92)) (p1 : Y92) : Sp Tryz.prog 231 [C.im Y9h 1 p0, C.agg [C.int p1.kind, C.int p1.key, C.int p1.id]] (Z3e p0 p1) C.bool := sp Tryz.func231 rfl rfl fun r X h => by
 unfold Z3e at h
 refine zw ?_
 refine ox fun b1 => ?_
 refine zw ?_
 refine AW.lp (v := ()) h (fun x8 (_ : Unit) => ⟨[(0, C.im Y9h 1 p0), (3, pt b1), (5, C.int x8)], [Obj.box b1 106 [C.int p1.kind, C.int p1.key, C.int p1.id]]⟩) (gb [0]) ?_
 rintro x8 _ y22 h
 refine zw ?_
 refine cnd h (fun hb9 h => ?_) fun hb9 h => ?_
 ·
  refine AW.ct hb9 rfl ?_
  refine zw ?_
  refine AW.regionD (L := [3, 5, 7, 10]) (Lt := []) (k := dec [0,3,6,10,12,16,18,22,27,31,26,33]) (ns := [0]) (by kernel_rfl) (by kernel_rfl) (by kernel_rfl) (by kernel_rfl) rfl ?_
  exact go
 exact go

def Z3g (l35 : List Y92) : Option (List Y92) := some l35
def Z3h (x19 : Int) (l33 : List Y92) : Option ((List Y92 × Int) ⊕ ((List Y92))) := some (.inl (l33, (IntKind.i64.wrap (x19 + 1))))
def Z3i (p0 : List Y92) (l18 : List Y92) (x19 : Int) (x24 : Bool) : Option ((List Y92 × Int) ⊕ ((List Y92))) := cond x24 ((getI p0 x19).bind fun e26 => (chk (decide ((l18.length + [e26].length) * 24 ≤ 140737488355328))).bind fun u30 => Z3h x19 (l18 ++ [e26])) (Z3h x19 l18)
def Z3j (p0 : List Y92) (p1 : Y92) (l18 : List Y92) (x19 : Int) : Option ((List Y92 × Int) ⊕ ((List Y92))) := cond (decide (x19 < (p0.length : Int))) ((getI p0 x19).bind fun e21 => cond (e21.kind != p1.kind) (Z3i p0 l18 x19 true) (Z3i p0 l18 x19 (e21.key != p1.key))) (some (.inr l18))
def Z3k (p0 : List Y92) (p1 : Y92) : Option (List Y92) := (iter (fun z37 => Z3j p0 p1 z37.1 z37.2) big (([] : List Y92), 0)).bind fun y38 => Z3g y38
set_option maxHeartbeats 1000000 in
theorem Z3l (p0 : List Y92) (p1 : Y92) (r : List Y92) (h : Z3k p0 p1 = some r) : Ok Tryz.prog 279 [C.im Y9g 3 p0, C.agg [C.int p1.kind, C.int p1.key, C.int p1.id]] [] (fun c qs => ∃ (v36 : Value), c = C.val v36 ∧ qs = [Obj.arr v36 106 Y9g 3 r]) := by
 refine Ok.of_body (rs := [.tmp 4]) Tryz.func279 rfl rfl rfl rfl rfl fun X => ?_
 unfold Z3k at h
 refine zw ?_
 refine ox fun b1 => ?_
 refine zw ?_
 refine Ops.h (ns := []) rfl rfl (Y39 (k := Y9g) (ys := ([] : List Y92)) Ybt .nil rfl rfl rfl) ?_
 rintro _ _ ⟨b2, rfl, rfl⟩
 refine Ops.v rfl (Yr rfl rfl) ?_
 refine Ops.nil ?_
 refine AW.seq ?_
 refine AW.cut (τ := List Y92 × Value) (fun (l35, v34) => ⟨[(5, C.val v34)], [Obj.arr v34 106 Y9g 3 l35]⟩) (fun (l35, v34) => Z3g l35 = some r) ?_ ?_
 ·
  refine zw ?_
  refine AW.lp h (fun (l18, x19) (v17 : Value) => ⟨[(0, C.im Y9g 3 p0), (3, pt b1), (5, C.val v17), (6, C.int x19)], [Obj.box b1 106 [C.int p1.kind, C.int p1.key, C.int p1.id], Obj.arr v17 106 Y9g 3 l18]⟩) (gb [1, 0]) ?_
  rintro ⟨l18, x19⟩ v17 y44 h
  refine zw ?_
  refine cnd h (fun hb20 h => ?_) fun hb20 h => ?_
  ·
   refine AW.ct hb20 rfl ?_
   refine AW.skip ?_
   refine AW.seq ?_
   refine AW.block ?_
   refine AW.seq ?_
   refine AW.cut (τ := Bool) (fun x24 => ⟨[(0, C.im Y9g 3 p0), (3, pt b1), (5, C.val v17), (6, C.int x19), (31, C.bool x24)], [Obj.box b1 106 [C.int p1.kind, C.int p1.key, C.int p1.id], Obj.arr v17 106 Y9g 3 l18]⟩) (fun x24 => Z3i p0 l18 x19 x24 = some y44) ?_ ?_
   ·
    refine AW.regionD (L := [4, 6, 13, 15]) (Lt := []) (k := dec [0,3,6,9,13,15,19,21,24,27,30,33,36,40,42,46,48,51]) (ns := [0, 0]) (by kernel_rfl) (by kernel_rfl) (by kernel_rfl) (by kernel_rfl) rfl ?_
    exact go
   intro x24 h
   replace h : Z3i p0 l18 x19 x24 = some y44 := h
   unfold Z3i at h
   refine cnd h (fun hb25 h => ?_) fun hb25 h => ?_
   ·
    refine AW.ct hb25 rfl ?_
    refine zw ?_
    refine oi h fun e26 g27 h => ?_
    refine zw ?_
    refine Ops.h (ns := []) rfl rfl (Y39 (k := Y9g) (ys := [e26]) Ybt (.agg rfl rfl .nil) rfl rfl rfl) ?_
    rintro _ _ ⟨b28, rfl, rfl⟩
    refine ob' h fun u30 c29 h => ?_
    refine Ops.h (ns := [2, 0]) rfl rfl (Y2s Ybt rfl rfl (of_decide_eq_true (Y3t c29)) (Y3w (by decide) c29) rfl) ?_
    rintro _ _ ⟨v31, rfl, rfl⟩
    exact go
   exact go
  exact go
 rintro ⟨l35, v34⟩ h
 replace h : Z3g l35 = some r := h
 unfold Z3g at h
 refine zw ?_
 refine AW.ret ?_
 rw [← Option.some.inj h]
 exact ⟨[C.val v34], _, Y21.refl _, (.cons (.tmp rfl) .nil), [0], _, _, rfl, ⟨v34, rfl, rfl⟩⟩
instance Z3l' (p0 : List Y92) (p1 : Y92) : Sp Tryz.prog 279 [C.im Y9g 3 p0, C.agg [C.int p1.kind, C.int p1.key, C.int p1.id]] (Z3k p0 p1) (fun r => C.im Y9g 3 r) := ⟨fun r h => Ok.freeze (Z3l p0 p1 r h) (by rintro c qs ⟨v36, rfl, rfl⟩; exact Frz.arr)⟩

def Z3m (x5 : Bool) : Option Bool := some x5
def Z3n (p0 : Y92) (p1 : Y92) : Option Bool := cond (decide (p0.kind < p1.kind)) (Z3m true) (cond (p0.kind == p1.kind) (Z3m (decide (p0.key < p1.key))) (Z3m false))
set_option maxHeartbeats 1000000 in
instance Z3o (p0 : Y92) (p1 : Y92) : Sp Tryz.prog 280 [C.agg [C.int p0.kind, C.int p0.key, C.int p0.id], C.agg [C.int p1.kind, C.int p1.key, C.int p1.id]] (Z3n p0 p1) C.bool := sp Tryz.func280 rfl rfl fun r X h => go

end Go.Proofs.YtbgichfjcnibpaaGreat
