/- Printed by gen.py: plain functions for Go functions, and that the walks keep to them. -/
import Derived.Test.YtbgichfjcnibpaaGreatWSorts
import Derived.Test.YtbgichfjcnibpaaGreatWX
import Derived.Test.YtbgichfjcnibpaaGreatWL
import Derived.Test.YtbgichfjcnibpaaGreatChecked
set_option autoImplicit false
set_option linter.unusedVariables false
set_option linter.unusedSimpArgs false
set_option maxHeartbeats 1000000
set_option maxRecDepth 100000
namespace Go.Proofs.YtbgichfjcnibpaaGreat
open Go Go.Abs
attribute [local irreducible] AW Ops OpsD Y3n
structure Y8v where
  id : Int
  room : Int
  author : Int
  kind : Int
  key : Int
  n : Int
  text : ByteArray
  prev : List Int
  time : Int
structure Y8w where
  room : Int
  events : List Y8v
  parked : List Y8v
structure Y8x where
  room : Int
  id : Int
structure THub where
  rooms : List Y8w
  stream : List Y8x
structure Y8y where
  kind : Int
  from_ : Int
  to_ : Int
  room : Int
  text : ByteArray
structure Y8z where
  hubs : List THub
  letters : List Y8y
structure Y90 where
  room : Int
  events : List Y8v
  parked : List Y8v
structure Y91 where
  rooms : List Y90
  stream : List Y8x
structure Y92 where
  hubs : List Y91
  letters : List Y8y
structure Y93 where
  kind : Int
  key : Int
  id : Int
structure Y94 where
  depths : List Int
  ahead : List (List Y93)
  behind : List (List Y93)
  code : List Int
structure Y95 where
  h : Y91
  rooms : List Y94
  pos : List (List Int)
  now : List (List Y93)
structure Y96 where
  peers : Y92
  id : Int
  code : Int
structure Y97 where
  graph : Y90
  depth : List (Int × Int)
  before : List (Int × List Y93)
  after : List (Int × List Y93)
  refused : List (Int × Int)
structure Y98 where
  hub : Y91
  rooms : List Y97
structure TNet where
  servers : List Y98
  letters : List Y8y
def kI64 (x : Int) : List C := [cI x]
def Y99 (x : Y8v) : List C := [cI x.id, cI x.room, cI x.author, cI x.kind, cI x.key, cI x.n, C.str x.text, cM kI64 1 x.prev, cI x.time]
def Y9a (x : Y8w) : List C := [cI x.room, cM Y99 9 x.events, cM Y99 9 x.parked]
def Y9b (x : Y8x) : List C := [cI x.room, cI x.id]
def kHub (x : THub) : List C := [cM Y9a 3 x.rooms, cM Y9b 2 x.stream]
def Y9c (x : Y8y) : List C := [cI x.kind, cI x.from_, cI x.to_, cI x.room, C.str x.text]
def Y9d (x : Y8v) (u : Value) : List C := [cI x.id, cI x.room, cI x.author, cI x.kind, cI x.key, cI x.n, C.str x.text, cV u, cI x.time]
def Y9e (x : Y8v) (u : Value) : List Abs.Obj := [oA u 2 kI64 1 x.prev]
def Y9f (x : Y90) : List C := [cI x.room, cM Y99 9 x.events, cM Y99 9 x.parked]
def Y9g (x : Y90) (u : Value × Value) : List C := [cI x.room, cV u.1, cV u.2]
def Y9h (x : Y90) (u : Value × Value) : List Abs.Obj := [Obj.deep u.1 136 Y9d Y9e 9 x.events, Obj.deep u.2 136 Y9d Y9e 9 x.parked]
def Y9i (x : Y91) : List C := [cM Y9f 3 x.rooms, cM Y9b 2 x.stream]
def Y9j (x : Y91) (u : Value × Value) : List C := [cV u.1, cV u.2]
def Y9k (x : Y91) (u : Value × Value) : List Abs.Obj := [Obj.deep u.1 139 Y9g Y9h 3 x.rooms, oA u.2 142 Y9b 2 x.stream]
def Y9l (x : Y93) : List C := [cI x.kind, cI x.key, cI x.id]
def Y9m (x : List Y93) : List C := [cM Y9l 3 x]
def Y9n (x : Bool) : List C := [C.bool x]
def Y9o (x : Y94) : List C := [C.ip [cM kI64 1 x.depths, cM Y9m 1 x.ahead, cM Y9m 1 x.behind, cM kI64 1 x.code]]
def Y9p (x : List Int) : List C := [cM kI64 1 x]
abbrev Y9q (x : Int) : C := cI x
abbrev Y9r (x : List Y93) : C := cM Y9l 3 x
abbrev Y9s (x : Bool) : C := C.bool x
def Y9t (x : Y97) : List C := [C.ip [cI x.graph.room, cM Y99 9 x.graph.events, cM Y99 9 x.graph.parked, C.imap .i64 Y9q x.depth, C.imap .i64 Y9r x.before, C.imap .i64 Y9r x.after, C.imap .i64 Y9q x.refused]]
def Y9u (x : Y98) : List C := [C.ip [cM Y9f 3 x.hub.rooms, cM Y9b 2 x.hub.stream, cM Y9t 1 x.rooms]]
def kU8 (x : Int) : List C := [cV (.int .u8 x)]
instance Y9v : SlI Tryz.prog 57 2 1 8 := ⟨by kernel_rfl⟩
instance Y9w : FldI Tryz.prog 273 6 6 := ⟨by kernel_rfl⟩
instance ld_9 : LdI Tryz.prog 9 false 1 := ⟨by kernel_rfl⟩
theorem un_9 : Tryz.prog.underlying 9 = some .string := by kernel_rfl
instance : UnI Tryz.prog 9 .string := ⟨un_9⟩
instance Y9x : FldI Tryz.prog 273 7 7 := ⟨by kernel_rfl⟩
instance Y9y : LdI Tryz.prog 57 false 1 := ⟨by kernel_rfl⟩
instance Y9z : SlI Tryz.prog 174 273 9 96 := ⟨by kernel_rfl⟩
instance Ya0 : LdI Tryz.prog 273 true 9 := ⟨by kernel_rfl⟩
instance Ya1 : FldI Tryz.prog 176 1 1 := ⟨by kernel_rfl⟩
instance Ya2 : LdI Tryz.prog 174 false 1 := ⟨by kernel_rfl⟩
instance Ya3 : FldI Tryz.prog 176 2 2 := ⟨by kernel_rfl⟩
instance Ya4 : SlI Tryz.prog 22 176 3 56 := ⟨by kernel_rfl⟩
instance Ya5 : LdI Tryz.prog 176 true 3 := ⟨by kernel_rfl⟩
instance Ya6 : SlI Tryz.prog 23 185 2 16 := ⟨by kernel_rfl⟩
instance Ya7 : FldI Tryz.prog 25 0 0 := ⟨by kernel_rfl⟩
instance Ya8 : LdI Tryz.prog 22 false 1 := ⟨by kernel_rfl⟩
instance Ya9 : FldI Tryz.prog 25 1 1 := ⟨by kernel_rfl⟩
instance Yaa : LdI Tryz.prog 23 false 1 := ⟨by kernel_rfl⟩
instance Yab : SlI Tryz.prog 39 25 2 48 := ⟨by kernel_rfl⟩
instance Yac : LdI Tryz.prog 25 true 2 := ⟨by kernel_rfl⟩
instance Yad : FldI Tryz.prog 203 4 4 := ⟨by kernel_rfl⟩
instance Yae : SlI Tryz.prog 40 203 5 48 := ⟨by kernel_rfl⟩
instance Yaf : LdI Tryz.prog 203 true 5 := ⟨by kernel_rfl⟩
instance Yag : FldI Tryz.prog 42 0 0 := ⟨by kernel_rfl⟩
instance Yah : LdI Tryz.prog 39 false 1 := ⟨by kernel_rfl⟩
instance Yai : FldI Tryz.prog 42 1 1 := ⟨by kernel_rfl⟩
instance Yaj : LdI Tryz.prog 40 false 1 := ⟨by kernel_rfl⟩
theorem Yak : Y2o Tryz.prog 57 = some (2, 1, 8) := by kernel_rfl
theorem ze_2 : Y18 Tryz.prog 2 = some [.int .i64 0] := by kernel_rfl
instance ld_2 : LdI Tryz.prog 2 false 1 := ⟨by kernel_rfl⟩
theorem Yal : Y18 Tryz.prog 136 = some [.int .i64 0, .int .i64 0, .int .i64 0, .int .i64 0, .int .i64 0, .int .i64 0, .string ByteArray.empty, .slice none 0 0, .int .i64 0] := by kernel_rfl
instance Yam : FldI Tryz.prog 273 0 0 := ⟨by kernel_rfl⟩
instance Yan : FldI Tryz.prog 136 0 0 := ⟨by kernel_rfl⟩
instance Yao : FldI Tryz.prog 273 1 1 := ⟨by kernel_rfl⟩
instance Yap : FldI Tryz.prog 136 1 1 := ⟨by kernel_rfl⟩
instance Yaq : FldI Tryz.prog 273 2 2 := ⟨by kernel_rfl⟩
instance Yar : FldI Tryz.prog 136 2 2 := ⟨by kernel_rfl⟩
instance Yas : FldI Tryz.prog 273 3 3 := ⟨by kernel_rfl⟩
instance Yat : FldI Tryz.prog 136 3 3 := ⟨by kernel_rfl⟩
instance Yau : FldI Tryz.prog 273 4 4 := ⟨by kernel_rfl⟩
instance Yav : FldI Tryz.prog 136 4 4 := ⟨by kernel_rfl⟩
instance Yaw : FldI Tryz.prog 273 5 5 := ⟨by kernel_rfl⟩
instance Yax : FldI Tryz.prog 136 5 5 := ⟨by kernel_rfl⟩
instance Yay : FldI Tryz.prog 136 6 6 := ⟨by kernel_rfl⟩
instance Yaz : FldI Tryz.prog 136 7 7 := ⟨by kernel_rfl⟩
instance Yb0 : FldI Tryz.prog 273 8 8 := ⟨by kernel_rfl⟩
instance Yb1 : FldI Tryz.prog 136 8 8 := ⟨by kernel_rfl⟩
instance Yb2 : LdI Tryz.prog 136 true 9 := ⟨by kernel_rfl⟩
theorem Yb3 : Y2o Tryz.prog 137 = some (136, 9, 96) := by kernel_rfl
theorem Yb4 : ∀ x, Y45 (kI64 x) := fun x => (Y45.cons (Y44.val _) (Y45.nil) : Y45 [cI x])
theorem Yb5 : ∀ x u, FrzL (Y9d x u) (Y9e x u) (Y99 x) := fun _ _ => (fS (fS (fS (fS (fS (fS (fS (FrzL.cons (os := [_]) Frz.arr (fS FrzL.nil)))))))))
theorem Yb6 : ∀ x u, Y45 (Y9d x u) := fun _ _ => (Y45.cons (Y44.val _) (Y45.cons (Y44.val _) (Y45.cons (Y44.val _) (Y45.cons (Y44.val _) (Y45.cons (Y44.val _) (Y45.cons (Y44.val _) (Y45.cons (Y44.val _) (Y45.cons (Y44.val _) (Y45.cons (Y44.val _) Y45.nil)))))))))
theorem Yb7 : ∀ x u, ∀ o ∈ Y9e x u, Y46 o := fun _ _ => (Y48 (Y46.arr Yb4) Y47)
instance Yb8 : SlI Tryz.prog 137 136 9 96 := ⟨by kernel_rfl⟩
theorem Yb9 : Y18 Tryz.prog 139 = some [.int .i64 0, .slice none 0 0, .slice none 0 0] := by kernel_rfl
instance Yba : FldI Tryz.prog 176 0 0 := ⟨by kernel_rfl⟩
instance Ybb : FldI Tryz.prog 139 0 0 := ⟨by kernel_rfl⟩
instance Ybc : FldI Tryz.prog 139 1 1 := ⟨by kernel_rfl⟩
instance Ybd : LdI Tryz.prog 137 false 1 := ⟨by kernel_rfl⟩
instance Ybe : FldI Tryz.prog 139 2 2 := ⟨by kernel_rfl⟩
instance Ybf : LdI Tryz.prog 139 true 3 := ⟨by kernel_rfl⟩
theorem Ybg : Y2o Tryz.prog 29 = some (139, 3, 56) := by kernel_rfl
theorem Ybh : ∀ x u, FrzL (Y9g x u) (Y9h x u) (Y9f x) := fun _ _ => (fS (FrzL.cons (os := [_]) (Frz.deep Yb5) (FrzL.cons (os := [_]) (Frz.deep Yb5) FrzL.nil)))
theorem Ybi : ∀ x u, Y45 (Y9g x u) := fun _ _ => (Y45.cons (Y44.val _) (Y45.cons (Y44.val _) (Y45.cons (Y44.val _) Y45.nil)))
theorem Ybj : ∀ x u, ∀ o ∈ Y9h x u, Y46 o := fun _ _ => (Y48 (Y46.deep Yb6 Yb7) (Y48 (Y46.deep Yb6 Yb7) Y47))
instance Ybk : SlI Tryz.prog 29 139 3 56 := ⟨by kernel_rfl⟩
theorem Ybl : Y18 Tryz.prog 142 = some [.int .i64 0, .int .i64 0] := by kernel_rfl
instance Ybm : FldI Tryz.prog 185 0 0 := ⟨by kernel_rfl⟩
instance Ybn : FldI Tryz.prog 142 0 0 := ⟨by kernel_rfl⟩
instance Ybo : FldI Tryz.prog 185 1 1 := ⟨by kernel_rfl⟩
instance Ybp : FldI Tryz.prog 142 1 1 := ⟨by kernel_rfl⟩
instance Ybq : LdI Tryz.prog 142 true 2 := ⟨by kernel_rfl⟩
theorem Ybr : Y2o Tryz.prog 30 = some (142, 2, 16) := by kernel_rfl
instance Ybs : LdI Tryz.prog 185 true 2 := ⟨by kernel_rfl⟩
instance Ybt : SlI Tryz.prog 30 142 2 16 := ⟨by kernel_rfl⟩
theorem Ybu : Y18 Tryz.prog 32 = some [.slice none 0 0, .slice none 0 0] := by kernel_rfl
instance Ybv : FldI Tryz.prog 32 0 0 := ⟨by kernel_rfl⟩
instance Ybw : LdI Tryz.prog 29 false 1 := ⟨by kernel_rfl⟩
instance Ybx : FldI Tryz.prog 32 1 1 := ⟨by kernel_rfl⟩
instance Yby : LdI Tryz.prog 30 false 1 := ⟨by kernel_rfl⟩
instance Ybz : LdI Tryz.prog 32 true 2 := ⟨by kernel_rfl⟩
theorem Yc0 : Y2o Tryz.prog 44 = some (32, 2, 48) := by kernel_rfl
theorem Yc1 : ∀ x, Y45 (Y9b x) := fun x => (Y45.cons (Y44.val _) (Y45.cons (Y44.val _) (Y45.nil)) : Y45 [cI x.room, cI x.id])
theorem Yc2 : ∀ x u, FrzL (Y9j x u) (Y9k x u) (Y9i x) := fun _ _ => (FrzL.cons (os := [_]) (Frz.deep Ybh) (FrzL.cons (os := [_]) Frz.arr FrzL.nil))
theorem Yc3 : ∀ x u, Y45 (Y9j x u) := fun _ _ => (Y45.cons (Y44.val _) (Y45.cons (Y44.val _) Y45.nil))
theorem Yc4 : ∀ x u, ∀ o ∈ Y9k x u, Y46 o := fun _ _ => (Y48 (Y46.deep Ybi Ybj) (Y48 (Y46.arr Yc1) Y47))
instance Yc5 : SlI Tryz.prog 44 32 2 48 := ⟨by kernel_rfl⟩
theorem Yc6 : Y18 Tryz.prog 115 = some [.int .i64 0, .int .i64 0, .int .i64 0, .int .i64 0, .string ByteArray.empty] := by kernel_rfl
instance Yc7 : FldI Tryz.prog 203 0 0 := ⟨by kernel_rfl⟩
instance Yc8 : FldI Tryz.prog 115 0 0 := ⟨by kernel_rfl⟩
instance Yc9 : FldI Tryz.prog 203 1 1 := ⟨by kernel_rfl⟩
instance Yca : FldI Tryz.prog 115 1 1 := ⟨by kernel_rfl⟩
instance Ycb : FldI Tryz.prog 203 2 2 := ⟨by kernel_rfl⟩
instance Ycc : FldI Tryz.prog 115 2 2 := ⟨by kernel_rfl⟩
instance Ycd : FldI Tryz.prog 203 3 3 := ⟨by kernel_rfl⟩
instance Yce : FldI Tryz.prog 115 3 3 := ⟨by kernel_rfl⟩
instance Ycf : FldI Tryz.prog 115 4 4 := ⟨by kernel_rfl⟩
instance Ycg : LdI Tryz.prog 115 true 5 := ⟨by kernel_rfl⟩
theorem Ych : Y2o Tryz.prog 45 = some (115, 5, 48) := by kernel_rfl
instance Yci : SlI Tryz.prog 45 115 5 48 := ⟨by kernel_rfl⟩
theorem Ycj : Y18 Tryz.prog 47 = some [.slice none 0 0, .slice none 0 0] := by kernel_rfl
instance Yck : FldI Tryz.prog 47 0 0 := ⟨by kernel_rfl⟩
instance Ycl : LdI Tryz.prog 44 false 1 := ⟨by kernel_rfl⟩
instance Ycm : FldI Tryz.prog 47 1 1 := ⟨by kernel_rfl⟩
instance Ycn : LdI Tryz.prog 45 false 1 := ⟨by kernel_rfl⟩
instance Yco : LdI Tryz.prog 47 true 2 := ⟨by kernel_rfl⟩
theorem un_4 : Tryz.prog.underlying 4 = some .bool := by kernel_rfl
instance : UnI Tryz.prog 4 .bool := ⟨un_4⟩
instance Ycp : SlI Tryz.prog 27 106 3 24 := ⟨by kernel_rfl⟩
instance Ycq : FldI Tryz.prog 106 0 0 := ⟨by kernel_rfl⟩
instance Ycr : FldI Tryz.prog 106 1 1 := ⟨by kernel_rfl⟩
instance Ycs : FldI Tryz.prog 106 2 2 := ⟨by kernel_rfl⟩
instance Yct : SlI Tryz.prog 154 27 1 24 := ⟨by kernel_rfl⟩
instance Ycu : LdI Tryz.prog 27 false 1 := ⟨by kernel_rfl⟩
theorem Ycv : Y2o Tryz.prog 27 = some (106, 3, 24) := by kernel_rfl
instance Ycw : LdI Tryz.prog 106 true 3 := ⟨by kernel_rfl⟩
theorem Ycx : places Tryz.prog 136 = some [(0, 1), (1, 1), (2, 1), (3, 1), (4, 1), (5, 1), (6, 1), (7, 1), (8, 1)] := by kernel_rfl
theorem Ycy : Y6t Tryz.prog 136 5 = some (5, 1, false) := by kernel_rfl
theorem Ycz : Y6t Tryz.prog 136 2 = some (2, 1, false) := by kernel_rfl
theorem Yd0 : ∀ x, Y45 (Y9l x) := fun x => (Y45.cons (Y44.val _) (Y45.cons (Y44.val _) (Y45.cons (Y44.val _) (Y45.nil))) : Y45 [cI x.kind, cI x.key, cI x.id])
theorem Yd1 : places Tryz.prog 106 = some [(0, 1), (1, 1), (2, 1)] := by kernel_rfl
theorem Yd2 : Y18 Tryz.prog 106 = some [.int .i64 0, .int .i64 0, .int .i64 0] := by kernel_rfl
theorem Yd3 : Y2o Tryz.prog 180 = some (4, 1, 1) := by kernel_rfl
theorem ze_4 : Y18 Tryz.prog 4 = some [.bool false] := by kernel_rfl
theorem Yd4 : Y6t Tryz.prog 136 7 = some (7, 1, false) := by kernel_rfl
instance Yd5 : SlI Tryz.prog 180 4 1 1 := ⟨by kernel_rfl⟩
instance ld_4 : LdI Tryz.prog 4 false 1 := ⟨by kernel_rfl⟩
theorem Yd6 : Y2o Tryz.prog 154 = some (27, 1, 24) := by kernel_rfl
theorem Yd7 : Y18 Tryz.prog 27 = some [.slice none 0 0] := by kernel_rfl
theorem Yd8 : places Tryz.prog 215 = some [(0, 1), (1, 1), (2, 1), (3, 1)] := by kernel_rfl
theorem Yd9 : Y18 Tryz.prog 215 = some [.slice none 0 0, .slice none 0 0, .slice none 0 0, .slice none 0 0] := by kernel_rfl
instance Yda : FldI Tryz.prog 215 2 2 := ⟨by kernel_rfl⟩
instance Ydb : LdI Tryz.prog 154 false 1 := ⟨by kernel_rfl⟩
instance Ydc : FldI Tryz.prog 215 1 1 := ⟨by kernel_rfl⟩
instance Ydd : FldI Tryz.prog 215 0 0 := ⟨by kernel_rfl⟩
instance Yde : FldI Tryz.prog 215 3 3 := ⟨by kernel_rfl⟩
theorem Ydf : places Tryz.prog 156 = some [(0, 2), (2, 1), (3, 1), (4, 1)] := by kernel_rfl
theorem Ydg : Y18 Tryz.prog 156 = some [.slice none 0 0, .slice none 0 0, .slice none 0 0, .slice none 0 0, .slice none 0 0] := by kernel_rfl
instance Ydh : FldI Tryz.prog 156 1 2 := ⟨by kernel_rfl⟩
instance Ydi : LdI Tryz.prog 152 false 1 := ⟨by kernel_rfl⟩
theorem Ydj : Y2o Tryz.prog 152 = some (182, 1, 8) := by kernel_rfl
instance Ydk : FldI Tryz.prog 156 3 4 := ⟨by kernel_rfl⟩
instance Ydl : FldI Tryz.prog 156 2 3 := ⟨by kernel_rfl⟩
instance Ydm : LdI Tryz.prog 153 false 1 := ⟨by kernel_rfl⟩
theorem Ydn : Y2o Tryz.prog 153 = some (57, 1, 24) := by kernel_rfl
instance Ydo : FldI Tryz.prog 156 0 0 := ⟨by kernel_rfl⟩
instance Ydp : SlI Tryz.prog 152 182 1 8 := ⟨by kernel_rfl⟩
instance Ydq : LdI Tryz.prog 182 false 1 := ⟨by kernel_rfl⟩
instance Ydr : SlI Tryz.prog 153 57 1 24 := ⟨by kernel_rfl⟩
theorem Yds : Y5e Tryz.prog 142 = some [0, 0] := by kernel_rfl
theorem Ydt : Y18 Tryz.prog 49 = some [.slice none 0 0, .slice none 0 0, .int .i64 0, .int .i64 0] := by kernel_rfl
theorem Ydu : places Tryz.prog 49 = some [(0, 2), (2, 1), (3, 1)] := by kernel_rfl
instance Ydv : LdI Tryz.prog 49 true 4 := ⟨by kernel_rfl⟩
theorem Ydw : places Tryz.prog 139 = some [(0, 1), (1, 1), (2, 1)] := by kernel_rfl
theorem Ydx : places Tryz.prog 32 = some [(0, 1), (1, 1)] := by kernel_rfl
theorem Ydy : places Tryz.prog 47 = some [(0, 1), (1, 1)] := by kernel_rfl
theorem un_3 : Tryz.prog.underlying 3 = some (.int .i64) := by kernel_rfl
instance : UnI Tryz.prog 3 (.int .i64) := ⟨un_3⟩
theorem Ydz : Tryz.prog.underlying 290 = some (.int .u64) := by kernel_rfl
instance : UnI Tryz.prog 290 (.int .u64) := ⟨Ydz⟩
theorem Ye0 : Y18 Tryz.prog 57 = some [.slice none 0 0] := by kernel_rfl
theorem Ye1 : Y2o Tryz.prog 133 = some (3, 1, 8) := by kernel_rfl
instance Ye2 : SlI Tryz.prog 133 3 1 8 := ⟨by kernel_rfl⟩
instance ld_3 : LdI Tryz.prog 3 false 1 := ⟨by kernel_rfl⟩
instance Ye3 : FldI Tryz.prog 196 3 5 := ⟨by kernel_rfl⟩
instance Ye4 : LdI Tryz.prog 194 false 1 := ⟨by kernel_rfl⟩
theorem Ye5 : Y6c Tryz.prog 194 = some (.i64, 27) := by kernel_rfl
theorem Ye6 : Y6e Tryz.prog 27 = some s0 := by kernel_rfl
theorem Ye7 : Y5e Tryz.prog 106 = some [0, 0, 0] := by kernel_rfl
theorem Ye8 : Y6c Tryz.prog 250 = some (.i64, 4) := by kernel_rfl
theorem zv_4 : Y6e Tryz.prog 4 = some (.bool false) := by kernel_rfl
instance Ye9 : LdI Tryz.prog 186 false 1 := ⟨by kernel_rfl⟩
instance Yea : FldI Tryz.prog 196 0 0 := ⟨by kernel_rfl⟩
instance Yeb : FldI Tryz.prog 196 1 3 := ⟨by kernel_rfl⟩
instance Yec : LdI Tryz.prog 193 false 1 := ⟨by kernel_rfl⟩
theorem Yed : Y6c Tryz.prog 193 = some (.i64, 2) := by kernel_rfl
theorem zv_2 : Y6e Tryz.prog 2 = some (.int .i64 0) := by kernel_rfl
instance Yee : FldI Tryz.prog 196 2 4 := ⟨by kernel_rfl⟩
instance Yef : FldI Tryz.prog 196 4 6 := ⟨by kernel_rfl⟩
theorem Yeg : places Tryz.prog 196 = some [(0, 3), (3, 1), (4, 1), (5, 1), (6, 1)] := by kernel_rfl
theorem Yeh : Y18 Tryz.prog 196 = some [.int .i64 0, .slice none 0 0, .slice none 0 0, .map none, .map none, .map none, .map none] := by kernel_rfl
instance Yei : FldI Tryz.prog 145 1 2 := ⟨by kernel_rfl⟩
instance Yej : LdI Tryz.prog 143 false 1 := ⟨by kernel_rfl⟩
instance Yek : SlI Tryz.prog 143 186 1 8 := ⟨by kernel_rfl⟩
theorem Yel : places Tryz.prog 145 = some [(0, 2), (2, 1)] := by kernel_rfl
theorem Yem : Y18 Tryz.prog 145 = some [.slice none 0 0, .slice none 0 0, .slice none 0 0] := by kernel_rfl
theorem Yen : Y2o Tryz.prog 143 = some (186, 1, 8) := by kernel_rfl
theorem Yeo : Y18 Tryz.prog 189 = some [.map none] := by kernel_rfl
instance Yep : LdI Tryz.prog 189 false 1 := ⟨by kernel_rfl⟩
theorem Yeq : Y89 Tryz.prog 189 = some (142, 4) := by kernel_rfl
theorem Yer : Y18 Tryz.prog 186 = some [.pointer none] := by kernel_rfl
theorem Yes : places Tryz.prog 142 = some [(0, 1), (1, 1)] := by kernel_rfl
instance Yet : FldI Tryz.prog 124 0 0 := ⟨by kernel_rfl⟩
instance Yeu : LdI Tryz.prog 122 false 1 := ⟨by kernel_rfl⟩
instance Yev : SlI Tryz.prog 122 99 1 8 := ⟨by kernel_rfl⟩
theorem Yew : places Tryz.prog 124 = some [(0, 1), (1, 1)] := by kernel_rfl
theorem Yex : Y18 Tryz.prog 124 = some [.slice none 0 0, .slice none 0 0] := by kernel_rfl
theorem Yey : Y18 Tryz.prog 118 = some [.pointer none] := by kernel_rfl
instance Yez : LdI Tryz.prog 118 false 1 := ⟨by kernel_rfl⟩
theorem Yf0 : Y2o Tryz.prog 122 = some (99, 1, 8) := by kernel_rfl
instance Yf1 : FldI Tryz.prog 124 1 1 := ⟨by kernel_rfl⟩
instance Yf2 : LdI Tryz.prog 99 false 1 := ⟨by kernel_rfl⟩
instance Yf3 : FldI Tryz.prog 145 0 0 := ⟨by kernel_rfl⟩
instance Yf4 : FldI Tryz.prog 49 0 0 := ⟨by kernel_rfl⟩
instance Yf5 : FldI Tryz.prog 49 1 2 := ⟨by kernel_rfl⟩
instance Yf6 : FldI Tryz.prog 49 2 3 := ⟨by kernel_rfl⟩
theorem un_5 : Tryz.prog.underlying 5 = some (.int .u8) := by kernel_rfl
instance : UnI Tryz.prog 5 (.int .u8) := ⟨un_5⟩
theorem Yf7 : Y2o Tryz.prog 227 = some (5, 1, 1) := by kernel_rfl
theorem Yf8 : Y6x Tryz.prog 227 = true := by kernel_rfl
instance Yf9 : LdI Tryz.prog 42 true 2 := ⟨by kernel_rfl⟩
theorem Yfa : ∀ x, Y45 (Y9c x) := fun x => (Y45.cons (Y44.val _) (Y45.cons (Y44.val _) (Y45.cons (Y44.val _) (Y45.cons (Y44.val _) (Y45.cons (Y44.val _) (Y45.nil))))) : Y45 [cI x.kind, cI x.from_, cI x.to_, cI x.room, C.str x.text])

def Z1 (p0 : List Int) (p1 : Int) : Option Int := cond (decide ((IntKind.i64.wrap (p1 - (p0.length : Int))) < 0)) (some (-1)) (some (IntKind.i64.wrap (p1 - (p0.length : Int))))
instance Z2 (p0 : List Int) (p1 : Int) : Sp Tryz.prog 101 [cM kI64 1 p0, cI p1] (Z1 p0 p1) cI := sp Tryz.func101 rfl rfl fun r X h => go

def Z3 (p0 : Y8v) (p1 : Int) : Option Int := cond (decide ((IntKind.i64.wrap (p1 - (p0.text.size : Int))) < 0)) (some (-1)) ((Z1 p0.prev (IntKind.i64.wrap (p1 - (p0.text.size : Int)))).bind fun r3 => cond (decide (r3 < 0)) (some (-1)) (some r3))
instance Z4 (p0 : Y8v) (p1 : Int) : Sp Tryz.prog 225 [C.agg [cI p0.id, cI p0.room, cI p0.author, cI p0.kind, cI p0.key, cI p0.n, C.str p0.text, cM kI64 1 p0.prev, cI p0.time], cI p1] (Z3 p0 p1) cI := sp Tryz.func225 rfl rfl fun r X h => go

def Z5 (x16 : Int) : Option Int := some x16
def Z6 (p0 : List Y8v) (x8 : Int) (x9 : Int) : Option ((Int × Int) ⊕ (Int ⊕ Int)) := cond (decide (x9 < (p0.length : Int))) ((getI p0 x9).bind fun e11 => (Z3 e11 x8).bind fun r13 => cond (decide (r13 < 0)) (some (.inr (.inl (-1)))) (some (.inl (r13, (IntKind.i64.wrap (x9 + 1)))))) (some (.inr (.inr x8)))
def Z7 (p0 : List Y8v) (p1 : Int) : Option Int := cond (decide ((IntKind.i64.wrap (p1 - (p0.length : Int))) < 0)) (some (-1)) ((iter (fun z17 => Z6 p0 z17.1 z17.2) big ((IntKind.i64.wrap (p1 - (p0.length : Int))), 0)).bind (fun z20 => match z20 with | .inl y18 => some y18 | .inr y19 => Z5 y19))
instance Z8 (p0 : List Y8v) (p1 : Int) : Sp Tryz.prog 175 [cM Y99 9 p0, cI p1] (Z7 p0 p1) cI := sp Tryz.func175 rfl rfl fun r X h => by
 unfold Z7 at h
 refine zw ?_
 refine cnd h (fun hb1 h => go) fun hb1 h => ?_
 refine AW.cf hb1 rfl ?_
 refine zw ?_
 refine AW.lp (v := ()) h (fun (x8, x9) (_ : Unit) => ⟨[(0, cM Y99 9 p0), (1, cI x8), (5, cI x9)], []⟩) (gb []) ?_
 rintro ⟨x8, x9⟩ _ y26 h
 exact go

def Z9 (p0 : Y8w) (p1 : Int) : Option Int := (Z7 p0.events p1).bind fun r2 => cond (decide (r2 < 0)) (some (-1)) ((Z7 p0.parked r2).bind fun r5 => cond (decide (r5 < 0)) (some (-1)) (some r5))
instance Za (p0 : Y8w) (p1 : Int) : Sp Tryz.prog 128 [C.agg [cI p0.room, cM Y99 9 p0.events, cM Y99 9 p0.parked], cI p1] (Z9 p0 p1) cI := sp Tryz.func128 rfl rfl fun r X h => go

def Zb (x16 : Int) : Option Int := some x16
def Zc (p0 : List Y8w) (x8 : Int) (x9 : Int) : Option ((Int × Int) ⊕ (Int ⊕ Int)) := cond (decide (x9 < (p0.length : Int))) ((getI p0 x9).bind fun e11 => (Z9 e11 x8).bind fun r13 => cond (decide (r13 < 0)) (some (.inr (.inl (-1)))) (some (.inl (r13, (IntKind.i64.wrap (x9 + 1)))))) (some (.inr (.inr x8)))
def Zd (p0 : List Y8w) (p1 : Int) : Option Int := cond (decide ((IntKind.i64.wrap (p1 - (p0.length : Int))) < 0)) (some (-1)) ((iter (fun z17 => Zc p0 z17.1 z17.2) big ((IntKind.i64.wrap (p1 - (p0.length : Int))), 0)).bind (fun z20 => match z20 with | .inl y18 => some y18 | .inr y19 => Zb y19))
instance Ze (p0 : List Y8w) (p1 : Int) : Sp Tryz.prog 66 [cM Y9a 3 p0, cI p1] (Zd p0 p1) cI := sp Tryz.func66 rfl rfl fun r X h => by
 unfold Zd at h
 refine zw ?_
 refine cnd h (fun hb1 h => go) fun hb1 h => ?_
 refine AW.cf hb1 rfl ?_
 refine zw ?_
 refine AW.lp (v := ()) h (fun (x8, x9) (_ : Unit) => ⟨[(0, cM Y9a 3 p0), (1, cI x8), (5, cI x9)], []⟩) (gb []) ?_
 rintro ⟨x8, x9⟩ _ y26 h
 exact go

def Zf (p0 : List Y8x) (p1 : Int) : Option Int := cond (decide ((IntKind.i64.wrap (p1 - (p0.length : Int))) < 0)) (some (-1)) (some (IntKind.i64.wrap (p1 - (p0.length : Int))))
instance Zg (p0 : List Y8x) (p1 : Int) : Sp Tryz.prog 67 [cM Y9b 2 p0, cI p1] (Zf p0 p1) cI := sp Tryz.func67 rfl rfl fun r X h => go

def Zh (p0 : THub) (p1 : Int) : Option Int := (Zd p0.rooms p1).bind fun r2 => cond (decide (r2 < 0)) (some (-1)) ((Zf p0.stream r2).bind fun r5 => cond (decide (r5 < 0)) (some (-1)) (some r5))
instance Zi (p0 : THub) (p1 : Int) : Sp Tryz.prog 13 [C.agg [cM Y9a 3 p0.rooms, cM Y9b 2 p0.stream], cI p1] (Zh p0 p1) cI := sp Tryz.func13 rfl rfl fun r X h => go

def Zj (x16 : Int) : Option Int := some x16
def Zk (p0 : List THub) (x8 : Int) (x9 : Int) : Option ((Int × Int) ⊕ (Int ⊕ Int)) := cond (decide (x9 < (p0.length : Int))) ((getI p0 x9).bind fun e11 => (Zh e11 x8).bind fun r13 => cond (decide (r13 < 0)) (some (.inr (.inl (-1)))) (some (.inl (r13, (IntKind.i64.wrap (x9 + 1)))))) (some (.inr (.inr x8)))
def Zl (p0 : List THub) (p1 : Int) : Option Int := cond (decide ((IntKind.i64.wrap (p1 - (p0.length : Int))) < 0)) (some (-1)) ((iter (fun z17 => Zk p0 z17.1 z17.2) big ((IntKind.i64.wrap (p1 - (p0.length : Int))), 0)).bind (fun z20 => match z20 with | .inl y18 => some y18 | .inr y19 => Zj y19))
instance Zm (p0 : List THub) (p1 : Int) : Sp Tryz.prog 79 [cM kHub 2 p0, cI p1] (Zl p0 p1) cI := sp Tryz.func79 rfl rfl fun r X h => by
 unfold Zl at h
 refine zw ?_
 refine cnd h (fun hb1 h => go) fun hb1 h => ?_
 refine AW.cf hb1 rfl ?_
 refine zw ?_
 refine AW.lp (v := ()) h (fun (x8, x9) (_ : Unit) => ⟨[(0, cM kHub 2 p0), (1, cI x8), (5, cI x9)], []⟩) (gb []) ?_
 rintro ⟨x8, x9⟩ _ y26 h
 exact go

def Zn (p0 : Y8y) (p1 : Int) : Option Int := cond (decide ((IntKind.i64.wrap (p1 - (p0.text.size : Int))) < 0)) (some (-1)) (some (IntKind.i64.wrap (p1 - (p0.text.size : Int))))
instance Zo (p0 : Y8y) (p1 : Int) : Sp Tryz.prog 147 [C.agg [cI p0.kind, cI p0.from_, cI p0.to_, cI p0.room, C.str p0.text], cI p1] (Zn p0 p1) cI := sp Tryz.func147 rfl rfl fun r X h => go

def Zp (x16 : Int) : Option Int := some x16
def Zq (p0 : List Y8y) (x8 : Int) (x9 : Int) : Option ((Int × Int) ⊕ (Int ⊕ Int)) := cond (decide (x9 < (p0.length : Int))) ((getI p0 x9).bind fun e11 => (Zn e11 x8).bind fun r13 => cond (decide (r13 < 0)) (some (.inr (.inl (-1)))) (some (.inl (r13, (IntKind.i64.wrap (x9 + 1)))))) (some (.inr (.inr x8)))
def Zr (p0 : List Y8y) (p1 : Int) : Option Int := cond (decide ((IntKind.i64.wrap (p1 - (p0.length : Int))) < 0)) (some (-1)) ((iter (fun z17 => Zq p0 z17.1 z17.2) big ((IntKind.i64.wrap (p1 - (p0.length : Int))), 0)).bind (fun z20 => match z20 with | .inl y18 => some y18 | .inr y19 => Zp y19))
instance Zs (p0 : List Y8y) (p1 : Int) : Sp Tryz.prog 80 [cM Y9c 5 p0, cI p1] (Zr p0 p1) cI := sp Tryz.func80 rfl rfl fun r X h => by
 unfold Zr at h
 refine zw ?_
 refine cnd h (fun hb1 h => go) fun hb1 h => ?_
 refine AW.cf hb1 rfl ?_
 refine zw ?_
 refine AW.lp (v := ()) h (fun (x8, x9) (_ : Unit) => ⟨[(0, cM Y9c 5 p0), (1, cI x8), (5, cI x9)], []⟩) (gb []) ?_
 rintro ⟨x8, x9⟩ _ y26 h
 exact go

def Zt (p0 : Y8z) (p1 : Int) : Option Int := (Zl p0.hubs p1).bind fun r2 => cond (decide (r2 < 0)) (some (-1)) ((Zr p0.letters r2).bind fun r5 => cond (decide (r5 < 0)) (some (-1)) (some r5))
instance Zu (p0 : Y8z) (p1 : Int) : Sp Tryz.prog 22 [C.agg [cM kHub 2 p0.hubs, cM Y9c 5 p0.letters], cI p1] (Zt p0 p1) cI := sp Tryz.func22 rfl rfl fun r X h => go

def Zv (l16 : List Int) : Option (List Int) := some l16
def Zw (p0 : List Int) (l9 : List Int) (x10 : Int) : Option ((List Int × Int) ⊕ ((List Int))) := cond (decide (x10 < (p0.length : Int))) ((getI p0 x10).bind fun e12 => (getI l9 x10).bind fun e14 => some (.inl ((List.set l9 (Int.toNat x10) e12), (IntKind.i64.wrap (x10 + 1))))) (some (.inr l9))
def Zx (p0 : List Int) : Option (List Int) := (chk (decide (0 ≤ (p0.length : Int) ∧ (p0.length : Int) * 8 ≤ 140737488355328))).bind fun u2 => (iter (fun z18 => Zw p0 z18.1 z18.2) big ((List.replicate (Int.toNat (p0.length : Int)) 0), 0)).bind fun y19 => Zv y19
theorem Zy (p0 : List Int) (r : List Int) (h : Zx p0 = some r) : Ok Tryz.prog 104 [cM kI64 1 p0] [] (fun c qs => ∃ (v17 : Value), c = cV v17 ∧ qs = [oA v17 2 kI64 1 r]) := by
 refine Ok.of_body (rs := [.tmp 2]) Tryz.func104 rfl rfl rfl rfl rfl fun X => ?_
 unfold Zx at h
 refine zw ?_
 refine ob' h fun u2 c1 h => ?_
 refine Ops.h (ns := []) rfl rfl (Y3b (k := kI64) (z := 0) Yak ze_2 (Y42 rfl rfl) rfl rfl (Y3x c1).1 (Y3x c1).2 (Y3y (by decide) c1) rfl) ?_
 rintro _ _ ⟨b3, rfl, rfl⟩
 refine Ops.v rfl (Yr rfl rfl) ?_
 refine Ops.nil ?_
 refine AW.seq ?_
 refine AW.cut (τ := List Int) (fun l16 => ⟨[(3, cV (sn b3 (p0.length : Int)))], [oA (sn b3 (p0.length : Int)) 2 kI64 1 l16]⟩) (fun l16 => Zv l16 = some r) ?_ ?_
 ·
  refine zw ?_
  refine AW.lp (v := ()) h (fun (l9, x10) (_ : Unit) => ⟨[(0, cM kI64 1 p0), (3, cV (sn b3 (p0.length : Int))), (4, cI x10)], [oA (sn b3 (p0.length : Int)) 2 kI64 1 l9]⟩) (gb [0]) ?_
  rintro ⟨l9, x10⟩ _ y25 h
  refine zw ?_
  refine cnd h (fun hb11 h => ?_) fun hb11 h => ?_
  ·
   refine AW.ct hb11 rfl ?_
   refine zw ?_
   refine oi h fun e12 g13 h => ?_
   refine zw ?_
   refine oi h fun e14 g15 h => ?_
   refine Ops.hd (ns := [0]) rfl rfl (Y33 (e' := e12) ld_2.h rfl rfl (One.val rfl) (Y29 g15).2.2 rfl rfl) ?_
   exact go
  exact go
 intro l16 h
 replace h : Zv l16 = some r := h
 unfold Zv at h
 refine zw ?_
 refine AW.ret ?_
 rw [← Wj h]
 exact ⟨[cV (sn b3 (p0.length : Int))], _, Y21.refl _, (.cons (.tmp rfl) .nil), [0], _, _, rfl, ⟨(sn b3 (p0.length : Int)), rfl, rfl⟩⟩
instance Zy' (p0 : List Int) : Sp Tryz.prog 104 [cM kI64 1 p0] (Zx p0) (fun r => cM kI64 1 r) := ⟨fun r h => Ok.freeze (Zy p0 r h) (by rintro c qs ⟨v17, rfl, rfl⟩; exact Frz.arr)⟩

def Zz (p0 : Y8v) : Option Y8v := (Zx p0.prev).bind fun r4 => some (Y8v.mk p0.id p0.room p0.author p0.kind p0.key p0.n p0.text r4 p0.time)
theorem Z10 (p0 : Y8v) (r : Y8v) (h : Zz p0 = some r) : Ok Tryz.prog 234 [C.agg [cI p0.id, cI p0.room, cI p0.author, cI p0.kind, cI p0.key, cI p0.n, C.str p0.text, cM kI64 1 p0.prev, cI p0.time]] [] (fun c qs => ∃ (v8 : Value), c = C.agg [cI r.id, cI r.room, cI r.author, cI r.kind, cI r.key, cI r.n, C.str r.text, cV v8, cI r.time] ∧ qs = [oA v8 2 kI64 1 r.prev]) := by
 refine Ok.of_body (rs := [.cell 2 136]) Tryz.func234 rfl rfl rfl rfl rfl fun X => ?_
 unfold Zz at h
 refine zw ?_
 refine ox fun b1 => ?_
 refine Ops.h (ns := []) rfl rfl (Y1p (cs := [cI 0, cI 0, cI 0, cI 0, cI 0, cI 0, C.str ByteArray.empty, cV s0, cI 0]) Yal (Y42 rfl rfl) rfl) ?_
 rintro _ _ ⟨b2, rfl, rfl⟩
 refine zw ?_
 refine Ops.h (ns := []) rfl rfl (Y1p (cs := [cI 0, cI 0, cI 0, cI 0, cI 0, cI 0, C.str ByteArray.empty, cV s0, cI 0]) Yal (Y42 rfl rfl) rfl) ?_
 rintro _ _ ⟨b3, rfl, rfl⟩
 refine zw ?_
 refine Ops.hd (ns := [0]) rfl rfl (Y1t (gs := [cI p0.id, cI 0, cI 0, cI 0, cI 0, cI 0, C.str ByteArray.empty, cV s0, cI 0]) ld_2.h rfl rfl (One.val rfl) rfl rfl) ?_
 refine zw ?_
 refine Ops.hd (ns := [0]) rfl rfl (Y1t (gs := [cI p0.id, cI p0.room, cI 0, cI 0, cI 0, cI 0, C.str ByteArray.empty, cV s0, cI 0]) ld_2.h rfl rfl (One.val rfl) rfl rfl) ?_
 refine zw ?_
 refine Ops.hd (ns := [0]) rfl rfl (Y1t (gs := [cI p0.id, cI p0.room, cI p0.author, cI 0, cI 0, cI 0, C.str ByteArray.empty, cV s0, cI 0]) ld_2.h rfl rfl (One.val rfl) rfl rfl) ?_
 refine zw ?_
 refine Ops.hd (ns := [0]) rfl rfl (Y1t (gs := [cI p0.id, cI p0.room, cI p0.author, cI p0.kind, cI 0, cI 0, C.str ByteArray.empty, cV s0, cI 0]) ld_2.h rfl rfl (One.val rfl) rfl rfl) ?_
 refine zw ?_
 refine Ops.hd (ns := [0]) rfl rfl (Y1t (gs := [cI p0.id, cI p0.room, cI p0.author, cI p0.kind, cI p0.key, cI 0, C.str ByteArray.empty, cV s0, cI 0]) ld_2.h rfl rfl (One.val rfl) rfl rfl) ?_
 refine zw ?_
 refine Ops.hd (ns := [0]) rfl rfl (Y1t (gs := [cI p0.id, cI p0.room, cI p0.author, cI p0.kind, cI p0.key, cI p0.n, C.str ByteArray.empty, cV s0, cI 0]) ld_2.h rfl rfl (One.val rfl) rfl rfl) ?_
 refine zw ?_
 refine Ops.hd (ns := [0]) rfl rfl (Y1t (gs := [cI p0.id, cI p0.room, cI p0.author, cI p0.kind, cI p0.key, cI p0.n, C.str p0.text, cV s0, cI 0]) ld_9.h rfl rfl (One.val rfl) rfl rfl) ?_
 refine zw ?_
 refine ob' h fun r4 g5 h => ?_
 refine Ops.h (ns := []) rfl rfl (Y23 (Zy _ _ g5) rfl rfl) ?_
 rintro _ _ ⟨_, ⟨v6, rfl, rfl⟩, rfl⟩
 refine Ops.v rfl (Y1b Yaz.h rfl rfl) ?_
 refine Ops.learn (Sim.arr_one (p := 0) rfl) fun n7 => ?_
 refine Ops.hd (ns := [1]) rfl rfl (Y1t (gs := [cI p0.id, cI p0.room, cI p0.author, cI p0.kind, cI p0.key, cI p0.n, C.str p0.text, cV v6, cI 0]) Y9y.h rfl rfl (One.val n7) rfl rfl) ?_
 refine zw ?_
 refine Ops.hd (ns := [0]) rfl rfl (Y1t (gs := [cI p0.id, cI p0.room, cI p0.author, cI p0.kind, cI p0.key, cI p0.n, C.str p0.text, cV v6, cI p0.time]) ld_2.h rfl rfl (One.val rfl) rfl rfl) ?_
 refine zw ?_
 refine Ops.hd (ns := [2]) rfl rfl (Y1u (gs := [cI p0.id, cI p0.room, cI p0.author, cI p0.kind, cI p0.key, cI p0.n, C.str p0.text, cV v6, cI p0.time]) Yb2.h rfl rfl rfl rfl rfl) ?_
 refine zw ?_
 refine AW.ret ?_
 rw [← Wj h]
 exact ⟨[C.agg [cI p0.id, cI p0.room, cI p0.author, cI p0.kind, cI p0.key, cI p0.n, C.str p0.text, cV v6, cI p0.time]], _, Y21.refl _, (.cons (.cell (p := 0) rfl rfl Yb2.h rfl) .nil), [2], _, _, rfl, ⟨v6, rfl, rfl⟩⟩
instance Z10' (p0 : Y8v) : Sp Tryz.prog 234 [C.agg [cI p0.id, cI p0.room, cI p0.author, cI p0.kind, cI p0.key, cI p0.n, C.str p0.text, cM kI64 1 p0.prev, cI p0.time]] (Zz p0) (fun r => C.agg [cI r.id, cI r.room, cI r.author, cI r.kind, cI r.key, cI r.n, C.str r.text, cM kI64 1 r.prev, cI r.time]) := ⟨fun r h => Ok.freeze (Z10 p0 r h) (by rintro c qs ⟨v8, rfl, rfl⟩; exact Frz.agg (fS (fS (fS (fS (fS (fS (fS (FrzL.cons (os := [_]) (Frz.arr) (fS (FrzL.nil)))))))))))⟩

def Z11 (l22 : List Y8v) : Option (List Y8v) := some l22
def Z12 (p0 : List Y8v) (l12 : List Y8v) (x13 : Int) : Option ((List Y8v × Int) ⊕ ((List Y8v))) := cond (decide (x13 < (p0.length : Int))) ((getI p0 x13).bind fun e15 => (Zz e15).bind fun r17 => (getI l12 x13).bind fun e20 => some (.inl ((List.set l12 (Int.toNat x13) r17), (IntKind.i64.wrap (x13 + 1))))) (some (.inr l12))
def Z13 (p0 : List Y8v) : Option (List Y8v) := (chk (decide (0 ≤ (p0.length : Int) ∧ (p0.length : Int) * 96 ≤ 140737488355328))).bind fun u2 => (iter (fun z24 => Z12 p0 z24.1 z24.2) big ((List.replicate (Int.toNat (p0.length : Int)) (Y8v.mk 0 0 0 0 0 0 ByteArray.empty [] 0)), 0)).bind fun y25 => Z11 y25
theorem Z14 (p0 : List Y8v) (r : List Y8v) (h : Z13 p0 = some r) : Ok Tryz.prog 183 [cM Y99 9 p0] [] (fun c qs => ∃ (v23 : Value), c = cV v23 ∧ qs = [Obj.deep v23 136 Y9d Y9e 9 r]) := by
 refine Ok.of_body (rs := [.tmp 2]) Tryz.func183 rfl rfl rfl rfl rfl fun X => ?_
 unfold Z13 at h
 refine zw ?_
 refine ob' h fun u2 c1 h => ?_
 refine Ops.h (ns := []) rfl rfl (Y66 (k := Y9d) (ob := Y9e) (z := (Y8v.mk 0 0 0 0 0 0 ByteArray.empty [] 0)) (u0 := s0) Yb3 Yal (Y42 rfl rfl) (fun _ _ => (Own.none_cons Y63 Own.none_nil)) rfl rfl (Y3x c1).1 (Y3x c1).2 (Y3y (by decide) c1) rfl) ?_
 rintro _ _ ⟨b3, rfl, rfl⟩
 refine Ops.v rfl (Yr rfl rfl) ?_
 refine Ops.nil ?_
 refine AW.seq ?_
 refine AW.cut (τ := List Y8v) (fun l22 => ⟨[(3, cV (sn b3 (p0.length : Int)))], [Obj.deep (sn b3 (p0.length : Int)) 136 Y9d Y9e 9 l22]⟩) (fun l22 => Z11 l22 = some r) ?_ ?_
 ·
  refine zw ?_
  refine AW.lp (v := ()) h (fun (l12, x13) (_ : Unit) => ⟨[(0, cM Y99 9 p0), (3, cV (sn b3 (p0.length : Int))), (4, cI x13)], [Obj.deep (sn b3 (p0.length : Int)) 136 Y9d Y9e 9 l12]⟩) (gb [0]) ?_
  rintro ⟨l12, x13⟩ _ y31 h
  refine zw ?_
  refine cnd h (fun hb14 h => ?_) fun hb14 h => ?_
  ·
   refine AW.ct hb14 rfl ?_
   refine zw ?_
   refine oi h fun e15 g16 h => ?_
   refine zw ?_
   refine ob' h fun r17 g18 h => ?_
   refine Ops.h (ns := []) rfl rfl (Y23 (Z10 _ _ g18) rfl rfl) ?_
   rintro _ _ ⟨_, ⟨v19, rfl, rfl⟩, rfl⟩
   refine ob' h fun e20 g21 h => ?_
   refine Ops.v rfl (Y5y (p := 1) Yb8.h rfl rfl rfl g21 rfl) ?_
   refine Ops.hd (ns := [1, 0]) rfl rfl (Y62 (e' := r17) (u' := v19) Yb2.h rfl rfl rfl (Y29 g21).2.2 (fun _ => rfl) rfl rfl) ?_
   exact go
  exact go
 intro l22 h
 replace h : Z11 l22 = some r := h
 unfold Z11 at h
 refine zw ?_
 refine AW.ret ?_
 rw [← Wj h]
 exact ⟨[cV (sn b3 (p0.length : Int))], _, Y21.refl _, (.cons (.tmp rfl) .nil), [0], _, _, rfl, ⟨(sn b3 (p0.length : Int)), rfl, rfl⟩⟩
instance Z14' (p0 : List Y8v) : Sp Tryz.prog 183 [cM Y99 9 p0] (Z13 p0) (fun r => cM Y99 9 r) := ⟨fun r h => Ok.freeze (Z14 p0 r h) (by rintro c qs ⟨v23, rfl, rfl⟩; exact (Frz.deep Yb5))⟩

def Z15 (p0 : Y8w) : Option Y90 := (Z13 p0.events).bind fun r4 => (Z13 p0.parked).bind fun r8 => some (Y90.mk p0.room r4 r8)
theorem Z16 (p0 : Y8w) (r : Y90) (h : Z15 p0 = some r) : Ok Tryz.prog 133 [C.agg [cI p0.room, cM Y99 9 p0.events, cM Y99 9 p0.parked]] [] (fun c qs => ∃ (v12 : Value) (v13 : Value), c = C.agg [cI r.room, cV v12, cV v13] ∧ qs = [Obj.deep v12 136 Y9d Y9e 9 r.events, Obj.deep v13 136 Y9d Y9e 9 r.parked]) := by
 refine Ok.of_body (rs := [.cell 2 139]) Tryz.func133 rfl rfl rfl rfl rfl fun X => ?_
 unfold Z15 at h
 refine zw ?_
 refine ox fun b1 => ?_
 refine Ops.h (ns := []) rfl rfl (Y1p (cs := [cI 0, cV s0, cV s0]) Yb9 (Y42 rfl rfl) rfl) ?_
 rintro _ _ ⟨b2, rfl, rfl⟩
 refine zw ?_
 refine Ops.h (ns := []) rfl rfl (Y1p (cs := [cI 0, cV s0, cV s0]) Yb9 (Y42 rfl rfl) rfl) ?_
 rintro _ _ ⟨b3, rfl, rfl⟩
 refine zw ?_
 refine Ops.hd (ns := [0]) rfl rfl (Y1t (gs := [cI p0.room, cV s0, cV s0]) ld_2.h rfl rfl (One.val rfl) rfl rfl) ?_
 refine zw ?_
 refine ob' h fun r4 g5 h => ?_
 refine Ops.h (ns := []) rfl rfl (Y23 (Z14 _ _ g5) rfl rfl) ?_
 rintro _ _ ⟨_, ⟨v6, rfl, rfl⟩, rfl⟩
 refine Ops.v rfl (Y1b Ybc.h rfl rfl) ?_
 refine Ops.learn (Sim.deep_one (p := 0) rfl) fun n7 => ?_
 refine Ops.hd (ns := [1]) rfl rfl (Y1t (gs := [cI p0.room, cV v6, cV s0]) Ybd.h rfl rfl (One.val n7) rfl rfl) ?_
 refine zw ?_
 refine ob' h fun r8 g9 h => ?_
 refine Ops.h (ns := []) rfl rfl (Y23 (Z14 _ _ g9) rfl rfl) ?_
 rintro _ _ ⟨_, ⟨v10, rfl, rfl⟩, rfl⟩
 refine Ops.v rfl (Y1b Ybe.h rfl rfl) ?_
 refine Ops.learn (Sim.deep_one (p := 0) rfl) fun n11 => ?_
 refine Ops.hd (ns := [1]) rfl rfl (Y1t (gs := [cI p0.room, cV v6, cV v10]) Ybd.h rfl rfl (One.val n11) rfl rfl) ?_
 refine zw ?_
 refine Ops.hd (ns := [3]) rfl rfl (Y1u (gs := [cI p0.room, cV v6, cV v10]) Ybf.h rfl rfl rfl rfl rfl) ?_
 refine zw ?_
 refine AW.ret ?_
 rw [← Wj h]
 exact ⟨[C.agg [cI p0.room, cV v6, cV v10]], _, Y21.refl _, (.cons (.cell (p := 0) rfl rfl Ybf.h rfl) .nil), [3, 2], _, _, rfl, ⟨v6, v10, rfl, rfl⟩⟩
instance Z16' (p0 : Y8w) : Sp Tryz.prog 133 [C.agg [cI p0.room, cM Y99 9 p0.events, cM Y99 9 p0.parked]] (Z15 p0) (fun r => C.agg [cI r.room, cM Y99 9 r.events, cM Y99 9 r.parked]) := ⟨fun r h => Ok.freeze (Z16 p0 r h) (by rintro c qs ⟨v12, v13, rfl, rfl⟩; exact Frz.agg (fS (FrzL.cons (os := [_]) ((Frz.deep Yb5)) (FrzL.cons (os := [_]) ((Frz.deep Yb5)) (FrzL.nil)))))⟩

def Z17 (l24 : List Y90) : Option (List Y90) := some l24
def Z18 (p0 : List Y8w) (l13 : List Y90) (x14 : Int) : Option ((List Y90 × Int) ⊕ ((List Y90))) := cond (decide (x14 < (p0.length : Int))) ((getI p0 x14).bind fun e16 => (Z15 e16).bind fun r18 => (getI l13 x14).bind fun e22 => some (.inl ((List.set l13 (Int.toNat x14) r18), (IntKind.i64.wrap (x14 + 1))))) (some (.inr l13))
def Z19 (p0 : List Y8w) : Option (List Y90) := (chk (decide (0 ≤ (p0.length : Int) ∧ (p0.length : Int) * 56 ≤ 140737488355328))).bind fun u2 => (iter (fun z26 => Z18 p0 z26.1 z26.2) big ((List.replicate (Int.toNat (p0.length : Int)) (Y90.mk 0 [] [])), 0)).bind fun y27 => Z17 y27
theorem Z1a (p0 : List Y8w) (r : List Y90) (h : Z19 p0 = some r) : Ok Tryz.prog 71 [cM Y9a 3 p0] [] (fun c qs => ∃ (v25 : Value), c = cV v25 ∧ qs = [Obj.deep v25 139 Y9g Y9h 3 r]) := by
 refine Ok.of_body (rs := [.tmp 2]) Tryz.func71 rfl rfl rfl rfl rfl fun X => ?_
 unfold Z19 at h
 refine zw ?_
 refine ob' h fun u2 c1 h => ?_
 refine Ops.h (ns := []) rfl rfl (Y66 (k := Y9g) (ob := Y9h) (z := (Y90.mk 0 [] [])) (u0 := (s0, s0)) Ybg Yb9 (Y42 rfl rfl) (fun _ _ => (Own.none_cons Y64 (Own.none_cons Y64 Own.none_nil))) rfl rfl (Y3x c1).1 (Y3x c1).2 (Y3y (by decide) c1) rfl) ?_
 rintro _ _ ⟨b3, rfl, rfl⟩
 refine Ops.v rfl (Yr rfl rfl) ?_
 refine Ops.nil ?_
 refine AW.seq ?_
 refine AW.cut (τ := List Y90) (fun l24 => ⟨[(3, cV (sn b3 (p0.length : Int)))], [Obj.deep (sn b3 (p0.length : Int)) 139 Y9g Y9h 3 l24]⟩) (fun l24 => Z17 l24 = some r) ?_ ?_
 ·
  refine zw ?_
  refine AW.lp (v := ()) h (fun (l13, x14) (_ : Unit) => ⟨[(0, cM Y9a 3 p0), (3, cV (sn b3 (p0.length : Int))), (4, cI x14)], [Obj.deep (sn b3 (p0.length : Int)) 139 Y9g Y9h 3 l13]⟩) (gb [0]) ?_
  rintro ⟨l13, x14⟩ _ y33 h
  refine zw ?_
  refine cnd h (fun hb15 h => ?_) fun hb15 h => ?_
  ·
   refine AW.ct hb15 rfl ?_
   refine zw ?_
   refine oi h fun e16 g17 h => ?_
   refine zw ?_
   refine ob' h fun r18 g19 h => ?_
   refine Ops.h (ns := []) rfl rfl (Y23 (Z16 _ _ g19) rfl rfl) ?_
   rintro _ _ ⟨_, ⟨v20, v21, rfl, rfl⟩, rfl⟩
   refine ob' h fun e22 g23 h => ?_
   refine Ops.v rfl (Y5y (p := 2) Ybk.h rfl rfl rfl g23 rfl) ?_
   refine Ops.hd (ns := [2, 0, 0]) rfl rfl (Y62 (e' := r18) (u' := (v20, v21)) Ybf.h rfl rfl rfl (Y29 g23).2.2 (fun _ => rfl) rfl rfl) ?_
   exact go
  exact go
 intro l24 h
 replace h : Z17 l24 = some r := h
 unfold Z17 at h
 refine zw ?_
 refine AW.ret ?_
 rw [← Wj h]
 exact ⟨[cV (sn b3 (p0.length : Int))], _, Y21.refl _, (.cons (.tmp rfl) .nil), [0], _, _, rfl, ⟨(sn b3 (p0.length : Int)), rfl, rfl⟩⟩
instance Z1a' (p0 : List Y8w) : Sp Tryz.prog 71 [cM Y9a 3 p0] (Z19 p0) (fun r => cM Y9f 3 r) := ⟨fun r h => Ok.freeze (Z1a p0 r h) (by rintro c qs ⟨v25, rfl, rfl⟩; exact (Frz.deep Ybh))⟩

def Z1b (p0 : Y8x) : Option Y8x := some p0
instance Z1c (p0 : Y8x) : Sp Tryz.prog 134 [C.agg [cI p0.room, cI p0.id]] (Z1b p0) (fun r => C.agg [cI r.room, cI r.id]) := sp Tryz.func134 rfl rfl fun r X h => by
 unfold Z1b at h
 refine zw ?_
 refine ox fun b1 => ?_
 refine Ops.h (ns := []) rfl rfl (Y1p (cs := [cI 0, cI 0]) Ybl (Y42 rfl rfl) rfl) ?_
 rintro _ _ ⟨b2, rfl, rfl⟩
 refine zw ?_
 refine Ops.h (ns := []) rfl rfl (Y1p (cs := [cI 0, cI 0]) Ybl (Y42 rfl rfl) rfl) ?_
 rintro _ _ ⟨b3, rfl, rfl⟩
 refine zw ?_
 refine Ops.hd (ns := [0]) rfl rfl (Y1t (gs := [cI p0.room, cI 0]) ld_2.h rfl rfl (One.val rfl) rfl rfl) ?_
 refine zw ?_
 refine Ops.hd (ns := [0]) rfl rfl (Y1t (gs := [cI p0.room, cI p0.id]) ld_2.h rfl rfl (One.val rfl) rfl rfl) ?_
 refine zw ?_
 refine Ops.hd (ns := [1]) rfl rfl (Y1u (gs := [cI p0.room, cI p0.id]) Ybq.h rfl rfl rfl rfl rfl) ?_
 refine zw ?_
 refine AW.ret ?_
 rw [← Wj h]
 exact ⟨[C.agg [cI p0.room, cI p0.id]], _, Y21.refl _, (.cons (.cell (p := 0) rfl rfl Ybq.h rfl) .nil), [], _, _, rfl, ⟨rfl, rfl⟩⟩

def Z1d (l20 : List Y8x) : Option (List Y8x) := some l20
def Z1e (p0 : List Y8x) (l11 : List Y8x) (x12 : Int) : Option ((List Y8x × Int) ⊕ ((List Y8x))) := cond (decide (x12 < (p0.length : Int))) ((getI p0 x12).bind fun e14 => (Z1b e14).bind fun r16 => (getI l11 x12).bind fun e18 => some (.inl ((List.set l11 (Int.toNat x12) r16), (IntKind.i64.wrap (x12 + 1))))) (some (.inr l11))
def Z1f (p0 : List Y8x) : Option (List Y8x) := (chk (decide (0 ≤ (p0.length : Int) ∧ (p0.length : Int) * 16 ≤ 140737488355328))).bind fun u2 => (iter (fun z22 => Z1e p0 z22.1 z22.2) big ((List.replicate (Int.toNat (p0.length : Int)) (Y8x.mk 0 0)), 0)).bind fun y23 => Z1d y23
theorem Z1g (p0 : List Y8x) (r : List Y8x) (h : Z1f p0 = some r) : Ok Tryz.prog 72 [cM Y9b 2 p0] [] (fun c qs => ∃ (v21 : Value), c = cV v21 ∧ qs = [oA v21 142 Y9b 2 r]) := by
 refine Ok.of_body (rs := [.tmp 2]) Tryz.func72 rfl rfl rfl rfl rfl fun X => ?_
 unfold Z1f at h
 refine zw ?_
 refine ob' h fun u2 c1 h => ?_
 refine Ops.h (ns := []) rfl rfl (Y3b (k := Y9b) (z := (Y8x.mk 0 0)) Ybr Ybl (Y42 rfl rfl) rfl rfl (Y3x c1).1 (Y3x c1).2 (Y3y (by decide) c1) rfl) ?_
 rintro _ _ ⟨b3, rfl, rfl⟩
 refine Ops.v rfl (Yr rfl rfl) ?_
 refine Ops.nil ?_
 refine AW.seq ?_
 refine AW.cut (τ := List Y8x) (fun l20 => ⟨[(3, cV (sn b3 (p0.length : Int)))], [oA (sn b3 (p0.length : Int)) 142 Y9b 2 l20]⟩) (fun l20 => Z1d l20 = some r) ?_ ?_
 ·
  refine zw ?_
  refine AW.lp (v := ()) h (fun (l11, x12) (_ : Unit) => ⟨[(0, cM Y9b 2 p0), (3, cV (sn b3 (p0.length : Int))), (4, cI x12)], [oA (sn b3 (p0.length : Int)) 142 Y9b 2 l11]⟩) (gb [0]) ?_
  rintro ⟨l11, x12⟩ _ y29 h
  refine zw ?_
  refine cnd h (fun hb13 h => ?_) fun hb13 h => ?_
  ·
   refine AW.ct hb13 rfl ?_
   refine zw ?_
   refine oi h fun e14 g15 h => ?_
   refine zw ?_
   refine oc h fun r16 g17 h => ?_
   refine oi h fun e18 g19 h => ?_
   refine Ops.hd (ns := [0]) rfl rfl (Y34 (e' := r16) Ybq.h rfl rfl rfl (Y29 g19).2.2 rfl rfl) ?_
   exact go
  exact go
 intro l20 h
 replace h : Z1d l20 = some r := h
 unfold Z1d at h
 refine zw ?_
 refine AW.ret ?_
 rw [← Wj h]
 exact ⟨[cV (sn b3 (p0.length : Int))], _, Y21.refl _, (.cons (.tmp rfl) .nil), [0], _, _, rfl, ⟨(sn b3 (p0.length : Int)), rfl, rfl⟩⟩
instance Z1g' (p0 : List Y8x) : Sp Tryz.prog 72 [cM Y9b 2 p0] (Z1f p0) (fun r => cM Y9b 2 r) := ⟨fun r h => Ok.freeze (Z1g p0 r h) (by rintro c qs ⟨v21, rfl, rfl⟩; exact Frz.arr)⟩

def Z1h (p0 : THub) : Option Y91 := (Z19 p0.rooms).bind fun r4 => (Z1f p0.stream).bind fun r8 => some (Y91.mk r4 r8)
theorem Z1i (p0 : THub) (r : Y91) (h : Z1h p0 = some r) : Ok Tryz.prog 15 [C.agg [cM Y9a 3 p0.rooms, cM Y9b 2 p0.stream]] [] (fun c qs => ∃ (v12 : Value) (v13 : Value), c = C.agg [cV v12, cV v13] ∧ qs = [Obj.deep v12 139 Y9g Y9h 3 r.rooms, oA v13 142 Y9b 2 r.stream]) := by
 refine Ok.of_body (rs := [.cell 2 32]) Tryz.func15 rfl rfl rfl rfl rfl fun X => ?_
 unfold Z1h at h
 refine zw ?_
 refine ox fun b1 => ?_
 refine Ops.h (ns := []) rfl rfl (Y1p (cs := [cV s0, cV s0]) Ybu (Y42 rfl rfl) rfl) ?_
 rintro _ _ ⟨b2, rfl, rfl⟩
 refine zw ?_
 refine Ops.h (ns := []) rfl rfl (Y1p (cs := [cV s0, cV s0]) Ybu (Y42 rfl rfl) rfl) ?_
 rintro _ _ ⟨b3, rfl, rfl⟩
 refine zw ?_
 refine ob' h fun r4 g5 h => ?_
 refine Ops.h (ns := []) rfl rfl (Y23 (Z1a _ _ g5) rfl rfl) ?_
 rintro _ _ ⟨_, ⟨v6, rfl, rfl⟩, rfl⟩
 refine Ops.v rfl (Y1b Ybv.h rfl rfl) ?_
 refine Ops.learn (Sim.deep_one (p := 0) rfl) fun n7 => ?_
 refine Ops.hd (ns := [1]) rfl rfl (Y1t (gs := [cV v6, cV s0]) Ybw.h rfl rfl (One.val n7) rfl rfl) ?_
 refine zw ?_
 refine ob' h fun r8 g9 h => ?_
 refine Ops.h (ns := []) rfl rfl (Y23 (Z1g _ _ g9) rfl rfl) ?_
 rintro _ _ ⟨_, ⟨v10, rfl, rfl⟩, rfl⟩
 refine Ops.v rfl (Y1b Ybx.h rfl rfl) ?_
 refine Ops.learn (Sim.arr_one (p := 0) rfl) fun n11 => ?_
 refine Ops.hd (ns := [1]) rfl rfl (Y1t (gs := [cV v6, cV v10]) Yby.h rfl rfl (One.val n11) rfl rfl) ?_
 refine zw ?_
 refine Ops.hd (ns := [3]) rfl rfl (Y1u (gs := [cV v6, cV v10]) Ybz.h rfl rfl rfl rfl rfl) ?_
 refine zw ?_
 refine AW.ret ?_
 rw [← Wj h]
 exact ⟨[C.agg [cV v6, cV v10]], _, Y21.refl _, (.cons (.cell (p := 0) rfl rfl Ybz.h rfl) .nil), [3, 2], _, _, rfl, ⟨v6, v10, rfl, rfl⟩⟩
instance Z1i' (p0 : THub) : Sp Tryz.prog 15 [C.agg [cM Y9a 3 p0.rooms, cM Y9b 2 p0.stream]] (Z1h p0) (fun r => C.agg [cM Y9f 3 r.rooms, cM Y9b 2 r.stream]) := ⟨fun r h => Ok.freeze (Z1i p0 r h) (by rintro c qs ⟨v12, v13, rfl, rfl⟩; exact Frz.agg (FrzL.cons (os := [_]) ((Frz.deep Ybh)) (FrzL.cons (os := [_]) (Frz.arr) (FrzL.nil))))⟩

def Z1j (l24 : List Y91) : Option (List Y91) := some l24
def Z1k (p0 : List THub) (l13 : List Y91) (x14 : Int) : Option ((List Y91 × Int) ⊕ ((List Y91))) := cond (decide (x14 < (p0.length : Int))) ((getI p0 x14).bind fun e16 => (Z1h e16).bind fun r18 => (getI l13 x14).bind fun e22 => some (.inl ((List.set l13 (Int.toNat x14) r18), (IntKind.i64.wrap (x14 + 1))))) (some (.inr l13))
def Z1l (p0 : List THub) : Option (List Y91) := (chk (decide (0 ≤ (p0.length : Int) ∧ (p0.length : Int) * 48 ≤ 140737488355328))).bind fun u2 => (iter (fun z26 => Z1k p0 z26.1 z26.2) big ((List.replicate (Int.toNat (p0.length : Int)) (Y91.mk [] [])), 0)).bind fun y27 => Z1j y27
theorem Z1m (p0 : List THub) (r : List Y91) (h : Z1l p0 = some r) : Ok Tryz.prog 84 [cM kHub 2 p0] [] (fun c qs => ∃ (v25 : Value), c = cV v25 ∧ qs = [Obj.deep v25 32 Y9j Y9k 2 r]) := by
 refine Ok.of_body (rs := [.tmp 2]) Tryz.func84 rfl rfl rfl rfl rfl fun X => ?_
 unfold Z1l at h
 refine zw ?_
 refine ob' h fun u2 c1 h => ?_
 refine Ops.h (ns := []) rfl rfl (Y66 (k := Y9j) (ob := Y9k) (z := (Y91.mk [] [])) (u0 := (s0, s0)) Yc0 Ybu (Y42 rfl rfl) (fun _ _ => (Own.none_cons Y64 (Own.none_cons Y63 Own.none_nil))) rfl rfl (Y3x c1).1 (Y3x c1).2 (Y3y (by decide) c1) rfl) ?_
 rintro _ _ ⟨b3, rfl, rfl⟩
 refine Ops.v rfl (Yr rfl rfl) ?_
 refine Ops.nil ?_
 refine AW.seq ?_
 refine AW.cut (τ := List Y91) (fun l24 => ⟨[(3, cV (sn b3 (p0.length : Int)))], [Obj.deep (sn b3 (p0.length : Int)) 32 Y9j Y9k 2 l24]⟩) (fun l24 => Z1j l24 = some r) ?_ ?_
 ·
  refine zw ?_
  refine AW.lp (v := ()) h (fun (l13, x14) (_ : Unit) => ⟨[(0, cM kHub 2 p0), (3, cV (sn b3 (p0.length : Int))), (4, cI x14)], [Obj.deep (sn b3 (p0.length : Int)) 32 Y9j Y9k 2 l13]⟩) (gb [0]) ?_
  rintro ⟨l13, x14⟩ _ y33 h
  refine zw ?_
  refine cnd h (fun hb15 h => ?_) fun hb15 h => ?_
  ·
   refine AW.ct hb15 rfl ?_
   refine zw ?_
   refine oi h fun e16 g17 h => ?_
   refine zw ?_
   refine ob' h fun r18 g19 h => ?_
   refine Ops.h (ns := []) rfl rfl (Y23 (Z1i _ _ g19) rfl rfl) ?_
   rintro _ _ ⟨_, ⟨v20, v21, rfl, rfl⟩, rfl⟩
   refine ob' h fun e22 g23 h => ?_
   refine Ops.v rfl (Y5y (p := 2) Yc5.h rfl rfl rfl g23 rfl) ?_
   refine Ops.hd (ns := [2, 0, 0]) rfl rfl (Y62 (e' := r18) (u' := (v20, v21)) Ybz.h rfl rfl rfl (Y29 g23).2.2 (fun _ => rfl) rfl rfl) ?_
   exact go
  exact go
 intro l24 h
 replace h : Z1j l24 = some r := h
 unfold Z1j at h
 refine zw ?_
 refine AW.ret ?_
 rw [← Wj h]
 exact ⟨[cV (sn b3 (p0.length : Int))], _, Y21.refl _, (.cons (.tmp rfl) .nil), [0], _, _, rfl, ⟨(sn b3 (p0.length : Int)), rfl, rfl⟩⟩
instance Z1m' (p0 : List THub) : Sp Tryz.prog 84 [cM kHub 2 p0] (Z1l p0) (fun r => cM Y9i 2 r) := ⟨fun r h => Ok.freeze (Z1m p0 r h) (by rintro c qs ⟨v25, rfl, rfl⟩; exact (Frz.deep Yc2))⟩

def Z1n (p0 : Y8y) : Option Y8y := some p0
instance Z1o (p0 : Y8y) : Sp Tryz.prog 150 [C.agg [cI p0.kind, cI p0.from_, cI p0.to_, cI p0.room, C.str p0.text]] (Z1n p0) (fun r => C.agg [cI r.kind, cI r.from_, cI r.to_, cI r.room, C.str r.text]) := sp Tryz.func150 rfl rfl fun r X h => by
 unfold Z1n at h
 refine zw ?_
 refine ox fun b1 => ?_
 refine Ops.h (ns := []) rfl rfl (Y1p (cs := [cI 0, cI 0, cI 0, cI 0, C.str ByteArray.empty]) Yc6 (Y42 rfl rfl) rfl) ?_
 rintro _ _ ⟨b2, rfl, rfl⟩
 refine zw ?_
 refine Ops.h (ns := []) rfl rfl (Y1p (cs := [cI 0, cI 0, cI 0, cI 0, C.str ByteArray.empty]) Yc6 (Y42 rfl rfl) rfl) ?_
 rintro _ _ ⟨b3, rfl, rfl⟩
 refine zw ?_
 refine Ops.hd (ns := [0]) rfl rfl (Y1t (gs := [cI p0.kind, cI 0, cI 0, cI 0, C.str ByteArray.empty]) ld_2.h rfl rfl (One.val rfl) rfl rfl) ?_
 refine zw ?_
 refine Ops.hd (ns := [0]) rfl rfl (Y1t (gs := [cI p0.kind, cI p0.from_, cI 0, cI 0, C.str ByteArray.empty]) ld_2.h rfl rfl (One.val rfl) rfl rfl) ?_
 refine zw ?_
 refine Ops.hd (ns := [0]) rfl rfl (Y1t (gs := [cI p0.kind, cI p0.from_, cI p0.to_, cI 0, C.str ByteArray.empty]) ld_2.h rfl rfl (One.val rfl) rfl rfl) ?_
 refine zw ?_
 refine Ops.hd (ns := [0]) rfl rfl (Y1t (gs := [cI p0.kind, cI p0.from_, cI p0.to_, cI p0.room, C.str ByteArray.empty]) ld_2.h rfl rfl (One.val rfl) rfl rfl) ?_
 refine zw ?_
 refine Ops.hd (ns := [0]) rfl rfl (Y1t (gs := [cI p0.kind, cI p0.from_, cI p0.to_, cI p0.room, C.str p0.text]) ld_9.h rfl rfl (One.val rfl) rfl rfl) ?_
 refine zw ?_
 refine Ops.hd (ns := [1]) rfl rfl (Y1u (gs := [cI p0.kind, cI p0.from_, cI p0.to_, cI p0.room, C.str p0.text]) Ycg.h rfl rfl rfl rfl rfl) ?_
 refine zw ?_
 refine AW.ret ?_
 rw [← Wj h]
 exact ⟨[C.agg [cI p0.kind, cI p0.from_, cI p0.to_, cI p0.room, C.str p0.text]], _, Y21.refl _, (.cons (.cell (p := 0) rfl rfl Ycg.h rfl) .nil), [], _, _, rfl, ⟨rfl, rfl⟩⟩

def Z1p (l20 : List Y8y) : Option (List Y8y) := some l20
def Z1q (p0 : List Y8y) (l11 : List Y8y) (x12 : Int) : Option ((List Y8y × Int) ⊕ ((List Y8y))) := cond (decide (x12 < (p0.length : Int))) ((getI p0 x12).bind fun e14 => (Z1n e14).bind fun r16 => (getI l11 x12).bind fun e18 => some (.inl ((List.set l11 (Int.toNat x12) r16), (IntKind.i64.wrap (x12 + 1))))) (some (.inr l11))
def Z1r (p0 : List Y8y) : Option (List Y8y) := (chk (decide (0 ≤ (p0.length : Int) ∧ (p0.length : Int) * 48 ≤ 140737488355328))).bind fun u2 => (iter (fun z22 => Z1q p0 z22.1 z22.2) big ((List.replicate (Int.toNat (p0.length : Int)) (Y8y.mk 0 0 0 0 ByteArray.empty)), 0)).bind fun y23 => Z1p y23
theorem Z1s (p0 : List Y8y) (r : List Y8y) (h : Z1r p0 = some r) : Ok Tryz.prog 85 [cM Y9c 5 p0] [] (fun c qs => ∃ (v21 : Value), c = cV v21 ∧ qs = [oA v21 115 Y9c 5 r]) := by
 refine Ok.of_body (rs := [.tmp 2]) Tryz.func85 rfl rfl rfl rfl rfl fun X => ?_
 unfold Z1r at h
 refine zw ?_
 refine ob' h fun u2 c1 h => ?_
 refine Ops.h (ns := []) rfl rfl (Y3b (k := Y9c) (z := (Y8y.mk 0 0 0 0 ByteArray.empty)) Ych Yc6 (Y42 rfl rfl) rfl rfl (Y3x c1).1 (Y3x c1).2 (Y3y (by decide) c1) rfl) ?_
 rintro _ _ ⟨b3, rfl, rfl⟩
 refine Ops.v rfl (Yr rfl rfl) ?_
 refine Ops.nil ?_
 refine AW.seq ?_
 refine AW.cut (τ := List Y8y) (fun l20 => ⟨[(3, cV (sn b3 (p0.length : Int)))], [oA (sn b3 (p0.length : Int)) 115 Y9c 5 l20]⟩) (fun l20 => Z1p l20 = some r) ?_ ?_
 ·
  refine zw ?_
  refine AW.lp (v := ()) h (fun (l11, x12) (_ : Unit) => ⟨[(0, cM Y9c 5 p0), (3, cV (sn b3 (p0.length : Int))), (4, cI x12)], [oA (sn b3 (p0.length : Int)) 115 Y9c 5 l11]⟩) (gb [0]) ?_
  rintro ⟨l11, x12⟩ _ y29 h
  refine zw ?_
  refine cnd h (fun hb13 h => ?_) fun hb13 h => ?_
  ·
   refine AW.ct hb13 rfl ?_
   refine zw ?_
   refine oi h fun e14 g15 h => ?_
   refine zw ?_
   refine oc h fun r16 g17 h => ?_
   refine oi h fun e18 g19 h => ?_
   refine Ops.hd (ns := [0]) rfl rfl (Y34 (e' := r16) Ycg.h rfl rfl rfl (Y29 g19).2.2 rfl rfl) ?_
   exact go
  exact go
 intro l20 h
 replace h : Z1p l20 = some r := h
 unfold Z1p at h
 refine zw ?_
 refine AW.ret ?_
 rw [← Wj h]
 exact ⟨[cV (sn b3 (p0.length : Int))], _, Y21.refl _, (.cons (.tmp rfl) .nil), [0], _, _, rfl, ⟨(sn b3 (p0.length : Int)), rfl, rfl⟩⟩
instance Z1s' (p0 : List Y8y) : Sp Tryz.prog 85 [cM Y9c 5 p0] (Z1r p0) (fun r => cM Y9c 5 r) := ⟨fun r h => Ok.freeze (Z1s p0 r h) (by rintro c qs ⟨v21, rfl, rfl⟩; exact Frz.arr)⟩

def Z1t (p0 : Y8z) : Option Y92 := (Z1l p0.hubs).bind fun r4 => (Z1r p0.letters).bind fun r8 => some (Y92.mk r4 r8)
theorem Z1u (p0 : Y8z) (r : Y92) (h : Z1t p0 = some r) : Ok Tryz.prog 24 [C.agg [cM kHub 2 p0.hubs, cM Y9c 5 p0.letters]] [] (fun c qs => ∃ (v12 : Value) (v13 : Value), c = C.agg [cV v12, cV v13] ∧ qs = [Obj.deep v12 32 Y9j Y9k 2 r.hubs, oA v13 115 Y9c 5 r.letters]) := by
 refine Ok.of_body (rs := [.cell 2 47]) Tryz.func24 rfl rfl rfl rfl rfl fun X => ?_
 unfold Z1t at h
 refine zw ?_
 refine ox fun b1 => ?_
 refine Ops.h (ns := []) rfl rfl (Y1p (cs := [cV s0, cV s0]) Ycj (Y42 rfl rfl) rfl) ?_
 rintro _ _ ⟨b2, rfl, rfl⟩
 refine zw ?_
 refine Ops.h (ns := []) rfl rfl (Y1p (cs := [cV s0, cV s0]) Ycj (Y42 rfl rfl) rfl) ?_
 rintro _ _ ⟨b3, rfl, rfl⟩
 refine zw ?_
 refine ob' h fun r4 g5 h => ?_
 refine Ops.h (ns := []) rfl rfl (Y23 (Z1m _ _ g5) rfl rfl) ?_
 rintro _ _ ⟨_, ⟨v6, rfl, rfl⟩, rfl⟩
 refine Ops.v rfl (Y1b Yck.h rfl rfl) ?_
 refine Ops.learn (Sim.deep_one (p := 0) rfl) fun n7 => ?_
 refine Ops.hd (ns := [1]) rfl rfl (Y1t (gs := [cV v6, cV s0]) Ycl.h rfl rfl (One.val n7) rfl rfl) ?_
 refine zw ?_
 refine ob' h fun r8 g9 h => ?_
 refine Ops.h (ns := []) rfl rfl (Y23 (Z1s _ _ g9) rfl rfl) ?_
 rintro _ _ ⟨_, ⟨v10, rfl, rfl⟩, rfl⟩
 refine Ops.v rfl (Y1b Ycm.h rfl rfl) ?_
 refine Ops.learn (Sim.arr_one (p := 0) rfl) fun n11 => ?_
 refine Ops.hd (ns := [1]) rfl rfl (Y1t (gs := [cV v6, cV v10]) Ycn.h rfl rfl (One.val n11) rfl rfl) ?_
 refine zw ?_
 refine Ops.hd (ns := [3]) rfl rfl (Y1u (gs := [cV v6, cV v10]) Yco.h rfl rfl rfl rfl rfl) ?_
 refine zw ?_
 refine AW.ret ?_
 rw [← Wj h]
 exact ⟨[C.agg [cV v6, cV v10]], _, Y21.refl _, (.cons (.cell (p := 0) rfl rfl Yco.h rfl) .nil), [3, 2], _, _, rfl, ⟨v6, v10, rfl, rfl⟩⟩
instance Z1u' (p0 : Y8z) : Sp Tryz.prog 24 [C.agg [cM kHub 2 p0.hubs, cM Y9c 5 p0.letters]] (Z1t p0) (fun r => C.agg [cM Y9i 2 r.hubs, cM Y9c 5 r.letters]) := ⟨fun r h => Ok.freeze (Z1u p0 r h) (by rintro c qs ⟨v12, v13, rfl, rfl⟩; exact Frz.agg (FrzL.cons (os := [_]) ((Frz.deep Yc2)) (FrzL.cons (os := [_]) (Frz.arr) (FrzL.nil))))⟩

def Z1v (x2 : Bool) : Option Bool := some x2
def Z1w (p0 : Int) (p1 : Int) (p2 : Int) : Option Bool := cond (decide (p0 ≥ p1)) (Z1v (decide (p0 ≤ p2))) (Z1v false)
instance Z1x (p0 : Int) (p1 : Int) (p2 : Int) : Sp Tryz.prog 69 [cI p0, cI p1, cI p2] (Z1w p0 p1 p2) C.bool := sp Tryz.func69 rfl rfl fun r X h => go

def Z1y (p0 : Int) : Option Bool := (Z1w p0 1 1000000).bind fun r1 => some r1
instance Z1z (p0 : Int) : Sp Tryz.prog 270 [cI p0] (Z1y p0) C.bool := sp Tryz.func270 rfl rfl fun r X h => go

def Z20 (p0 : Int) : Option Bool := (Z1w p0 1 6).bind fun r1 => some r1
instance Z21 (p0 : Int) : Sp Tryz.prog 97 [cI p0] (Z20 p0) C.bool := sp Tryz.func97 rfl rfl fun r X h => go

def Z22 (p0 : Int) : Option Bool := (Z1w p0 0 1000000).bind fun r1 => some r1
instance Z23 (p0 : Int) : Sp Tryz.prog 271 [cI p0] (Z22 p0) C.bool := sp Tryz.func271 rfl rfl fun r X h => go

def Z24 : Option Bool := some true
def Z25 (x14 : Int) (x25 : Bool) : Option (Int ⊕ (Bool ⊕ Unit)) := cond x25 (some (.inr (.inl false))) (some (.inl (IntKind.i64.wrap (x14 + 1))))
def Z26 (p0 : List Int) (p1 : Int) (x14 : Int) : Option (Int ⊕ (Bool ⊕ Unit)) := cond (decide (x14 < (p0.length : Int))) ((getI p0 x14).bind fun e16 => (Z1y e16).bind fun r18 => cond r18 (cond (e16 == p1) (Z25 x14 true) (cond (decide (x14 > 0)) ((getI p0 (IntKind.i64.wrap (x14 - 1))).bind fun e23 => Z25 x14 (decide (e23 ≥ e16))) (Z25 x14 false))) (Z25 x14 true)) (some (.inr (.inr ())))
def Z27 (p0 : List Int) (p1 : Int) : Option Bool := cond (decide ((p0.length : Int) > 4)) (some false) ((iter (Z26 p0 p1) big 0).bind (fun z28 => match z28 with | .inl y27 => some y27 | .inr () => Z24))
instance Z28 (p0 : List Int) (p1 : Int) : Sp Tryz.prog 272 [cM kI64 1 p0, cI p1] (Z27 p0 p1) C.bool := sp Tryz.func272 rfl rfl fun r X h => by
 unfold Z27 at h
 refine zw ?_
 refine cnd h (fun hb1 h => go) fun hb1 h => ?_
 refine AW.cf hb1 rfl ?_
 refine zw ?_
 refine AW.lp (v := ()) h (fun x14 (_ : Unit) => ⟨[(0, cM kI64 1 p0), (1, cI p1), (5, cI x14)], []⟩) (gb []) ?_
 rintro x14 _ y34 h
 refine zw ?_
 refine cnd h (fun hb15 h => ?_) fun hb15 h => ?_
 ·
  refine AW.ct hb15 rfl ?_
  refine zw ?_
  refine rD [] [3,10,22,26] [] [0,4,8,13,18,20,24,28,32,36,41,44,48,52,56,60,64,68,72,76,80,84,89,92,96,100,105,108,112,116] ?_
  exact go
 exact go

def Z29 (x5 : Bool) : Option Bool := some x5
def Z2a (x13 : Bool) : Option Bool := some x13
def Z2b (x21 : Bool) : Option Bool := some x21
def Z2c (x25 : Bool) : Option Bool := some x25
def Z2d (x31 : Bool) : Option Bool := some x31
def Z2e (x37 : Bool) : Option Bool := some x37
def Z2f (x42 : Bool) : Option Bool := some x42
def Z2g (x48 : Bool) : Option Bool := some x48
def Z2h (p0 : Y8v) : Option Bool := cond (p0.kind == 1) (cond (p0.key == 0) (cond (p0.n == 0) (Z29 (p0.text.toList == ByteArray.empty.toList)) (Z29 false)) (Z29 false)) (cond (p0.kind == 2) ((Z20 p0.key).bind fun r7 => cond r7 ((Z1w p0.n 1 4).bind fun r10 => cond r10 (Z2a (p0.text.toList == ByteArray.empty.toList)) (Z2a false)) (Z2a false)) (cond (p0.kind == 3) ((Z20 p0.key).bind fun r15 => cond r15 ((Z1w p0.n 0 100).bind fun r18 => cond r18 (Z2b (p0.text.toList == ByteArray.empty.toList)) (Z2b false)) (Z2b false)) (cond (p0.kind == 4) (cond (p0.key == 0) (cond (p0.n == 0) (Z2c (decide ((p0.text.size : Int) ≤ 30))) (Z2c false)) (Z2c false)) (cond (p0.kind == 5) (cond (p0.key == 0) ((Z1w p0.n 1 2).bind fun r28 => cond r28 (Z2d (p0.text.toList == ByteArray.empty.toList)) (Z2d false)) (Z2d false)) (cond (p0.kind == 6) (cond (p0.key == 0) ((Z1w p0.n 1 3).bind fun r34 => cond r34 (Z2e (p0.text.toList == ByteArray.empty.toList)) (Z2e false)) (Z2e false)) (cond (p0.kind == 7) (cond (p0.key == 0) (cond (p0.n == 0) (cond (decide ((p0.text.size : Int) ≥ 1)) (Z2f (decide ((p0.text.size : Int) ≤ 30))) (Z2f false)) (Z2f false)) (Z2f false)) (cond (p0.kind == 8) ((Z1y p0.key).bind fun r44 => cond r44 (cond (p0.n == 0) (Z2g (p0.text.toList == ByteArray.empty.toList)) (Z2g false)) (Z2g false)) (some false))))))))
instance Z2i (p0 : Y8v) : Sp Tryz.prog 273 [C.agg [cI p0.id, cI p0.room, cI p0.author, cI p0.kind, cI p0.key, cI p0.n, C.str p0.text, cM kI64 1 p0.prev, cI p0.time]] (Z2h p0) C.bool := sp Tryz.func273 rfl rfl fun r X h => by
 unfold Z2h at h
 refine zw ?_
 refine ox fun b1 => ?_
 refine zw ?_
 refine rD [0] [1,4,7] [] [0,5,8,12,17,20,24,29,32,36,40,44] ?_
 refine zw ?_
 refine cnd h (fun hb2 h => go) fun hb2 h => ?_
 refine AW.cf hb2 rfl ?_
 refine zw ?_
 refine cnd h (fun hb6 h => ?_) fun hb6 h => ?_
 ·
  refine AW.ct hb6 rfl ?_
  refine zw ?_
  refine oc h fun r7 g8 h => ?_
  refine zw ?_
  refine cnd h (fun hb9 h => ?_) fun hb9 h => ?_
  ·
   refine zw ?_
   refine ob' h fun r10 g11 h => ?_
   refine Ops.ghd (ns := []) rfl rfl rfl rfl hb9 rfl (Y24 ((Z1x _ _ _).h _ g11) rfl rfl) ?_
   exact go
  exact go
 refine AW.cf hb6 rfl ?_
 refine zw ?_
 refine cnd h (fun hb14 h => ?_) fun hb14 h => ?_
 ·
  refine AW.ct hb14 rfl ?_
  refine zw ?_
  refine oc h fun r15 g16 h => ?_
  refine zw ?_
  refine cnd h (fun hb17 h => ?_) fun hb17 h => ?_
  ·
   refine zw ?_
   refine ob' h fun r18 g19 h => ?_
   refine Ops.ghd (ns := []) rfl rfl rfl rfl hb17 rfl (Y24 ((Z1x _ _ _).h _ g19) rfl rfl) ?_
   exact go
  exact go
 refine AW.cf hb14 rfl ?_
 refine zw ?_
 refine cnd h (fun hb22 h => go) fun hb22 h => ?_
 refine AW.cf hb22 rfl ?_
 refine zw ?_
 refine cnd h (fun hb26 h => ?_) fun hb26 h => ?_
 ·
  refine AW.ct hb26 rfl ?_
  refine zw ?_
  refine cnd h (fun hb27 h => ?_) fun hb27 h => ?_
  ·
   refine zw ?_
   refine ob' h fun r28 g29 h => ?_
   refine Ops.ghd (ns := []) rfl rfl rfl rfl hb27 rfl (Y24 ((Z1x _ _ _).h _ g29) rfl rfl) ?_
   exact go
  exact go
 refine AW.cf hb26 rfl ?_
 refine zw ?_
 refine cnd h (fun hb32 h => ?_) fun hb32 h => ?_
 ·
  refine AW.ct hb32 rfl ?_
  refine zw ?_
  refine cnd h (fun hb33 h => ?_) fun hb33 h => ?_
  ·
   refine zw ?_
   refine ob' h fun r34 g35 h => ?_
   refine Ops.ghd (ns := []) rfl rfl rfl rfl hb33 rfl (Y24 ((Z1x _ _ _).h _ g35) rfl rfl) ?_
   exact go
  exact go
 exact go

def Z2j (x20 : Bool) : Option Bool := some x20
def Z2k (p0 : Y8v) : Option Bool := (Z1y p0.id).bind fun r2 => cond r2 ((Z1w p0.room 1 3).bind fun r5 => cond r5 ((Z20 p0.author).bind fun r8 => cond r8 ((Z22 p0.time).bind fun r11 => cond r11 ((Z27 p0.prev p0.id).bind fun r14 => cond r14 (cond ((p0.kind == 1) == ((p0.prev.length : Int) == 0)) ((Z2h p0).bind fun r18 => Z2j r18) (Z2j false)) (Z2j false)) (Z2j false)) (Z2j false)) (Z2j false)) (Z2j false)
instance Z2l (p0 : Y8v) : Sp Tryz.prog 226 [C.agg [cI p0.id, cI p0.room, cI p0.author, cI p0.kind, cI p0.key, cI p0.n, C.str p0.text, cM kI64 1 p0.prev, cI p0.time]] (Z2k p0) C.bool := sp Tryz.func226 rfl rfl fun r X h => by
 unfold Z2k at h
 refine zw ?_
 refine ox fun b1 => ?_
 refine zw ?_
 refine oc h fun r2 g3 h => ?_
 refine zw ?_
 refine cnd h (fun hb4 h => ?_) fun hb4 h => ?_
 ·
  refine zw ?_
  refine ob' h fun r5 g6 h => ?_
  refine Ops.ghd (ns := []) rfl rfl rfl rfl hb4 rfl (Y24 ((Z1x _ _ _).h _ g6) rfl rfl) ?_
  refine zw ?_
  refine cnd h (fun hb7 h => ?_) fun hb7 h => ?_
  ·
   refine zw ?_
   refine ob' h fun r8 g9 h => ?_
   refine Ops.ghd (ns := []) rfl rfl rfl rfl hb7 rfl (Y24 ((Z21 _).h _ g9) rfl rfl) ?_
   refine zw ?_
   refine cnd h (fun hb10 h => ?_) fun hb10 h => ?_
   ·
    refine zw ?_
    refine ob' h fun r11 g12 h => ?_
    refine Ops.ghd (ns := []) rfl rfl rfl rfl hb10 rfl (Y24 ((Z23 _).h _ g12) rfl rfl) ?_
    refine zw ?_
    refine cnd h (fun hb13 h => ?_) fun hb13 h => ?_
    ·
     refine zw ?_
     refine ob' h fun r14 g15 h => ?_
     refine Ops.ghd (ns := []) rfl rfl rfl rfl hb13 rfl (Y24 ((Z28 _ _).h _ g15) rfl rfl) ?_
     refine zw ?_
     refine cnd h (fun hb16 h => ?_) fun hb16 h => ?_
     ·
      refine zw ?_
      refine Ops.gv rfl rfl rfl rfl hb16 (Y10 un_4 rfl rfl rfl) ?_
      refine zw ?_
      refine cnd h (fun hb17 h => ?_) fun hb17 h => ?_
      ·
       refine zw ?_
       refine ob' h fun r18 g19 h => ?_
       refine Ops.ghd (ns := []) rfl rfl rfl rfl hb17 rfl (Y24 ((Z2i _).h _ g19) rfl rfl) ?_
       exact go
      exact go
     exact go
    exact go
   exact go
  exact go
 exact go

def Z2m : Option Bool := some true
def Z2n (x14 : Int) (x25 : Bool) : Option (Int ⊕ (Bool ⊕ Unit)) := cond x25 (some (.inr (.inl false))) (some (.inl (IntKind.i64.wrap (x14 + 1))))
def Z2o (p0 : List Y8v) (p1 : Int) (x14 : Int) : Option (Int ⊕ (Bool ⊕ Unit)) := cond (decide (x14 < (p0.length : Int))) ((getI p0 x14).bind fun e16 => (Z2k e16).bind fun r18 => cond r18 (cond (e16.room != p1) (Z2n x14 true) (cond (decide (x14 > 0)) ((getI p0 (IntKind.i64.wrap (x14 - 1))).bind fun e23 => Z2n x14 (decide (e23.id ≥ e16.id))) (Z2n x14 false))) (Z2n x14 true)) (some (.inr (.inr ())))
def Z2p (p0 : List Y8v) (p1 : Int) (p2 : Int) : Option Bool := cond (decide ((p0.length : Int) > p2)) (some false) ((iter (Z2o p0 p1) big 0).bind (fun z28 => match z28 with | .inl y27 => some y27 | .inr () => Z2m))
instance Z2q (p0 : List Y8v) (p1 : Int) (p2 : Int) : Sp Tryz.prog 176 [cM Y99 9 p0, cI p1, cI p2] (Z2p p0 p1 p2) C.bool := sp Tryz.func176 rfl rfl fun r X h => by
 unfold Z2p at h
 refine zw ?_
 refine cnd h (fun hb1 h => go) fun hb1 h => ?_
 refine AW.cf hb1 rfl ?_
 refine zw ?_
 refine AW.lp (v := ()) h (fun x14 (_ : Unit) => ⟨[(0, cM Y99 9 p0), (1, cI p1), (7, cI x14)], []⟩) (gb []) ?_
 rintro x14 _ y34 h
 refine zw ?_
 refine cnd h (fun hb15 h => ?_) fun hb15 h => ?_
 ·
  refine AW.ct hb15 rfl ?_
  refine zw ?_
  refine rD [] [3,11,24,29] [] [0,4,8,13,18,20,24,28,32,36,40,45,48,52,56,60,64,68,72,76,80,84,88,92,97,100,104,108,112,117,120,124,128] ?_
  exact go
 exact go

def Z2r : Option Int := some (-1)
def Z2s (p0 : List Y8v) (p1 : Int) (x5 : Int) : Option (Int ⊕ (Int ⊕ Unit)) := cond (decide (x5 < (p0.length : Int))) ((getI p0 x5).bind fun e7 => cond (e7.id == p1) (some (.inr (.inl x5))) (some (.inl (IntKind.i64.wrap (x5 + 1))))) (some (.inr (.inr ())))
def Z2t (p0 : List Y8v) (p1 : Int) : Option Int := (iter (Z2s p0 p1) big 0).bind (fun z11 => match z11 with | .inl y10 => some y10 | .inr () => Z2r)
instance Z2u (p0 : List Y8v) (p1 : Int) : Sp Tryz.prog 107 [cM Y99 9 p0, cI p1] (Z2t p0 p1) cI := sp Tryz.func107 rfl rfl fun r X h => by
 unfold Z2t at h
 refine zw ?_
 refine AW.lp (v := ()) h (fun x5 (_ : Unit) => ⟨[(0, cM Y99 9 p0), (1, cI p1), (5, cI x5)], []⟩) (gb []) ?_
 rintro x5 _ y17 h
 exact go

def Z2v : Option Bool := some true
def Z2w (p0 : List Y8v) (p1 : Y8v) (x8 : Int) : Option (Int ⊕ (Bool ⊕ Unit)) := cond (decide (x8 < (p1.prev.length : Int))) ((getI p1.prev x8).bind fun e10 => (Z2t p0 e10).bind fun r12 => cond (decide (r12 < 0)) (some (.inr (.inl false))) (some (.inl (IntKind.i64.wrap (x8 + 1))))) (some (.inr (.inr ())))
def Z2x (p0 : List Y8v) (p1 : Y8v) : Option Bool := (iter (Z2w p0 p1) big 0).bind (fun z16 => match z16 with | .inl y15 => some y15 | .inr () => Z2v)
instance Z2y (p0 : List Y8v) (p1 : Y8v) : Sp Tryz.prog 177 [cM Y99 9 p0, C.agg [cI p1.id, cI p1.room, cI p1.author, cI p1.kind, cI p1.key, cI p1.n, C.str p1.text, cM kI64 1 p1.prev, cI p1.time]] (Z2x p0 p1) C.bool := sp Tryz.func177 rfl rfl fun r X h => by
 unfold Z2x at h
 refine zw ?_
 refine ox fun b1 => ?_
 refine zw ?_
 refine AW.lp (v := ()) h (fun x8 (_ : Unit) => ⟨[(0, cM Y99 9 p0), (3, pt b1), (5, cI x8)], [oB b1 136 [cI p1.id, cI p1.room, cI p1.author, cI p1.kind, cI p1.key, cI p1.n, C.str p1.text, cM kI64 1 p1.prev, cI p1.time]]⟩) (gb [0]) ?_
 rintro x8 _ y22 h
 exact go

def Z2z (l161 : List Int) : Option (List Int) := some l161
def Z30 (x82 : Int) (l160 : List Int) : Option ((List Int × Int) ⊕ ((List Int))) := some (.inl (l160, (IntKind.i64.wrap (x82 + 1))))
def Z31 (x122 : Int) (l159 : List Int) : Option ((List Int × Int) ⊕ ((List Int))) := some (.inl (l159, (IntKind.i64.wrap (x122 + 1))))
def Z32 (l121 : List Int) (x122 : Int) (x156 : Int) (x157 : Bool) : Option ((List Int × Int) ⊕ ((List Int))) := cond x157 (Z31 x122 (List.set l121 (Int.toNat x122) (IntKind.i64.wrap (x156 + 1)))) (Z31 x122 l121)
def Z33 (x141 : Int) (x154 : Int) (x155 : Bool) : Option ((Int × Bool × Int) ⊕ ((Int × Bool))) := some (.inl (x154, x155, (IntKind.i64.wrap (x141 + 1))))
def Z34 (x139 : Int) (x141 : Int) (e149 : Int) (x152 : Bool) : Option ((Int × Bool × Int) ⊕ ((Int × Bool))) := cond (decide (e149 > x139)) (Z33 x141 e149 x152) (Z33 x141 x139 x152)
def Z35 (p0 : List Y8v) (l121 : List Int) (x122 : Int) (x139 : Int) (x140 : Bool) (x141 : Int) : Option ((Int × Bool × Int) ⊕ ((Int × Bool))) := (getI p0 x122).bind fun e142 => cond (decide (x141 < (e142.prev.length : Int))) ((getI e142.prev x141).bind fun e145 => (Z2t p0 e145).bind fun r147 => (getI l121 r147).bind fun e149 => cond x140 (Z34 x139 x141 e149 (decide (e149 > 0))) (Z34 x139 x141 e149 false)) (some (.inr (x139, x140)))
def Z36 (p0 : List Y8v) (l121 : List Int) (x122 : Int) : Option ((List Int × Int) ⊕ ((List Int))) := cond (decide (x122 < (p0.length : Int))) ((getI l121 x122).bind fun e124 => cond (decide (e124 > 0)) (Z31 x122 l121) ((iter (fun z163 => Z35 p0 l121 x122 z163.1 z163.2.1 z163.2.2) big (0, true, 0)).bind fun (y164, y165) => Z32 l121 x122 y164 y165)) (some (.inr l121))
def Z37 (p0 : List Y8v) (l81 : List Int) (x82 : Int) : Option ((List Int × Int) ⊕ ((List Int))) := cond (decide (x82 < (p0.length : Int))) ((iter (fun z166 => Z36 p0 z166.1 z166.2) big (l81, 0)).bind fun y167 => Z30 x82 y167) (some (.inr l81))
def Z38 (p0 : List Y8v) : Option (List Int) := (chk (decide (0 ≤ (p0.length : Int) ∧ (p0.length : Int) * 8 ≤ 140737488355328))).bind fun u2 => (iter (fun z168 => Z37 p0 z168.1 z168.2) big ((List.replicate (Int.toNat (p0.length : Int)) 0), 0)).bind fun y169 => Z2z y169
theorem Z39 (p0 : List Y8v) (r : List Int) (h : Z38 p0 = some r) : Ok Tryz.prog 178 [cM Y99 9 p0] [] (fun c qs => ∃ (v162 : Value), c = cV v162 ∧ qs = [oA v162 2 kI64 1 r]) := by
 refine Ok.of_body (rs := [.tmp 2]) Tryz.func178 rfl rfl rfl rfl rfl fun X => ?_
 unfold Z38 at h
 refine zw ?_
 refine ob' h fun u2 c1 h => ?_
 refine Ops.h (ns := []) rfl rfl (Y3b (k := kI64) (z := 0) Yak ze_2 (Y42 rfl rfl) rfl rfl (Y3x c1).1 (Y3x c1).2 (Y3y (by decide) c1) rfl) ?_
 rintro _ _ ⟨b3, rfl, rfl⟩
 refine Ops.v rfl (Yr rfl rfl) ?_
 refine Ops.nil ?_
 refine AW.seq ?_
 refine AW.cut (τ := List Int) (fun l161 => ⟨[(3, cV (sn b3 (p0.length : Int)))], [oA (sn b3 (p0.length : Int)) 2 kI64 1 l161]⟩) (fun l161 => Z2z l161 = some r) ?_ ?_
 ·
  refine zw ?_
  refine AW.lp (v := ()) h (fun (l81, x82) (_ : Unit) => ⟨[(0, cM Y99 9 p0), (3, cV (sn b3 (p0.length : Int))), (4, cI x82)], [oA (sn b3 (p0.length : Int)) 2 kI64 1 l81]⟩) (gb [0]) ?_
  rintro ⟨l81, x82⟩ _ y175 h
  refine zw ?_
  refine cnd h (fun hb83 h => ?_) fun hb83 h => ?_
  ·
   refine AW.ct hb83 rfl ?_
   refine zw ?_
   refine AW.lp (v := ()) h (fun (l121, x122) (_ : Unit) => ⟨[(0, cM Y99 9 p0), (3, cV (sn b3 (p0.length : Int))), (4, cI x82), (5, cI x122)], [oA (sn b3 (p0.length : Int)) 2 kI64 1 l121]⟩) (gb [0]) ?_
   rintro ⟨l121, x122⟩ _ y182 h
   refine zw ?_
   refine cnd h (fun hb123 h => ?_) fun hb123 h => ?_
   ·
    refine AW.ct hb123 rfl ?_
    refine zw ?_
    refine oi h fun e124 g125 h => ?_
    refine Ops.v rfl (Y30 (p := 0) ld_2.h rfl rfl (Y29 g125).2.2 rfl rfl) ?_
    refine zw ?_
    refine cnd h (fun hb126 h => go) fun hb126 h => ?_
    refine AW.cf hb126 rfl ?_
    refine AW.skip ?_
    refine AW.seq ?_
    refine AW.region ?_
    refine Ops.v rfl (Yr rfl rfl) ?_
    refine Ops.nil ?_
    refine AW.seq ?_
    refine AW.region ?_
    refine Ops.v rfl (Yr rfl rfl) ?_
    refine Ops.nil ?_
    refine AW.seq ?_
    refine AW.cut (τ := Int × Bool) (fun (x156, x157) => ⟨[(0, cM Y99 9 p0), (3, cV (sn b3 (p0.length : Int))), (4, cI x82), (5, cI x122), (6, cI x156), (7, C.bool x157)], [oA (sn b3 (p0.length : Int)) 2 kI64 1 l121]⟩) (fun (x156, x157) => Z32 l121 x122 x156 x157 = some y182) ?_ ?_
    ·
     refine zw ?_
     refine AW.lp (v := ()) h (fun (x139, x140, x141) (_ : Unit) => ⟨[(0, cM Y99 9 p0), (3, cV (sn b3 (p0.length : Int))), (4, cI x82), (5, cI x122), (6, cI x139), (7, C.bool x140), (8, cI x141)], [oA (sn b3 (p0.length : Int)) 2 kI64 1 l121]⟩) (gb [0]) ?_
     rintro ⟨x139, x140, x141⟩ _ y189 h
     refine zw ?_
     refine oi h fun e142 g143 h => ?_
     refine zw ?_
     refine cnd h (fun hb144 h => ?_) fun hb144 h => ?_
     ·
      refine AW.ct hb144 rfl ?_
      refine zw ?_
      refine oi h fun e145 g146 h => ?_
      refine zw ?_
      refine oc h fun r147 g148 h => ?_
      refine oi h fun e149 g150 h => ?_
      refine Ops.v rfl (Y30 (p := 0) ld_2.h rfl rfl (Y29 g150).2.2 rfl rfl) ?_
      exact go
     exact go
    rintro ⟨x156, x157⟩ h
    replace h : Z32 l121 x122 x156 x157 = some y182 := h
    unfold Z32 at h
    refine zw ?_
    refine cnd h (fun hb158 h => ?_) fun hb158 h => ?_
    ·
     refine AW.ct hb158 rfl ?_
     refine zw ?_
     refine Ops.hd (ns := [0]) rfl rfl (Y33 (e' := (IntKind.i64.wrap (x156 + 1))) ld_2.h rfl rfl (One.val rfl) (Y29 g125).2.2 rfl rfl) ?_
     exact go
    exact go
   exact go
  exact go
 intro l161 h
 replace h : Z2z l161 = some r := h
 unfold Z2z at h
 refine zw ?_
 refine AW.ret ?_
 rw [← Wj h]
 exact ⟨[cV (sn b3 (p0.length : Int))], _, Y21.refl _, (.cons (.tmp rfl) .nil), [0], _, _, rfl, ⟨(sn b3 (p0.length : Int)), rfl, rfl⟩⟩
instance Z39' (p0 : List Y8v) : Sp Tryz.prog 178 [cM Y99 9 p0] (Z38 p0) (fun r => cM kI64 1 r) := ⟨fun r h => Ok.freeze (Z39 p0 r h) (by rintro c qs ⟨v162, rfl, rfl⟩; exact Frz.arr)⟩

def Z3a : Option Bool := some true
def Z3b (r46 : List Int) (x52 : Int) : Option (Int ⊕ (Bool ⊕ Unit)) := cond (decide (x52 < (r46.length : Int))) ((getI r46 x52).bind fun e54 => cond (e54 == 0) (some (.inr (.inl false))) (some (.inl (IntKind.i64.wrap (x52 + 1))))) (some (.inr (.inr ())))
def Z3c (p0 : Y90) : Option Bool := (Z38 p0.events).bind fun r46 => (iter (Z3b r46) big 0).bind (fun z58 => match z58 with | .inl y57 => some y57 | .inr () => Z3a)
def Z3d (p0 : Y90) (x39 : Int) : Option (Int ⊕ (Bool ⊕ Unit)) := cond (decide (x39 < (p0.parked.length : Int))) ((getI p0.parked x39).bind fun e41 => (Z2x p0.events e41).bind fun r43 => cond r43 (some (.inr (.inl false))) (some (.inl (IntKind.i64.wrap (x39 + 1))))) (some (.inr (.inr ())))
def Z3e (p0 : Y90) : Option Bool := (iter (Z3d p0) big 0).bind (fun z60 => match z60 with | .inl y59 => some y59 | .inr () => Z3c p0)
def Z3f (x22 : Int) (x31 : Bool) : Option (Int ⊕ (Bool ⊕ Unit)) := cond x31 (some (.inr (.inl false))) (some (.inl (IntKind.i64.wrap (x22 + 1))))
def Z3g (p0 : Y90) (x22 : Int) : Option (Int ⊕ (Bool ⊕ Unit)) := cond (decide (x22 < (p0.events.length : Int))) ((getI p0.events x22).bind fun e24 => (Z2x p0.events e24).bind fun r26 => cond r26 ((Z2t p0.parked e24.id).bind fun r29 => Z3f x22 (decide (r29 ≥ 0))) (Z3f x22 true)) (some (.inr (.inr ())))
def Z3h (p0 : Y90) (x10 : Bool) : Option Bool := cond x10 (some false) ((iter (Z3g p0) big 0).bind (fun z62 => match z62 with | .inl y61 => some y61 | .inr () => Z3e p0))
def Z3i (p0 : Y90) : Option Bool := (Z1w p0.room 1 3).bind fun r2 => cond r2 ((Z2p p0.events p0.room 60).bind fun r5 => cond r5 ((Z2p p0.parked p0.room 20).bind fun r8 => Z3h p0 (!r8)) (Z3h p0 true)) (Z3h p0 true)
instance Z3j (p0 : Y90) : Sp Tryz.prog 129 [C.agg [cI p0.room, cM Y99 9 p0.events, cM Y99 9 p0.parked]] (Z3i p0) C.bool := sp Tryz.func129 rfl rfl fun r X h => by
 unfold Z3i at h
 refine zw ?_
 refine ox fun b1 => ?_
 refine Ops.v rfl (Yr rfl rfl) ?_
 refine Ops.nil ?_
 refine AW.seq ?_
 refine AW.seq ?_
 refine AW.cut (τ := Bool) (fun x10 => ⟨[(1, pt b1), (26, C.bool x10)], [oB b1 139 [cI p0.room, cM Y99 9 p0.events, cM Y99 9 p0.parked]]⟩) (fun x10 => Z3h p0 x10 = some r) ?_ ?_
 ·
  refine zw ?_
  refine oc h fun r2 g3 h => ?_
  refine zw ?_
  refine cnd h (fun hb4 h => ?_) fun hb4 h => ?_
  ·
   refine zw ?_
   refine ob' h fun r5 g6 h => ?_
   refine Ops.ghd (ns := []) rfl rfl rfl rfl (Y3u hb4) rfl (Y24 ((Z2q _ _ _).h _ g6) rfl rfl) ?_
   refine zw ?_
   refine cnd h (fun hb7 h => ?_) fun hb7 h => ?_
   ·
    refine zw ?_
    refine ob' h fun r8 g9 h => ?_
    refine Ops.ghd (ns := []) rfl rfl rfl rfl (Y3u hb7) rfl (Y24 ((Z2q _ _ _).h _ g9) rfl rfl) ?_
    exact go
   exact go
  exact go
 intro x10 h
 replace h : Z3h p0 x10 = some r := h
 unfold Z3h at h
 refine cnd h (fun hb11 h => go) fun hb11 h => ?_
 refine AW.cf hb11 rfl ?_
 refine AW.skip ?_
 refine AW.seq ?_
 refine AW.cut (τ := Unit) (fun (_ : Unit) => ⟨[(1, pt b1)], [oB b1 139 [cI p0.room, cM Y99 9 p0.events, cM Y99 9 p0.parked]]⟩) (fun (_ : Unit) => Z3e p0 = some r) ?_ ?_
 ·
  refine zw ?_
  refine AW.lp (v := ()) h (fun x22 (_ : Unit) => ⟨[(1, pt b1), (3, cI x22)], [oB b1 139 [cI p0.room, cM Y99 9 p0.events, cM Y99 9 p0.parked]]⟩) (gb [0]) ?_
  rintro x22 _ y82 h
  refine zw ?_
  refine cnd h (fun hb23 h => ?_) fun hb23 h => ?_
  ·
   refine AW.ct hb23 rfl ?_
   refine zw ?_
   refine rD [0] [1,3,6,11,13,17] [] [0,5,8,13,16,20,25,30,32,36,40,45,48,53,56,60,64,69,74,76,80] ?_
   refine zw ?_
   refine di h fun e24 g25 h => ?_
   refine zw ?_
   refine dc h fun r26 g27 h => ?_
   refine zw ?_
   refine cnd h (fun hb28 h => ?_) fun hb28 h => ?_
   ·
    refine zw ?_
    refine ob' h fun r29 g30 h => ?_
    refine Y3n.gh (ns := []) rfl rfl rfl rfl rfl (Y3u hb28) rfl (Y24 ((Z2u _ _).h _ g30) rfl rfl) ?_
    rintro _ _ ⟨rfl, rfl⟩
    exact go
   refine OpsD.gs rfl rfl rfl rfl (.b rfl (Y3v hb28)) rfl rfl ?_
   refine OpsD.gs rfl rfl rfl rfl (.b rfl (Y3v hb28)) rfl rfl ?_
   refine OpsD.gs rfl rfl rfl rfl (.b rfl (Y3v hb28)) rfl rfl ?_
   refine OpsD.gs rfl rfl rfl rfl (.b rfl (Y3v hb28)) rfl rfl ?_
   refine OpsD.gs rfl rfl rfl rfl (.b rfl (Y3v hb28)) rfl rfl ?_
   refine OpsD.gs rfl rfl rfl rfl (.b rfl (Y3v hb28)) rfl rfl ?_
   refine OpsD.gs rfl rfl rfl rfl (.b rfl (Y3v hb28)) rfl rfl ?_
   refine OpsD.gs rfl rfl rfl rfl (.b rfl (Y3v hb28)) rfl rfl ?_
   refine OpsD.one ?_
   refine Y3n.gs rfl rfl rfl rfl (.b rfl (Y3v hb28)) rfl rfl ?_
   exact go
  exact go
 rintro ⟨⟩ h
 replace h : Z3e p0 = some r := h
 unfold Z3e at h
 refine AW.seq ?_
 refine AW.cut (τ := Unit) (fun (_ : Unit) => ⟨[(1, pt b1)], [oB b1 139 [cI p0.room, cM Y99 9 p0.events, cM Y99 9 p0.parked]]⟩) (fun (_ : Unit) => Z3c p0 = some r) ?_ ?_
 ·
  refine zw ?_
  refine AW.lp (v := ()) h (fun x39 (_ : Unit) => ⟨[(1, pt b1), (4, cI x39)], [oB b1 139 [cI p0.room, cM Y99 9 p0.events, cM Y99 9 p0.parked]]⟩) (gb [0]) ?_
  rintro x39 _ y75 h
  refine zw ?_
  refine cnd h (fun hb40 h => ?_) fun hb40 h => ?_
  ·
   refine AW.ct hb40 rfl ?_
   refine zw ?_
   refine rD [0] [1,3,6] [] [0,5,8,13,16,20,25,30] ?_
   exact go
  exact go
 rintro ⟨⟩ h
 replace h : Z3c p0 = some r := h
 unfold Z3c at h
 refine zw ?_
 refine oc h fun r46 g47 h => ?_
 refine zw ?_
 refine AW.lp (v := ()) h (fun x52 (_ : Unit) => ⟨[(5, cM kI64 1 r46), (6, cI x52)], []⟩) (gb []) ?_
 rintro x52 _ y68 h
 exact go

end Go.Proofs.YtbgichfjcnibpaaGreat
