/- Printed by gen.py: plain functions for Go functions, and that the walks keep to them. -/
import Derived.Test.YtbgichfjcnibpaaGreatTSorts
import Derived.Test.YtbgichfjcnibpaaGreatTX
import Derived.Test.YtbgichfjcnibpaaGreatTL
import Derived.Test.YtbgichfjcnibpaaGreatChecked
set_option autoImplicit false
set_option linter.unusedVariables false
set_option linter.unusedSimpArgs false
set_option maxHeartbeats 1000000
set_option maxRecDepth 100000
namespace Go.Proofs.YtbgichfjcnibpaaGreat
open Go Go.Abs
attribute [local irreducible] AW Ops OpsD Y3n
structure Y8z where
  id : Int
  room : Int
  author : Int
  kind : Int
  key : Int
  n : Int
  text : ByteArray
  prev : List Int
  time : Int
structure Y90 where
  room : Int
  events : List Y8z
  parked : List Y8z
structure Y91 where
  room : Int
  id : Int
structure THub where
  rooms : List Y90
  stream : List Y91
structure Y92 where
  room : Int
  events : List Y8z
  parked : List Y8z
structure Y93 where
  rooms : List Y92
  stream : List Y91
structure Y94 where
  kind : Int
  key : Int
  id : Int
structure Y95 where
  depths : List Int
  ahead : List (List Y94)
  behind : List (List Y94)
  code : List Int
structure Y96 where
  h : Y93
  rooms : List Y95
  pos : List (List Int)
  now : List (List Y94)
structure Y97 where
  event : Y8z
  hidden : Bool
structure Y98 where
  events : List Y97
  at_ : Int
  end_ : Bool
  code : Int
structure Y99 where
  graph : Y92
  depth : List (Int × Int)
  before : List (Int × List Y94)
  after : List (Int × List Y94)
  refused : List (Int × Int)
structure Y9a where
  hub : Y93
  rooms : List Y99
def kI64 (x : Int) : List C := [cI x]
def Y9b (x : Y8z) : List C := [cI x.id, cI x.room, cI x.author, cI x.kind, cI x.key, cI x.n, C.str x.text, cM kI64 1 x.prev, cI x.time]
def Y9c (x : Y90) : List C := [cI x.room, cM Y9b 9 x.events, cM Y9b 9 x.parked]
def Y9d (x : Y91) : List C := [cI x.room, cI x.id]
def Y9e (x : Y8z) (u : Value) : List C := [cI x.id, cI x.room, cI x.author, cI x.kind, cI x.key, cI x.n, C.str x.text, cV u, cI x.time]
def Y9f (x : Y8z) (u : Value) : List Abs.Obj := [oA u 2 kI64 1 x.prev]
def Y9g (x : Y92) : List C := [cI x.room, cM Y9b 9 x.events, cM Y9b 9 x.parked]
def Y9h (x : Y92) (u : Value × Value) : List C := [cI x.room, cV u.1, cV u.2]
def Y9i (x : Y92) (u : Value × Value) : List Abs.Obj := [Obj.deep u.1 136 Y9e Y9f 9 x.events, Obj.deep u.2 136 Y9e Y9f 9 x.parked]
def Y9j (x : Y94) : List C := [cI x.kind, cI x.key, cI x.id]
def Y9k (x : List Y94) : List C := [cM Y9j 3 x]
def Y9l (x : Bool) : List C := [C.bool x]
def Y9m (x : Y95) : List C := [C.ip [cM kI64 1 x.depths, cM Y9k 1 x.ahead, cM Y9k 1 x.behind, cM kI64 1 x.code]]
def Y9n (x : List Int) : List C := [cM kI64 1 x]
def Y9o (x : Y97) : List C := [cI x.event.id, cI x.event.room, cI x.event.author, cI x.event.kind, cI x.event.key, cI x.event.n, C.str x.event.text, cM kI64 1 x.event.prev, cI x.event.time, C.bool x.hidden]
abbrev Y9p (x : Int) : C := cI x
abbrev Y9q (x : List Y94) : C := cM Y9j 3 x
abbrev Y9r (x : Bool) : C := C.bool x
def Y9s (x : Y99) : List C := [C.ip [cI x.graph.room, cM Y9b 9 x.graph.events, cM Y9b 9 x.graph.parked, C.imap .i64 Y9p x.depth, C.imap .i64 Y9q x.before, C.imap .i64 Y9q x.after, C.imap .i64 Y9p x.refused]]
def Y9t (x : Y97) (u : Value) : List C := [cI x.event.id, cI x.event.room, cI x.event.author, cI x.event.kind, cI x.event.key, cI x.event.n, C.str x.event.text, cV u, cI x.event.time, C.bool x.hidden]
def Y9u (x : Y97) (u : Value) : List Abs.Obj := [oA u 2 kI64 1 x.event.prev]
def kU8 (x : Int) : List C := [cV (.int .u8 x)]
instance Y9v : SlI Tryz.prog 57 2 1 8 := ⟨by kernel_rfl⟩
instance Y9w : FldI Tryz.prog 273 6 6 := ⟨by kernel_rfl⟩
instance ld_9 : LdI Tryz.prog 9 false 1 := ⟨by kernel_rfl⟩
theorem un_9 : Tryz.prog.underlying 9 = some .string := by kernel_rfl
instance : UnI Tryz.prog 9 .string := ⟨un_9⟩
instance Y9x : FldI Tryz.prog 273 7 7 := ⟨by kernel_rfl⟩
instance Y9y : LdI Tryz.prog 57 false 1 := ⟨by kernel_rfl⟩
instance Y9z : SlI Tryz.prog 174 273 9 96 := ⟨by kernel_rfl⟩
instance Ya0 : LdI Tryz.prog 273 true 9 := ⟨by kernel_rfl⟩
instance Ya1 : FldI Tryz.prog 176 1 1 := ⟨by kernel_rfl⟩
instance Ya2 : LdI Tryz.prog 174 false 1 := ⟨by kernel_rfl⟩
instance Ya3 : FldI Tryz.prog 176 2 2 := ⟨by kernel_rfl⟩
instance Ya4 : SlI Tryz.prog 22 176 3 56 := ⟨by kernel_rfl⟩
instance Ya5 : LdI Tryz.prog 176 true 3 := ⟨by kernel_rfl⟩
instance Ya6 : SlI Tryz.prog 23 185 2 16 := ⟨by kernel_rfl⟩
instance Ya7 : FldI Tryz.prog 25 0 0 := ⟨by kernel_rfl⟩
instance Ya8 : LdI Tryz.prog 22 false 1 := ⟨by kernel_rfl⟩
instance Ya9 : FldI Tryz.prog 25 1 1 := ⟨by kernel_rfl⟩
instance Yaa : LdI Tryz.prog 23 false 1 := ⟨by kernel_rfl⟩
theorem Yab : Y2o Tryz.prog 57 = some (2, 1, 8) := by kernel_rfl
theorem ze_2 : Y18 Tryz.prog 2 = some [.int .i64 0] := by kernel_rfl
instance ld_2 : LdI Tryz.prog 2 false 1 := ⟨by kernel_rfl⟩
theorem Yac : Y18 Tryz.prog 136 = some [.int .i64 0, .int .i64 0, .int .i64 0, .int .i64 0, .int .i64 0, .int .i64 0, .string ByteArray.empty, .slice none 0 0, .int .i64 0] := by kernel_rfl
instance Yad : FldI Tryz.prog 273 0 0 := ⟨by kernel_rfl⟩
instance Yae : FldI Tryz.prog 136 0 0 := ⟨by kernel_rfl⟩
instance Yaf : FldI Tryz.prog 273 1 1 := ⟨by kernel_rfl⟩
instance Yag : FldI Tryz.prog 136 1 1 := ⟨by kernel_rfl⟩
instance Yah : FldI Tryz.prog 273 2 2 := ⟨by kernel_rfl⟩
instance Yai : FldI Tryz.prog 136 2 2 := ⟨by kernel_rfl⟩
instance Yaj : FldI Tryz.prog 273 3 3 := ⟨by kernel_rfl⟩
instance Yak : FldI Tryz.prog 136 3 3 := ⟨by kernel_rfl⟩
instance Yal : FldI Tryz.prog 273 4 4 := ⟨by kernel_rfl⟩
instance Yam : FldI Tryz.prog 136 4 4 := ⟨by kernel_rfl⟩
instance Yan : FldI Tryz.prog 273 5 5 := ⟨by kernel_rfl⟩
instance Yao : FldI Tryz.prog 136 5 5 := ⟨by kernel_rfl⟩
instance Yap : FldI Tryz.prog 136 6 6 := ⟨by kernel_rfl⟩
instance Yaq : FldI Tryz.prog 136 7 7 := ⟨by kernel_rfl⟩
instance Yar : FldI Tryz.prog 273 8 8 := ⟨by kernel_rfl⟩
instance Yas : FldI Tryz.prog 136 8 8 := ⟨by kernel_rfl⟩
instance Yat : LdI Tryz.prog 136 true 9 := ⟨by kernel_rfl⟩
theorem Yau : Y2o Tryz.prog 137 = some (136, 9, 96) := by kernel_rfl
theorem Yav : ∀ x, Y45 (kI64 x) := fun x => (Y45.cons (Y44.val _) (Y45.nil) : Y45 [cI x])
theorem Yaw : ∀ x u, FrzL (Y9e x u) (Y9f x u) (Y9b x) := fun _ _ => (fS (fS (fS (fS (fS (fS (fS (FrzL.cons (os := [_]) Frz.arr (fS FrzL.nil)))))))))
instance Yax : SlI Tryz.prog 137 136 9 96 := ⟨by kernel_rfl⟩
theorem Yay : Y18 Tryz.prog 139 = some [.int .i64 0, .slice none 0 0, .slice none 0 0] := by kernel_rfl
instance Yaz : FldI Tryz.prog 176 0 0 := ⟨by kernel_rfl⟩
instance Yb0 : FldI Tryz.prog 139 0 0 := ⟨by kernel_rfl⟩
instance Yb1 : FldI Tryz.prog 139 1 1 := ⟨by kernel_rfl⟩
instance Yb2 : LdI Tryz.prog 137 false 1 := ⟨by kernel_rfl⟩
instance Yb3 : FldI Tryz.prog 139 2 2 := ⟨by kernel_rfl⟩
instance Yb4 : LdI Tryz.prog 139 true 3 := ⟨by kernel_rfl⟩
theorem Yb5 : Y2o Tryz.prog 29 = some (139, 3, 56) := by kernel_rfl
theorem Yb6 : ∀ x u, FrzL (Y9h x u) (Y9i x u) (Y9g x) := fun _ _ => (fS (FrzL.cons (os := [_]) (Frz.deep Yaw) (FrzL.cons (os := [_]) (Frz.deep Yaw) FrzL.nil)))
instance Yb7 : SlI Tryz.prog 29 139 3 56 := ⟨by kernel_rfl⟩
theorem Yb8 : Y18 Tryz.prog 142 = some [.int .i64 0, .int .i64 0] := by kernel_rfl
instance Yb9 : FldI Tryz.prog 185 0 0 := ⟨by kernel_rfl⟩
instance Yba : FldI Tryz.prog 142 0 0 := ⟨by kernel_rfl⟩
instance Ybb : FldI Tryz.prog 185 1 1 := ⟨by kernel_rfl⟩
instance Ybc : FldI Tryz.prog 142 1 1 := ⟨by kernel_rfl⟩
instance Ybd : LdI Tryz.prog 142 true 2 := ⟨by kernel_rfl⟩
theorem Ybe : Y2o Tryz.prog 30 = some (142, 2, 16) := by kernel_rfl
instance Ybf : LdI Tryz.prog 185 true 2 := ⟨by kernel_rfl⟩
instance Ybg : SlI Tryz.prog 30 142 2 16 := ⟨by kernel_rfl⟩
theorem Ybh : Y18 Tryz.prog 32 = some [.slice none 0 0, .slice none 0 0] := by kernel_rfl
instance Ybi : FldI Tryz.prog 32 0 0 := ⟨by kernel_rfl⟩
instance Ybj : LdI Tryz.prog 29 false 1 := ⟨by kernel_rfl⟩
instance Ybk : FldI Tryz.prog 32 1 1 := ⟨by kernel_rfl⟩
instance Ybl : LdI Tryz.prog 30 false 1 := ⟨by kernel_rfl⟩
instance Ybm : LdI Tryz.prog 32 true 2 := ⟨by kernel_rfl⟩
theorem un_4 : Tryz.prog.underlying 4 = some .bool := by kernel_rfl
instance : UnI Tryz.prog 4 .bool := ⟨un_4⟩
instance Ybn : SlI Tryz.prog 27 106 3 24 := ⟨by kernel_rfl⟩
instance Ybo : FldI Tryz.prog 106 0 0 := ⟨by kernel_rfl⟩
instance Ybp : FldI Tryz.prog 106 1 1 := ⟨by kernel_rfl⟩
instance Ybq : FldI Tryz.prog 106 2 2 := ⟨by kernel_rfl⟩
instance Ybr : SlI Tryz.prog 154 27 1 24 := ⟨by kernel_rfl⟩
instance Ybs : LdI Tryz.prog 27 false 1 := ⟨by kernel_rfl⟩
theorem Ybt : Y2o Tryz.prog 27 = some (106, 3, 24) := by kernel_rfl
instance Ybu : LdI Tryz.prog 106 true 3 := ⟨by kernel_rfl⟩
theorem Ybv : places Tryz.prog 136 = some [(0, 1), (1, 1), (2, 1), (3, 1), (4, 1), (5, 1), (6, 1), (7, 1), (8, 1)] := by kernel_rfl
theorem Ybw : Y6t Tryz.prog 136 5 = some (5, 1, false) := by kernel_rfl
theorem Ybx : Y6t Tryz.prog 136 2 = some (2, 1, false) := by kernel_rfl
theorem Yby : ∀ x, Y45 (Y9j x) := fun x => (Y45.cons (Y44.val _) (Y45.cons (Y44.val _) (Y45.cons (Y44.val _) (Y45.nil))) : Y45 [cI x.kind, cI x.key, cI x.id])
theorem Ybz : places Tryz.prog 106 = some [(0, 1), (1, 1), (2, 1)] := by kernel_rfl
theorem Yc0 : Y18 Tryz.prog 106 = some [.int .i64 0, .int .i64 0, .int .i64 0] := by kernel_rfl
theorem Yc1 : Y2o Tryz.prog 180 = some (4, 1, 1) := by kernel_rfl
theorem ze_4 : Y18 Tryz.prog 4 = some [.bool false] := by kernel_rfl
theorem Yc2 : Y6t Tryz.prog 136 7 = some (7, 1, false) := by kernel_rfl
instance Yc3 : SlI Tryz.prog 180 4 1 1 := ⟨by kernel_rfl⟩
instance ld_4 : LdI Tryz.prog 4 false 1 := ⟨by kernel_rfl⟩
theorem Yc4 : Y2o Tryz.prog 154 = some (27, 1, 24) := by kernel_rfl
theorem Yc5 : Y18 Tryz.prog 27 = some [.slice none 0 0] := by kernel_rfl
theorem Yc6 : places Tryz.prog 215 = some [(0, 1), (1, 1), (2, 1), (3, 1)] := by kernel_rfl
theorem Yc7 : Y18 Tryz.prog 215 = some [.slice none 0 0, .slice none 0 0, .slice none 0 0, .slice none 0 0] := by kernel_rfl
instance Yc8 : FldI Tryz.prog 215 2 2 := ⟨by kernel_rfl⟩
instance Yc9 : LdI Tryz.prog 154 false 1 := ⟨by kernel_rfl⟩
instance Yca : FldI Tryz.prog 215 1 1 := ⟨by kernel_rfl⟩
instance Ycb : FldI Tryz.prog 215 0 0 := ⟨by kernel_rfl⟩
instance Ycc : FldI Tryz.prog 215 3 3 := ⟨by kernel_rfl⟩
theorem Ycd : places Tryz.prog 156 = some [(0, 2), (2, 1), (3, 1), (4, 1)] := by kernel_rfl
theorem Yce : Y18 Tryz.prog 156 = some [.slice none 0 0, .slice none 0 0, .slice none 0 0, .slice none 0 0, .slice none 0 0] := by kernel_rfl
instance Ycf : FldI Tryz.prog 156 1 2 := ⟨by kernel_rfl⟩
instance Ycg : LdI Tryz.prog 152 false 1 := ⟨by kernel_rfl⟩
theorem Ych : Y2o Tryz.prog 152 = some (182, 1, 8) := by kernel_rfl
instance Yci : FldI Tryz.prog 156 3 4 := ⟨by kernel_rfl⟩
instance Ycj : FldI Tryz.prog 156 2 3 := ⟨by kernel_rfl⟩
instance Yck : LdI Tryz.prog 153 false 1 := ⟨by kernel_rfl⟩
theorem Ycl : Y2o Tryz.prog 153 = some (57, 1, 24) := by kernel_rfl
instance Ycm : FldI Tryz.prog 156 0 0 := ⟨by kernel_rfl⟩
instance Ycn : SlI Tryz.prog 152 182 1 8 := ⟨by kernel_rfl⟩
instance Yco : LdI Tryz.prog 182 false 1 := ⟨by kernel_rfl⟩
instance Ycp : SlI Tryz.prog 153 57 1 24 := ⟨by kernel_rfl⟩
theorem Ycq : Y5e Tryz.prog 142 = some [0, 0] := by kernel_rfl
theorem Ycr : Y18 Tryz.prog 86 = some [.slice none 0 0, .int .i64 0, .bool false, .int .i64 0] := by kernel_rfl
theorem Ycs : places Tryz.prog 86 = some [(0, 1), (1, 1), (2, 1), (3, 1)] := by kernel_rfl
instance Yct : LdI Tryz.prog 86 true 4 := ⟨by kernel_rfl⟩
theorem Ycu : Y2o Tryz.prog 133 = some (3, 1, 8) := by kernel_rfl
theorem Ycv : Y18 Tryz.prog 160 = some [.int .i64 0, .int .i64 0, .int .i64 0, .int .i64 0, .int .i64 0, .int .i64 0, .string ByteArray.empty, .slice none 0 0, .int .i64 0, .bool false] := by kernel_rfl
theorem Ycw : places Tryz.prog 160 = some [(0, 9), (9, 1)] := by kernel_rfl
instance Ycx : LdI Tryz.prog 160 true 10 := ⟨by kernel_rfl⟩
instance Ycy : SlI Tryz.prog 133 3 1 8 := ⟨by kernel_rfl⟩
instance ld_3 : LdI Tryz.prog 3 false 1 := ⟨by kernel_rfl⟩
instance Ycz : FldI Tryz.prog 86 0 0 := ⟨by kernel_rfl⟩
instance Yd0 : LdI Tryz.prog 80 false 1 := ⟨by kernel_rfl⟩
instance Yd1 : SlI Tryz.prog 80 160 10 104 := ⟨by kernel_rfl⟩
instance Yd2 : FldI Tryz.prog 86 2 2 := ⟨by kernel_rfl⟩
theorem Yd3 : Y2o Tryz.prog 80 = some (160, 10, 104) := by kernel_rfl
instance Yd4 : FldI Tryz.prog 86 1 1 := ⟨by kernel_rfl⟩
theorem un_3 : Tryz.prog.underlying 3 = some (.int .i64) := by kernel_rfl
instance : UnI Tryz.prog 3 (.int .i64) := ⟨un_3⟩
theorem Yd5 : Tryz.prog.underlying 290 = some (.int .u64) := by kernel_rfl
instance : UnI Tryz.prog 290 (.int .u64) := ⟨Yd5⟩
theorem Yd6 : Y18 Tryz.prog 57 = some [.slice none 0 0] := by kernel_rfl
instance Yd7 : FldI Tryz.prog 196 3 5 := ⟨by kernel_rfl⟩
instance Yd8 : LdI Tryz.prog 194 false 1 := ⟨by kernel_rfl⟩
theorem Yd9 : Y6c Tryz.prog 194 = some (.i64, 27) := by kernel_rfl
theorem Yda : Y6e Tryz.prog 27 = some s0 := by kernel_rfl
theorem Ydb : Y5e Tryz.prog 106 = some [0, 0, 0] := by kernel_rfl
theorem Ydc : Y6c Tryz.prog 250 = some (.i64, 4) := by kernel_rfl
theorem zv_4 : Y6e Tryz.prog 4 = some (.bool false) := by kernel_rfl
instance Ydd : LdI Tryz.prog 186 false 1 := ⟨by kernel_rfl⟩
instance Yde : FldI Tryz.prog 196 0 0 := ⟨by kernel_rfl⟩
instance Ydf : FldI Tryz.prog 196 1 3 := ⟨by kernel_rfl⟩
instance Ydg : LdI Tryz.prog 193 false 1 := ⟨by kernel_rfl⟩
theorem Ydh : Y6c Tryz.prog 193 = some (.i64, 2) := by kernel_rfl
theorem zv_2 : Y6e Tryz.prog 2 = some (.int .i64 0) := by kernel_rfl
instance Ydi : FldI Tryz.prog 196 2 4 := ⟨by kernel_rfl⟩
instance Ydj : FldI Tryz.prog 196 4 6 := ⟨by kernel_rfl⟩
theorem Ydk : places Tryz.prog 196 = some [(0, 3), (3, 1), (4, 1), (5, 1), (6, 1)] := by kernel_rfl
theorem Ydl : Y18 Tryz.prog 196 = some [.int .i64 0, .slice none 0 0, .slice none 0 0, .map none, .map none, .map none, .map none] := by kernel_rfl
instance Ydm : FldI Tryz.prog 145 1 2 := ⟨by kernel_rfl⟩
instance Ydn : LdI Tryz.prog 143 false 1 := ⟨by kernel_rfl⟩
instance Ydo : SlI Tryz.prog 143 186 1 8 := ⟨by kernel_rfl⟩
theorem Ydp : places Tryz.prog 145 = some [(0, 2), (2, 1)] := by kernel_rfl
theorem Ydq : Y18 Tryz.prog 145 = some [.slice none 0 0, .slice none 0 0, .slice none 0 0] := by kernel_rfl
theorem Ydr : Y2o Tryz.prog 143 = some (186, 1, 8) := by kernel_rfl
theorem Yds : Y18 Tryz.prog 189 = some [.map none] := by kernel_rfl
instance Ydt : LdI Tryz.prog 189 false 1 := ⟨by kernel_rfl⟩
theorem Ydu : Y8d Tryz.prog 189 = some (142, 4) := by kernel_rfl
theorem Ydv : Y18 Tryz.prog 186 = some [.pointer none] := by kernel_rfl
theorem Ydw : places Tryz.prog 142 = some [(0, 1), (1, 1)] := by kernel_rfl
instance Ydx : FldI Tryz.prog 145 0 0 := ⟨by kernel_rfl⟩
instance Ydy : FldI Tryz.prog 160 0 0 := ⟨by kernel_rfl⟩
instance Ydz : FldI Tryz.prog 160 1 9 := ⟨by kernel_rfl⟩
theorem Ye0 : ∀ x u, FrzL (Y9t x u) (Y9u x u) (Y9o x) := fun _ _ => (fS (fS (fS (fS (fS (fS (fS (FrzL.cons (os := [_]) Frz.arr (fS (fS FrzL.nil))))))))))
theorem Ye1 : ∀ x u, Y45 (Y9t x u) := fun _ _ => (Y45.cons (Y44.val _) (Y45.cons (Y44.val _) (Y45.cons (Y44.val _) (Y45.cons (Y44.val _) (Y45.cons (Y44.val _) (Y45.cons (Y44.val _) (Y45.cons (Y44.val _) (Y45.cons (Y44.val _) (Y45.cons (Y44.val _) (Y45.cons (Y44.val _) Y45.nil))))))))))
theorem Ye2 : ∀ x u, ∀ o ∈ Y9u x u, Y46 o := fun _ _ => (Y48 (Y46.arr Yav) Y47)
instance Ye3 : FldI Tryz.prog 86 3 3 := ⟨by kernel_rfl⟩
theorem un_5 : Tryz.prog.underlying 5 = some (.int .u8) := by kernel_rfl
instance : UnI Tryz.prog 5 (.int .u8) := ⟨un_5⟩
theorem Ye4 : Y2o Tryz.prog 227 = some (5, 1, 1) := by kernel_rfl
theorem Ye5 : Y6x Tryz.prog 227 = true := by kernel_rfl
instance Ye6 : LdI Tryz.prog 25 true 2 := ⟨by kernel_rfl⟩

def Z1 (p0 : List Int) (p1 : Int) : Option Int := cond (decide ((IntKind.i64.wrap (p1 - (p0.length : Int))) < 0)) (some (-1)) (some (IntKind.i64.wrap (p1 - (p0.length : Int))))
instance Z2 (p0 : List Int) (p1 : Int) : Sp Tryz.prog 101 [cM kI64 1 p0, cI p1] (Z1 p0 p1) cI := sp Tryz.func101 rfl rfl fun r X h => go

def Z3 (p0 : Y8z) (p1 : Int) : Option Int := cond (decide ((IntKind.i64.wrap (p1 - (p0.text.size : Int))) < 0)) (some (-1)) ((Z1 p0.prev (IntKind.i64.wrap (p1 - (p0.text.size : Int)))).bind fun r3 => cond (decide (r3 < 0)) (some (-1)) (some r3))
instance Z4 (p0 : Y8z) (p1 : Int) : Sp Tryz.prog 225 [C.agg [cI p0.id, cI p0.room, cI p0.author, cI p0.kind, cI p0.key, cI p0.n, C.str p0.text, cM kI64 1 p0.prev, cI p0.time], cI p1] (Z3 p0 p1) cI := sp Tryz.func225 rfl rfl fun r X h => go

def Z5 (x16 : Int) : Option Int := some x16
def Z6 (p0 : List Y8z) (x8 : Int) (x9 : Int) : Option ((Int × Int) ⊕ (Int ⊕ Int)) := cond (decide (x9 < (p0.length : Int))) ((getI p0 x9).bind fun e11 => (Z3 e11 x8).bind fun r13 => cond (decide (r13 < 0)) (some (.inr (.inl (-1)))) (some (.inl (r13, (IntKind.i64.wrap (x9 + 1)))))) (some (.inr (.inr x8)))
def Z7 (p0 : List Y8z) (p1 : Int) : Option Int := cond (decide ((IntKind.i64.wrap (p1 - (p0.length : Int))) < 0)) (some (-1)) ((iter (fun z17 => Z6 p0 z17.1 z17.2) big ((IntKind.i64.wrap (p1 - (p0.length : Int))), 0)).bind (fun z20 => match z20 with | .inl y18 => some y18 | .inr y19 => Z5 y19))
instance Z8 (p0 : List Y8z) (p1 : Int) : Sp Tryz.prog 175 [cM Y9b 9 p0, cI p1] (Z7 p0 p1) cI := sp Tryz.func175 rfl rfl fun r X h => by
 unfold Z7 at h
 refine zw ?_
 refine cnd h (fun hb1 h => go) fun hb1 h => ?_
 refine AW.cf hb1 rfl ?_
 refine zw ?_
 refine AW.lp (v := ()) h (fun (x8, x9) (_ : Unit) => ⟨[(0, cM Y9b 9 p0), (1, cI x8), (5, cI x9)], []⟩) (gb []) ?_
 rintro ⟨x8, x9⟩ _ y26 h
 exact go

def Z9 (p0 : Y90) (p1 : Int) : Option Int := (Z7 p0.events p1).bind fun r2 => cond (decide (r2 < 0)) (some (-1)) ((Z7 p0.parked r2).bind fun r5 => cond (decide (r5 < 0)) (some (-1)) (some r5))
instance Za (p0 : Y90) (p1 : Int) : Sp Tryz.prog 128 [C.agg [cI p0.room, cM Y9b 9 p0.events, cM Y9b 9 p0.parked], cI p1] (Z9 p0 p1) cI := sp Tryz.func128 rfl rfl fun r X h => go

def Zb (x16 : Int) : Option Int := some x16
def Zc (p0 : List Y90) (x8 : Int) (x9 : Int) : Option ((Int × Int) ⊕ (Int ⊕ Int)) := cond (decide (x9 < (p0.length : Int))) ((getI p0 x9).bind fun e11 => (Z9 e11 x8).bind fun r13 => cond (decide (r13 < 0)) (some (.inr (.inl (-1)))) (some (.inl (r13, (IntKind.i64.wrap (x9 + 1)))))) (some (.inr (.inr x8)))
def Zd (p0 : List Y90) (p1 : Int) : Option Int := cond (decide ((IntKind.i64.wrap (p1 - (p0.length : Int))) < 0)) (some (-1)) ((iter (fun z17 => Zc p0 z17.1 z17.2) big ((IntKind.i64.wrap (p1 - (p0.length : Int))), 0)).bind (fun z20 => match z20 with | .inl y18 => some y18 | .inr y19 => Zb y19))
instance Ze (p0 : List Y90) (p1 : Int) : Sp Tryz.prog 66 [cM Y9c 3 p0, cI p1] (Zd p0 p1) cI := sp Tryz.func66 rfl rfl fun r X h => by
 unfold Zd at h
 refine zw ?_
 refine cnd h (fun hb1 h => go) fun hb1 h => ?_
 refine AW.cf hb1 rfl ?_
 refine zw ?_
 refine AW.lp (v := ()) h (fun (x8, x9) (_ : Unit) => ⟨[(0, cM Y9c 3 p0), (1, cI x8), (5, cI x9)], []⟩) (gb []) ?_
 rintro ⟨x8, x9⟩ _ y26 h
 exact go

def Zf (p0 : List Y91) (p1 : Int) : Option Int := cond (decide ((IntKind.i64.wrap (p1 - (p0.length : Int))) < 0)) (some (-1)) (some (IntKind.i64.wrap (p1 - (p0.length : Int))))
instance Zg (p0 : List Y91) (p1 : Int) : Sp Tryz.prog 67 [cM Y9d 2 p0, cI p1] (Zf p0 p1) cI := sp Tryz.func67 rfl rfl fun r X h => go

def Zh (p0 : THub) (p1 : Int) : Option Int := (Zd p0.rooms p1).bind fun r2 => cond (decide (r2 < 0)) (some (-1)) ((Zf p0.stream r2).bind fun r5 => cond (decide (r5 < 0)) (some (-1)) (some r5))
instance Zi (p0 : THub) (p1 : Int) : Sp Tryz.prog 13 [C.agg [cM Y9c 3 p0.rooms, cM Y9d 2 p0.stream], cI p1] (Zh p0 p1) cI := sp Tryz.func13 rfl rfl fun r X h => go

def Zj (l16 : List Int) : Option (List Int) := some l16
def Zk (p0 : List Int) (l9 : List Int) (x10 : Int) : Option ((List Int × Int) ⊕ ((List Int))) := cond (decide (x10 < (p0.length : Int))) ((getI p0 x10).bind fun e12 => (getI l9 x10).bind fun e14 => some (.inl ((List.set l9 (Int.toNat x10) e12), (IntKind.i64.wrap (x10 + 1))))) (some (.inr l9))
def Zl (p0 : List Int) : Option (List Int) := (chk (decide (0 ≤ (p0.length : Int) ∧ (p0.length : Int) * 8 ≤ 140737488355328))).bind fun u2 => (iter (fun z18 => Zk p0 z18.1 z18.2) big ((List.replicate (Int.toNat (p0.length : Int)) 0), 0)).bind fun y19 => Zj y19
theorem Zm (p0 : List Int) (r : List Int) (h : Zl p0 = some r) : Ok Tryz.prog 104 [cM kI64 1 p0] [] (fun c qs => ∃ (v17 : Value), c = cV v17 ∧ qs = [oA v17 2 kI64 1 r]) := by
 refine Ok.of_body (rs := [.tmp 2]) Tryz.func104 rfl rfl rfl rfl rfl fun X => ?_
 unfold Zl at h
 refine zw ?_
 refine ob' h fun u2 c1 h => ?_
 refine Ops.h (ns := []) rfl rfl (Y3b (k := kI64) (z := 0) Yab ze_2 (Y42 rfl rfl) rfl rfl (Y3x c1).1 (Y3x c1).2 (Y3y (by decide) c1) rfl) ?_
 rintro _ _ ⟨b3, rfl, rfl⟩
 refine Ops.v rfl (Yr rfl rfl) ?_
 refine Ops.nil ?_
 refine AW.seq ?_
 refine AW.cut (τ := List Int) (fun l16 => ⟨[(3, cV (sn b3 (p0.length : Int)))], [oA (sn b3 (p0.length : Int)) 2 kI64 1 l16]⟩) (fun l16 => Zj l16 = some r) ?_ ?_
 ·
  refine zw ?_
  refine AW.lp (v := ()) h (fun (l9, x10) (_ : Unit) => ⟨[(0, cM kI64 1 p0), (3, cV (sn b3 (p0.length : Int))), (4, cI x10)], [oA (sn b3 (p0.length : Int)) 2 kI64 1 l9]⟩) (gb [0]) ?_
  rintro ⟨l9, x10⟩ _ y25 h
  refine zw ?_
  refine cnd h (fun hb11 h => ?_) fun hb11 h => ?_
  ·
   refine AW.ct hb11 rfl ?_
   refine zw ?_
   refine oi h fun e12 g13 h => ?_
   refine zw ?_
   refine oi h fun e14 g15 h => ?_
   refine Ops.hd (ns := [0]) rfl rfl (Y33 (e' := e12) ld_2.h rfl rfl (One.val rfl) (Y29 g15).2.2 rfl rfl) ?_
   exact go
  exact go
 intro l16 h
 replace h : Zj l16 = some r := h
 unfold Zj at h
 refine zw ?_
 refine AW.ret ?_
 rw [← Wj h]
 exact ⟨[cV (sn b3 (p0.length : Int))], _, Y21.refl _, (.cons (.tmp rfl) .nil), [0], _, _, rfl, ⟨(sn b3 (p0.length : Int)), rfl, rfl⟩⟩
instance Zm' (p0 : List Int) : Sp Tryz.prog 104 [cM kI64 1 p0] (Zl p0) (fun r => cM kI64 1 r) := ⟨fun r h => Ok.freeze (Zm p0 r h) (by rintro c qs ⟨v17, rfl, rfl⟩; exact Frz.arr)⟩

def Zn (p0 : Y8z) : Option Y8z := (Zl p0.prev).bind fun r4 => some (Y8z.mk p0.id p0.room p0.author p0.kind p0.key p0.n p0.text r4 p0.time)
theorem Zo (p0 : Y8z) (r : Y8z) (h : Zn p0 = some r) : Ok Tryz.prog 234 [C.agg [cI p0.id, cI p0.room, cI p0.author, cI p0.kind, cI p0.key, cI p0.n, C.str p0.text, cM kI64 1 p0.prev, cI p0.time]] [] (fun c qs => ∃ (v8 : Value), c = C.agg [cI r.id, cI r.room, cI r.author, cI r.kind, cI r.key, cI r.n, C.str r.text, cV v8, cI r.time] ∧ qs = [oA v8 2 kI64 1 r.prev]) := by
 refine Ok.of_body (rs := [.cell 2 136]) Tryz.func234 rfl rfl rfl rfl rfl fun X => ?_
 unfold Zn at h
 refine zw ?_
 refine ox fun b1 => ?_
 refine Ops.h (ns := []) rfl rfl (Y1p (cs := [cI 0, cI 0, cI 0, cI 0, cI 0, cI 0, C.str ByteArray.empty, cV s0, cI 0]) Yac (Y42 rfl rfl) rfl) ?_
 rintro _ _ ⟨b2, rfl, rfl⟩
 refine zw ?_
 refine Ops.h (ns := []) rfl rfl (Y1p (cs := [cI 0, cI 0, cI 0, cI 0, cI 0, cI 0, C.str ByteArray.empty, cV s0, cI 0]) Yac (Y42 rfl rfl) rfl) ?_
 rintro _ _ ⟨b3, rfl, rfl⟩
 refine zw ?_
 refine Ops.hd (ns := [0]) rfl rfl (Y1t (gs := [cI p0.id, cI 0, cI 0, cI 0, cI 0, cI 0, C.str ByteArray.empty, cV s0, cI 0]) ld_2.h rfl rfl (One.val rfl) rfl rfl) ?_
 refine zw ?_
 refine Ops.hd (ns := [0]) rfl rfl (Y1t (gs := [cI p0.id, cI p0.room, cI 0, cI 0, cI 0, cI 0, C.str ByteArray.empty, cV s0, cI 0]) ld_2.h rfl rfl (One.val rfl) rfl rfl) ?_
 refine zw ?_
 refine Ops.hd (ns := [0]) rfl rfl (Y1t (gs := [cI p0.id, cI p0.room, cI p0.author, cI 0, cI 0, cI 0, C.str ByteArray.empty, cV s0, cI 0]) ld_2.h rfl rfl (One.val rfl) rfl rfl) ?_
 refine zw ?_
 refine Ops.hd (ns := [0]) rfl rfl (Y1t (gs := [cI p0.id, cI p0.room, cI p0.author, cI p0.kind, cI 0, cI 0, C.str ByteArray.empty, cV s0, cI 0]) ld_2.h rfl rfl (One.val rfl) rfl rfl) ?_
 refine zw ?_
 refine Ops.hd (ns := [0]) rfl rfl (Y1t (gs := [cI p0.id, cI p0.room, cI p0.author, cI p0.kind, cI p0.key, cI 0, C.str ByteArray.empty, cV s0, cI 0]) ld_2.h rfl rfl (One.val rfl) rfl rfl) ?_
 refine zw ?_
 refine Ops.hd (ns := [0]) rfl rfl (Y1t (gs := [cI p0.id, cI p0.room, cI p0.author, cI p0.kind, cI p0.key, cI p0.n, C.str ByteArray.empty, cV s0, cI 0]) ld_2.h rfl rfl (One.val rfl) rfl rfl) ?_
 refine zw ?_
 refine Ops.hd (ns := [0]) rfl rfl (Y1t (gs := [cI p0.id, cI p0.room, cI p0.author, cI p0.kind, cI p0.key, cI p0.n, C.str p0.text, cV s0, cI 0]) ld_9.h rfl rfl (One.val rfl) rfl rfl) ?_
 refine zw ?_
 refine ob' h fun r4 g5 h => ?_
 refine Ops.h (ns := []) rfl rfl (Y23 (Zm _ _ g5) rfl rfl) ?_
 rintro _ _ ⟨_, ⟨v6, rfl, rfl⟩, rfl⟩
 refine Ops.v rfl (Y1b Yaq.h rfl rfl) ?_
 refine Ops.learn (Sim.arr_one (p := 0) rfl) fun n7 => ?_
 refine Ops.hd (ns := [1]) rfl rfl (Y1t (gs := [cI p0.id, cI p0.room, cI p0.author, cI p0.kind, cI p0.key, cI p0.n, C.str p0.text, cV v6, cI 0]) Y9y.h rfl rfl (One.val n7) rfl rfl) ?_
 refine zw ?_
 refine Ops.hd (ns := [0]) rfl rfl (Y1t (gs := [cI p0.id, cI p0.room, cI p0.author, cI p0.kind, cI p0.key, cI p0.n, C.str p0.text, cV v6, cI p0.time]) ld_2.h rfl rfl (One.val rfl) rfl rfl) ?_
 refine zw ?_
 refine Ops.hd (ns := [2]) rfl rfl (Y1u (gs := [cI p0.id, cI p0.room, cI p0.author, cI p0.kind, cI p0.key, cI p0.n, C.str p0.text, cV v6, cI p0.time]) Yat.h rfl rfl rfl rfl rfl) ?_
 refine zw ?_
 refine AW.ret ?_
 rw [← Wj h]
 exact ⟨[C.agg [cI p0.id, cI p0.room, cI p0.author, cI p0.kind, cI p0.key, cI p0.n, C.str p0.text, cV v6, cI p0.time]], _, Y21.refl _, (.cons (.cell (p := 0) rfl rfl Yat.h rfl) .nil), [2], _, _, rfl, ⟨v6, rfl, rfl⟩⟩
instance Zo' (p0 : Y8z) : Sp Tryz.prog 234 [C.agg [cI p0.id, cI p0.room, cI p0.author, cI p0.kind, cI p0.key, cI p0.n, C.str p0.text, cM kI64 1 p0.prev, cI p0.time]] (Zn p0) (fun r => C.agg [cI r.id, cI r.room, cI r.author, cI r.kind, cI r.key, cI r.n, C.str r.text, cM kI64 1 r.prev, cI r.time]) := ⟨fun r h => Ok.freeze (Zo p0 r h) (by rintro c qs ⟨v8, rfl, rfl⟩; exact Frz.agg (fS (fS (fS (fS (fS (fS (fS (FrzL.cons (os := [_]) (Frz.arr) (fS (FrzL.nil)))))))))))⟩

def Zp (l22 : List Y8z) : Option (List Y8z) := some l22
def Zq (p0 : List Y8z) (l12 : List Y8z) (x13 : Int) : Option ((List Y8z × Int) ⊕ ((List Y8z))) := cond (decide (x13 < (p0.length : Int))) ((getI p0 x13).bind fun e15 => (Zn e15).bind fun r17 => (getI l12 x13).bind fun e20 => some (.inl ((List.set l12 (Int.toNat x13) r17), (IntKind.i64.wrap (x13 + 1))))) (some (.inr l12))
def Zr (p0 : List Y8z) : Option (List Y8z) := (chk (decide (0 ≤ (p0.length : Int) ∧ (p0.length : Int) * 96 ≤ 140737488355328))).bind fun u2 => (iter (fun z24 => Zq p0 z24.1 z24.2) big ((List.replicate (Int.toNat (p0.length : Int)) (Y8z.mk 0 0 0 0 0 0 ByteArray.empty [] 0)), 0)).bind fun y25 => Zp y25
theorem Zs (p0 : List Y8z) (r : List Y8z) (h : Zr p0 = some r) : Ok Tryz.prog 183 [cM Y9b 9 p0] [] (fun c qs => ∃ (v23 : Value), c = cV v23 ∧ qs = [Obj.deep v23 136 Y9e Y9f 9 r]) := by
 refine Ok.of_body (rs := [.tmp 2]) Tryz.func183 rfl rfl rfl rfl rfl fun X => ?_
 unfold Zr at h
 refine zw ?_
 refine ob' h fun u2 c1 h => ?_
 refine Ops.h (ns := []) rfl rfl (Y66 (k := Y9e) (ob := Y9f) (z := (Y8z.mk 0 0 0 0 0 0 ByteArray.empty [] 0)) (u0 := s0) Yau Yac (Y42 rfl rfl) (fun _ _ => (Own.none_cons Y63 Own.none_nil)) rfl rfl (Y3x c1).1 (Y3x c1).2 (Y3y (by decide) c1) rfl) ?_
 rintro _ _ ⟨b3, rfl, rfl⟩
 refine Ops.v rfl (Yr rfl rfl) ?_
 refine Ops.nil ?_
 refine AW.seq ?_
 refine AW.cut (τ := List Y8z) (fun l22 => ⟨[(3, cV (sn b3 (p0.length : Int)))], [Obj.deep (sn b3 (p0.length : Int)) 136 Y9e Y9f 9 l22]⟩) (fun l22 => Zp l22 = some r) ?_ ?_
 ·
  refine zw ?_
  refine AW.lp (v := ()) h (fun (l12, x13) (_ : Unit) => ⟨[(0, cM Y9b 9 p0), (3, cV (sn b3 (p0.length : Int))), (4, cI x13)], [Obj.deep (sn b3 (p0.length : Int)) 136 Y9e Y9f 9 l12]⟩) (gb [0]) ?_
  rintro ⟨l12, x13⟩ _ y31 h
  refine zw ?_
  refine cnd h (fun hb14 h => ?_) fun hb14 h => ?_
  ·
   refine AW.ct hb14 rfl ?_
   refine zw ?_
   refine oi h fun e15 g16 h => ?_
   refine zw ?_
   refine ob' h fun r17 g18 h => ?_
   refine Ops.h (ns := []) rfl rfl (Y23 (Zo _ _ g18) rfl rfl) ?_
   rintro _ _ ⟨_, ⟨v19, rfl, rfl⟩, rfl⟩
   refine ob' h fun e20 g21 h => ?_
   refine Ops.v rfl (Y5y (p := 1) Yax.h rfl rfl rfl g21 rfl) ?_
   refine Ops.hd (ns := [1, 0]) rfl rfl (Y62 (e' := r17) (u' := v19) Yat.h rfl rfl rfl (Y29 g21).2.2 (fun _ => rfl) rfl rfl) ?_
   exact go
  exact go
 intro l22 h
 replace h : Zp l22 = some r := h
 unfold Zp at h
 refine zw ?_
 refine AW.ret ?_
 rw [← Wj h]
 exact ⟨[cV (sn b3 (p0.length : Int))], _, Y21.refl _, (.cons (.tmp rfl) .nil), [0], _, _, rfl, ⟨(sn b3 (p0.length : Int)), rfl, rfl⟩⟩
instance Zs' (p0 : List Y8z) : Sp Tryz.prog 183 [cM Y9b 9 p0] (Zr p0) (fun r => cM Y9b 9 r) := ⟨fun r h => Ok.freeze (Zs p0 r h) (by rintro c qs ⟨v23, rfl, rfl⟩; exact (Frz.deep Yaw))⟩

def Zt (p0 : Y90) : Option Y92 := (Zr p0.events).bind fun r4 => (Zr p0.parked).bind fun r8 => some (Y92.mk p0.room r4 r8)
theorem Zu (p0 : Y90) (r : Y92) (h : Zt p0 = some r) : Ok Tryz.prog 133 [C.agg [cI p0.room, cM Y9b 9 p0.events, cM Y9b 9 p0.parked]] [] (fun c qs => ∃ (v12 : Value) (v13 : Value), c = C.agg [cI r.room, cV v12, cV v13] ∧ qs = [Obj.deep v12 136 Y9e Y9f 9 r.events, Obj.deep v13 136 Y9e Y9f 9 r.parked]) := by
 refine Ok.of_body (rs := [.cell 2 139]) Tryz.func133 rfl rfl rfl rfl rfl fun X => ?_
 unfold Zt at h
 refine zw ?_
 refine ox fun b1 => ?_
 refine Ops.h (ns := []) rfl rfl (Y1p (cs := [cI 0, cV s0, cV s0]) Yay (Y42 rfl rfl) rfl) ?_
 rintro _ _ ⟨b2, rfl, rfl⟩
 refine zw ?_
 refine Ops.h (ns := []) rfl rfl (Y1p (cs := [cI 0, cV s0, cV s0]) Yay (Y42 rfl rfl) rfl) ?_
 rintro _ _ ⟨b3, rfl, rfl⟩
 refine zw ?_
 refine Ops.hd (ns := [0]) rfl rfl (Y1t (gs := [cI p0.room, cV s0, cV s0]) ld_2.h rfl rfl (One.val rfl) rfl rfl) ?_
 refine zw ?_
 refine ob' h fun r4 g5 h => ?_
 refine Ops.h (ns := []) rfl rfl (Y23 (Zs _ _ g5) rfl rfl) ?_
 rintro _ _ ⟨_, ⟨v6, rfl, rfl⟩, rfl⟩
 refine Ops.v rfl (Y1b Yb1.h rfl rfl) ?_
 refine Ops.learn (Sim.deep_one (p := 0) rfl) fun n7 => ?_
 refine Ops.hd (ns := [1]) rfl rfl (Y1t (gs := [cI p0.room, cV v6, cV s0]) Yb2.h rfl rfl (One.val n7) rfl rfl) ?_
 refine zw ?_
 refine ob' h fun r8 g9 h => ?_
 refine Ops.h (ns := []) rfl rfl (Y23 (Zs _ _ g9) rfl rfl) ?_
 rintro _ _ ⟨_, ⟨v10, rfl, rfl⟩, rfl⟩
 refine Ops.v rfl (Y1b Yb3.h rfl rfl) ?_
 refine Ops.learn (Sim.deep_one (p := 0) rfl) fun n11 => ?_
 refine Ops.hd (ns := [1]) rfl rfl (Y1t (gs := [cI p0.room, cV v6, cV v10]) Yb2.h rfl rfl (One.val n11) rfl rfl) ?_
 refine zw ?_
 refine Ops.hd (ns := [3]) rfl rfl (Y1u (gs := [cI p0.room, cV v6, cV v10]) Yb4.h rfl rfl rfl rfl rfl) ?_
 refine zw ?_
 refine AW.ret ?_
 rw [← Wj h]
 exact ⟨[C.agg [cI p0.room, cV v6, cV v10]], _, Y21.refl _, (.cons (.cell (p := 0) rfl rfl Yb4.h rfl) .nil), [3, 2], _, _, rfl, ⟨v6, v10, rfl, rfl⟩⟩
instance Zu' (p0 : Y90) : Sp Tryz.prog 133 [C.agg [cI p0.room, cM Y9b 9 p0.events, cM Y9b 9 p0.parked]] (Zt p0) (fun r => C.agg [cI r.room, cM Y9b 9 r.events, cM Y9b 9 r.parked]) := ⟨fun r h => Ok.freeze (Zu p0 r h) (by rintro c qs ⟨v12, v13, rfl, rfl⟩; exact Frz.agg (fS (FrzL.cons (os := [_]) ((Frz.deep Yaw)) (FrzL.cons (os := [_]) ((Frz.deep Yaw)) (FrzL.nil)))))⟩

def Zv (l24 : List Y92) : Option (List Y92) := some l24
def Zw (p0 : List Y90) (l13 : List Y92) (x14 : Int) : Option ((List Y92 × Int) ⊕ ((List Y92))) := cond (decide (x14 < (p0.length : Int))) ((getI p0 x14).bind fun e16 => (Zt e16).bind fun r18 => (getI l13 x14).bind fun e22 => some (.inl ((List.set l13 (Int.toNat x14) r18), (IntKind.i64.wrap (x14 + 1))))) (some (.inr l13))
def Zx (p0 : List Y90) : Option (List Y92) := (chk (decide (0 ≤ (p0.length : Int) ∧ (p0.length : Int) * 56 ≤ 140737488355328))).bind fun u2 => (iter (fun z26 => Zw p0 z26.1 z26.2) big ((List.replicate (Int.toNat (p0.length : Int)) (Y92.mk 0 [] [])), 0)).bind fun y27 => Zv y27
theorem Zy (p0 : List Y90) (r : List Y92) (h : Zx p0 = some r) : Ok Tryz.prog 71 [cM Y9c 3 p0] [] (fun c qs => ∃ (v25 : Value), c = cV v25 ∧ qs = [Obj.deep v25 139 Y9h Y9i 3 r]) := by
 refine Ok.of_body (rs := [.tmp 2]) Tryz.func71 rfl rfl rfl rfl rfl fun X => ?_
 unfold Zx at h
 refine zw ?_
 refine ob' h fun u2 c1 h => ?_
 refine Ops.h (ns := []) rfl rfl (Y66 (k := Y9h) (ob := Y9i) (z := (Y92.mk 0 [] [])) (u0 := (s0, s0)) Yb5 Yay (Y42 rfl rfl) (fun _ _ => (Own.none_cons Y64 (Own.none_cons Y64 Own.none_nil))) rfl rfl (Y3x c1).1 (Y3x c1).2 (Y3y (by decide) c1) rfl) ?_
 rintro _ _ ⟨b3, rfl, rfl⟩
 refine Ops.v rfl (Yr rfl rfl) ?_
 refine Ops.nil ?_
 refine AW.seq ?_
 refine AW.cut (τ := List Y92) (fun l24 => ⟨[(3, cV (sn b3 (p0.length : Int)))], [Obj.deep (sn b3 (p0.length : Int)) 139 Y9h Y9i 3 l24]⟩) (fun l24 => Zv l24 = some r) ?_ ?_
 ·
  refine zw ?_
  refine AW.lp (v := ()) h (fun (l13, x14) (_ : Unit) => ⟨[(0, cM Y9c 3 p0), (3, cV (sn b3 (p0.length : Int))), (4, cI x14)], [Obj.deep (sn b3 (p0.length : Int)) 139 Y9h Y9i 3 l13]⟩) (gb [0]) ?_
  rintro ⟨l13, x14⟩ _ y33 h
  refine zw ?_
  refine cnd h (fun hb15 h => ?_) fun hb15 h => ?_
  ·
   refine AW.ct hb15 rfl ?_
   refine zw ?_
   refine oi h fun e16 g17 h => ?_
   refine zw ?_
   refine ob' h fun r18 g19 h => ?_
   refine Ops.h (ns := []) rfl rfl (Y23 (Zu _ _ g19) rfl rfl) ?_
   rintro _ _ ⟨_, ⟨v20, v21, rfl, rfl⟩, rfl⟩
   refine ob' h fun e22 g23 h => ?_
   refine Ops.v rfl (Y5y (p := 2) Yb7.h rfl rfl rfl g23 rfl) ?_
   refine Ops.hd (ns := [2, 0, 0]) rfl rfl (Y62 (e' := r18) (u' := (v20, v21)) Yb4.h rfl rfl rfl (Y29 g23).2.2 (fun _ => rfl) rfl rfl) ?_
   exact go
  exact go
 intro l24 h
 replace h : Zv l24 = some r := h
 unfold Zv at h
 refine zw ?_
 refine AW.ret ?_
 rw [← Wj h]
 exact ⟨[cV (sn b3 (p0.length : Int))], _, Y21.refl _, (.cons (.tmp rfl) .nil), [0], _, _, rfl, ⟨(sn b3 (p0.length : Int)), rfl, rfl⟩⟩
instance Zy' (p0 : List Y90) : Sp Tryz.prog 71 [cM Y9c 3 p0] (Zx p0) (fun r => cM Y9g 3 r) := ⟨fun r h => Ok.freeze (Zy p0 r h) (by rintro c qs ⟨v25, rfl, rfl⟩; exact (Frz.deep Yb6))⟩

def Zz (p0 : Y91) : Option Y91 := some p0
instance Z10 (p0 : Y91) : Sp Tryz.prog 134 [C.agg [cI p0.room, cI p0.id]] (Zz p0) (fun r => C.agg [cI r.room, cI r.id]) := sp Tryz.func134 rfl rfl fun r X h => by
 unfold Zz at h
 refine zw ?_
 refine ox fun b1 => ?_
 refine Ops.h (ns := []) rfl rfl (Y1p (cs := [cI 0, cI 0]) Yb8 (Y42 rfl rfl) rfl) ?_
 rintro _ _ ⟨b2, rfl, rfl⟩
 refine zw ?_
 refine Ops.h (ns := []) rfl rfl (Y1p (cs := [cI 0, cI 0]) Yb8 (Y42 rfl rfl) rfl) ?_
 rintro _ _ ⟨b3, rfl, rfl⟩
 refine zw ?_
 refine Ops.hd (ns := [0]) rfl rfl (Y1t (gs := [cI p0.room, cI 0]) ld_2.h rfl rfl (One.val rfl) rfl rfl) ?_
 refine zw ?_
 refine Ops.hd (ns := [0]) rfl rfl (Y1t (gs := [cI p0.room, cI p0.id]) ld_2.h rfl rfl (One.val rfl) rfl rfl) ?_
 refine zw ?_
 refine Ops.hd (ns := [1]) rfl rfl (Y1u (gs := [cI p0.room, cI p0.id]) Ybd.h rfl rfl rfl rfl rfl) ?_
 refine zw ?_
 refine AW.ret ?_
 rw [← Wj h]
 exact ⟨[C.agg [cI p0.room, cI p0.id]], _, Y21.refl _, (.cons (.cell (p := 0) rfl rfl Ybd.h rfl) .nil), [], _, _, rfl, ⟨rfl, rfl⟩⟩

def Z11 (l20 : List Y91) : Option (List Y91) := some l20
def Z12 (p0 : List Y91) (l11 : List Y91) (x12 : Int) : Option ((List Y91 × Int) ⊕ ((List Y91))) := cond (decide (x12 < (p0.length : Int))) ((getI p0 x12).bind fun e14 => (Zz e14).bind fun r16 => (getI l11 x12).bind fun e18 => some (.inl ((List.set l11 (Int.toNat x12) r16), (IntKind.i64.wrap (x12 + 1))))) (some (.inr l11))
def Z13 (p0 : List Y91) : Option (List Y91) := (chk (decide (0 ≤ (p0.length : Int) ∧ (p0.length : Int) * 16 ≤ 140737488355328))).bind fun u2 => (iter (fun z22 => Z12 p0 z22.1 z22.2) big ((List.replicate (Int.toNat (p0.length : Int)) (Y91.mk 0 0)), 0)).bind fun y23 => Z11 y23
theorem Z14 (p0 : List Y91) (r : List Y91) (h : Z13 p0 = some r) : Ok Tryz.prog 72 [cM Y9d 2 p0] [] (fun c qs => ∃ (v21 : Value), c = cV v21 ∧ qs = [oA v21 142 Y9d 2 r]) := by
 refine Ok.of_body (rs := [.tmp 2]) Tryz.func72 rfl rfl rfl rfl rfl fun X => ?_
 unfold Z13 at h
 refine zw ?_
 refine ob' h fun u2 c1 h => ?_
 refine Ops.h (ns := []) rfl rfl (Y3b (k := Y9d) (z := (Y91.mk 0 0)) Ybe Yb8 (Y42 rfl rfl) rfl rfl (Y3x c1).1 (Y3x c1).2 (Y3y (by decide) c1) rfl) ?_
 rintro _ _ ⟨b3, rfl, rfl⟩
 refine Ops.v rfl (Yr rfl rfl) ?_
 refine Ops.nil ?_
 refine AW.seq ?_
 refine AW.cut (τ := List Y91) (fun l20 => ⟨[(3, cV (sn b3 (p0.length : Int)))], [oA (sn b3 (p0.length : Int)) 142 Y9d 2 l20]⟩) (fun l20 => Z11 l20 = some r) ?_ ?_
 ·
  refine zw ?_
  refine AW.lp (v := ()) h (fun (l11, x12) (_ : Unit) => ⟨[(0, cM Y9d 2 p0), (3, cV (sn b3 (p0.length : Int))), (4, cI x12)], [oA (sn b3 (p0.length : Int)) 142 Y9d 2 l11]⟩) (gb [0]) ?_
  rintro ⟨l11, x12⟩ _ y29 h
  refine zw ?_
  refine cnd h (fun hb13 h => ?_) fun hb13 h => ?_
  ·
   refine AW.ct hb13 rfl ?_
   refine zw ?_
   refine oi h fun e14 g15 h => ?_
   refine zw ?_
   refine oc h fun r16 g17 h => ?_
   refine oi h fun e18 g19 h => ?_
   refine Ops.hd (ns := [0]) rfl rfl (Y34 (e' := r16) Ybd.h rfl rfl rfl (Y29 g19).2.2 rfl rfl) ?_
   exact go
  exact go
 intro l20 h
 replace h : Z11 l20 = some r := h
 unfold Z11 at h
 refine zw ?_
 refine AW.ret ?_
 rw [← Wj h]
 exact ⟨[cV (sn b3 (p0.length : Int))], _, Y21.refl _, (.cons (.tmp rfl) .nil), [0], _, _, rfl, ⟨(sn b3 (p0.length : Int)), rfl, rfl⟩⟩
instance Z14' (p0 : List Y91) : Sp Tryz.prog 72 [cM Y9d 2 p0] (Z13 p0) (fun r => cM Y9d 2 r) := ⟨fun r h => Ok.freeze (Z14 p0 r h) (by rintro c qs ⟨v21, rfl, rfl⟩; exact Frz.arr)⟩

def Z15 (p0 : THub) : Option Y93 := (Zx p0.rooms).bind fun r4 => (Z13 p0.stream).bind fun r8 => some (Y93.mk r4 r8)
theorem Z16 (p0 : THub) (r : Y93) (h : Z15 p0 = some r) : Ok Tryz.prog 15 [C.agg [cM Y9c 3 p0.rooms, cM Y9d 2 p0.stream]] [] (fun c qs => ∃ (v12 : Value) (v13 : Value), c = C.agg [cV v12, cV v13] ∧ qs = [Obj.deep v12 139 Y9h Y9i 3 r.rooms, oA v13 142 Y9d 2 r.stream]) := by
 refine Ok.of_body (rs := [.cell 2 32]) Tryz.func15 rfl rfl rfl rfl rfl fun X => ?_
 unfold Z15 at h
 refine zw ?_
 refine ox fun b1 => ?_
 refine Ops.h (ns := []) rfl rfl (Y1p (cs := [cV s0, cV s0]) Ybh (Y42 rfl rfl) rfl) ?_
 rintro _ _ ⟨b2, rfl, rfl⟩
 refine zw ?_
 refine Ops.h (ns := []) rfl rfl (Y1p (cs := [cV s0, cV s0]) Ybh (Y42 rfl rfl) rfl) ?_
 rintro _ _ ⟨b3, rfl, rfl⟩
 refine zw ?_
 refine ob' h fun r4 g5 h => ?_
 refine Ops.h (ns := []) rfl rfl (Y23 (Zy _ _ g5) rfl rfl) ?_
 rintro _ _ ⟨_, ⟨v6, rfl, rfl⟩, rfl⟩
 refine Ops.v rfl (Y1b Ybi.h rfl rfl) ?_
 refine Ops.learn (Sim.deep_one (p := 0) rfl) fun n7 => ?_
 refine Ops.hd (ns := [1]) rfl rfl (Y1t (gs := [cV v6, cV s0]) Ybj.h rfl rfl (One.val n7) rfl rfl) ?_
 refine zw ?_
 refine ob' h fun r8 g9 h => ?_
 refine Ops.h (ns := []) rfl rfl (Y23 (Z14 _ _ g9) rfl rfl) ?_
 rintro _ _ ⟨_, ⟨v10, rfl, rfl⟩, rfl⟩
 refine Ops.v rfl (Y1b Ybk.h rfl rfl) ?_
 refine Ops.learn (Sim.arr_one (p := 0) rfl) fun n11 => ?_
 refine Ops.hd (ns := [1]) rfl rfl (Y1t (gs := [cV v6, cV v10]) Ybl.h rfl rfl (One.val n11) rfl rfl) ?_
 refine zw ?_
 refine Ops.hd (ns := [3]) rfl rfl (Y1u (gs := [cV v6, cV v10]) Ybm.h rfl rfl rfl rfl rfl) ?_
 refine zw ?_
 refine AW.ret ?_
 rw [← Wj h]
 exact ⟨[C.agg [cV v6, cV v10]], _, Y21.refl _, (.cons (.cell (p := 0) rfl rfl Ybm.h rfl) .nil), [3, 2], _, _, rfl, ⟨v6, v10, rfl, rfl⟩⟩
instance Z16' (p0 : THub) : Sp Tryz.prog 15 [C.agg [cM Y9c 3 p0.rooms, cM Y9d 2 p0.stream]] (Z15 p0) (fun r => C.agg [cM Y9g 3 r.rooms, cM Y9d 2 r.stream]) := ⟨fun r h => Ok.freeze (Z16 p0 r h) (by rintro c qs ⟨v12, v13, rfl, rfl⟩; exact Frz.agg (FrzL.cons (os := [_]) ((Frz.deep Yb6)) (FrzL.cons (os := [_]) (Frz.arr) (FrzL.nil))))⟩

def Z17 (x2 : Bool) : Option Bool := some x2
def Z18 (p0 : Int) (p1 : Int) (p2 : Int) : Option Bool := cond (decide (p0 ≥ p1)) (Z17 (decide (p0 ≤ p2))) (Z17 false)
instance Z19 (p0 : Int) (p1 : Int) (p2 : Int) : Sp Tryz.prog 69 [cI p0, cI p1, cI p2] (Z18 p0 p1 p2) C.bool := sp Tryz.func69 rfl rfl fun r X h => go

def Z1a (p0 : Int) : Option Bool := (Z18 p0 1 1000000).bind fun r1 => some r1
instance Z1b (p0 : Int) : Sp Tryz.prog 270 [cI p0] (Z1a p0) C.bool := sp Tryz.func270 rfl rfl fun r X h => go

def Z1c (p0 : Int) : Option Bool := (Z18 p0 1 6).bind fun r1 => some r1
instance Z1d (p0 : Int) : Sp Tryz.prog 97 [cI p0] (Z1c p0) C.bool := sp Tryz.func97 rfl rfl fun r X h => go

def Z1e (p0 : Int) : Option Bool := (Z18 p0 0 1000000).bind fun r1 => some r1
instance Z1f (p0 : Int) : Sp Tryz.prog 271 [cI p0] (Z1e p0) C.bool := sp Tryz.func271 rfl rfl fun r X h => go

def Z1g : Option Bool := some true
def Z1h (x14 : Int) (x25 : Bool) : Option (Int ⊕ (Bool ⊕ Unit)) := cond x25 (some (.inr (.inl false))) (some (.inl (IntKind.i64.wrap (x14 + 1))))
def Z1i (p0 : List Int) (p1 : Int) (x14 : Int) : Option (Int ⊕ (Bool ⊕ Unit)) := cond (decide (x14 < (p0.length : Int))) ((getI p0 x14).bind fun e16 => (Z1a e16).bind fun r18 => cond r18 (cond (e16 == p1) (Z1h x14 true) (cond (decide (x14 > 0)) ((getI p0 (IntKind.i64.wrap (x14 - 1))).bind fun e23 => Z1h x14 (decide (e23 ≥ e16))) (Z1h x14 false))) (Z1h x14 true)) (some (.inr (.inr ())))
def Z1j (p0 : List Int) (p1 : Int) : Option Bool := cond (decide ((p0.length : Int) > 4)) (some false) ((iter (Z1i p0 p1) big 0).bind (fun z28 => match z28 with | .inl y27 => some y27 | .inr () => Z1g))
instance Z1k (p0 : List Int) (p1 : Int) : Sp Tryz.prog 272 [cM kI64 1 p0, cI p1] (Z1j p0 p1) C.bool := sp Tryz.func272 rfl rfl fun r X h => by
 unfold Z1j at h
 refine zw ?_
 refine cnd h (fun hb1 h => go) fun hb1 h => ?_
 refine AW.cf hb1 rfl ?_
 refine zw ?_
 refine AW.lp (v := ()) h (fun x14 (_ : Unit) => ⟨[(0, cM kI64 1 p0), (1, cI p1), (5, cI x14)], []⟩) (gb []) ?_
 rintro x14 _ y34 h
 refine zw ?_
 refine cnd h (fun hb15 h => ?_) fun hb15 h => ?_
 ·
  refine AW.ct hb15 rfl ?_
  refine zw ?_
  refine rD [] [3,10,22,26] [] [0,4,8,13,18,20,24,28,32,36,41,44,48,52,56,60,64,68,72,76,80,84,89,92,96,100,105,108,112,116] ?_
  exact go
 exact go

def Z1l (x5 : Bool) : Option Bool := some x5
def Z1m (x13 : Bool) : Option Bool := some x13
def Z1n (x21 : Bool) : Option Bool := some x21
def Z1o (x25 : Bool) : Option Bool := some x25
def Z1p (x31 : Bool) : Option Bool := some x31
def Z1q (x37 : Bool) : Option Bool := some x37
def Z1r (x42 : Bool) : Option Bool := some x42
def Z1s (x48 : Bool) : Option Bool := some x48
def Z1t (p0 : Y8z) : Option Bool := cond (p0.kind == 1) (cond (p0.key == 0) (cond (p0.n == 0) (Z1l (p0.text.toList == ByteArray.empty.toList)) (Z1l false)) (Z1l false)) (cond (p0.kind == 2) ((Z1c p0.key).bind fun r7 => cond r7 ((Z18 p0.n 1 4).bind fun r10 => cond r10 (Z1m (p0.text.toList == ByteArray.empty.toList)) (Z1m false)) (Z1m false)) (cond (p0.kind == 3) ((Z1c p0.key).bind fun r15 => cond r15 ((Z18 p0.n 0 100).bind fun r18 => cond r18 (Z1n (p0.text.toList == ByteArray.empty.toList)) (Z1n false)) (Z1n false)) (cond (p0.kind == 4) (cond (p0.key == 0) (cond (p0.n == 0) (Z1o (decide ((p0.text.size : Int) ≤ 30))) (Z1o false)) (Z1o false)) (cond (p0.kind == 5) (cond (p0.key == 0) ((Z18 p0.n 1 2).bind fun r28 => cond r28 (Z1p (p0.text.toList == ByteArray.empty.toList)) (Z1p false)) (Z1p false)) (cond (p0.kind == 6) (cond (p0.key == 0) ((Z18 p0.n 1 3).bind fun r34 => cond r34 (Z1q (p0.text.toList == ByteArray.empty.toList)) (Z1q false)) (Z1q false)) (cond (p0.kind == 7) (cond (p0.key == 0) (cond (p0.n == 0) (cond (decide ((p0.text.size : Int) ≥ 1)) (Z1r (decide ((p0.text.size : Int) ≤ 30))) (Z1r false)) (Z1r false)) (Z1r false)) (cond (p0.kind == 8) ((Z1a p0.key).bind fun r44 => cond r44 (cond (p0.n == 0) (Z1s (p0.text.toList == ByteArray.empty.toList)) (Z1s false)) (Z1s false)) (some false))))))))
instance Z1u (p0 : Y8z) : Sp Tryz.prog 273 [C.agg [cI p0.id, cI p0.room, cI p0.author, cI p0.kind, cI p0.key, cI p0.n, C.str p0.text, cM kI64 1 p0.prev, cI p0.time]] (Z1t p0) C.bool := sp Tryz.func273 rfl rfl fun r X h => by
 unfold Z1t at h
 refine zw ?_
 refine ox fun b1 => ?_
 refine zw ?_
 refine rD [0] [1,4,7] [] [0,5,8,12,17,20,24,29,32,36,40,44] ?_
 refine zw ?_
 refine cnd h (fun hb2 h => go) fun hb2 h => ?_
 refine AW.cf hb2 rfl ?_
 refine zw ?_
 refine cnd h (fun hb6 h => ?_) fun hb6 h => ?_
 ·
  refine AW.ct hb6 rfl ?_
  refine zw ?_
  refine oc h fun r7 g8 h => ?_
  refine zw ?_
  refine cnd h (fun hb9 h => ?_) fun hb9 h => ?_
  ·
   refine zw ?_
   refine ob' h fun r10 g11 h => ?_
   refine Ops.ghd (ns := []) rfl rfl rfl rfl hb9 rfl (Y24 ((Z19 _ _ _).h _ g11) rfl rfl) ?_
   exact go
  exact go
 refine AW.cf hb6 rfl ?_
 refine zw ?_
 refine cnd h (fun hb14 h => ?_) fun hb14 h => ?_
 ·
  refine AW.ct hb14 rfl ?_
  refine zw ?_
  refine oc h fun r15 g16 h => ?_
  refine zw ?_
  refine cnd h (fun hb17 h => ?_) fun hb17 h => ?_
  ·
   refine zw ?_
   refine ob' h fun r18 g19 h => ?_
   refine Ops.ghd (ns := []) rfl rfl rfl rfl hb17 rfl (Y24 ((Z19 _ _ _).h _ g19) rfl rfl) ?_
   exact go
  exact go
 refine AW.cf hb14 rfl ?_
 refine zw ?_
 refine cnd h (fun hb22 h => go) fun hb22 h => ?_
 refine AW.cf hb22 rfl ?_
 refine zw ?_
 refine cnd h (fun hb26 h => ?_) fun hb26 h => ?_
 ·
  refine AW.ct hb26 rfl ?_
  refine zw ?_
  refine cnd h (fun hb27 h => ?_) fun hb27 h => ?_
  ·
   refine zw ?_
   refine ob' h fun r28 g29 h => ?_
   refine Ops.ghd (ns := []) rfl rfl rfl rfl hb27 rfl (Y24 ((Z19 _ _ _).h _ g29) rfl rfl) ?_
   exact go
  exact go
 refine AW.cf hb26 rfl ?_
 refine zw ?_
 refine cnd h (fun hb32 h => ?_) fun hb32 h => ?_
 ·
  refine AW.ct hb32 rfl ?_
  refine zw ?_
  refine cnd h (fun hb33 h => ?_) fun hb33 h => ?_
  ·
   refine zw ?_
   refine ob' h fun r34 g35 h => ?_
   refine Ops.ghd (ns := []) rfl rfl rfl rfl hb33 rfl (Y24 ((Z19 _ _ _).h _ g35) rfl rfl) ?_
   exact go
  exact go
 exact go

def Z1v (x20 : Bool) : Option Bool := some x20
def Z1w (p0 : Y8z) : Option Bool := (Z1a p0.id).bind fun r2 => cond r2 ((Z18 p0.room 1 3).bind fun r5 => cond r5 ((Z1c p0.author).bind fun r8 => cond r8 ((Z1e p0.time).bind fun r11 => cond r11 ((Z1j p0.prev p0.id).bind fun r14 => cond r14 (cond ((p0.kind == 1) == ((p0.prev.length : Int) == 0)) ((Z1t p0).bind fun r18 => Z1v r18) (Z1v false)) (Z1v false)) (Z1v false)) (Z1v false)) (Z1v false)) (Z1v false)
instance Z1x (p0 : Y8z) : Sp Tryz.prog 226 [C.agg [cI p0.id, cI p0.room, cI p0.author, cI p0.kind, cI p0.key, cI p0.n, C.str p0.text, cM kI64 1 p0.prev, cI p0.time]] (Z1w p0) C.bool := sp Tryz.func226 rfl rfl fun r X h => by
 unfold Z1w at h
 refine zw ?_
 refine ox fun b1 => ?_
 refine zw ?_
 refine oc h fun r2 g3 h => ?_
 refine zw ?_
 refine cnd h (fun hb4 h => ?_) fun hb4 h => ?_
 ·
  refine zw ?_
  refine ob' h fun r5 g6 h => ?_
  refine Ops.ghd (ns := []) rfl rfl rfl rfl hb4 rfl (Y24 ((Z19 _ _ _).h _ g6) rfl rfl) ?_
  refine zw ?_
  refine cnd h (fun hb7 h => ?_) fun hb7 h => ?_
  ·
   refine zw ?_
   refine ob' h fun r8 g9 h => ?_
   refine Ops.ghd (ns := []) rfl rfl rfl rfl hb7 rfl (Y24 ((Z1d _).h _ g9) rfl rfl) ?_
   refine zw ?_
   refine cnd h (fun hb10 h => ?_) fun hb10 h => ?_
   ·
    refine zw ?_
    refine ob' h fun r11 g12 h => ?_
    refine Ops.ghd (ns := []) rfl rfl rfl rfl hb10 rfl (Y24 ((Z1f _).h _ g12) rfl rfl) ?_
    refine zw ?_
    refine cnd h (fun hb13 h => ?_) fun hb13 h => ?_
    ·
     refine zw ?_
     refine ob' h fun r14 g15 h => ?_
     refine Ops.ghd (ns := []) rfl rfl rfl rfl hb13 rfl (Y24 ((Z1k _ _).h _ g15) rfl rfl) ?_
     refine zw ?_
     refine cnd h (fun hb16 h => ?_) fun hb16 h => ?_
     ·
      refine zw ?_
      refine Ops.gv rfl rfl rfl rfl hb16 (Y10 un_4 rfl rfl rfl) ?_
      refine zw ?_
      refine cnd h (fun hb17 h => ?_) fun hb17 h => ?_
      ·
       refine zw ?_
       refine ob' h fun r18 g19 h => ?_
       refine Ops.ghd (ns := []) rfl rfl rfl rfl hb17 rfl (Y24 ((Z1u _).h _ g19) rfl rfl) ?_
       exact go
      exact go
     exact go
    exact go
   exact go
  exact go
 exact go

def Z1y : Option Bool := some true
def Z1z (x14 : Int) (x25 : Bool) : Option (Int ⊕ (Bool ⊕ Unit)) := cond x25 (some (.inr (.inl false))) (some (.inl (IntKind.i64.wrap (x14 + 1))))
def Z20 (p0 : List Y8z) (p1 : Int) (x14 : Int) : Option (Int ⊕ (Bool ⊕ Unit)) := cond (decide (x14 < (p0.length : Int))) ((getI p0 x14).bind fun e16 => (Z1w e16).bind fun r18 => cond r18 (cond (e16.room != p1) (Z1z x14 true) (cond (decide (x14 > 0)) ((getI p0 (IntKind.i64.wrap (x14 - 1))).bind fun e23 => Z1z x14 (decide (e23.id ≥ e16.id))) (Z1z x14 false))) (Z1z x14 true)) (some (.inr (.inr ())))
def Z21 (p0 : List Y8z) (p1 : Int) (p2 : Int) : Option Bool := cond (decide ((p0.length : Int) > p2)) (some false) ((iter (Z20 p0 p1) big 0).bind (fun z28 => match z28 with | .inl y27 => some y27 | .inr () => Z1y))
instance Z22 (p0 : List Y8z) (p1 : Int) (p2 : Int) : Sp Tryz.prog 176 [cM Y9b 9 p0, cI p1, cI p2] (Z21 p0 p1 p2) C.bool := sp Tryz.func176 rfl rfl fun r X h => by
 unfold Z21 at h
 refine zw ?_
 refine cnd h (fun hb1 h => go) fun hb1 h => ?_
 refine AW.cf hb1 rfl ?_
 refine zw ?_
 refine AW.lp (v := ()) h (fun x14 (_ : Unit) => ⟨[(0, cM Y9b 9 p0), (1, cI p1), (7, cI x14)], []⟩) (gb []) ?_
 rintro x14 _ y34 h
 refine zw ?_
 refine cnd h (fun hb15 h => ?_) fun hb15 h => ?_
 ·
  refine AW.ct hb15 rfl ?_
  refine zw ?_
  refine rD [] [3,11,24,29] [] [0,4,8,13,18,20,24,28,32,36,40,45,48,52,56,60,64,68,72,76,80,84,88,92,97,100,104,108,112,117,120,124,128] ?_
  exact go
 exact go

def Z23 : Option Int := some (-1)
def Z24 (p0 : List Y8z) (p1 : Int) (x5 : Int) : Option (Int ⊕ (Int ⊕ Unit)) := cond (decide (x5 < (p0.length : Int))) ((getI p0 x5).bind fun e7 => cond (e7.id == p1) (some (.inr (.inl x5))) (some (.inl (IntKind.i64.wrap (x5 + 1))))) (some (.inr (.inr ())))
def Z25 (p0 : List Y8z) (p1 : Int) : Option Int := (iter (Z24 p0 p1) big 0).bind (fun z11 => match z11 with | .inl y10 => some y10 | .inr () => Z23)
instance Z26 (p0 : List Y8z) (p1 : Int) : Sp Tryz.prog 107 [cM Y9b 9 p0, cI p1] (Z25 p0 p1) cI := sp Tryz.func107 rfl rfl fun r X h => by
 unfold Z25 at h
 refine zw ?_
 refine AW.lp (v := ()) h (fun x5 (_ : Unit) => ⟨[(0, cM Y9b 9 p0), (1, cI p1), (5, cI x5)], []⟩) (gb []) ?_
 rintro x5 _ y17 h
 exact go

def Z27 : Option Bool := some true
def Z28 (p0 : List Y8z) (p1 : Y8z) (x8 : Int) : Option (Int ⊕ (Bool ⊕ Unit)) := cond (decide (x8 < (p1.prev.length : Int))) ((getI p1.prev x8).bind fun e10 => (Z25 p0 e10).bind fun r12 => cond (decide (r12 < 0)) (some (.inr (.inl false))) (some (.inl (IntKind.i64.wrap (x8 + 1))))) (some (.inr (.inr ())))
def Z29 (p0 : List Y8z) (p1 : Y8z) : Option Bool := (iter (Z28 p0 p1) big 0).bind (fun z16 => match z16 with | .inl y15 => some y15 | .inr () => Z27)
instance Z2a (p0 : List Y8z) (p1 : Y8z) : Sp Tryz.prog 177 [cM Y9b 9 p0, C.agg [cI p1.id, cI p1.room, cI p1.author, cI p1.kind, cI p1.key, cI p1.n, C.str p1.text, cM kI64 1 p1.prev, cI p1.time]] (Z29 p0 p1) C.bool := sp Tryz.func177 rfl rfl fun r X h => by
 unfold Z29 at h
 refine zw ?_
 refine ox fun b1 => ?_
 refine zw ?_
 refine AW.lp (v := ()) h (fun x8 (_ : Unit) => ⟨[(0, cM Y9b 9 p0), (3, pt b1), (5, cI x8)], [oB b1 136 [cI p1.id, cI p1.room, cI p1.author, cI p1.kind, cI p1.key, cI p1.n, C.str p1.text, cM kI64 1 p1.prev, cI p1.time]]⟩) (gb [0]) ?_
 rintro x8 _ y22 h
 exact go

def Z2b (l161 : List Int) : Option (List Int) := some l161
def Z2c (x82 : Int) (l160 : List Int) : Option ((List Int × Int) ⊕ ((List Int))) := some (.inl (l160, (IntKind.i64.wrap (x82 + 1))))
def Z2d (x122 : Int) (l159 : List Int) : Option ((List Int × Int) ⊕ ((List Int))) := some (.inl (l159, (IntKind.i64.wrap (x122 + 1))))
def Z2e (l121 : List Int) (x122 : Int) (x156 : Int) (x157 : Bool) : Option ((List Int × Int) ⊕ ((List Int))) := cond x157 (Z2d x122 (List.set l121 (Int.toNat x122) (IntKind.i64.wrap (x156 + 1)))) (Z2d x122 l121)
def Z2f (x141 : Int) (x154 : Int) (x155 : Bool) : Option ((Int × Bool × Int) ⊕ ((Int × Bool))) := some (.inl (x154, x155, (IntKind.i64.wrap (x141 + 1))))
def Z2g (x139 : Int) (x141 : Int) (e149 : Int) (x152 : Bool) : Option ((Int × Bool × Int) ⊕ ((Int × Bool))) := cond (decide (e149 > x139)) (Z2f x141 e149 x152) (Z2f x141 x139 x152)
def Z2h (p0 : List Y8z) (l121 : List Int) (x122 : Int) (x139 : Int) (x140 : Bool) (x141 : Int) : Option ((Int × Bool × Int) ⊕ ((Int × Bool))) := (getI p0 x122).bind fun e142 => cond (decide (x141 < (e142.prev.length : Int))) ((getI e142.prev x141).bind fun e145 => (Z25 p0 e145).bind fun r147 => (getI l121 r147).bind fun e149 => cond x140 (Z2g x139 x141 e149 (decide (e149 > 0))) (Z2g x139 x141 e149 false)) (some (.inr (x139, x140)))
def Z2i (p0 : List Y8z) (l121 : List Int) (x122 : Int) : Option ((List Int × Int) ⊕ ((List Int))) := cond (decide (x122 < (p0.length : Int))) ((getI l121 x122).bind fun e124 => cond (decide (e124 > 0)) (Z2d x122 l121) ((iter (fun z163 => Z2h p0 l121 x122 z163.1 z163.2.1 z163.2.2) big (0, true, 0)).bind fun (y164, y165) => Z2e l121 x122 y164 y165)) (some (.inr l121))
def Z2j (p0 : List Y8z) (l81 : List Int) (x82 : Int) : Option ((List Int × Int) ⊕ ((List Int))) := cond (decide (x82 < (p0.length : Int))) ((iter (fun z166 => Z2i p0 z166.1 z166.2) big (l81, 0)).bind fun y167 => Z2c x82 y167) (some (.inr l81))
def Z2k (p0 : List Y8z) : Option (List Int) := (chk (decide (0 ≤ (p0.length : Int) ∧ (p0.length : Int) * 8 ≤ 140737488355328))).bind fun u2 => (iter (fun z168 => Z2j p0 z168.1 z168.2) big ((List.replicate (Int.toNat (p0.length : Int)) 0), 0)).bind fun y169 => Z2b y169
theorem Z2l (p0 : List Y8z) (r : List Int) (h : Z2k p0 = some r) : Ok Tryz.prog 178 [cM Y9b 9 p0] [] (fun c qs => ∃ (v162 : Value), c = cV v162 ∧ qs = [oA v162 2 kI64 1 r]) := by
 refine Ok.of_body (rs := [.tmp 2]) Tryz.func178 rfl rfl rfl rfl rfl fun X => ?_
 unfold Z2k at h
 refine zw ?_
 refine ob' h fun u2 c1 h => ?_
 refine Ops.h (ns := []) rfl rfl (Y3b (k := kI64) (z := 0) Yab ze_2 (Y42 rfl rfl) rfl rfl (Y3x c1).1 (Y3x c1).2 (Y3y (by decide) c1) rfl) ?_
 rintro _ _ ⟨b3, rfl, rfl⟩
 refine Ops.v rfl (Yr rfl rfl) ?_
 refine Ops.nil ?_
 refine AW.seq ?_
 refine AW.cut (τ := List Int) (fun l161 => ⟨[(3, cV (sn b3 (p0.length : Int)))], [oA (sn b3 (p0.length : Int)) 2 kI64 1 l161]⟩) (fun l161 => Z2b l161 = some r) ?_ ?_
 ·
  refine zw ?_
  refine AW.lp (v := ()) h (fun (l81, x82) (_ : Unit) => ⟨[(0, cM Y9b 9 p0), (3, cV (sn b3 (p0.length : Int))), (4, cI x82)], [oA (sn b3 (p0.length : Int)) 2 kI64 1 l81]⟩) (gb [0]) ?_
  rintro ⟨l81, x82⟩ _ y175 h
  refine zw ?_
  refine cnd h (fun hb83 h => ?_) fun hb83 h => ?_
  ·
   refine AW.ct hb83 rfl ?_
   refine zw ?_
   refine AW.lp (v := ()) h (fun (l121, x122) (_ : Unit) => ⟨[(0, cM Y9b 9 p0), (3, cV (sn b3 (p0.length : Int))), (4, cI x82), (5, cI x122)], [oA (sn b3 (p0.length : Int)) 2 kI64 1 l121]⟩) (gb [0]) ?_
   rintro ⟨l121, x122⟩ _ y182 h
   refine zw ?_
   refine cnd h (fun hb123 h => ?_) fun hb123 h => ?_
   ·
    refine AW.ct hb123 rfl ?_
    refine zw ?_
    refine oi h fun e124 g125 h => ?_
    refine Ops.v rfl (Y30 (p := 0) ld_2.h rfl rfl (Y29 g125).2.2 rfl rfl) ?_
    refine zw ?_
    refine cnd h (fun hb126 h => go) fun hb126 h => ?_
    refine AW.cf hb126 rfl ?_
    refine AW.skip ?_
    refine AW.seq ?_
    refine AW.region ?_
    refine Ops.v rfl (Yr rfl rfl) ?_
    refine Ops.nil ?_
    refine AW.seq ?_
    refine AW.region ?_
    refine Ops.v rfl (Yr rfl rfl) ?_
    refine Ops.nil ?_
    refine AW.seq ?_
    refine AW.cut (τ := Int × Bool) (fun (x156, x157) => ⟨[(0, cM Y9b 9 p0), (3, cV (sn b3 (p0.length : Int))), (4, cI x82), (5, cI x122), (6, cI x156), (7, C.bool x157)], [oA (sn b3 (p0.length : Int)) 2 kI64 1 l121]⟩) (fun (x156, x157) => Z2e l121 x122 x156 x157 = some y182) ?_ ?_
    ·
     refine zw ?_
     refine AW.lp (v := ()) h (fun (x139, x140, x141) (_ : Unit) => ⟨[(0, cM Y9b 9 p0), (3, cV (sn b3 (p0.length : Int))), (4, cI x82), (5, cI x122), (6, cI x139), (7, C.bool x140), (8, cI x141)], [oA (sn b3 (p0.length : Int)) 2 kI64 1 l121]⟩) (gb [0]) ?_
     rintro ⟨x139, x140, x141⟩ _ y189 h
     refine zw ?_
     refine oi h fun e142 g143 h => ?_
     refine zw ?_
     refine cnd h (fun hb144 h => ?_) fun hb144 h => ?_
     ·
      refine AW.ct hb144 rfl ?_
      refine zw ?_
      refine oi h fun e145 g146 h => ?_
      refine zw ?_
      refine oc h fun r147 g148 h => ?_
      refine oi h fun e149 g150 h => ?_
      refine Ops.v rfl (Y30 (p := 0) ld_2.h rfl rfl (Y29 g150).2.2 rfl rfl) ?_
      exact go
     exact go
    rintro ⟨x156, x157⟩ h
    replace h : Z2e l121 x122 x156 x157 = some y182 := h
    unfold Z2e at h
    refine zw ?_
    refine cnd h (fun hb158 h => ?_) fun hb158 h => ?_
    ·
     refine AW.ct hb158 rfl ?_
     refine zw ?_
     refine Ops.hd (ns := [0]) rfl rfl (Y33 (e' := (IntKind.i64.wrap (x156 + 1))) ld_2.h rfl rfl (One.val rfl) (Y29 g125).2.2 rfl rfl) ?_
     exact go
    exact go
   exact go
  exact go
 intro l161 h
 replace h : Z2b l161 = some r := h
 unfold Z2b at h
 refine zw ?_
 refine AW.ret ?_
 rw [← Wj h]
 exact ⟨[cV (sn b3 (p0.length : Int))], _, Y21.refl _, (.cons (.tmp rfl) .nil), [0], _, _, rfl, ⟨(sn b3 (p0.length : Int)), rfl, rfl⟩⟩
instance Z2l' (p0 : List Y8z) : Sp Tryz.prog 178 [cM Y9b 9 p0] (Z2k p0) (fun r => cM kI64 1 r) := ⟨fun r h => Ok.freeze (Z2l p0 r h) (by rintro c qs ⟨v162, rfl, rfl⟩; exact Frz.arr)⟩

def Z2m : Option Bool := some true
def Z2n (r46 : List Int) (x52 : Int) : Option (Int ⊕ (Bool ⊕ Unit)) := cond (decide (x52 < (r46.length : Int))) ((getI r46 x52).bind fun e54 => cond (e54 == 0) (some (.inr (.inl false))) (some (.inl (IntKind.i64.wrap (x52 + 1))))) (some (.inr (.inr ())))
def Z2o (p0 : Y92) : Option Bool := (Z2k p0.events).bind fun r46 => (iter (Z2n r46) big 0).bind (fun z58 => match z58 with | .inl y57 => some y57 | .inr () => Z2m)
def Z2p (p0 : Y92) (x39 : Int) : Option (Int ⊕ (Bool ⊕ Unit)) := cond (decide (x39 < (p0.parked.length : Int))) ((getI p0.parked x39).bind fun e41 => (Z29 p0.events e41).bind fun r43 => cond r43 (some (.inr (.inl false))) (some (.inl (IntKind.i64.wrap (x39 + 1))))) (some (.inr (.inr ())))
def Z2q (p0 : Y92) : Option Bool := (iter (Z2p p0) big 0).bind (fun z60 => match z60 with | .inl y59 => some y59 | .inr () => Z2o p0)
def Z2r (x22 : Int) (x31 : Bool) : Option (Int ⊕ (Bool ⊕ Unit)) := cond x31 (some (.inr (.inl false))) (some (.inl (IntKind.i64.wrap (x22 + 1))))
def Z2s (p0 : Y92) (x22 : Int) : Option (Int ⊕ (Bool ⊕ Unit)) := cond (decide (x22 < (p0.events.length : Int))) ((getI p0.events x22).bind fun e24 => (Z29 p0.events e24).bind fun r26 => cond r26 ((Z25 p0.parked e24.id).bind fun r29 => Z2r x22 (decide (r29 ≥ 0))) (Z2r x22 true)) (some (.inr (.inr ())))
def Z2t (p0 : Y92) (x10 : Bool) : Option Bool := cond x10 (some false) ((iter (Z2s p0) big 0).bind (fun z62 => match z62 with | .inl y61 => some y61 | .inr () => Z2q p0))
def Z2u (p0 : Y92) : Option Bool := (Z18 p0.room 1 3).bind fun r2 => cond r2 ((Z21 p0.events p0.room 60).bind fun r5 => cond r5 ((Z21 p0.parked p0.room 20).bind fun r8 => Z2t p0 (!r8)) (Z2t p0 true)) (Z2t p0 true)
instance Z2v (p0 : Y92) : Sp Tryz.prog 129 [C.agg [cI p0.room, cM Y9b 9 p0.events, cM Y9b 9 p0.parked]] (Z2u p0) C.bool := sp Tryz.func129 rfl rfl fun r X h => by
 unfold Z2u at h
 refine zw ?_
 refine ox fun b1 => ?_
 refine Ops.v rfl (Yr rfl rfl) ?_
 refine Ops.nil ?_
 refine AW.seq ?_
 refine AW.seq ?_
 refine AW.cut (τ := Bool) (fun x10 => ⟨[(1, pt b1), (26, C.bool x10)], [oB b1 139 [cI p0.room, cM Y9b 9 p0.events, cM Y9b 9 p0.parked]]⟩) (fun x10 => Z2t p0 x10 = some r) ?_ ?_
 ·
  refine zw ?_
  refine oc h fun r2 g3 h => ?_
  refine zw ?_
  refine cnd h (fun hb4 h => ?_) fun hb4 h => ?_
  ·
   refine zw ?_
   refine ob' h fun r5 g6 h => ?_
   refine Ops.ghd (ns := []) rfl rfl rfl rfl (Y3u hb4) rfl (Y24 ((Z22 _ _ _).h _ g6) rfl rfl) ?_
   refine zw ?_
   refine cnd h (fun hb7 h => ?_) fun hb7 h => ?_
   ·
    refine zw ?_
    refine ob' h fun r8 g9 h => ?_
    refine Ops.ghd (ns := []) rfl rfl rfl rfl (Y3u hb7) rfl (Y24 ((Z22 _ _ _).h _ g9) rfl rfl) ?_
    exact go
   exact go
  exact go
 intro x10 h
 replace h : Z2t p0 x10 = some r := h
 unfold Z2t at h
 refine cnd h (fun hb11 h => go) fun hb11 h => ?_
 refine AW.cf hb11 rfl ?_
 refine AW.skip ?_
 refine AW.seq ?_
 refine AW.cut (τ := Unit) (fun (_ : Unit) => ⟨[(1, pt b1)], [oB b1 139 [cI p0.room, cM Y9b 9 p0.events, cM Y9b 9 p0.parked]]⟩) (fun (_ : Unit) => Z2q p0 = some r) ?_ ?_
 ·
  refine zw ?_
  refine AW.lp (v := ()) h (fun x22 (_ : Unit) => ⟨[(1, pt b1), (3, cI x22)], [oB b1 139 [cI p0.room, cM Y9b 9 p0.events, cM Y9b 9 p0.parked]]⟩) (gb [0]) ?_
  rintro x22 _ y82 h
  refine zw ?_
  refine cnd h (fun hb23 h => ?_) fun hb23 h => ?_
  ·
   refine AW.ct hb23 rfl ?_
   refine zw ?_
   refine rD [0] [1,3,6,11,13,17] [] [0,5,8,13,16,20,25,30,32,36,40,45,48,53,56,60,64,69,74,76,80] ?_
   refine zw ?_
   refine di h fun e24 g25 h => ?_
   refine zw ?_
   refine dc h fun r26 g27 h => ?_
   refine zw ?_
   refine cnd h (fun hb28 h => ?_) fun hb28 h => ?_
   ·
    refine zw ?_
    refine ob' h fun r29 g30 h => ?_
    refine Y3n.gh (ns := []) rfl rfl rfl rfl rfl (Y3u hb28) rfl (Y24 ((Z26 _ _).h _ g30) rfl rfl) ?_
    rintro _ _ ⟨rfl, rfl⟩
    exact go
   refine OpsD.gs rfl rfl rfl rfl (.b rfl (Y3v hb28)) rfl rfl ?_
   refine OpsD.gs rfl rfl rfl rfl (.b rfl (Y3v hb28)) rfl rfl ?_
   refine OpsD.gs rfl rfl rfl rfl (.b rfl (Y3v hb28)) rfl rfl ?_
   refine OpsD.gs rfl rfl rfl rfl (.b rfl (Y3v hb28)) rfl rfl ?_
   refine OpsD.gs rfl rfl rfl rfl (.b rfl (Y3v hb28)) rfl rfl ?_
   refine OpsD.gs rfl rfl rfl rfl (.b rfl (Y3v hb28)) rfl rfl ?_
   refine OpsD.gs rfl rfl rfl rfl (.b rfl (Y3v hb28)) rfl rfl ?_
   refine OpsD.gs rfl rfl rfl rfl (.b rfl (Y3v hb28)) rfl rfl ?_
   refine OpsD.one ?_
   refine Y3n.gs rfl rfl rfl rfl (.b rfl (Y3v hb28)) rfl rfl ?_
   exact go
  exact go
 rintro ⟨⟩ h
 replace h : Z2q p0 = some r := h
 unfold Z2q at h
 refine AW.seq ?_
 refine AW.cut (τ := Unit) (fun (_ : Unit) => ⟨[(1, pt b1)], [oB b1 139 [cI p0.room, cM Y9b 9 p0.events, cM Y9b 9 p0.parked]]⟩) (fun (_ : Unit) => Z2o p0 = some r) ?_ ?_
 ·
  refine zw ?_
  refine AW.lp (v := ()) h (fun x39 (_ : Unit) => ⟨[(1, pt b1), (4, cI x39)], [oB b1 139 [cI p0.room, cM Y9b 9 p0.events, cM Y9b 9 p0.parked]]⟩) (gb [0]) ?_
  rintro x39 _ y75 h
  refine zw ?_
  refine cnd h (fun hb40 h => ?_) fun hb40 h => ?_
  ·
   refine AW.ct hb40 rfl ?_
   refine zw ?_
   refine rD [0] [1,3,6] [] [0,5,8,13,16,20,25,30] ?_
   exact go
  exact go
 rintro ⟨⟩ h
 replace h : Z2o p0 = some r := h
 unfold Z2o at h
 refine zw ?_
 refine oc h fun r46 g47 h => ?_
 refine zw ?_
 refine AW.lp (v := ()) h (fun x52 (_ : Unit) => ⟨[(5, cM kI64 1 r46), (6, cI x52)], []⟩) (gb []) ?_
 rintro x52 _ y68 h
 exact go

def Z2w (l69 : List Int) : Option (List Int) := some l69
def Z2x (x37 : Int) (l67 : List Int) : Option ((List Int × Int) ⊕ ((List Int))) := some (.inl (l67, (IntKind.i64.wrap (x37 + 1))))
def Z2y (x53 : Int) (l65 : List Int) : Option ((List Int × Int) ⊕ ((List Int))) := some (.inl (l65, (IntKind.i64.wrap (x53 + 1))))
def Z2z (p0 : Y92) (r2 : List Int) (x37 : Int) (l52 : List Int) (x53 : Int) : Option ((List Int × Int) ⊕ ((List Int))) := cond (decide (x53 < (p0.events.length : Int))) ((getI r2 x53).bind fun e55 => cond (e55 == x37) ((getI p0.events x53).bind fun e58 => (chk (decide ((l52.length + [e58.id].length) * 8 ≤ 140737488355328))).bind fun u62 => Z2y x53 (l52 ++ [e58.id])) (Z2y x53 l52)) (some (.inr l52))
def Z30 (p0 : Y92) (r2 : List Int) (l36 : List Int) (x37 : Int) : Option ((List Int × Int) ⊕ ((List Int))) := cond (decide ((l36.length : Int) < (p0.events.length : Int))) ((iter (fun z71 => Z2z p0 r2 x37 z71.1 z71.2) big (l36, 0)).bind fun y72 => Z2x x37 y72) (some (.inr l36))
def Z31 (p0 : Y92) : Option (List Int) := (Z2k p0.events).bind fun r2 => (iter (fun z73 => Z30 p0 r2 z73.1 z73.2) big (([] : List Int), 1)).bind fun y74 => Z2w y74
theorem Z32 (p0 : Y92) (r : List Int) (h : Z31 p0 = some r) : Ok Tryz.prog 227 [C.agg [cI p0.room, cM Y9b 9 p0.events, cM Y9b 9 p0.parked]] [] (fun c qs => ∃ (v70 : Value), c = cV v70 ∧ qs = [oA v70 2 kI64 1 r]) := by
 refine Ok.of_body (rs := [.tmp 2]) Tryz.func227 rfl rfl rfl rfl rfl fun X => ?_
 unfold Z31 at h
 refine zw ?_
 refine ox fun b1 => ?_
 refine zw ?_
 refine oc h fun r2 g3 h => ?_
 refine zw ?_
 refine Ops.h (ns := []) rfl rfl (Y39 (k := kI64) (ys := ([] : List Int)) Yab .nil rfl rfl rfl) ?_
 rintro _ _ ⟨b4, rfl, rfl⟩
 refine Ops.v rfl (Yr rfl rfl) ?_
 refine Ops.nil ?_
 refine AW.seq ?_
 refine AW.cut (τ := List Int × Value) (fun (l69, v68) => ⟨[(4, cV v68)], [oA v68 2 kI64 1 l69]⟩) (fun (l69, v68) => Z2w l69 = some r) ?_ ?_
 ·
  refine zw ?_
  refine AW.lp h (fun (l36, x37) (v35 : Value) => ⟨[(1, pt b1), (3, cM kI64 1 r2), (4, cV v35), (5, cI x37)], [oB b1 139 [cI p0.room, cM Y9b 9 p0.events, cM Y9b 9 p0.parked], oA v35 2 kI64 1 l36]⟩) (gb [1, 0]) ?_
  rintro ⟨l36, x37⟩ v35 y80 h
  refine zw ?_
  refine cnd h (fun hb38 h => ?_) fun hb38 h => ?_
  ·
   refine AW.ct hb38 rfl ?_
   refine zw ?_
   refine AW.lp h (fun (l52, x53) (v51 : Value) => ⟨[(1, pt b1), (3, cM kI64 1 r2), (4, cV v51), (5, cI x37), (6, cI x53)], [oB b1 139 [cI p0.room, cM Y9b 9 p0.events, cM Y9b 9 p0.parked], oA v51 2 kI64 1 l52]⟩) (gb [0, 0]) ?_
   rintro ⟨l52, x53⟩ v51 y87 h
   refine zw ?_
   refine cnd h (fun hb54 h => ?_) fun hb54 h => ?_
   ·
    refine AW.ct hb54 rfl ?_
    refine zw ?_
    refine oi h fun e55 g56 h => ?_
    refine zw ?_
    refine cnd h (fun hb57 h => ?_) fun hb57 h => ?_
    ·
     refine AW.ct hb57 rfl ?_
     refine zw ?_
     refine oi h fun e58 g59 h => ?_
     refine zw ?_
     refine Ops.h (ns := []) rfl rfl (Y39 (k := kI64) (ys := [e58.id]) Yab (.one rfl (One.val rfl) rfl rfl .nil) rfl rfl rfl) ?_
     rintro _ _ ⟨b60, rfl, rfl⟩
     refine ob' h fun u62 c61 h => ?_
     refine Ops.h (ns := [2, 0]) rfl rfl (Y2s Yab rfl rfl (Wo (Y3t c61)) (Y3w (by decide) c61) rfl) ?_
     rintro _ _ ⟨v63, rfl, rfl⟩
     exact go
    exact go
   exact go
  exact go
 rintro ⟨l69, v68⟩ h
 replace h : Z2w l69 = some r := h
 unfold Z2w at h
 refine zw ?_
 refine AW.ret ?_
 rw [← Wj h]
 exact ⟨[cV v68], _, Y21.refl _, (.cons (.tmp rfl) .nil), [0], _, _, rfl, ⟨v68, rfl, rfl⟩⟩
instance Z32' (p0 : Y92) : Sp Tryz.prog 227 [C.agg [cI p0.room, cM Y9b 9 p0.events, cM Y9b 9 p0.parked]] (Z31 p0) (fun r => cM kI64 1 r) := ⟨fun r h => Ok.freeze (Z32 p0 r h) (by rintro c qs ⟨v70, rfl, rfl⟩; exact Frz.arr)⟩

def Z33 : Option Int := some 0
def Z34 (p0 : List Y94) (x9 : Int) (x14 : Bool) : Option (Int ⊕ (Int ⊕ Unit)) := cond x14 ((getI p0 x9).bind fun e16 => some (.inr (.inl e16.id))) (some (.inl (IntKind.i64.wrap (x9 + 1))))
def Z35 (p0 : List Y94) (p1 : Int) (p2 : Int) (x9 : Int) : Option (Int ⊕ (Int ⊕ Unit)) := cond (decide (x9 < (p0.length : Int))) ((getI p0 x9).bind fun e11 => cond (e11.kind == p1) (Z34 p0 x9 (e11.key == p2)) (Z34 p0 x9 false)) (some (.inr (.inr ())))
def Z36 (p0 : List Y94) (p1 : Int) (p2 : Int) : Option Int := (iter (Z35 p0 p1 p2) big 0).bind (fun z19 => match z19 with | .inl y18 => some y18 | .inr () => Z33)
instance Z37 (p0 : List Y94) (p1 : Int) (p2 : Int) : Sp Tryz.prog 263 [cM Y9j 3 p0, cI p1, cI p2] (Z36 p0 p1 p2) cI := sp Tryz.func263 rfl rfl fun r X h => by
 unfold Z36 at h
 refine zw ?_
 refine AW.lp (v := ()) h (fun x9 (_ : Unit) => ⟨[(0, cM Y9j 3 p0), (1, cI p1), (2, cI p2), (7, cI x9)], []⟩) (gb []) ?_
 rintro x9 _ y25 h
 exact go

def Z38 : Option Bool := some true
def Z39 (p0 : List (List Y94)) (p1 : Y94) (x8 : Int) : Option (Int ⊕ (Bool ⊕ Unit)) := cond (decide (x8 < (p0.length : Int))) ((getI p0 x8).bind fun e10 => (Z36 e10 p1.kind p1.key).bind fun r12 => cond (r12 != p1.id) (some (.inr (.inl false))) (some (.inl (IntKind.i64.wrap (x8 + 1))))) (some (.inr (.inr ())))
def Z3a (p0 : List (List Y94)) (p1 : Y94) : Option Bool := (iter (Z39 p0 p1) big 0).bind (fun z16 => match z16 with | .inl y15 => some y15 | .inr () => Z38)
instance Z3b (p0 : List (List Y94)) (p1 : Y94) : Sp Tryz.prog 231 [cM Y9k 1 p0, C.agg [cI p1.kind, cI p1.key, cI p1.id]] (Z3a p0 p1) C.bool := sp Tryz.func231 rfl rfl fun r X h => by
 unfold Z3a at h
 refine zw ?_
 refine ox fun b1 => ?_
 refine zw ?_
 refine AW.lp (v := ()) h (fun x8 (_ : Unit) => ⟨[(0, cM Y9k 1 p0), (3, pt b1), (5, cI x8)], [oB b1 106 [cI p1.kind, cI p1.key, cI p1.id]]⟩) (gb [0]) ?_
 rintro x8 _ y22 h
 refine zw ?_
 refine cnd h (fun hb9 h => ?_) fun hb9 h => ?_
 ·
  refine AW.ct hb9 rfl ?_
  refine zw ?_
  refine rD [0] [3,5,7,10] [] [0,4,8,13,16,21,24,29,36,41,34,44] ?_
  exact go
 exact go

def Z3c (l35 : List Y94) : Option (List Y94) := some l35
def Z3d (x19 : Int) (l33 : List Y94) : Option ((List Y94 × Int) ⊕ ((List Y94))) := some (.inl (l33, (IntKind.i64.wrap (x19 + 1))))
def Z3e (p0 : List Y94) (l18 : List Y94) (x19 : Int) (x24 : Bool) : Option ((List Y94 × Int) ⊕ ((List Y94))) := cond x24 ((getI p0 x19).bind fun e26 => (chk (decide ((l18.length + [e26].length) * 24 ≤ 140737488355328))).bind fun u30 => Z3d x19 (l18 ++ [e26])) (Z3d x19 l18)
def Z3f (p0 : List Y94) (p1 : Y94) (l18 : List Y94) (x19 : Int) : Option ((List Y94 × Int) ⊕ ((List Y94))) := cond (decide (x19 < (p0.length : Int))) ((getI p0 x19).bind fun e21 => cond (e21.kind != p1.kind) (Z3e p0 l18 x19 true) (Z3e p0 l18 x19 (e21.key != p1.key))) (some (.inr l18))
def Z3g (p0 : List Y94) (p1 : Y94) : Option (List Y94) := (iter (fun z37 => Z3f p0 p1 z37.1 z37.2) big (([] : List Y94), 0)).bind fun y38 => Z3c y38
theorem Z3h (p0 : List Y94) (p1 : Y94) (r : List Y94) (h : Z3g p0 p1 = some r) : Ok Tryz.prog 279 [cM Y9j 3 p0, C.agg [cI p1.kind, cI p1.key, cI p1.id]] [] (fun c qs => ∃ (v36 : Value), c = cV v36 ∧ qs = [oA v36 106 Y9j 3 r]) := by
 refine Ok.of_body (rs := [.tmp 4]) Tryz.func279 rfl rfl rfl rfl rfl fun X => ?_
 unfold Z3g at h
 refine zw ?_
 refine ox fun b1 => ?_
 refine zw ?_
 refine Ops.h (ns := []) rfl rfl (Y39 (k := Y9j) (ys := ([] : List Y94)) Ybt .nil rfl rfl rfl) ?_
 rintro _ _ ⟨b2, rfl, rfl⟩
 refine Ops.v rfl (Yr rfl rfl) ?_
 refine Ops.nil ?_
 refine AW.seq ?_
 refine AW.cut (τ := List Y94 × Value) (fun (l35, v34) => ⟨[(5, cV v34)], [oA v34 106 Y9j 3 l35]⟩) (fun (l35, v34) => Z3c l35 = some r) ?_ ?_
 ·
  refine zw ?_
  refine AW.lp h (fun (l18, x19) (v17 : Value) => ⟨[(0, cM Y9j 3 p0), (3, pt b1), (5, cV v17), (6, cI x19)], [oB b1 106 [cI p1.kind, cI p1.key, cI p1.id], oA v17 106 Y9j 3 l18]⟩) (gb [1, 0]) ?_
  rintro ⟨l18, x19⟩ v17 y44 h
  refine zw ?_
  refine cnd h (fun hb20 h => ?_) fun hb20 h => ?_
  ·
   refine AW.ct hb20 rfl ?_
   refine AW.skip ?_
   refine AW.seq ?_
   refine AW.block ?_
   refine AW.seq ?_
   refine AW.cut (τ := Bool) (fun x24 => ⟨[(0, cM Y9j 3 p0), (3, pt b1), (5, cV v17), (6, cI x19), (31, C.bool x24)], [oB b1 106 [cI p1.kind, cI p1.key, cI p1.id], oA v17 106 Y9j 3 l18]⟩) (fun x24 => Z3e p0 l18 x19 x24 = some y44) ?_ ?_
   ·
    refine rD [0,0] [4,6,13,15] [] [0,4,8,12,17,20,25,28,32,36,40,44,48,53,56,61,64,68] ?_
    exact go
   intro x24 h
   replace h : Z3e p0 l18 x19 x24 = some y44 := h
   unfold Z3e at h
   refine cnd h (fun hb25 h => ?_) fun hb25 h => ?_
   ·
    refine AW.ct hb25 rfl ?_
    refine zw ?_
    refine oi h fun e26 g27 h => ?_
    refine zw ?_
    refine Ops.h (ns := []) rfl rfl (Y39 (k := Y9j) (ys := [e26]) Ybt (.agg rfl rfl .nil) rfl rfl rfl) ?_
    rintro _ _ ⟨b28, rfl, rfl⟩
    refine ob' h fun u30 c29 h => ?_
    refine Ops.h (ns := [2, 0]) rfl rfl (Y2s Ybt rfl rfl (Wo (Y3t c29)) (Y3w (by decide) c29) rfl) ?_
    rintro _ _ ⟨v31, rfl, rfl⟩
    exact go
   exact go
  exact go
 rintro ⟨l35, v34⟩ h
 replace h : Z3c l35 = some r := h
 unfold Z3c at h
 refine zw ?_
 refine AW.ret ?_
 rw [← Wj h]
 exact ⟨[cV v34], _, Y21.refl _, (.cons (.tmp rfl) .nil), [0], _, _, rfl, ⟨v34, rfl, rfl⟩⟩
instance Z3h' (p0 : List Y94) (p1 : Y94) : Sp Tryz.prog 279 [cM Y9j 3 p0, C.agg [cI p1.kind, cI p1.key, cI p1.id]] (Z3g p0 p1) (fun r => cM Y9j 3 r) := ⟨fun r h => Ok.freeze (Z3h p0 p1 r h) (by rintro c qs ⟨v36, rfl, rfl⟩; exact Frz.arr)⟩

def Z3i (x5 : Bool) : Option Bool := some x5
def Z3j (p0 : Y94) (p1 : Y94) : Option Bool := cond (decide (p0.kind < p1.kind)) (Z3i true) (cond (p0.kind == p1.kind) (Z3i (decide (p0.key < p1.key))) (Z3i false))
instance Z3k (p0 : Y94) (p1 : Y94) : Sp Tryz.prog 280 [C.agg [cI p0.kind, cI p0.key, cI p0.id], C.agg [cI p1.kind, cI p1.key, cI p1.id]] (Z3j p0 p1) C.bool := sp Tryz.func280 rfl rfl fun r X h => go

def Z3l (p1 : Y94) (r2 : List Y94) (x19 : Int) : Option (List Y94) := (Y28 r2 0 x19).bind fun s21 => (chk (decide ((([] : List Y94).length + s21.length) * 24 ≤ 140737488355328))).bind fun u24 => (chk (decide (((([] : List Y94) ++ s21).length + [p1].length) * 24 ≤ 140737488355328))).bind fun u28 => (Y28 r2 x19 (r2.length : Int)).bind fun s30 => (chk (decide ((((([] : List Y94) ++ s21) ++ [p1]).length + s30.length) * 24 ≤ 140737488355328))).bind fun u33 => some (((([] : List Y94) ++ s21) ++ [p1]) ++ s30)
def Z3m (x11 : Int) (x17 : Bool) : Option (Int ⊕ (Int)) := cond x17 (some (.inl (IntKind.i64.wrap (x11 + 1)))) (some (.inr x11))
def Z3n (p1 : Y94) (r2 : List Y94) (x11 : Int) : Option (Int ⊕ (Int)) := cond (decide (x11 < (r2.length : Int))) ((getI r2 x11).bind fun e13 => (Z3j e13 p1).bind fun r15 => Z3m x11 r15) (Z3m x11 false)
def Z3o (p0 : List Y94) (p1 : Y94) : Option (List Y94) := (Z3g p0 p1).bind fun r2 => (iter (Z3n p1 r2) big 0).bind fun y36 => Z3l p1 r2 y36
theorem Z3p (p0 : List Y94) (p1 : Y94) (r : List Y94) (h : Z3o p0 p1 = some r) : Ok Tryz.prog 230 [cM Y9j 3 p0, C.agg [cI p1.kind, cI p1.key, cI p1.id]] [] (fun c qs => ∃ (v35 : Value), c = cV v35 ∧ qs = [oA v35 106 Y9j 3 r]) := by
 refine Ok.of_body (rs := [.tmp 4]) Tryz.func230 rfl rfl rfl rfl rfl fun X => ?_
 unfold Z3o at h
 refine zw ?_
 refine ox fun b1 => ?_
 refine zw ?_
 refine oc h fun r2 g3 h => ?_
 refine Ops.v rfl (Yr rfl rfl) ?_
 refine Ops.nil ?_
 refine AW.seq ?_
 refine AW.region ?_
 refine Ops.v rfl (Yr rfl rfl) ?_
 refine Ops.nil ?_
 refine AW.seq ?_
 refine AW.cut (τ := Int) (fun x19 => ⟨[(3, pt b1), (5, cM Y9j 3 r2), (6, cI x19)], [oB b1 106 [cI p1.kind, cI p1.key, cI p1.id]]⟩) (fun x19 => Z3l p1 r2 x19 = some r) ?_ ?_
 ·
  refine zw ?_
  refine AW.lp (v := ()) h (fun x11 (_ : Unit) => ⟨[(3, pt b1), (5, cM Y9j 3 r2), (6, cI x11)], [oB b1 106 [cI p1.kind, cI p1.key, cI p1.id]]⟩) (gb [0]) ?_
  rintro x11 _ y42 h
  refine zw ?_
  refine rD [0] [8,9] [] [0,4,8,12,16,20,24,28,33,37,42,44] ?_
  refine zw ?_
  refine cnd h (fun hb12 h => ?_) fun hb12 h => ?_
  ·
   refine zw ?_
   refine ob' h fun e13 g14 h => ?_
   refine zw ?_
   refine ob' h fun r15 g16 h => ?_
   refine Y3n.gh (ns := []) rfl rfl rfl rfl rfl hb12 rfl (Y24 ((Z3k _ _).h _ g16) rfl rfl) ?_
   rintro _ _ ⟨rfl, rfl⟩
   exact go
  refine OpsD.gs rfl rfl rfl rfl (.b rfl hb12) rfl rfl ?_
  refine OpsD.gs rfl rfl rfl rfl (.b rfl hb12) rfl rfl ?_
  refine OpsD.gs rfl rfl rfl rfl (.b rfl hb12) rfl rfl ?_
  refine OpsD.gs rfl rfl rfl rfl (.b rfl hb12) rfl rfl ?_
  refine OpsD.gs rfl rfl rfl rfl (.b rfl hb12) rfl rfl ?_
  refine OpsD.one ?_
  refine Y3n.gs rfl rfl rfl rfl (.b rfl hb12) rfl rfl ?_
  exact go
 intro x19 h
 replace h : Z3l p1 r2 x19 = some r := h
 unfold Z3l at h
 refine zw ?_
 refine Ops.h (ns := []) rfl rfl (Y39 (k := Y9j) (ys := ([] : List Y94)) Ybt .nil rfl rfl rfl) ?_
 rintro _ _ ⟨b20, rfl, rfl⟩
 refine zw ?_
 refine ob' h fun s21 g22 h => ?_
 refine Ops.v rfl (Y2l Ybn.h rfl rfl g22 rfl) ?_
 refine ob' h fun u24 c23 h => ?_
 refine Ops.h (ns := [0]) rfl rfl (Y2r Ybt rfl rfl (Wo (Y3t c23)) (Y3w (by decide) c23) rfl) ?_
 rintro _ _ ⟨v25, rfl, rfl⟩
 refine zw ?_
 refine Ops.h (ns := []) rfl rfl (Y39 (k := Y9j) (ys := [p1]) Ybt (.agg rfl rfl .nil) rfl rfl rfl) ?_
 rintro _ _ ⟨b26, rfl, rfl⟩
 refine ob' h fun u28 c27 h => ?_
 refine Ops.h (ns := [1, 0]) rfl rfl (Y2s Ybt rfl rfl (Wo (Y3t c27)) (Y3w (by decide) c27) rfl) ?_
 rintro _ _ ⟨v29, rfl, rfl⟩
 refine zw ?_
 refine ob' h fun s30 g31 h => ?_
 refine Ops.v rfl (Y2k Ybn.h rfl rfl g31 rfl) ?_
 refine ob' h fun u33 c32 h => ?_
 refine Ops.h (ns := [0]) rfl rfl (Y2r Ybt rfl rfl (Wo (Y3t c32)) (Y3w (by decide) c32) rfl) ?_
 rintro _ _ ⟨v34, rfl, rfl⟩
 refine zw ?_
 refine AW.ret ?_
 rw [← Wj h]
 exact ⟨[cV v34], _, Y21.refl _, (.cons (.tmp rfl) .nil), [0], _, _, rfl, ⟨v34, rfl, rfl⟩⟩
instance Z3p' (p0 : List Y94) (p1 : Y94) : Sp Tryz.prog 230 [cM Y9j 3 p0, C.agg [cI p1.kind, cI p1.key, cI p1.id]] (Z3o p0 p1) (fun r => cM Y9j 3 r) := ⟨fun r h => Ok.freeze (Z3p p0 p1 r h) (by rintro c qs ⟨v35, rfl, rfl⟩; exact Frz.arr)⟩

end Go.Proofs.YtbgichfjcnibpaaGreat
