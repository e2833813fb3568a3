/- Printed by gen.py: plain functions for Go functions, and that the walks keep to them. -/
import Derived.Test.YtmaefakalikkiaaGreatKBG
import Derived.Test.YtmaefakalikkiaaGreatKSorts
import Derived.Test.YtmaefakalikkiaaGreatKX
import Derived.Test.YtmaefakalikkiaaGreatKL
import Derived.Test.YtmaefakalikkiaaGreatChecked
set_option autoImplicit false
set_option linter.unusedVariables false
set_option linter.unusedSimpArgs false
set_option maxHeartbeats 8000000
set_option maxRecDepth 100000
namespace Go.Proofs.YtmaefakalikkiaaGreat
open Go Go.Abs
attribute [local irreducible] AW Ops OpsD Y3z VoK HoK GhF UsC Go.Abs.Fin PkK LenT LenL Y9k BldK FzK FzLK
structure Y9v where
  id : Int
  room : Int
  author : Int
  kind : Int
  key : Int
  n : Int
  text : ByteArray
  prev : List Int
  time : Int
structure Y9w where
  room : Int
  events : List Y9v
  parked : List Y9v
structure Y9x where
  room : Int
  id : Int
structure THub where
  rooms : List Y9w
  stream : List Y9x
structure Y9y where
  room : Int
  events : List Y9v
  parked : List Y9v
structure Y9z where
  rooms : List Y9y
  stream : List Y9x
structure Ya0 where
  kind : Int
  key : Int
  id : Int
structure Ya1 where
  depths : List Int
  ahead : List (List Ya0)
  behind : List (List Ya0)
  code : List Int
structure Ya2 where
  h : Y9z
  rooms : List Ya1
  pos : List (List Int)
  now : List (List Ya0)
structure Ya3 where
  event : Y9v
  hidden : Bool
structure Ya4 where
  graph : Y9y
  depth : List (Int × Int)
  before : List (Int × List Ya0)
  after : List (Int × List Ya0)
  refused : List (Int × Int)
structure Ya5 where
  hub : Y9z
  rooms : List Ya4
def kI64 (x : Int) : List C := [cI x]
def Ya6 (x : Y9v) : List C := [cI x.id, cI x.room, cI x.author, cI x.kind, cI x.key, cI x.n, C.str x.text, cM kI64 1 x.prev, cI x.time]
def Ya7 (x : Y9w) : List C := [cI x.room, cM Ya6 9 x.events, cM Ya6 9 x.parked]
def Ya8 (x : Y9x) : List C := [cI x.room, cI x.id]
def Ya9 (x : Y9v) (u : Value) : List C := [cI x.id, cI x.room, cI x.author, cI x.kind, cI x.key, cI x.n, C.str x.text, cV u, cI x.time]
def Yaa (x : Y9v) (u : Value) : List Abs.Obj := [oA u 2 kI64 1 x.prev]
def Yab (x : Y9y) : List C := [cI x.room, cM Ya6 9 x.events, cM Ya6 9 x.parked]
def Yac (x : Y9y) (u : Value × Value) : List C := [cI x.room, cV u.1, cV u.2]
def Yad (x : Y9y) (u : Value × Value) : List Abs.Obj := [Obj.deep u.1 42 Ya9 Yaa 9 x.events, Obj.deep u.2 42 Ya9 Yaa 9 x.parked]
def Yae (x : Ya0) : List C := [cI x.kind, cI x.key, cI x.id]
def Yaf (x : List Ya0) : List C := [cM Yae 3 x]
def Yag (x : Bool) : List C := [C.bool x]
def Yah (x : Ya1) : List C := [cM kI64 1 x.depths, cM Yaf 1 x.ahead, cM Yaf 1 x.behind, cM kI64 1 x.code]
def Yai (x : Ya1) : List C := [C.ip [cM kI64 1 x.depths, cM Yaf 1 x.ahead, cM Yaf 1 x.behind, cM kI64 1 x.code]]
def Yaj (x : List Int) : List C := [cM kI64 1 x]
abbrev Yak (x : Int) : C := cI x
abbrev Yal (x : List Ya0) : C := cM Yae 3 x
abbrev Yam (x : Bool) : C := C.bool x
def Yan (x : Ya4) : List C := [cI x.graph.room, cM Ya6 9 x.graph.events, cM Ya6 9 x.graph.parked, C.imap .i64 Yak x.depth, C.imap .i64 Yal x.before, C.imap .i64 Yal x.after, C.imap .i64 Yak x.refused]
def Yao (x : Ya4) : List C := [C.ip [cI x.graph.room, cM Ya6 9 x.graph.events, cM Ya6 9 x.graph.parked, C.imap .i64 Yak x.depth, C.imap .i64 Yal x.before, C.imap .i64 Yal x.after, C.imap .i64 Yak x.refused]]
def kU8 (x : Int) : List C := [cV (.int .u8 x)]
def Yap (x : Y9z) : List C := [cM Yab 3 x.rooms, cM Ya8 2 x.stream]
def Yaq (x : Ya2) : List C := [cM Yab 3 x.h.rooms, cM Ya8 2 x.h.stream, cM Yai 1 x.rooms, cM Yaj 1 x.pos, cM Yaf 1 x.now]
def Yar (x : Ya3) : List C := [cI x.event.id, cI x.event.room, cI x.event.author, cI x.event.kind, cI x.event.key, cI x.event.n, C.str x.event.text, cM kI64 1 x.event.prev, cI x.event.time, C.bool x.hidden]
def Yas (x : Ya5) : List C := [cM Yab 3 x.hub.rooms, cM Ya8 2 x.hub.stream, cM Yao 1 x.rooms]
def kHub (x : THub) : List C := [cM Ya7 3 x.rooms, cM Ya8 2 x.stream]
instance Yat : SlI Tryz.prog 39 2 1 8 := ⟨by kernel_rfl⟩
instance Yau : FldI Tryz.prog 372 6 6 := ⟨by kernel_rfl⟩
instance ld_9 : LdI Tryz.prog 9 false 1 := ⟨by kernel_rfl⟩
theorem un_9 : Tryz.prog.underlying 9 = some .string := by kernel_rfl
instance : UnI Tryz.prog 9 .string := ⟨un_9⟩
instance Yav : FldI Tryz.prog 372 7 7 := ⟨by kernel_rfl⟩
instance Yaw : LdI Tryz.prog 39 false 1 := ⟨by kernel_rfl⟩
instance Yax : SlI Tryz.prog 295 372 9 96 := ⟨by kernel_rfl⟩
instance Yay : LdI Tryz.prog 372 true 9 := ⟨by kernel_rfl⟩
instance Yaz : FldI Tryz.prog 297 1 1 := ⟨by kernel_rfl⟩
instance Yb0 : LdI Tryz.prog 295 false 1 := ⟨by kernel_rfl⟩
instance Yb1 : FldI Tryz.prog 297 2 2 := ⟨by kernel_rfl⟩
instance Yb2 : SlI Tryz.prog 74 297 3 56 := ⟨by kernel_rfl⟩
instance Yb3 : LdI Tryz.prog 297 true 3 := ⟨by kernel_rfl⟩
instance Yb4 : SlI Tryz.prog 75 303 2 16 := ⟨by kernel_rfl⟩
instance Yb5 : FldI Tryz.prog 77 0 0 := ⟨by kernel_rfl⟩
instance Yb6 : LdI Tryz.prog 74 false 1 := ⟨by kernel_rfl⟩
instance Yb7 : FldI Tryz.prog 77 1 1 := ⟨by kernel_rfl⟩
instance Yb8 : LdI Tryz.prog 75 false 1 := ⟨by kernel_rfl⟩
theorem Yb9 : Y30 Tryz.prog 39 = some (2, 1, 8) := by kernel_rfl
theorem ze_2 : Y1c Tryz.prog 2 = some [.int .i64 0] := by kernel_rfl
instance : AlI Tryz.prog 2 [.int .i64 0] [cV (.int .i64 0)] := ⟨ze_2, Y4e rfl rfl⟩
instance ld_2 : LdI Tryz.prog 2 false 1 := ⟨by kernel_rfl⟩
theorem Yba : Y1c Tryz.prog 42 = some [.int .i64 0, .int .i64 0, .int .i64 0, .int .i64 0, .int .i64 0, .int .i64 0, .string ByteArray.empty, .slice none 0 0, .int .i64 0] := by kernel_rfl
instance : AlI Tryz.prog 42 [.int .i64 0, .int .i64 0, .int .i64 0, .int .i64 0, .int .i64 0, .int .i64 0, .string ByteArray.empty, .slice none 0 0, .int .i64 0] [cV (.int .i64 0), cV (.int .i64 0), cV (.int .i64 0), cV (.int .i64 0), cV (.int .i64 0), cV (.int .i64 0), cV (.string ByteArray.empty), cV s0, cV (.int .i64 0)] := ⟨Yba, Y4e rfl rfl⟩
instance Ybb : FldI Tryz.prog 372 0 0 := ⟨by kernel_rfl⟩
instance Ybc : FldI Tryz.prog 42 0 0 := ⟨by kernel_rfl⟩
instance Ybd : FldI Tryz.prog 372 1 1 := ⟨by kernel_rfl⟩
instance Ybe : FldI Tryz.prog 42 1 1 := ⟨by kernel_rfl⟩
instance Ybf : FldI Tryz.prog 372 2 2 := ⟨by kernel_rfl⟩
instance Ybg : FldI Tryz.prog 42 2 2 := ⟨by kernel_rfl⟩
instance Ybh : FldI Tryz.prog 372 3 3 := ⟨by kernel_rfl⟩
instance Ybi : FldI Tryz.prog 42 3 3 := ⟨by kernel_rfl⟩
instance Ybj : FldI Tryz.prog 372 4 4 := ⟨by kernel_rfl⟩
instance Ybk : FldI Tryz.prog 42 4 4 := ⟨by kernel_rfl⟩
instance Ybl : FldI Tryz.prog 372 5 5 := ⟨by kernel_rfl⟩
instance Ybm : FldI Tryz.prog 42 5 5 := ⟨by kernel_rfl⟩
instance Ybn : FldI Tryz.prog 42 6 6 := ⟨by kernel_rfl⟩
instance Ybo : FldI Tryz.prog 42 7 7 := ⟨by kernel_rfl⟩
instance Ybp : FldI Tryz.prog 372 8 8 := ⟨by kernel_rfl⟩
instance Ybq : FldI Tryz.prog 42 8 8 := ⟨by kernel_rfl⟩
instance Ybr : LdI Tryz.prog 42 true 9 := ⟨by kernel_rfl⟩
theorem Ybs : Y30 Tryz.prog 23 = some (42, 9, 96) := by kernel_rfl
theorem Ybt : ∀ x, Y4h (kI64 x) := fun x => (Y4h.cons (Y4g.val _) (Y4h.nil) : Y4h [cI x])
theorem Ybu : ∀ x u, FrzL (Ya9 x u) (Yaa x u) (Ya6 x) := fun _ _ => (fS (fS (fS (fS (fS (fS (fS (FrzL.cons (os := [_]) Frz.arr (fS FrzL.nil)))))))))
theorem Ybv : ∀ x u, Y4h (Ya9 x u) := fun _ _ => (Y4h.cons (Y4g.val _) (Y4h.cons (Y4g.val _) (Y4h.cons (Y4g.val _) (Y4h.cons (Y4g.val _) (Y4h.cons (Y4g.val _) (Y4h.cons (Y4g.val _) (Y4h.cons (Y4g.val _) (Y4h.cons (Y4g.val _) (Y4h.cons (Y4g.val _) Y4h.nil)))))))))
theorem Ybw : ∀ x u, ∀ o ∈ Yaa x u, Y4i o := fun _ _ => (Y4k (Y4i.arr Ybt) Y4j)
instance Ybx : SlI Tryz.prog 23 42 9 96 := ⟨by kernel_rfl⟩
theorem Yby : Y1c Tryz.prog 25 = some [.int .i64 0, .slice none 0 0, .slice none 0 0] := by kernel_rfl
instance : AlI Tryz.prog 25 [.int .i64 0, .slice none 0 0, .slice none 0 0] [cV (.int .i64 0), cV s0, cV s0] := ⟨Yby, Y4e rfl rfl⟩
instance Ybz : FldI Tryz.prog 297 0 0 := ⟨by kernel_rfl⟩
instance Yc0 : FldI Tryz.prog 25 0 0 := ⟨by kernel_rfl⟩
instance Yc1 : FldI Tryz.prog 25 1 1 := ⟨by kernel_rfl⟩
instance Yc2 : LdI Tryz.prog 23 false 1 := ⟨by kernel_rfl⟩
instance Yc3 : FldI Tryz.prog 25 2 2 := ⟨by kernel_rfl⟩
instance Yc4 : LdI Tryz.prog 25 true 3 := ⟨by kernel_rfl⟩
theorem Yc5 : Y30 Tryz.prog 81 = some (25, 3, 56) := by kernel_rfl
theorem Yc6 : ∀ x u, FrzL (Yac x u) (Yad x u) (Yab x) := fun _ _ => (fS (FrzL.cons (os := [_]) (Frz.deep Ybu) (FrzL.cons (os := [_]) (Frz.deep Ybu) FrzL.nil)))
theorem Yc7 : ∀ x u, Y4h (Yac x u) := fun _ _ => (Y4h.cons (Y4g.val _) (Y4h.cons (Y4g.val _) (Y4h.cons (Y4g.val _) Y4h.nil)))
theorem Yc8 : ∀ x u, ∀ o ∈ Yad x u, Y4i o := fun _ _ => (Y4k (Y4i.deep Ybv Ybw) (Y4k (Y4i.deep Ybv Ybw) Y4j))
instance Yc9 : SlI Tryz.prog 81 25 3 56 := ⟨by kernel_rfl⟩
theorem Yca : Y1c Tryz.prog 187 = some [.int .i64 0, .int .i64 0] := by kernel_rfl
instance : AlI Tryz.prog 187 [.int .i64 0, .int .i64 0] [cV (.int .i64 0), cV (.int .i64 0)] := ⟨Yca, Y4e rfl rfl⟩
instance Ycb : FldI Tryz.prog 303 0 0 := ⟨by kernel_rfl⟩
instance Ycc : FldI Tryz.prog 187 0 0 := ⟨by kernel_rfl⟩
instance Ycd : FldI Tryz.prog 303 1 1 := ⟨by kernel_rfl⟩
instance Yce : FldI Tryz.prog 187 1 1 := ⟨by kernel_rfl⟩
instance Ycf : LdI Tryz.prog 187 true 2 := ⟨by kernel_rfl⟩
theorem Ycg : Y30 Tryz.prog 79 = some (187, 2, 16) := by kernel_rfl
instance Ych : LdI Tryz.prog 303 true 2 := ⟨by kernel_rfl⟩
instance Yci : SlI Tryz.prog 79 187 2 16 := ⟨by kernel_rfl⟩
theorem Ycj : Y1c Tryz.prog 83 = some [.slice none 0 0, .slice none 0 0] := by kernel_rfl
instance : AlI Tryz.prog 83 [.slice none 0 0, .slice none 0 0] [cV s0, cV s0] := ⟨Ycj, Y4e rfl rfl⟩
instance Yck : FldI Tryz.prog 83 0 0 := ⟨by kernel_rfl⟩
instance Ycl : LdI Tryz.prog 81 false 1 := ⟨by kernel_rfl⟩
instance Ycm : FldI Tryz.prog 83 1 1 := ⟨by kernel_rfl⟩
instance Ycn : LdI Tryz.prog 79 false 1 := ⟨by kernel_rfl⟩
instance Yco : LdI Tryz.prog 83 true 2 := ⟨by kernel_rfl⟩
theorem un_4 : Tryz.prog.underlying 4 = some .bool := by kernel_rfl
instance : UnI Tryz.prog 4 .bool := ⟨un_4⟩
instance Ycp : SlI Tryz.prog 29 136 3 24 := ⟨by kernel_rfl⟩
instance Ycq : FldI Tryz.prog 136 0 0 := ⟨by kernel_rfl⟩
instance Ycr : FldI Tryz.prog 136 1 1 := ⟨by kernel_rfl⟩
instance Ycs : FldI Tryz.prog 136 2 2 := ⟨by kernel_rfl⟩
instance Yct : SlI Tryz.prog 26 29 1 24 := ⟨by kernel_rfl⟩
instance Ycu : LdI Tryz.prog 29 false 1 := ⟨by kernel_rfl⟩
theorem Ycv : Y30 Tryz.prog 29 = some (136, 3, 24) := by kernel_rfl
instance Ycw : LdI Tryz.prog 136 true 3 := ⟨by kernel_rfl⟩
theorem Ycx : places Tryz.prog 42 = some [(0, 1), (1, 1), (2, 1), (3, 1), (4, 1), (5, 1), (6, 1), (7, 1), (8, 1)] := by kernel_rfl
instance : PlI Tryz.prog 42 [(0, 1), (1, 1), (2, 1), (3, 1), (4, 1), (5, 1), (6, 1), (7, 1), (8, 1)] := ⟨Ycx⟩
theorem Ycy : Y78 Tryz.prog 42 5 = some (5, 1, false) := by kernel_rfl
theorem Ycz : Y78 Tryz.prog 42 2 = some (2, 1, false) := by kernel_rfl
theorem Yd0 : ∀ x, Y4h (Yae x) := fun x => (Y4h.cons (Y4g.val _) (Y4h.cons (Y4g.val _) (Y4h.cons (Y4g.val _) (Y4h.nil))) : Y4h [cI x.kind, cI x.key, cI x.id])
theorem Yd1 : places Tryz.prog 136 = some [(0, 1), (1, 1), (2, 1)] := by kernel_rfl
instance : PlI Tryz.prog 136 [(0, 1), (1, 1), (2, 1)] := ⟨Yd1⟩
theorem Yd2 : Y1c Tryz.prog 136 = some [.int .i64 0, .int .i64 0, .int .i64 0] := by kernel_rfl
instance : AlI Tryz.prog 136 [.int .i64 0, .int .i64 0, .int .i64 0] [cV (.int .i64 0), cV (.int .i64 0), cV (.int .i64 0)] := ⟨Yd2, Y4e rfl rfl⟩
theorem Yd3 : Y30 Tryz.prog 151 = some (4, 1, 1) := by kernel_rfl
theorem ze_4 : Y1c Tryz.prog 4 = some [.bool false] := by kernel_rfl
instance : AlI Tryz.prog 4 [.bool false] [cV (.bool false)] := ⟨ze_4, Y4e rfl rfl⟩
theorem Yd4 : Y78 Tryz.prog 42 7 = some (7, 1, false) := by kernel_rfl
instance Yd5 : SlI Tryz.prog 151 4 1 1 := ⟨by kernel_rfl⟩
instance ld_4 : LdI Tryz.prog 4 false 1 := ⟨by kernel_rfl⟩
theorem Yd6 : Y30 Tryz.prog 26 = some (29, 1, 24) := by kernel_rfl
theorem Yd7 : Y1c Tryz.prog 29 = some [.slice none 0 0] := by kernel_rfl
instance : AlI Tryz.prog 29 [.slice none 0 0] [cV s0] := ⟨Yd7, Y4e rfl rfl⟩
theorem Yd8 : places Tryz.prog 146 = some [(0, 1), (1, 1), (2, 1), (3, 1)] := by kernel_rfl
instance : PlI Tryz.prog 146 [(0, 1), (1, 1), (2, 1), (3, 1)] := ⟨Yd8⟩
theorem Yd9 : Y1c Tryz.prog 146 = some [.slice none 0 0, .slice none 0 0, .slice none 0 0, .slice none 0 0] := by kernel_rfl
instance : AlI Tryz.prog 146 [.slice none 0 0, .slice none 0 0, .slice none 0 0, .slice none 0 0] [cV s0, cV s0, cV s0, cV s0] := ⟨Yd9, Y4e rfl rfl⟩
instance Yda : FldI Tryz.prog 146 2 2 := ⟨by kernel_rfl⟩
instance Ydb : LdI Tryz.prog 26 false 1 := ⟨by kernel_rfl⟩
instance Ydc : FldI Tryz.prog 146 1 1 := ⟨by kernel_rfl⟩
instance Ydd : FldI Tryz.prog 146 0 0 := ⟨by kernel_rfl⟩
instance Yde : FldI Tryz.prog 146 3 3 := ⟨by kernel_rfl⟩
theorem Ydf : places Tryz.prog 208 = some [(0, 2), (2, 1), (3, 1), (4, 1)] := by kernel_rfl
instance : PlI Tryz.prog 208 [(0, 2), (2, 1), (3, 1), (4, 1)] := ⟨Ydf⟩
theorem Ydg : Y1c Tryz.prog 208 = some [.slice none 0 0, .slice none 0 0, .slice none 0 0, .slice none 0 0, .slice none 0 0] := by kernel_rfl
instance : AlI Tryz.prog 208 [.slice none 0 0, .slice none 0 0, .slice none 0 0, .slice none 0 0, .slice none 0 0] [cV s0, cV s0, cV s0, cV s0, cV s0] := ⟨Ydg, Y4e rfl rfl⟩
instance Ydh : FldI Tryz.prog 208 1 2 := ⟨by kernel_rfl⟩
instance Ydi : LdI Tryz.prog 205 false 1 := ⟨by kernel_rfl⟩
theorem Ydj : Y30 Tryz.prog 205 = some (147, 1, 8) := by kernel_rfl
instance Ydk : FldI Tryz.prog 208 3 4 := ⟨by kernel_rfl⟩
instance Ydl : FldI Tryz.prog 208 2 3 := ⟨by kernel_rfl⟩
instance Ydm : LdI Tryz.prog 206 false 1 := ⟨by kernel_rfl⟩
theorem Ydn : Y30 Tryz.prog 206 = some (39, 1, 24) := by kernel_rfl
instance Ydo : FldI Tryz.prog 208 0 0 := ⟨by kernel_rfl⟩
instance Ydp : SlI Tryz.prog 205 147 1 8 := ⟨by kernel_rfl⟩
instance Ydq : LdI Tryz.prog 147 false 1 := ⟨by kernel_rfl⟩
instance Ydr : SlI Tryz.prog 206 39 1 24 := ⟨by kernel_rfl⟩
theorem Yds : Y5r Tryz.prog 187 = some [0, 0] := by kernel_rfl
theorem Ydt : Y1c Tryz.prog 96 = some [.int .i64 0, .int .i64 0, .int .i64 0, .int .i64 0, .int .i64 0, .int .i64 0, .string ByteArray.empty, .slice none 0 0, .int .i64 0, .bool false] := by kernel_rfl
instance : AlI Tryz.prog 96 [.int .i64 0, .int .i64 0, .int .i64 0, .int .i64 0, .int .i64 0, .int .i64 0, .string ByteArray.empty, .slice none 0 0, .int .i64 0, .bool false] [cV (.int .i64 0), cV (.int .i64 0), cV (.int .i64 0), cV (.int .i64 0), cV (.int .i64 0), cV (.int .i64 0), cV (.string ByteArray.empty), cV s0, cV (.int .i64 0), cV (.bool false)] := ⟨Ydt, Y4e rfl rfl⟩
theorem Ydu : places Tryz.prog 96 = some [(0, 9), (9, 1)] := by kernel_rfl
instance : PlI Tryz.prog 96 [(0, 9), (9, 1)] := ⟨Ydu⟩
instance Ydv : LdI Tryz.prog 96 true 10 := ⟨by kernel_rfl⟩
theorem Ydw : Y78 Tryz.prog 96 0 = some (0, 9, true) := by kernel_rfl
theorem Ydx : Y78 Tryz.prog 42 6 = some (6, 1, false) := by kernel_rfl
theorem un_3 : Tryz.prog.underlying 3 = some (.int .i64) := by kernel_rfl
instance : UnI Tryz.prog 3 (.int .i64) := ⟨un_3⟩
theorem Ydy : Tryz.prog.underlying 239 = some (.int .u64) := by kernel_rfl
instance : UnI Tryz.prog 239 (.int .u64) := ⟨Ydy⟩
theorem Ydz : Y1c Tryz.prog 39 = some [.slice none 0 0] := by kernel_rfl
instance : AlI Tryz.prog 39 [.slice none 0 0] [cV s0] := ⟨Ydz, Y4e rfl rfl⟩
theorem Ye0 : Y30 Tryz.prog 209 = some (3, 1, 8) := by kernel_rfl
instance Ye1 : SlI Tryz.prog 209 3 1 8 := ⟨by kernel_rfl⟩
instance ld_3 : LdI Tryz.prog 3 false 1 := ⟨by kernel_rfl⟩
instance Ye2 : FldI Tryz.prog 140 3 5 := ⟨by kernel_rfl⟩
instance Ye3 : LdI Tryz.prog 138 false 1 := ⟨by kernel_rfl⟩
theorem Ye4 : Y6q Tryz.prog 138 = some (.i64, 29) := by kernel_rfl
theorem Ye5 : Y6s Tryz.prog 29 = some s0 := by kernel_rfl
theorem Ye6 : Y5r Tryz.prog 136 = some [0, 0, 0] := by kernel_rfl
theorem Ye7 : Y6q Tryz.prog 253 = some (.i64, 4) := by kernel_rfl
theorem zv_4 : Y6s Tryz.prog 4 = some (.bool false) := by kernel_rfl
instance Ye8 : LdI Tryz.prog 131 false 1 := ⟨by kernel_rfl⟩
instance Ye9 : FldI Tryz.prog 140 0 0 := ⟨by kernel_rfl⟩
instance Yea : FldI Tryz.prog 140 1 3 := ⟨by kernel_rfl⟩
instance Yeb : LdI Tryz.prog 137 false 1 := ⟨by kernel_rfl⟩
theorem Yec : Y6q Tryz.prog 137 = some (.i64, 2) := by kernel_rfl
theorem zv_2 : Y6s Tryz.prog 2 = some (.int .i64 0) := by kernel_rfl
instance Yed : FldI Tryz.prog 140 2 4 := ⟨by kernel_rfl⟩
instance Yee : FldI Tryz.prog 140 4 6 := ⟨by kernel_rfl⟩
theorem Yef : places Tryz.prog 140 = some [(0, 3), (3, 1), (4, 1), (5, 1), (6, 1)] := by kernel_rfl
instance : PlI Tryz.prog 140 [(0, 3), (3, 1), (4, 1), (5, 1), (6, 1)] := ⟨Yef⟩
theorem Yeg : Y1c Tryz.prog 140 = some [.int .i64 0, .slice none 0 0, .slice none 0 0, .map none, .map none, .map none, .map none] := by kernel_rfl
instance : AlI Tryz.prog 140 [.int .i64 0, .slice none 0 0, .slice none 0 0, .map none, .map none, .map none, .map none] [cV (.int .i64 0), cV s0, cV s0, cV (.map none), cV (.map none), cV (.map none), cV (.map none)] := ⟨Yeg, Y4e rfl rfl⟩
instance Yeh : FldI Tryz.prog 199 1 2 := ⟨by kernel_rfl⟩
instance Yei : LdI Tryz.prog 197 false 1 := ⟨by kernel_rfl⟩
instance Yej : SlI Tryz.prog 197 131 1 8 := ⟨by kernel_rfl⟩
theorem Yek : places Tryz.prog 199 = some [(0, 2), (2, 1)] := by kernel_rfl
instance : PlI Tryz.prog 199 [(0, 2), (2, 1)] := ⟨Yek⟩
theorem Yel : Y1c Tryz.prog 199 = some [.slice none 0 0, .slice none 0 0, .slice none 0 0] := by kernel_rfl
instance : AlI Tryz.prog 199 [.slice none 0 0, .slice none 0 0, .slice none 0 0] [cV s0, cV s0, cV s0] := ⟨Yel, Y4e rfl rfl⟩
theorem Yem : Y30 Tryz.prog 197 = some (131, 1, 8) := by kernel_rfl
theorem Yen : Y1c Tryz.prog 304 = some [.map none] := by kernel_rfl
instance : AlI Tryz.prog 304 [.map none] [cV (.map none)] := ⟨Yen, Y4e rfl rfl⟩
instance Yeo : LdI Tryz.prog 304 false 1 := ⟨by kernel_rfl⟩
theorem Yep : Y8u Tryz.prog 304 = some (187, 4) := by kernel_rfl
theorem Yeq : Y1c Tryz.prog 131 = some [.pointer none] := by kernel_rfl
instance : AlI Tryz.prog 131 [.pointer none] [cV (.pointer none)] := ⟨Yeq, Y4e rfl rfl⟩
theorem Yer : places Tryz.prog 187 = some [(0, 1), (1, 1)] := by kernel_rfl
instance : PlI Tryz.prog 187 [(0, 1), (1, 1)] := ⟨Yer⟩
instance Yes : FldI Tryz.prog 199 0 0 := ⟨by kernel_rfl⟩
instance Yet : FldI Tryz.prog 96 0 0 := ⟨by kernel_rfl⟩
instance Yeu : FldI Tryz.prog 96 1 9 := ⟨by kernel_rfl⟩
theorem un_5 : Tryz.prog.underlying 5 = some (.int .u8) := by kernel_rfl
instance : UnI Tryz.prog 5 (.int .u8) := ⟨un_5⟩
theorem Yev : Y30 Tryz.prog 22 = some (5, 1, 1) := by kernel_rfl
theorem Yew : Y7d Tryz.prog 22 = true := by kernel_rfl
instance Yex : LdI Tryz.prog 77 true 2 := ⟨by kernel_rfl⟩
theorem Yey : ∀ x, Y4h (Ya8 x) := fun x => (Y4h.cons (Y4g.val _) (Y4h.cons (Y4g.val _) (Y4h.nil)) : Y4h [cI x.room, cI x.id])
instance : ArT Tryz.prog 39 2 1 8 kI64 := ⟨Yb9⟩
instance : ZeK Tryz.prog 2 kI64 [.int .i64 0] 0 := ⟨ze_2, (Y4e rfl rfl)⟩
instance : ZeK Tryz.prog 42 Ya6 [.int .i64 0, .int .i64 0, .int .i64 0, .int .i64 0, .int .i64 0, .int .i64 0, .string ByteArray.empty, .slice none 0 0, .int .i64 0] (Y9v.mk 0 0 0 0 0 0 ByteArray.empty [] 0) := ⟨Yba, (fun w F => Imps.cells (.cons (Imp.refl _) (.cons (Imp.refl _) (.cons (Imp.refl _) (.cons (Imp.refl _) (.cons (Imp.refl _) (.cons (Imp.refl _) (.cons (Imp.refl _) (.cons (Imp.nil kI64 1) (.cons (Imp.refl _) .nil))))))))) (Y4e (cs := [cV (.int .i64 0), cV (.int .i64 0), cV (.int .i64 0), cV (.int .i64 0), cV (.int .i64 0), cV (.int .i64 0), cV (.string ByteArray.empty), cV s0, cV (.int .i64 0)]) rfl rfl w F))⟩
instance : ArT Tryz.prog 23 42 9 96 Ya6 := ⟨Ybs⟩
instance : PnK kI64 := ⟨Ybt⟩
instance : FzD Ya9 Yaa Ya6 := ⟨Ybu⟩
instance : PnD Ya9 Yaa := ⟨Ybv, Ybw⟩
instance : ZeK Tryz.prog 25 Yab [.int .i64 0, .slice none 0 0, .slice none 0 0] (Y9y.mk 0 [] []) := ⟨Yby, (fun w F => Imps.cells (.cons (Imp.refl _) (.cons (Imp.nil Ya6 9) (.cons (Imp.nil Ya6 9) .nil))) (Y4e (cs := [cV (.int .i64 0), cV s0, cV s0]) rfl rfl w F))⟩
instance : ArT Tryz.prog 81 25 3 56 Yab := ⟨Yc5⟩
instance : FzD Yac Yad Yab := ⟨Yc6⟩
instance : PnD Yac Yad := ⟨Yc7, Yc8⟩
instance : ZeK Tryz.prog 187 Ya8 [.int .i64 0, .int .i64 0] (Y9x.mk 0 0) := ⟨Yca, (Y4e rfl rfl)⟩
instance : ArT Tryz.prog 79 187 2 16 Ya8 := ⟨Ycg⟩
instance : ZeK Tryz.prog 83 Yap [.slice none 0 0, .slice none 0 0] (Y9z.mk [] []) := ⟨Ycj, (fun w F => Imps.cells (.cons (Imp.nil Yab 3) (.cons (Imp.nil Ya8 2) .nil)) (Y4e (cs := [cV s0, cV s0]) rfl rfl w F))⟩
instance : ArT Tryz.prog 29 136 3 24 Yae := ⟨Ycv⟩
instance : FiI Tryz.prog 42 5 5 1 false := ⟨Ycy⟩
instance : FiI Tryz.prog 42 2 2 1 false := ⟨Ycz⟩
instance : PnK Yae := ⟨Yd0⟩
instance : ZeK Tryz.prog 136 Yae [.int .i64 0, .int .i64 0, .int .i64 0] (Ya0.mk 0 0 0) := ⟨Yd2, (Y4e rfl rfl)⟩
instance : ArT Tryz.prog 151 4 1 1 Yag := ⟨Yd3⟩
instance : ZeK Tryz.prog 4 Yag [.bool false] false := ⟨ze_4, (Y4e rfl rfl)⟩
instance : FiI Tryz.prog 42 7 7 1 false := ⟨Yd4⟩
instance : ArT Tryz.prog 26 29 1 24 Yaf := ⟨Yd6⟩
instance : ZeK Tryz.prog 29 Yaf [.slice none 0 0] [] := ⟨Yd7, (fun w F => Imps.cells (.cons (Imp.nil Yae 3) .nil) (Y4e (cs := [cV s0]) rfl rfl w F))⟩
instance : ZeK Tryz.prog 146 Yah [.slice none 0 0, .slice none 0 0, .slice none 0 0, .slice none 0 0] (Ya1.mk [] [] [] []) := ⟨Yd9, (fun w F => Imps.cells (.cons (Imp.nil kI64 1) (.cons (Imp.nil Yaf 1) (.cons (Imp.nil Yaf 1) (.cons (Imp.nil kI64 1) .nil)))) (Y4e (cs := [cV s0, cV s0, cV s0, cV s0]) rfl rfl w F))⟩
instance : ZeK Tryz.prog 208 Yaq [.slice none 0 0, .slice none 0 0, .slice none 0 0, .slice none 0 0, .slice none 0 0] (Ya2.mk (Y9z.mk [] []) [] [] []) := ⟨Ydg, (fun w F => Imps.cells (.cons (Imp.nil Yab 3) (.cons (Imp.nil Ya8 2) (.cons (Imp.nil Yai 1) (.cons (Imp.nil Yaj 1) (.cons (Imp.nil Yaf 1) .nil))))) (Y4e (cs := [cV s0, cV s0, cV s0, cV s0, cV s0]) rfl rfl w F))⟩
instance : ArT Tryz.prog 205 147 1 8 Yai := ⟨Ydj⟩
instance : ArT Tryz.prog 206 39 1 24 Yaj := ⟨Ydn⟩
instance : EqK Tryz.prog 187 [0, 0] := ⟨Yds⟩
instance : ZeK Tryz.prog 96 Yar [.int .i64 0, .int .i64 0, .int .i64 0, .int .i64 0, .int .i64 0, .int .i64 0, .string ByteArray.empty, .slice none 0 0, .int .i64 0, .bool false] (Ya3.mk (Y9v.mk 0 0 0 0 0 0 ByteArray.empty [] 0) false) := ⟨Ydt, (fun w F => Imps.cells (.cons (Imp.refl _) (.cons (Imp.refl _) (.cons (Imp.refl _) (.cons (Imp.refl _) (.cons (Imp.refl _) (.cons (Imp.refl _) (.cons (Imp.refl _) (.cons (Imp.nil kI64 1) (.cons (Imp.refl _) (.cons (Imp.refl _) .nil)))))))))) (Y4e (cs := [cV (.int .i64 0), cV (.int .i64 0), cV (.int .i64 0), cV (.int .i64 0), cV (.int .i64 0), cV (.int .i64 0), cV (.string ByteArray.empty), cV s0, cV (.int .i64 0), cV (.bool false)]) rfl rfl w F))⟩
instance : FiI Tryz.prog 96 0 0 9 true := ⟨Ydw⟩
instance : FiI Tryz.prog 42 6 6 1 false := ⟨Ydx⟩
instance : ZeK Tryz.prog 39 Yaj [.slice none 0 0] [] := ⟨Ydz, (fun w F => Imps.cells (.cons (Imp.nil kI64 1) .nil) (Y4e (cs := [cV s0]) rfl rfl w F))⟩
instance : ArT Tryz.prog 209 3 1 8 kI64 := ⟨Ye0⟩
instance : MpT Tryz.prog 138 .i64 Yal 29 s0 ([] : List Ya0) := ⟨Ye4, Ye5, (fun w F => Imp.nil Yae 3 w F _ rfl)⟩
instance : EqK Tryz.prog 136 [0, 0, 0] := ⟨Ye6⟩
instance : MpT Tryz.prog 253 .i64 Yam 4 (.bool false) false := ⟨Ye7, zv_4, (fun _ _ => rfl)⟩
instance : MpT Tryz.prog 137 .i64 Yak 2 (.int .i64 0) 0 := ⟨Yec, zv_2, (fun _ _ => rfl)⟩
instance : ZeK Tryz.prog 199 Yas [.slice none 0 0, .slice none 0 0, .slice none 0 0] (Ya5.mk (Y9z.mk [] []) []) := ⟨Yel, (fun w F => Imps.cells (.cons (Imp.nil Yab 3) (.cons (Imp.nil Ya8 2) (.cons (Imp.nil Yao 1) .nil))) (Y4e (cs := [cV s0, cV s0, cV s0]) rfl rfl w F))⟩
instance : ArT Tryz.prog 197 131 1 8 Yao := ⟨Yem⟩
instance : PpT Tryz.prog 304 Yam 187 4 (.bool false) false := ⟨Yep, zv_4, (fun _ _ => rfl)⟩
instance : ArT Tryz.prog 22 5 1 1 kU8 := ⟨Yev⟩
instance : ByI Tryz.prog 22 := ⟨Yew⟩
instance : PnK Ya8 := ⟨Yey⟩
instance : SrI Tryz.prog 238 9 := ⟨Y9p⟩
instance : SrJ Tryz.prog 378 := ⟨Y9q⟩
instance {a1 : Int} {a2 : Int} {a3 : Int} {a4 : Int} {a5 : Int} {a6 : Int} {a7 : ByteArray} {a8 : List Int} {a9 : Int} : Mk Ya6 [cI a1, cI a2, cI a3, cI a4, cI a5, cI a6, C.str a7, cM kI64 1 a8, cI a9] (Y9v.mk a1 a2 a3 a4 a5 a6 a7 a8 a9) := ⟨rfl⟩
instance {a1 : Int} {a2 : List Y9v} {a3 : List Y9v} : Mk Ya7 [cI a1, cM Ya6 9 a2, cM Ya6 9 a3] (Y9w.mk a1 a2 a3) := ⟨rfl⟩
instance {a1 : Int} {a2 : Int} : Mk Ya8 [cI a1, cI a2] (Y9x.mk a1 a2) := ⟨rfl⟩
instance {a1 : List Y9w} {a2 : List Y9x} : Mk kHub [cM Ya7 3 a1, cM Ya8 2 a2] (THub.mk a1 a2) := ⟨rfl⟩
instance {a1 : Int} {a2 : List Y9v} {a3 : List Y9v} : Mk Yab [cI a1, cM Ya6 9 a2, cM Ya6 9 a3] (Y9y.mk a1 a2 a3) := ⟨rfl⟩
instance {a1 : List Y9y} {a2 : List Y9x} : Mk Yap [cM Yab 3 a1, cM Ya8 2 a2] (Y9z.mk a1 a2) := ⟨rfl⟩
instance {a1 : Int} {a2 : Int} {a3 : Int} : Mk Yae [cI a1, cI a2, cI a3] (Ya0.mk a1 a2 a3) := ⟨rfl⟩
instance {a1 : List Int} {a2 : List (List Ya0)} {a3 : List (List Ya0)} {a4 : List Int} : Mk Yai [C.ip [cM kI64 1 a1, cM Yaf 1 a2, cM Yaf 1 a3, cM kI64 1 a4]] (Ya1.mk a1 a2 a3 a4) := ⟨rfl⟩
instance {a1 : List Int} {a2 : List (List Ya0)} {a3 : List (List Ya0)} {a4 : List Int} : Mk Yah [cM kI64 1 a1, cM Yaf 1 a2, cM Yaf 1 a3, cM kI64 1 a4] (Ya1.mk a1 a2 a3 a4) := ⟨rfl⟩
instance {a1 : List Y9y} {a2 : List Y9x} {a3 : List Ya1} {a4 : List (List Int)} {a5 : List (List Ya0)} : Mk Yaq [cM Yab 3 a1, cM Ya8 2 a2, cM Yai 1 a3, cM Yaj 1 a4, cM Yaf 1 a5] (Ya2.mk (Y9z.mk a1 a2) a3 a4 a5) := ⟨rfl⟩
instance {a1 : Int} {a2 : Int} {a3 : Int} {a4 : Int} {a5 : Int} {a6 : Int} {a7 : ByteArray} {a8 : List Int} {a9 : Int} {a10 : Bool} : Mk Yar [cI a1, cI a2, cI a3, cI a4, cI a5, cI a6, C.str a7, cM kI64 1 a8, cI a9, C.bool a10] (Ya3.mk (Y9v.mk a1 a2 a3 a4 a5 a6 a7 a8 a9) a10) := ⟨rfl⟩
instance {a1 : Int} {a2 : List Y9v} {a3 : List Y9v} {a4 : List (Int × Int)} {a5 : List (Int × List Ya0)} {a6 : List (Int × List Ya0)} {a7 : List (Int × Int)} : Mk Yao [C.ip [cI a1, cM Ya6 9 a2, cM Ya6 9 a3, C.imap .i64 Yak a4, C.imap .i64 Yal a5, C.imap .i64 Yal a6, C.imap .i64 Yak a7]] (Ya4.mk (Y9y.mk a1 a2 a3) a4 a5 a6 a7) := ⟨rfl⟩
instance {a1 : Int} {a2 : List Y9v} {a3 : List Y9v} {a4 : List (Int × Int)} {a5 : List (Int × List Ya0)} {a6 : List (Int × List Ya0)} {a7 : List (Int × Int)} : Mk Yan [cI a1, cM Ya6 9 a2, cM Ya6 9 a3, C.imap .i64 Yak a4, C.imap .i64 Yal a5, C.imap .i64 Yal a6, C.imap .i64 Yak a7] (Ya4.mk (Y9y.mk a1 a2 a3) a4 a5 a6 a7) := ⟨rfl⟩
instance {a1 : List Y9y} {a2 : List Y9x} {a3 : List Ya4} : Mk Yas [cM Yab 3 a1, cM Ya8 2 a2, cM Yao 1 a3] (Ya5.mk (Y9z.mk a1 a2) a3) := ⟨rfl⟩
instance {x : Int} : Mk kI64 [cI x] x := ⟨rfl⟩
instance {x : List Ya0} : Mk Yaf [cM Yae 3 x] x := ⟨rfl⟩
instance {x : Bool} : Mk Yag [C.bool x] x := ⟨rfl⟩
instance {x : List Int} : Mk Yaj [cM kI64 1 x] x := ⟨rfl⟩
instance {x : Int} : Mc Yak (cI x) x := ⟨rfl⟩
instance {x : List Ya0} : Mc Yal (cM Yae 3 x) x := ⟨rfl⟩
instance {x : Bool} : Mc Yam (C.bool x) x := ⟨rfl⟩
instance {x : Int} : Mk kU8 [cV (.int .u8 x)] x := ⟨rfl⟩

def Z1 (p0 : List Int) (p1 : Int) : Option Int := cond (decide ((IntKind.i64.wrap (p1 - (p0.length : Int))) < 0)) (some (-1)) (some (IntKind.i64.wrap (p1 - (p0.length : Int))))
instance Z2 (p0 : List Int) (p1 : Int) : Sp Tryz.prog 402 [cM kI64 1 p0, cI p1] (Z1 p0 p1) (fun r => cI r) := Sp.of (so Tryz.func402 rfl rfl fun r X h => gh .z)

def Z3 (p0 : Y9v) (p1 : Int) : Option Int := cond (decide ((IntKind.i64.wrap (p1 - (p0.text.size : Int))) < 0)) (some (-1)) ((Z1 p0.prev (IntKind.i64.wrap (p1 - (p0.text.size : Int)))).bind fun r3 => cond (decide (r3 < 0)) (some (-1)) (some r3))
instance Z4 (p0 : Y9v) (p1 : Int) : Sp Tryz.prog 384 [C.agg [cI p0.id, cI p0.room, cI p0.author, cI p0.kind, cI p0.key, cI p0.n, C.str p0.text, cM kI64 1 p0.prev, cI p0.time], cI p1] (Z3 p0 p1) (fun r => cI r) := Sp.of (so Tryz.func384 rfl rfl fun r X h => gh .z)

def Z5 (x16 : Int) : Option Int := some x16
def Z6 (p0 : List Y9v) (x8 : Int) (x9 : Int) : Option ((Int × Int) ⊕ (Int ⊕ Int)) := cond (decide (x9 < (p0.length : Int))) ((getI p0 x9).bind fun e11 => (Z3 e11 x8).bind fun r13 => cond (decide (r13 < 0)) (some (.inr (.inl (-1)))) (some (.inl (r13, (IntKind.i64.wrap (x9 + 1)))))) (some (.inr (.inr x8)))
def Z7 (p0 : List Y9v) (p1 : Int) : Option Int := cond (decide ((IntKind.i64.wrap (p1 - (p0.length : Int))) < 0)) (some (-1)) ((iter (fun z17 => Z6 p0 z17.1 z17.2) big ((IntKind.i64.wrap (p1 - (p0.length : Int))), 0)).bind (fun z20 => match z20 with | .inl y18 => some y18 | .inr y19 => Z5 y19))
instance Z8 (p0 : List Y9v) (p1 : Int) : Sp Tryz.prog 351 [cM Ya6 9 p0, cI p1] (Z7 p0 p1) (fun r => cI r) := Sp.of (so Tryz.func351 rfl rfl fun r X h => gh (.b .z (.c1 (fun x16 => .d [(1, cI x16)] []) [] [] (.l2 (fun x8 x9 => .d [(1, cI x8), (5, cI x9)] []) [0] [] .z) .z)))

def Z9 (p0 : Y9w) (p1 : Int) : Option Int := (Z7 p0.events p1).bind fun r2 => cond (decide (r2 < 0)) (some (-1)) ((Z7 p0.parked r2).bind fun r5 => cond (decide (r5 < 0)) (some (-1)) (some r5))
instance Za (p0 : Y9w) (p1 : Int) : Sp Tryz.prog 281 [C.agg [cI p0.room, cM Ya6 9 p0.events, cM Ya6 9 p0.parked], cI p1] (Z9 p0 p1) (fun r => cI r) := Sp.of (so Tryz.func281 rfl rfl fun r X h => gh .z)

def Zb (x16 : Int) : Option Int := some x16
def Zc (p0 : List Y9w) (x8 : Int) (x9 : Int) : Option ((Int × Int) ⊕ (Int ⊕ Int)) := cond (decide (x9 < (p0.length : Int))) ((getI p0 x9).bind fun e11 => (Z9 e11 x8).bind fun r13 => cond (decide (r13 < 0)) (some (.inr (.inl (-1)))) (some (.inl (r13, (IntKind.i64.wrap (x9 + 1)))))) (some (.inr (.inr x8)))
def Zd (p0 : List Y9w) (p1 : Int) : Option Int := cond (decide ((IntKind.i64.wrap (p1 - (p0.length : Int))) < 0)) (some (-1)) ((iter (fun z17 => Zc p0 z17.1 z17.2) big ((IntKind.i64.wrap (p1 - (p0.length : Int))), 0)).bind (fun z20 => match z20 with | .inl y18 => some y18 | .inr y19 => Zb y19))
instance Ze (p0 : List Y9w) (p1 : Int) : Sp Tryz.prog 168 [cM Ya7 3 p0, cI p1] (Zd p0 p1) (fun r => cI r) := Sp.of (so Tryz.func168 rfl rfl fun r X h => gh (.b .z (.c1 (fun x16 => .d [(1, cI x16)] []) [] [] (.l2 (fun x8 x9 => .d [(1, cI x8), (5, cI x9)] []) [0] [] .z) .z)))

def Zf (p0 : List Y9x) (p1 : Int) : Option Int := cond (decide ((IntKind.i64.wrap (p1 - (p0.length : Int))) < 0)) (some (-1)) (some (IntKind.i64.wrap (p1 - (p0.length : Int))))
instance Zg (p0 : List Y9x) (p1 : Int) : Sp Tryz.prog 169 [cM Ya8 2 p0, cI p1] (Zf p0 p1) (fun r => cI r) := Sp.of (so Tryz.func169 rfl rfl fun r X h => gh .z)

def Zh (p0 : THub) (p1 : Int) : Option Int := (Zd p0.rooms p1).bind fun r2 => cond (decide (r2 < 0)) (some (-1)) ((Zf p0.stream r2).bind fun r5 => cond (decide (r5 < 0)) (some (-1)) (some r5))
instance Zi (p0 : THub) (p1 : Int) : Sp Tryz.prog 53 [C.agg [cM Ya7 3 p0.rooms, cM Ya8 2 p0.stream], cI p1] (Zh p0 p1) (fun r => cI r) := Sp.of (so Tryz.func53 rfl rfl fun r X h => gh .z)

def Zj (l16 : List Int) : Option (List Int) := some l16
def Zk (p0 : List Int) (l9 : List Int) (x10 : Int) : Option ((List Int × Int) ⊕ ((List Int))) := cond (decide (x10 < (p0.length : Int))) ((getI p0 x10).bind fun e12 => (getI l9 x10).bind fun e14 => some (.inl ((List.set l9 (Int.toNat x10) e12), (IntKind.i64.wrap (x10 + 1))))) (some (.inr l9))
def Zl (p0 : List Int) : Option (List Int) := (chk (decide (0 ≤ (p0.length : Int) ∧ (p0.length : Int) * 8 ≤ 140737488355328))).bind fun u2 => (iter (fun z18 => Zk p0 z18.1 z18.2) big ((List.replicate (Int.toNat (p0.length : Int)) 0), 0)).bind fun y19 => Zj y19
instance Zm (p0 : List Int) : SpO Tryz.prog 403 (Zl p0) (.d [cM kI64 1 p0] [] fun r => .x fun (v17 : Value) => .d (cV v17) [oA v17 2 kI64 1 r]) := ⟨so Tryz.func403 rfl rfl fun r X h => gh (.q 2 (.a 0 fun w0 => .c1 (fun l16 => .d [] [oA w0 2 kI64 1 l16]) [3] [] (.A 0 fun w0 => .l2 (fun l9 x10 => .d [(4, cI x10)] [oA w0 2 kI64 1 l9]) [0,3] [] .z) .z))⟩
instance Zm' (p0 : List Int) : Sp Tryz.prog 403 [cM kI64 1 p0] (Zl p0) (fun r => cM kI64 1 r) := ⟨fun r h => Ok.freeze ((Zm p0).h r h) (by rintro c qs ⟨v17, rfl, rfl⟩; exact Frz.arr)⟩

def Zn (p0 : Y9v) : Option Y9v := (Zl p0.prev).bind fun r4 => some (Y9v.mk p0.id p0.room p0.author p0.kind p0.key p0.n p0.text r4 p0.time)
instance Zo (p0 : Y9v) : SpO Tryz.prog 385 (Zn p0) (.d [C.agg [cI p0.id, cI p0.room, cI p0.author, cI p0.kind, cI p0.key, cI p0.n, C.str p0.text, cM kI64 1 p0.prev, cI p0.time]] [] fun r => .x fun (v8 : Value) => .d (C.agg [cI r.id, cI r.room, cI r.author, cI r.kind, cI r.key, cI r.n, C.str r.text, cV v8, cI r.time]) [oA v8 2 kI64 1 r.prev]) := ⟨so Tryz.func385 rfl rfl fun r X h => gh (.k .z)⟩
instance Zo' (p0 : Y9v) : Sp Tryz.prog 385 [C.agg [cI p0.id, cI p0.room, cI p0.author, cI p0.kind, cI p0.key, cI p0.n, C.str p0.text, cM kI64 1 p0.prev, cI p0.time]] (Zn p0) (fun r => C.agg [cI r.id, cI r.room, cI r.author, cI r.kind, cI r.key, cI r.n, C.str r.text, cM kI64 1 r.prev, cI r.time]) := ⟨fun r h => Ok.freeze ((Zo p0).h r h) (by rintro c qs ⟨v8, rfl, rfl⟩; exact Frz.agg (fS (fS (fS (fS (fS (fS (fS (FrzL.cons (os := [_]) (Frz.arr) (fS (FrzL.nil)))))))))))⟩

def Zp (l22 : List Y9v) : Option (List Y9v) := some l22
def Zq (p0 : List Y9v) (l12 : List Y9v) (x13 : Int) : Option ((List Y9v × Int) ⊕ ((List Y9v))) := cond (decide (x13 < (p0.length : Int))) ((getI p0 x13).bind fun e15 => (Zn e15).bind fun r17 => (getI l12 x13).bind fun e20 => some (.inl ((List.set l12 (Int.toNat x13) r17), (IntKind.i64.wrap (x13 + 1))))) (some (.inr l12))
def Zr (p0 : List Y9v) : Option (List Y9v) := (chk (decide (0 ≤ (p0.length : Int) ∧ (p0.length : Int) * 96 ≤ 140737488355328))).bind fun u2 => (iter (fun z24 => Zq p0 z24.1 z24.2) big ((List.replicate (Int.toNat (p0.length : Int)) (Y9v.mk 0 0 0 0 0 0 ByteArray.empty [] 0)), 0)).bind fun y25 => Zp y25
theorem Zs (p0 : List Y9v) (r : List Y9v) (h : Zr p0 = some r) : Ok Tryz.prog 352 [cM Ya6 9 p0] [] (fun c qs => ∃ (v23 : Value), c = cV v23 ∧ qs = [Obj.deep v23 42 Ya9 Yaa 9 r]) := by
 refine Ok.of_body (rs := [.tmp 2]) Tryz.func352 rfl rfl rfl rfl rfl fun X => ?_
 unfold Zr at h
 refine zw ?_
 refine ob' h fun u2 c1 h => ?_
 refine Ops.h (ns := []) rfl rfl (Y6k (k := Ya9) (ob := Yaa) (z := (Y9v.mk 0 0 0 0 0 0 ByteArray.empty [] 0)) (u0 := s0) Ybs Yba (Y4e rfl rfl) (fun _ _ => (Own.none_cons Y6h Own.none_nil)) rfl rfl (Y49 c1).1 (Y49 c1).2 (Y4a (by decide) c1) rfl) ?_
 rintro _ _ ⟨b3, rfl, rfl⟩
 refine Ops.v rfl (Ys rfl rfl) ?_
 refine Ops.nil ?_
 refine AW.seq ?_
 refine AW.cut (τ := List Y9v) (fun l22 => ⟨[(3, cV (sn b3 (p0.length : Int)))], [Obj.deep (sn b3 (p0.length : Int)) 42 Ya9 Yaa 9 l22]⟩) (fun l22 => Zp l22 = some r) ?_ ?_
 ·
  refine zw ?_
  refine ob' h fun o26 g27 q28 => ?_
  refine AW.loop (τ := List Y9v × Int) (x := ((List.replicate (Int.toNat (p0.length : Int)) (Y9v.mk 0 0 0 0 0 0 ByteArray.empty [] 0)), 0)) (fun (l12, x13) => ⟨[(0, cM Ya6 9 p0), (3, cV (sn b3 (p0.length : Int))), (4, cI x13)], [Obj.deep (sn b3 (p0.length : Int)) 42 Ya9 Yaa 9 l12]⟩) (fun k (l12, x13) => iter (fun z24 => Zq p0 z24.1 z24.2) k (l12, x13) = some o26) g27 (Y25.both (ns := [0]) rfl rfl) ?_
  rintro k ⟨l12, x13⟩ i30
  refine Y4d (show iter (fun z24 => Zq p0 z24.1 z24.2) k (l12, x13) = some o26 from i30) fun k29 y31 hlt_k29 h h32 => ?_
  replace h : Zq p0 l12 x13 = some y31 := h
  unfold Zq at h
  refine zw ?_
  refine cnd h (fun hb14 h => ?_) fun hb14 h => ?_
  ·
   refine AW.ct hb14 rfl ?_
   refine zw ?_
   refine oi h fun e15 g16 h => ?_
   refine zw ?_
   refine ob' h fun r17 g18 h => ?_
   refine Ops.h (ns := []) rfl rfl (Y27 ((Zo _).h _ g18) rfl rfl) ?_
   rintro _ _ ⟨_, ⟨v19, rfl, rfl⟩, rfl⟩
   refine ob' h fun e20 g21 h => ?_
   refine Ops.v rfl (Y6c (p := 1) Ybx.h rfl rfl rfl g21 rfl) ?_
   refine Ops.hd (ns := [1, 0]) rfl rfl (Y6g (e' := r17) (u' := v19) Ybr.h rfl rfl rfl (Y2f g21).2.2 (fun _ => rfl) rfl rfl) ?_
   refine zw ?_
   obtain rfl := Wj h
   exact ⟨k29, ((List.set l12 (Int.toNat x13) r17), (IntKind.i64.wrap (x13 + 1))), hlt_k29, h32, Y25.both (ns := [0]) rfl rfl⟩
  refine AW.cf hb14 rfl ?_
  refine AW.exit ?_
  obtain rfl := Wj h
  obtain rfl := Wj h32
  replace h := q28
  exact ⟨l12, h, Y25.both (ns := [0]) rfl rfl⟩
 intro l22 h
 replace h : Zp l22 = some r := h
 unfold Zp at h
 refine zw ?_
 refine AW.ret ?_
 rw [← Wj h]
 exact finI ⟨[cV (sn b3 (p0.length : Int))], _, Y25.refl _, (.cons (.tmp rfl) .nil), [0], _, _, rfl, ⟨(sn b3 (p0.length : Int)), rfl, rfl⟩⟩
instance Zs' (p0 : List Y9v) : Sp Tryz.prog 352 [cM Ya6 9 p0] (Zr p0) (fun r => cM Ya6 9 r) := ⟨fun r h => Ok.freeze (Zs p0 r h) (by rintro c qs ⟨v23, rfl, rfl⟩; exact (Frz.deep Ybu))⟩
instance Zt (p0 : List Y9v) : SpO Tryz.prog 352 (Zr p0) (.d [cM Ya6 9 p0] [] fun r => .x fun (v23 : Value) => .d (cV v23) [Obj.deep v23 42 Ya9 Yaa 9 r]) := ⟨fun r h => Zs p0 r h⟩

def Zu (p0 : Y9w) : Option Y9y := (Zr p0.events).bind fun r4 => (Zr p0.parked).bind fun r8 => some (Y9y.mk p0.room r4 r8)
instance Zv (p0 : Y9w) : SpO Tryz.prog 285 (Zu p0) (.d [C.agg [cI p0.room, cM Ya6 9 p0.events, cM Ya6 9 p0.parked]] [] fun r => .x fun (v12 : Value) => .x fun (v13 : Value) => .d (C.agg [cI r.room, cV v12, cV v13]) [Obj.deep v12 42 Ya9 Yaa 9 r.events, Obj.deep v13 42 Ya9 Yaa 9 r.parked]) := ⟨so Tryz.func285 rfl rfl fun r X h => gh (.k (.k .z))⟩
instance Zv' (p0 : Y9w) : Sp Tryz.prog 285 [C.agg [cI p0.room, cM Ya6 9 p0.events, cM Ya6 9 p0.parked]] (Zu p0) (fun r => C.agg [cI r.room, cM Ya6 9 r.events, cM Ya6 9 r.parked]) := ⟨fun r h => Ok.freeze ((Zv p0).h r h) (by rintro c qs ⟨v12, v13, rfl, rfl⟩; exact Frz.agg (fS (FrzL.cons (os := [_]) ((Frz.deep Ybu)) (FrzL.cons (os := [_]) ((Frz.deep Ybu)) (FrzL.nil)))))⟩

def Zw (l24 : List Y9y) : Option (List Y9y) := some l24
def Zx (p0 : List Y9w) (l13 : List Y9y) (x14 : Int) : Option ((List Y9y × Int) ⊕ ((List Y9y))) := cond (decide (x14 < (p0.length : Int))) ((getI p0 x14).bind fun e16 => (Zu e16).bind fun r18 => (getI l13 x14).bind fun e22 => some (.inl ((List.set l13 (Int.toNat x14) r18), (IntKind.i64.wrap (x14 + 1))))) (some (.inr l13))
def Zy (p0 : List Y9w) : Option (List Y9y) := (chk (decide (0 ≤ (p0.length : Int) ∧ (p0.length : Int) * 56 ≤ 140737488355328))).bind fun u2 => (iter (fun z26 => Zx p0 z26.1 z26.2) big ((List.replicate (Int.toNat (p0.length : Int)) (Y9y.mk 0 [] [])), 0)).bind fun y27 => Zw y27
theorem Zz (p0 : List Y9w) (r : List Y9y) (h : Zy p0 = some r) : Ok Tryz.prog 174 [cM Ya7 3 p0] [] (fun c qs => ∃ (v25 : Value), c = cV v25 ∧ qs = [Obj.deep v25 25 Yac Yad 3 r]) := by
 refine Ok.of_body (rs := [.tmp 2]) Tryz.func174 rfl rfl rfl rfl rfl fun X => ?_
 unfold Zy at h
 refine zw ?_
 refine ob' h fun u2 c1 h => ?_
 refine Ops.h (ns := []) rfl rfl (Y6k (k := Yac) (ob := Yad) (z := (Y9y.mk 0 [] [])) (u0 := (s0, s0)) Yc5 Yby (Y4e rfl rfl) (fun _ _ => (Own.none_cons Y6i (Own.none_cons Y6i Own.none_nil))) rfl rfl (Y49 c1).1 (Y49 c1).2 (Y4a (by decide) c1) rfl) ?_
 rintro _ _ ⟨b3, rfl, rfl⟩
 refine Ops.v rfl (Ys rfl rfl) ?_
 refine Ops.nil ?_
 refine AW.seq ?_
 refine AW.cut (τ := List Y9y) (fun l24 => ⟨[(3, cV (sn b3 (p0.length : Int)))], [Obj.deep (sn b3 (p0.length : Int)) 25 Yac Yad 3 l24]⟩) (fun l24 => Zw l24 = some r) ?_ ?_
 ·
  refine zw ?_
  refine ob' h fun o28 g29 q30 => ?_
  refine AW.loop (τ := List Y9y × Int) (x := ((List.replicate (Int.toNat (p0.length : Int)) (Y9y.mk 0 [] [])), 0)) (fun (l13, x14) => ⟨[(0, cM Ya7 3 p0), (3, cV (sn b3 (p0.length : Int))), (4, cI x14)], [Obj.deep (sn b3 (p0.length : Int)) 25 Yac Yad 3 l13]⟩) (fun k (l13, x14) => iter (fun z26 => Zx p0 z26.1 z26.2) k (l13, x14) = some o28) g29 (Y25.both (ns := [0]) rfl rfl) ?_
  rintro k ⟨l13, x14⟩ i32
  refine Y4d (show iter (fun z26 => Zx p0 z26.1 z26.2) k (l13, x14) = some o28 from i32) fun k31 y33 hlt_k31 h h34 => ?_
  replace h : Zx p0 l13 x14 = some y33 := h
  unfold Zx at h
  refine zw ?_
  refine cnd h (fun hb15 h => ?_) fun hb15 h => ?_
  ·
   refine AW.ct hb15 rfl ?_
   refine zw ?_
   refine oi h fun e16 g17 h => ?_
   refine zw ?_
   refine ob' h fun r18 g19 h => ?_
   refine Ops.h (ns := []) rfl rfl (Y27 ((Zv _).h _ g19) rfl rfl) ?_
   rintro _ _ ⟨_, ⟨v20, v21, rfl, rfl⟩, rfl⟩
   refine ob' h fun e22 g23 h => ?_
   refine Ops.v rfl (Y6c (p := 2) Yc9.h rfl rfl rfl g23 rfl) ?_
   refine Ops.hd (ns := [2, 0, 0]) rfl rfl (Y6g (e' := r18) (u' := (v20, v21)) Yc4.h rfl rfl rfl (Y2f g23).2.2 (fun _ => rfl) rfl rfl) ?_
   refine zw ?_
   obtain rfl := Wj h
   exact ⟨k31, ((List.set l13 (Int.toNat x14) r18), (IntKind.i64.wrap (x14 + 1))), hlt_k31, h34, Y25.both (ns := [0]) rfl rfl⟩
  refine AW.cf hb15 rfl ?_
  refine AW.exit ?_
  obtain rfl := Wj h
  obtain rfl := Wj h34
  replace h := q30
  exact ⟨l13, h, Y25.both (ns := [0]) rfl rfl⟩
 intro l24 h
 replace h : Zw l24 = some r := h
 unfold Zw at h
 refine zw ?_
 refine AW.ret ?_
 rw [← Wj h]
 exact finI ⟨[cV (sn b3 (p0.length : Int))], _, Y25.refl _, (.cons (.tmp rfl) .nil), [0], _, _, rfl, ⟨(sn b3 (p0.length : Int)), rfl, rfl⟩⟩
instance Zz' (p0 : List Y9w) : Sp Tryz.prog 174 [cM Ya7 3 p0] (Zy p0) (fun r => cM Yab 3 r) := ⟨fun r h => Ok.freeze (Zz p0 r h) (by rintro c qs ⟨v25, rfl, rfl⟩; exact (Frz.deep Yc6))⟩
instance Z10 (p0 : List Y9w) : SpO Tryz.prog 174 (Zy p0) (.d [cM Ya7 3 p0] [] fun r => .x fun (v25 : Value) => .d (cV v25) [Obj.deep v25 25 Yac Yad 3 r]) := ⟨fun r h => Zz p0 r h⟩

def Z11 (p0 : Y9x) : Option Y9x := some p0
instance Z12 (p0 : Y9x) : Sp Tryz.prog 286 [C.agg [cI p0.room, cI p0.id]] (Z11 p0) (fun r => C.agg [cI r.room, cI r.id]) := Sp.of (so Tryz.func286 rfl rfl fun r X h => gh .z)

def Z13 (l20 : List Y9x) : Option (List Y9x) := some l20
def Z14 (p0 : List Y9x) (l11 : List Y9x) (x12 : Int) : Option ((List Y9x × Int) ⊕ ((List Y9x))) := cond (decide (x12 < (p0.length : Int))) ((getI p0 x12).bind fun e14 => (Z11 e14).bind fun r16 => (getI l11 x12).bind fun e18 => some (.inl ((List.set l11 (Int.toNat x12) r16), (IntKind.i64.wrap (x12 + 1))))) (some (.inr l11))
def Z15 (p0 : List Y9x) : Option (List Y9x) := (chk (decide (0 ≤ (p0.length : Int) ∧ (p0.length : Int) * 16 ≤ 140737488355328))).bind fun u2 => (iter (fun z22 => Z14 p0 z22.1 z22.2) big ((List.replicate (Int.toNat (p0.length : Int)) (Y9x.mk 0 0)), 0)).bind fun y23 => Z13 y23
instance Z16 (p0 : List Y9x) : SpO Tryz.prog 175 (Z15 p0) (.d [cM Ya8 2 p0] [] fun r => .x fun (v21 : Value) => .d (cV v21) [oA v21 187 Ya8 2 r]) := ⟨so Tryz.func175 rfl rfl fun r X h => gh (.q 2 (.a 0 fun w0 => .c1 (fun l20 => .d [] [oA w0 187 Ya8 2 l20]) [3] [] (.A 0 fun w0 => .l2 (fun l11 x12 => .d [(4, cI x12)] [oA w0 187 Ya8 2 l11]) [0,3] [] .z) .z))⟩
instance Z16' (p0 : List Y9x) : Sp Tryz.prog 175 [cM Ya8 2 p0] (Z15 p0) (fun r => cM Ya8 2 r) := ⟨fun r h => Ok.freeze ((Z16 p0).h r h) (by rintro c qs ⟨v21, rfl, rfl⟩; exact Frz.arr)⟩

def Z17 (p0 : THub) : Option Y9z := (Zy p0.rooms).bind fun r4 => (Z15 p0.stream).bind fun r8 => some (Y9z.mk r4 r8)
instance Z18 (p0 : THub) : SpO Tryz.prog 55 (Z17 p0) (.d [C.agg [cM Ya7 3 p0.rooms, cM Ya8 2 p0.stream]] [] fun r => .x fun (v12 : Value) => .x fun (v13 : Value) => .d (C.agg [cV v12, cV v13]) [Obj.deep v12 25 Yac Yad 3 r.rooms, oA v13 187 Ya8 2 r.stream]) := ⟨so Tryz.func55 rfl rfl fun r X h => gh (.k (.k .z))⟩
instance Z18' (p0 : THub) : Sp Tryz.prog 55 [C.agg [cM Ya7 3 p0.rooms, cM Ya8 2 p0.stream]] (Z17 p0) (fun r => C.agg [cM Yab 3 r.rooms, cM Ya8 2 r.stream]) := ⟨fun r h => Ok.freeze ((Z18 p0).h r h) (by rintro c qs ⟨v12, v13, rfl, rfl⟩; exact Frz.agg (FrzL.cons (os := [_]) ((Frz.deep Yc6)) (FrzL.cons (os := [_]) (Frz.arr) (FrzL.nil))))⟩

def Z19 (x2 : Bool) : Option Bool := some x2
def Z1a (p0 : Int) (p1 : Int) (p2 : Int) : Option Bool := cond (decide (p0 ≥ p1)) (Z19 (decide (p0 ≤ p2))) (Z19 false)
instance Z1b (p0 : Int) (p1 : Int) (p2 : Int) : Sp Tryz.prog 213 [cI p0, cI p1, cI p2] (Z1a p0 p1 p2) (fun r => C.bool r) := Sp.of (so Tryz.func213 rfl rfl fun r X h => gh (.q 1 (.c1 (fun x2 => .d [(6, C.bool x2)] []) [] [] .z .z)))

def Z1c (p0 : Int) : Option Bool := (Z1a p0 1 1000000).bind fun r1 => some r1
instance Z1d (p0 : Int) : Sp Tryz.prog 263 [cI p0] (Z1c p0) (fun r => C.bool r) := Sp.of (so Tryz.func263 rfl rfl fun r X h => gh .z)

def Z1e (p0 : Int) : Option Bool := (Z1a p0 1 6).bind fun r1 => some r1
instance Z1f (p0 : Int) : Sp Tryz.prog 145 [cI p0] (Z1e p0) (fun r => C.bool r) := Sp.of (so Tryz.func145 rfl rfl fun r X h => gh .z)

def Z1g (p0 : Int) : Option Bool := (Z1a p0 0 1000000).bind fun r1 => some r1
instance Z1h (p0 : Int) : Sp Tryz.prog 264 [cI p0] (Z1g p0) (fun r => C.bool r) := Sp.of (so Tryz.func264 rfl rfl fun r X h => gh .z)

def Z1i : Option Bool := some true
def Z1j (x14 : Int) (x25 : Bool) : Option (Int ⊕ (Bool ⊕ Unit)) := cond x25 (some (.inr (.inl false))) (some (.inl (IntKind.i64.wrap (x14 + 1))))
def Z1k (p0 : List Int) (p1 : Int) (x14 : Int) : Option (Int ⊕ (Bool ⊕ Unit)) := cond (decide (x14 < (p0.length : Int))) ((getI p0 x14).bind fun e16 => (Z1c e16).bind fun r18 => cond r18 (cond (e16 == p1) (Z1j x14 true) (cond (decide (x14 > 0)) ((getI p0 (IntKind.i64.wrap (x14 - 1))).bind fun e23 => Z1j x14 (decide (e23 ≥ e16))) (Z1j x14 false))) (Z1j x14 true)) (some (.inr (.inr ())))
def Z1l (p0 : List Int) (p1 : Int) : Option Bool := cond (decide ((p0.length : Int) > 4)) (some false) ((iter (Z1k p0 p1) big 0).bind (fun z28 => match z28 with | .inl y27 => some y27 | .inr () => Z1i))
instance Z1m (p0 : List Int) (p1 : Int) : Sp Tryz.prog 265 [cM kI64 1 p0, cI p1] (Z1l p0 p1) (fun r => C.bool r) := Sp.of (so Tryz.func265 rfl rfl fun r X h => gh (.b .z (.c0 (.d [] []) [] [] (.l1 (fun x14 => .d [(5, cI x14)] []) [0,1] [] (.b (.q 1 (.c1 (fun x25 => .d [(44, C.bool x25)] []) [0,1,5] [] (.r [] [3,10,22,26] [] [0,4,8,13,18,20,24,28,32,36,41,44,48,52,56,60,64,68,72,76,80,84,89,92,96,100,105,108,112,116] .z) .z)) .z)) .z)))

def Z1n (x5 : Bool) : Option Bool := some x5
def Z1o (x13 : Bool) : Option Bool := some x13
def Z1p (x21 : Bool) : Option Bool := some x21
def Z1q (x25 : Bool) : Option Bool := some x25
def Z1r (x31 : Bool) : Option Bool := some x31
def Z1s (x37 : Bool) : Option Bool := some x37
def Z1t (x42 : Bool) : Option Bool := some x42
def Z1u (x48 : Bool) : Option Bool := some x48
def Z1v (p0 : Y9v) : Option Bool := cond (p0.kind == 1) (cond (p0.key == 0) (cond (p0.n == 0) (Z1n (p0.text.toList == ByteArray.empty.toList)) (Z1n false)) (Z1n false)) (cond (p0.kind == 2) ((Z1e p0.key).bind fun r7 => cond r7 ((Z1a p0.n 1 4).bind fun r10 => cond r10 (Z1o (p0.text.toList == ByteArray.empty.toList)) (Z1o false)) (Z1o false)) (cond (p0.kind == 3) ((Z1e p0.key).bind fun r15 => cond r15 ((Z1a p0.n 0 100).bind fun r18 => cond r18 (Z1p (p0.text.toList == ByteArray.empty.toList)) (Z1p false)) (Z1p false)) (cond (p0.kind == 4) (cond (p0.key == 0) (cond (p0.n == 0) (Z1q (decide ((p0.text.size : Int) ≤ 30))) (Z1q false)) (Z1q false)) (cond (p0.kind == 5) (cond (p0.key == 0) ((Z1a p0.n 1 2).bind fun r28 => cond r28 (Z1r (p0.text.toList == ByteArray.empty.toList)) (Z1r false)) (Z1r false)) (cond (p0.kind == 6) (cond (p0.key == 0) ((Z1a p0.n 1 3).bind fun r34 => cond r34 (Z1s (p0.text.toList == ByteArray.empty.toList)) (Z1s false)) (Z1s false)) (cond (p0.kind == 7) (cond (p0.key == 0) (cond (p0.n == 0) (cond (decide ((p0.text.size : Int) ≥ 1)) (Z1t (decide ((p0.text.size : Int) ≤ 30))) (Z1t false)) (Z1t false)) (Z1t false)) (cond (p0.kind == 8) ((Z1c p0.key).bind fun r44 => cond r44 (cond (p0.n == 0) (Z1u (p0.text.toList == ByteArray.empty.toList)) (Z1u false)) (Z1u false)) (some false))))))))
instance Z1w (p0 : Y9v) : Sp Tryz.prog 266 [C.agg [cI p0.id, cI p0.room, cI p0.author, cI p0.kind, cI p0.key, cI p0.n, C.str p0.text, cM kI64 1 p0.prev, cI p0.time]] (Z1v p0) (fun r => C.bool r) := Sp.of (so Tryz.func266 rfl rfl fun r X h => gh (.r [0] [1,4,7] [] [0,5,8,12,17,20,24,29,32,36,40,44] (.b (.c1 (fun x5 => .d [(2, C.bool x5)] []) [] [] .z .z) (.b (.c1 (fun x13 => .d [(2, C.bool x13)] []) [] [] .z .z) (.b (.c1 (fun x21 => .d [(2, C.bool x21)] []) [] [] .z .z) (.b (.c1 (fun x25 => .d [(2, C.bool x25)] []) [] [] .z .z) (.b (.c1 (fun x31 => .d [(2, C.bool x31)] []) [] [] .z .z) (.b (.c1 (fun x37 => .d [(2, C.bool x37)] []) [] [] .z .z) (.b (.c1 (fun x42 => .d [(2, C.bool x42)] []) [] [] .z .z) (.b (.c1 (fun x48 => .d [(2, C.bool x48)] []) [] [] .z .z) .z))))))))))

def Z1x (x20 : Bool) : Option Bool := some x20
def Z1y (p0 : Y9v) : Option Bool := (Z1c p0.id).bind fun r2 => cond r2 ((Z1a p0.room 1 3).bind fun r5 => cond r5 ((Z1e p0.author).bind fun r8 => cond r8 ((Z1g p0.time).bind fun r11 => cond r11 ((Z1l p0.prev p0.id).bind fun r14 => cond r14 (cond ((p0.kind == 1) == ((p0.prev.length : Int) == 0)) ((Z1v p0).bind fun r18 => Z1x r18) (Z1x false)) (Z1x false)) (Z1x false)) (Z1x false)) (Z1x false)) (Z1x false)
instance Z1z (p0 : Y9v) : Sp Tryz.prog 148 [C.agg [cI p0.id, cI p0.room, cI p0.author, cI p0.kind, cI p0.key, cI p0.n, C.str p0.text, cM kI64 1 p0.prev, cI p0.time]] (Z1y p0) (fun r => C.bool r) := Sp.of (so Tryz.func148 rfl rfl fun r X h => gh (.q 1 (.c1 (fun x20 => .d [(2, C.bool x20)] []) [] [] .z .z)))

def Z20 : Option Bool := some true
def Z21 (x14 : Int) (x25 : Bool) : Option (Int ⊕ (Bool ⊕ Unit)) := cond x25 (some (.inr (.inl false))) (some (.inl (IntKind.i64.wrap (x14 + 1))))
def Z22 (p0 : List Y9v) (p1 : Int) (x14 : Int) : Option (Int ⊕ (Bool ⊕ Unit)) := cond (decide (x14 < (p0.length : Int))) ((getI p0 x14).bind fun e16 => (Z1y e16).bind fun r18 => cond r18 (cond (e16.room != p1) (Z21 x14 true) (cond (decide (x14 > 0)) ((getI p0 (IntKind.i64.wrap (x14 - 1))).bind fun e23 => Z21 x14 (decide (e23.id ≥ e16.id))) (Z21 x14 false))) (Z21 x14 true)) (some (.inr (.inr ())))
def Z23 (p0 : List Y9v) (p1 : Int) (p2 : Int) : Option Bool := cond (decide ((p0.length : Int) > p2)) (some false) ((iter (Z22 p0 p1) big 0).bind (fun z28 => match z28 with | .inl y27 => some y27 | .inr () => Z20))
instance Z24 (p0 : List Y9v) (p1 : Int) (p2 : Int) : Sp Tryz.prog 246 [cM Ya6 9 p0, cI p1, cI p2] (Z23 p0 p1 p2) (fun r => C.bool r) := Sp.of (so Tryz.func246 rfl rfl fun r X h => gh (.b .z (.c0 (.d [] []) [] [] (.l1 (fun x14 => .d [(7, cI x14)] []) [0,1] [] (.b (.q 1 (.c1 (fun x25 => .d [(50, C.bool x25)] []) [0,1,7] [] (.r [] [3,11,24,29] [] [0,4,8,13,18,20,24,28,32,36,40,45,48,52,56,60,64,68,72,76,80,84,88,92,97,100,104,108,112,117,120,124,128] .z) .z)) .z)) .z)))

def Z25 : Option Int := some (-1)
def Z26 (p0 : List Y9v) (p1 : Int) (x5 : Int) : Option (Int ⊕ (Int ⊕ Unit)) := cond (decide (x5 < (p0.length : Int))) ((getI p0 x5).bind fun e7 => cond (e7.id == p1) (some (.inr (.inl x5))) (some (.inl (IntKind.i64.wrap (x5 + 1))))) (some (.inr (.inr ())))
def Z27 (p0 : List Y9v) (p1 : Int) : Option Int := (iter (Z26 p0 p1) big 0).bind (fun z11 => match z11 with | .inl y10 => some y10 | .inr () => Z25)
instance Z28 (p0 : List Y9v) (p1 : Int) : Sp Tryz.prog 130 [cM Ya6 9 p0, cI p1] (Z27 p0 p1) (fun r => cI r) := Sp.of (so Tryz.func130 rfl rfl fun r X h => gh (.q 1 (.c0 (.d [] []) [] [] (.l1 (fun x5 => .d [(5, cI x5)] []) [0,1] [] .z) .z)))

def Z29 : Option Bool := some true
def Z2a (p0 : List Y9v) (p1 : Y9v) (x8 : Int) : Option (Int ⊕ (Bool ⊕ Unit)) := cond (decide (x8 < (p1.prev.length : Int))) ((getI p1.prev x8).bind fun e10 => (Z27 p0 e10).bind fun r12 => cond (decide (r12 < 0)) (some (.inr (.inl false))) (some (.inl (IntKind.i64.wrap (x8 + 1))))) (some (.inr (.inr ())))
def Z2b (p0 : List Y9v) (p1 : Y9v) : Option Bool := (iter (Z2a p0 p1) big 0).bind (fun z16 => match z16 with | .inl y15 => some y15 | .inr () => Z29)
instance Z2c (p0 : List Y9v) (p1 : Y9v) : Sp Tryz.prog 247 [cM Ya6 9 p0, C.agg [cI p1.id, cI p1.room, cI p1.author, cI p1.kind, cI p1.key, cI p1.n, C.str p1.text, cM kI64 1 p1.prev, cI p1.time]] (Z2b p0 p1) (fun r => C.bool r) := Sp.of (so Tryz.func247 rfl rfl fun r X h => gh (.q 1 (.c0 (.d [] []) [] [] (.l1 (fun x8 => .d [(5, cI x8)] []) [0,3] [0] .z) .z)))

def Z2d (l161 : List Int) : Option (List Int) := some l161
def Z2e (x82 : Int) (l160 : List Int) : Option ((List Int × Int) ⊕ ((List Int))) := some (.inl (l160, (IntKind.i64.wrap (x82 + 1))))
def Z2f (x122 : Int) (l159 : List Int) : Option ((List Int × Int) ⊕ ((List Int))) := some (.inl (l159, (IntKind.i64.wrap (x122 + 1))))
def Z2g (l121 : List Int) (x122 : Int) (x156 : Int) (x157 : Bool) : Option ((List Int × Int) ⊕ ((List Int))) := cond x157 (Z2f x122 (List.set l121 (Int.toNat x122) (IntKind.i64.wrap (x156 + 1)))) (Z2f x122 l121)
def Z2h (x141 : Int) (x154 : Int) (x155 : Bool) : Option ((Int × Bool × Int) ⊕ ((Int × Bool))) := some (.inl (x154, x155, (IntKind.i64.wrap (x141 + 1))))
def Z2i (x139 : Int) (x141 : Int) (e149 : Int) (x152 : Bool) : Option ((Int × Bool × Int) ⊕ ((Int × Bool))) := cond (decide (e149 > x139)) (Z2h x141 e149 x152) (Z2h x141 x139 x152)
def Z2j (p0 : List Y9v) (l121 : List Int) (x122 : Int) (x139 : Int) (x140 : Bool) (x141 : Int) : Option ((Int × Bool × Int) ⊕ ((Int × Bool))) := (getI p0 x122).bind fun e142 => cond (decide (x141 < (e142.prev.length : Int))) ((getI e142.prev x141).bind fun e145 => (Z27 p0 e145).bind fun r147 => (getI l121 r147).bind fun e149 => cond x140 (Z2i x139 x141 e149 (decide (e149 > 0))) (Z2i x139 x141 e149 false)) (some (.inr (x139, x140)))
def Z2k (p0 : List Y9v) (l121 : List Int) (x122 : Int) : Option ((List Int × Int) ⊕ ((List Int))) := cond (decide (x122 < (p0.length : Int))) ((getI l121 x122).bind fun e124 => cond (decide (e124 > 0)) (Z2f x122 l121) ((iter (fun z163 => Z2j p0 l121 x122 z163.1 z163.2.1 z163.2.2) big (0, true, 0)).bind fun (y164, y165) => Z2g l121 x122 y164 y165)) (some (.inr l121))
def Z2l (p0 : List Y9v) (l81 : List Int) (x82 : Int) : Option ((List Int × Int) ⊕ ((List Int))) := cond (decide (x82 < (p0.length : Int))) ((iter (fun z166 => Z2k p0 z166.1 z166.2) big (l81, 0)).bind fun y167 => Z2e x82 y167) (some (.inr l81))
def Z2m (p0 : List Y9v) : Option (List Int) := (chk (decide (0 ≤ (p0.length : Int) ∧ (p0.length : Int) * 8 ≤ 140737488355328))).bind fun u2 => (iter (fun z168 => Z2l p0 z168.1 z168.2) big ((List.replicate (Int.toNat (p0.length : Int)) 0), 0)).bind fun y169 => Z2d y169
instance Z2n (p0 : List Y9v) : SpO Tryz.prog 127 (Z2m p0) (.d [cM Ya6 9 p0] [] fun r => .x fun (v162 : Value) => .d (cV v162) [oA v162 2 kI64 1 r]) := ⟨so Tryz.func127 rfl rfl fun r X h => gh (.q 2 (.a 0 fun w0 => .c1 (fun l161 => .d [] [oA w0 2 kI64 1 l161]) [3] [] (.A 0 fun w0 => .l2 (fun l81 x82 => .d [(4, cI x82)] [oA w0 2 kI64 1 l81]) [0,3] [] (.b (.a 0 fun w0 => .c1 (fun l160 => .d [] [oA w0 2 kI64 1 l160]) [0,3,4] [] (.A 0 fun w0 => .l2 (fun l121 x122 => .d [(5, cI x122)] [oA w0 2 kI64 1 l121]) [0,3,4] [] (.b (.a 0 fun w0 => .c1 (fun l159 => .d [] [oA w0 2 kI64 1 l159]) [0,3,4,5] [] (.b .z (.q 2 (.c2 (fun x156 x157 => .d [(6, cI x156), (7, C.bool x157)] []) [0,3,4,5] [0] (.l3 (fun x139 x140 x141 => .d [(6, cI x139), (7, C.bool x140), (8, cI x141)] []) [0,3,4,5] [0] (.b (.c2 (fun x154 x155 => .d [(6, cI x154), (7, C.bool x155)] []) [0,3,4,5,8] [0] (.q 1 (.c1 (fun x152 => .d [(7, C.bool x152)] []) [0,3,4,5,6,8,9] [0] .z .z)) .z) .z)) .z))) .z) .z)) .z) .z)) .z))⟩
instance Z2n' (p0 : List Y9v) : Sp Tryz.prog 127 [cM Ya6 9 p0] (Z2m p0) (fun r => cM kI64 1 r) := ⟨fun r h => Ok.freeze ((Z2n p0).h r h) (by rintro c qs ⟨v162, rfl, rfl⟩; exact Frz.arr)⟩

def Z2o : Option Bool := some true
def Z2p (r46 : List Int) (x52 : Int) : Option (Int ⊕ (Bool ⊕ Unit)) := cond (decide (x52 < (r46.length : Int))) ((getI r46 x52).bind fun e54 => cond (e54 == 0) (some (.inr (.inl false))) (some (.inl (IntKind.i64.wrap (x52 + 1))))) (some (.inr (.inr ())))
def Z2q (p0 : Y9y) : Option Bool := (Z2m p0.events).bind fun r46 => (iter (Z2p r46) big 0).bind (fun z58 => match z58 with | .inl y57 => some y57 | .inr () => Z2o)
def Z2r (p0 : Y9y) (x39 : Int) : Option (Int ⊕ (Bool ⊕ Unit)) := cond (decide (x39 < (p0.parked.length : Int))) ((getI p0.parked x39).bind fun e41 => (Z2b p0.events e41).bind fun r43 => cond r43 (some (.inr (.inl false))) (some (.inl (IntKind.i64.wrap (x39 + 1))))) (some (.inr (.inr ())))
def Z2s (p0 : Y9y) : Option Bool := (iter (Z2r p0) big 0).bind (fun z60 => match z60 with | .inl y59 => some y59 | .inr () => Z2q p0)
def Z2t (x22 : Int) (x31 : Bool) : Option (Int ⊕ (Bool ⊕ Unit)) := cond x31 (some (.inr (.inl false))) (some (.inl (IntKind.i64.wrap (x22 + 1))))
def Z2u (p0 : Y9y) (x22 : Int) : Option (Int ⊕ (Bool ⊕ Unit)) := cond (decide (x22 < (p0.events.length : Int))) ((getI p0.events x22).bind fun e24 => (Z2b p0.events e24).bind fun r26 => cond r26 ((Z27 p0.parked e24.id).bind fun r29 => Z2t x22 (decide (r29 ≥ 0))) (Z2t x22 true)) (some (.inr (.inr ())))
def Z2v (p0 : Y9y) (x10 : Bool) : Option Bool := cond x10 (some false) ((iter (Z2u p0) big 0).bind (fun z62 => match z62 with | .inl y61 => some y61 | .inr () => Z2s p0))
def Z2w (p0 : Y9y) : Option Bool := (Z1a p0.room 1 3).bind fun r2 => cond r2 ((Z23 p0.events p0.room 60).bind fun r5 => cond r5 ((Z23 p0.parked p0.room 20).bind fun r8 => Z2v p0 (!r8)) (Z2v p0 true)) (Z2v p0 true)
instance Z2x (p0 : Y9y) : Sp Tryz.prog 124 [C.agg [cI p0.room, cM Ya6 9 p0.events, cM Ya6 9 p0.parked]] (Z2w p0) (fun r => C.bool r) := Sp.of (so Tryz.func124 rfl rfl fun r X h => gh (.q 2 (.c1 (fun x10 => .d [(26, C.bool x10)] []) [1] [0] .z (.b .z (.c0 (.d [] []) [1] [0] (.l1 (fun x22 => .d [(3, cI x22)] []) [1] [0] (.b (.q 1 (.c1 (fun x31 => .d [(54, C.bool x31)] []) [1,3] [0] (.r [0] [1,3,6,11,13,17] [] [0,5,8,13,16,20,25,30,32,36,40,45,48,53,56,60,64,69,74,76,80] .z) .z)) .z)) (.c0 (.d [] []) [1] [0] (.l1 (fun x39 => .d [(4, cI x39)] []) [1] [0] (.b (.r [0] [1,3,6] [] [0,5,8,13,16,20,25,30] .z) .z)) (.q 1 (.c0 (.d [] []) [] [] (.l1 (fun x52 => .d [(6, cI x52)] []) [5] [] .z) .z))))))))

def Z2y (l69 : List Int) : Option (List Int) := some l69
def Z2z (x37 : Int) (l67 : List Int) : Option ((List Int × Int) ⊕ ((List Int))) := some (.inl (l67, (IntKind.i64.wrap (x37 + 1))))
def Z30 (x53 : Int) (l65 : List Int) : Option ((List Int × Int) ⊕ ((List Int))) := some (.inl (l65, (IntKind.i64.wrap (x53 + 1))))
def Z31 (p0 : Y9y) (r2 : List Int) (x37 : Int) (l52 : List Int) (x53 : Int) : Option ((List Int × Int) ⊕ ((List Int))) := cond (decide (x53 < (p0.events.length : Int))) ((getI r2 x53).bind fun e55 => cond (e55 == x37) ((getI p0.events x53).bind fun e58 => (chk (decide ((l52.length + [e58.id].length) * 8 ≤ 140737488355328))).bind fun u62 => Z30 x53 (l52 ++ [e58.id])) (Z30 x53 l52)) (some (.inr l52))
def Z32 (p0 : Y9y) (r2 : List Int) (l36 : List Int) (x37 : Int) : Option ((List Int × Int) ⊕ ((List Int))) := cond (decide ((l36.length : Int) < (p0.events.length : Int))) ((iter (fun z71 => Z31 p0 r2 x37 z71.1 z71.2) big (l36, 0)).bind fun y72 => Z2z x37 y72) (some (.inr l36))
def Z33 (p0 : Y9y) : Option (List Int) := (Z2m p0.events).bind fun r2 => (iter (fun z73 => Z32 p0 r2 z73.1 z73.2) big (([] : List Int), 1)).bind fun y74 => Z2y y74
instance Z34 (p0 : Y9y) : SpO Tryz.prog 146 (Z33 p0) (.d [C.agg [cI p0.room, cM Ya6 9 p0.events, cM Ya6 9 p0.parked]] [] fun r => .x fun (v70 : Value) => .d (cV v70) [oA v70 2 kI64 1 r]) := ⟨so Tryz.func146 rfl rfl fun r X h => gh (.q 3 (.c1 (fun l69 => .x fun v68 => .d [(4, cV v68)] [oA v68 2 kI64 1 l69]) [] [] (.l2 (fun l36 x37 => .x fun v35 => .d [(4, cV v35), (5, cI x37)] [oA v35 2 kI64 1 l36]) [1,3] [1] (.b (.c1 (fun l67 => .x fun v66 => .d [(4, cV v66)] [oA v66 2 kI64 1 l67]) [1,3,5] [1] (.l2 (fun l52 x53 => .x fun v51 => .d [(4, cV v51), (6, cI x53)] [oA v51 2 kI64 1 l52]) [1,3,5] [1] (.b (.c1 (fun l65 => .x fun v64 => .d [(4, cV v64)] [oA v64 2 kI64 1 l65]) [1,3,5,6] [1] .z .z) .z)) .z) .z)) .z))⟩
instance Z34' (p0 : Y9y) : Sp Tryz.prog 146 [C.agg [cI p0.room, cM Ya6 9 p0.events, cM Ya6 9 p0.parked]] (Z33 p0) (fun r => cM kI64 1 r) := ⟨fun r h => Ok.freeze ((Z34 p0).h r h) (by rintro c qs ⟨v70, rfl, rfl⟩; exact Frz.arr)⟩

def Z35 : Option Int := some 0
def Z36 (p0 : List Ya0) (x9 : Int) (x14 : Bool) : Option (Int ⊕ (Int ⊕ Unit)) := cond x14 ((getI p0 x9).bind fun e16 => some (.inr (.inl e16.id))) (some (.inl (IntKind.i64.wrap (x9 + 1))))
def Z37 (p0 : List Ya0) (p1 : Int) (p2 : Int) (x9 : Int) : Option (Int ⊕ (Int ⊕ Unit)) := cond (decide (x9 < (p0.length : Int))) ((getI p0 x9).bind fun e11 => cond (e11.kind == p1) (Z36 p0 x9 (e11.key == p2)) (Z36 p0 x9 false)) (some (.inr (.inr ())))
def Z38 (p0 : List Ya0) (p1 : Int) (p2 : Int) : Option Int := (iter (Z37 p0 p1 p2) big 0).bind (fun z19 => match z19 with | .inl y18 => some y18 | .inr () => Z35)
instance Z39 (p0 : List Ya0) (p1 : Int) (p2 : Int) : Sp Tryz.prog 147 [cM Yae 3 p0, cI p1, cI p2] (Z38 p0 p1 p2) (fun r => cI r) := Sp.of (so Tryz.func147 rfl rfl fun r X h => gh (.q 1 (.c0 (.d [] []) [] [] (.l1 (fun x9 => .d [(7, cI x9)] []) [0,1,2] [] (.b (.q 1 (.c1 (fun x14 => .d [(29, C.bool x14)] []) [0,1,2,7] [] .z .z)) .z)) .z)))

def Z3a : Option Bool := some true
def Z3b (p0 : List (List Ya0)) (p1 : Ya0) (x8 : Int) : Option (Int ⊕ (Bool ⊕ Unit)) := cond (decide (x8 < (p0.length : Int))) ((getI p0 x8).bind fun e10 => (Z38 e10 p1.kind p1.key).bind fun r12 => cond (r12 != p1.id) (some (.inr (.inl false))) (some (.inl (IntKind.i64.wrap (x8 + 1))))) (some (.inr (.inr ())))
def Z3c (p0 : List (List Ya0)) (p1 : Ya0) : Option Bool := (iter (Z3b p0 p1) big 0).bind (fun z16 => match z16 with | .inl y15 => some y15 | .inr () => Z3a)
instance Z3d (p0 : List (List Ya0)) (p1 : Ya0) : Sp Tryz.prog 249 [cM Yaf 1 p0, C.agg [cI p1.kind, cI p1.key, cI p1.id]] (Z3c p0 p1) (fun r => C.bool r) := Sp.of (so Tryz.func249 rfl rfl fun r X h => gh (.q 1 (.c0 (.d [] []) [] [] (.l1 (fun x8 => .d [(5, cI x8)] []) [0,3] [0] (.b (.r [0] [3,5,7,10] [] [0,4,8,13,16,21,24,29,36,41,34,44] .z) .z)) .z)))

def Z3e (l35 : List Ya0) : Option (List Ya0) := some l35
def Z3f (x19 : Int) (l33 : List Ya0) : Option ((List Ya0 × Int) ⊕ ((List Ya0))) := some (.inl (l33, (IntKind.i64.wrap (x19 + 1))))
def Z3g (p0 : List Ya0) (l18 : List Ya0) (x19 : Int) (x24 : Bool) : Option ((List Ya0 × Int) ⊕ ((List Ya0))) := cond x24 ((getI p0 x19).bind fun e26 => (chk (decide ((l18.length + [e26].length) * 24 ≤ 140737488355328))).bind fun u30 => Z3f x19 (l18 ++ [e26])) (Z3f x19 l18)
def Z3h (p0 : List Ya0) (p1 : Ya0) (l18 : List Ya0) (x19 : Int) : Option ((List Ya0 × Int) ⊕ ((List Ya0))) := cond (decide (x19 < (p0.length : Int))) ((getI p0 x19).bind fun e21 => cond (e21.kind != p1.kind) (Z3g p0 l18 x19 true) (Z3g p0 l18 x19 (e21.key != p1.key))) (some (.inr l18))
def Z3i (p0 : List Ya0) (p1 : Ya0) : Option (List Ya0) := (iter (fun z37 => Z3h p0 p1 z37.1 z37.2) big (([] : List Ya0), 0)).bind fun y38 => Z3e y38
instance Z3j (p0 : List Ya0) (p1 : Ya0) : SpO Tryz.prog 332 (Z3i p0 p1) (.d [cM Yae 3 p0, C.agg [cI p1.kind, cI p1.key, cI p1.id]] [] fun r => .x fun (v36 : Value) => .d (cV v36) [oA v36 136 Yae 3 r]) := ⟨so Tryz.func332 rfl rfl fun r X h => gh (.q 2 (.c1 (fun l35 => .x fun v34 => .d [(5, cV v34)] [oA v34 136 Yae 3 l35]) [] [] (.l2 (fun l18 x19 => .x fun v17 => .d [(5, cV v17), (6, cI x19)] [oA v17 136 Yae 3 l18]) [0,3] [1] (.b (.c1 (fun l33 => .x fun v32 => .d [(5, cV v32)] [oA v32 136 Yae 3 l33]) [0,3,6] [1] (.c1 (fun x24 => .d [(31, C.bool x24)] []) [0,3,5,6] [1,0] (.r [0,0] [4,6,13,15] [] [0,4,8,12,17,20,25,28,32,36,40,44,48,53,56,61,64,68] .z) .z) .z) .z)) .z))⟩
instance Z3j' (p0 : List Ya0) (p1 : Ya0) : Sp Tryz.prog 332 [cM Yae 3 p0, C.agg [cI p1.kind, cI p1.key, cI p1.id]] (Z3i p0 p1) (fun r => cM Yae 3 r) := ⟨fun r h => Ok.freeze ((Z3j p0 p1).h r h) (by rintro c qs ⟨v36, rfl, rfl⟩; exact Frz.arr)⟩

def Z3k (x5 : Bool) : Option Bool := some x5
def Z3l (p0 : Ya0) (p1 : Ya0) : Option Bool := cond (decide (p0.kind < p1.kind)) (Z3k true) (cond (p0.kind == p1.kind) (Z3k (decide (p0.key < p1.key))) (Z3k false))
instance Z3m (p0 : Ya0) (p1 : Ya0) : Sp Tryz.prog 333 [C.agg [cI p0.kind, cI p0.key, cI p0.id], C.agg [cI p1.kind, cI p1.key, cI p1.id]] (Z3l p0 p1) (fun r => C.bool r) := Sp.of (so Tryz.func333 rfl rfl fun r X h => gh (.q 1 (.c1 (fun x5 => .d [(4, C.bool x5)] []) [] [] .z .z)))

def Z3n (p1 : Ya0) (r2 : List Ya0) (x19 : Int) : Option (List Ya0) := (Y2d r2 0 x19).bind fun s21 => (chk (decide ((([] : List Ya0).length + s21.length) * 24 ≤ 140737488355328))).bind fun u24 => (chk (decide (((([] : List Ya0) ++ s21).length + [p1].length) * 24 ≤ 140737488355328))).bind fun u28 => (Y2d r2 x19 (r2.length : Int)).bind fun s30 => (chk (decide ((((([] : List Ya0) ++ s21) ++ [p1]).length + s30.length) * 24 ≤ 140737488355328))).bind fun u33 => some (((([] : List Ya0) ++ s21) ++ [p1]) ++ s30)
def Z3o (x11 : Int) (x17 : Bool) : Option (Int ⊕ (Int)) := cond x17 (some (.inl (IntKind.i64.wrap (x11 + 1)))) (some (.inr x11))
def Z3p (p1 : Ya0) (r2 : List Ya0) (x11 : Int) : Option (Int ⊕ (Int)) := cond (decide (x11 < (r2.length : Int))) ((getI r2 x11).bind fun e13 => (Z3l e13 p1).bind fun r15 => Z3o x11 r15) (Z3o x11 false)
def Z3q (p0 : List Ya0) (p1 : Ya0) : Option (List Ya0) := (Z3i p0 p1).bind fun r2 => (iter (Z3p p1 r2) big 0).bind fun y36 => Z3n p1 r2 y36
instance Z3r (p0 : List Ya0) (p1 : Ya0) : SpO Tryz.prog 250 (Z3q p0 p1) (.d [cM Yae 3 p0, C.agg [cI p1.kind, cI p1.key, cI p1.id]] [] fun r => .x fun (v35 : Value) => .d (cV v35) [oA v35 136 Yae 3 r]) := ⟨so Tryz.func250 rfl rfl fun r X h => gh (.q 3 (.c1 (fun x19 => .d [(6, cI x19)] []) [3,5] [0] (.l1 (fun x11 => .d [(6, cI x11)] []) [3,5] [0] (.q 1 (.c1 (fun x17 => .d [(22, C.bool x17)] []) [3,5,6] [0] (.r [0] [8,9] [] [0,4,8,12,16,20,24,28,33,37,42,44] .z) .z))) .z))⟩
instance Z3r' (p0 : List Ya0) (p1 : Ya0) : Sp Tryz.prog 250 [cM Yae 3 p0, C.agg [cI p1.kind, cI p1.key, cI p1.id]] (Z3q p0 p1) (fun r => cM Yae 3 r) := ⟨fun r h => Ok.freeze ((Z3r p0 p1).h r h) (by rintro c qs ⟨v35, rfl, rfl⟩; exact Frz.arr)⟩

def Z3s (p0 : List Int) (p1 : Int) (x12 : Int) (x16 : Bool) : Option (List Int) := cond x16 (some p0) ((Y2d p0 0 x12).bind fun s19 => (chk (decide ((([] : List Int).length + s19.length) * 8 ≤ 140737488355328))).bind fun u22 => (chk (decide (((([] : List Int) ++ s19).length + [p1].length) * 8 ≤ 140737488355328))).bind fun u26 => (Y2d p0 x12 (p0.length : Int)).bind fun s28 => (chk (decide ((((([] : List Int) ++ s19) ++ [p1]).length + s28.length) * 8 ≤ 140737488355328))).bind fun u31 => some (((([] : List Int) ++ s19) ++ [p1]) ++ s28))
def Z3t (p0 : List Int) (p1 : Int) (x12 : Int) : Option (List Int) := cond (decide (x12 < (p0.length : Int))) ((getI p0 x12).bind fun e14 => Z3s p0 p1 x12 (e14 == p1)) (Z3s p0 p1 x12 false)
def Z3u (x6 : Int) (x10 : Bool) : Option (Int ⊕ (Int)) := cond x10 (some (.inl (IntKind.i64.wrap (x6 + 1)))) (some (.inr x6))
def Z3v (p0 : List Int) (p1 : Int) (x6 : Int) : Option (Int ⊕ (Int)) := cond (decide (x6 < (p0.length : Int))) ((getI p0 x6).bind fun e8 => Z3u x6 (decide (e8 < p1))) (Z3u x6 false)
def Z3w (p0 : List Int) (p1 : Int) : Option (List Int) := (iter (Z3v p0 p1) big 0).bind fun y33 => Z3t p0 p1 y33
instance Z3x (p0 : List Int) (p1 : Int) : Sp Tryz.prog 251 [cM kI64 1 p0, cI p1] (Z3w p0 p1) (fun r => cM kI64 1 r) := Sp.of (so Tryz.func251 rfl rfl fun r X h => gh (.q 2 (.c1 (fun x12 => .d [(5, cI x12)] []) [0,1] [] (.l1 (fun x6 => .d [(5, cI x6)] []) [0,1] [] (.q 1 (.c1 (fun x10 => .d [(18, C.bool x10)] []) [0,1,5] [] .z .z))) (.q 1 (.c1 (fun x16 => .d [(32, C.bool x16)] []) [0,1,5] [] .z .z)))))

def Z3y (x6 : Bool) : Option Bool := some x6
def Z3z (p0 : Y9v) : Option Bool := cond (p0.kind == 1) (Z3y true) (cond (p0.kind == 3) (Z3y true) (cond (p0.kind == 5) (Z3y true) (cond (p0.kind == 2) (Z3y (p0.key != p0.author)) (Z3y false))))
instance Z40 (p0 : Y9v) : Sp Tryz.prog 334 [C.agg [cI p0.id, cI p0.room, cI p0.author, cI p0.kind, cI p0.key, cI p0.n, C.str p0.text, cM kI64 1 p0.prev, cI p0.time]] (Z3z p0) (fun r => C.bool r) := Sp.of (so Tryz.func334 rfl rfl fun r X h => gh (.q 1 (.c1 (fun x6 => .d [(2, C.bool x6)] []) [] [] .z .z)))

def Z41 (p1 : List Int) (r2 : Int) (r4 : Int) (x13 : Int) (x14 : Int) (x15 : Int) (x16 : Int) (x17 : Int) (x18 : Int) (x19 : ByteArray) (l20 : List Int) (x21 : Int) (x23 : Int) (x24 : Int) (x25 : Int) (x26 : Int) (x27 : Int) (x28 : Int) (x29 : ByteArray) (l30 : List Int) (x31 : Int) : Option Bool := (Z3z (Y9v.mk x13 x14 x15 x16 x17 x18 x19 l20 x21)).bind fun r32 => (Z3z (Y9v.mk x23 x24 x25 x26 x27 x28 x29 l30 x31)).bind fun r34 => cond (r32 == r34) ((getI p1 r2).bind fun e37 => (getI p1 r4).bind fun e39 => cond (e37 != e39) (some (decide (e37 < e39))) (cond (x21 != x31) (some (decide (x21 < x31))) (some (decide (x13 < x23))))) ((Z3z (Y9v.mk x13 x14 x15 x16 x17 x18 x19 l20 x21)).bind fun r43 => some r43)
def Z42 (p0 : Y9y) (p1 : List Int) (p2 : Int) (p3 : Int) : Option Bool := (Z27 p0.events p2).bind fun r2 => (Z27 p0.events p3).bind fun r4 => (getI p0.events r2).bind fun e6 => (getI p0.events r4).bind fun e8 => Z41 p1 r2 r4 e6.id e6.room e6.author e6.kind e6.key e6.n e6.text e6.prev e6.time e8.id e8.room e8.author e8.kind e8.key e8.n e8.text e8.prev e8.time
instance Z43 (p0 : Y9y) (p1 : List Int) (p2 : Int) (p3 : Int) : Sp Tryz.prog 252 [C.agg [cI p0.room, cM Ya6 9 p0.events, cM Ya6 9 p0.parked], cM kI64 1 p1, cI p2, cI p3] (Z42 p0 p1 p2 p3) C.bool := sp Tryz.func252 rfl rfl fun r X h => by
 unfold Z42 at h
 refine zw ?_
 refine ox fun b1 => ?_
 refine zw ?_
 refine rD [0] [1,5] [] [0,5,8,16,21,24,14,30,32,36] ?_
 refine zw ?_
 refine dc h fun r2 g3 h => ?_
 refine zw ?_
 refine dc h fun r4 g5 h => ?_
 refine OpsD.v rfl rfl (Ys rfl rfl) ?_
 refine OpsD.v rfl rfl (Ys rfl rfl) ?_
 refine OpsD.done ?_
 refine AW.seq ?_
 refine AW.cut (τ := Int × Int × Int × Int × Int × Int × ByteArray × List Int × Int × Int × Int × Int × Int × Int × Int × ByteArray × List Int × Int × Nat × Nat) (fun (x13, x14, x15, x16, x17, x18, x19, l20, x21, x23, x24, x25, x26, x27, x28, x29, l30, x31, b12, b22) => ⟨[(1, cM kI64 1 p1), (9, cI r2), (10, cI r4), (11, pt b12), (12, pt b22)], [oB b12 42 [cI x13, cI x14, cI x15, cI x16, cI x17, cI x18, C.str x19, cM kI64 1 l20, cI x21], oB b22 42 [cI x23, cI x24, cI x25, cI x26, cI x27, cI x28, C.str x29, cM kI64 1 l30, cI x31]]⟩) (fun (x13, x14, x15, x16, x17, x18, x19, l20, x21, x23, x24, x25, x26, x27, x28, x29, l30, x31, b12, b22) => Z41 p1 r2 r4 x13 x14 x15 x16 x17 x18 x19 l20 x21 x23 x24 x25 x26 x27 x28 x29 l30 x31 = some r) ?_ ?_
 ·
  refine AW.regionD (L := [1, 4, 6, 9]) (Lt := [13]) (k := .light 0 false (.light 1 true (.light 2 false (.light 3 false (.light 4 true (.light 5 false (.light 6 true (.light 7 false (.light 8 false (.light 9 true (.two 10 11 (.one 11 (.one 12 (.late 13 (.done)))) (.one 10 (.one 12 (.late 13 (.done))))))))))))))) (ns := [0]) (by kernel_rfl) (by kernel_rfl) (by kernel_rfl) (by kernel_rfl) rfl ?_
  refine zw ?_
  refine di h fun e6 g7 h => ?_
  refine zw ?_
  refine di h fun e8 g9 h => ?_
  refine zw ?_
  refine OpsD.two ?_ ?_
  ·
   refine dal fun b10 => ?_
   refine zw ?_
   refine dal fun b11 => ?_
   refine OpsD.one ?_
   refine Y3z.h (ns := [1]) rfl rfl rfl (Y1y (gs := [cI e6.id, cI e6.room, cI e6.author, cI e6.kind, cI e6.key, cI e6.n, C.str e6.text, cM kI64 1 e6.prev, cI e6.time]) Ybr.h rfl rfl rfl rfl rfl) ?_
   rintro _ _ ⟨rfl, rfl⟩
   refine zw ?_
   exact ⟨(e6.id, e6.room, e6.author, e6.kind, e6.key, e6.n, e6.text, e6.prev, e6.time, e8.id, e8.room, e8.author, e8.kind, e8.key, e8.n, e8.text, e8.prev, e8.time, b10, b11), h, Y25.both (ns := [2, 0]) rfl rfl⟩
  refine dal fun b11 => ?_
  refine zw ?_
  refine dal fun b10 => ?_
  refine OpsD.one ?_
  refine Y3z.h (ns := [0]) rfl rfl rfl (Y1y (gs := [cI e6.id, cI e6.room, cI e6.author, cI e6.kind, cI e6.key, cI e6.n, C.str e6.text, cM kI64 1 e6.prev, cI e6.time]) Ybr.h rfl rfl rfl rfl rfl) ?_
  rintro _ _ ⟨rfl, rfl⟩
  refine zw ?_
  exact ⟨(e6.id, e6.room, e6.author, e6.kind, e6.key, e6.n, e6.text, e6.prev, e6.time, e8.id, e8.room, e8.author, e8.kind, e8.key, e8.n, e8.text, e8.prev, e8.time, b10, b11), h, Y25.both (ns := [2, 0]) rfl rfl⟩
 rintro ⟨x13, x14, x15, x16, x17, x18, x19, l20, x21, x23, x24, x25, x26, x27, x28, x29, l30, x31, b12, b22⟩ h
 replace h : Z41 p1 r2 r4 x13 x14 x15 x16 x17 x18 x19 l20 x21 x23 x24 x25 x26 x27 x28 x29 l30 x31 = some r := h
 unfold Z41 at h
 refine zw ?_
 refine rD [0,0] [0,2] [] [1,9,6,14,16,20] ?_
 refine zw ?_
 refine dc h fun r32 g33 h => ?_
 refine zw ?_
 refine dc h fun r34 g35 h => ?_
 refine OpsD.v rfl rfl (Y15 un_4 rfl rfl rfl) ?_
 refine zw ?_
 refine cnd h (fun hb36 h => ?_) fun hb36 h => ?_
 ·
  refine AW.cond rfl (fun hn => absurd ((Y46 hb36).symm.trans hn) (by decide)) (fun _ => ?_)
  refine zw ?_
  refine rD [0,0] [3,7] [] [0,4,8,13,16,20,24,29,32,36] ?_
  refine zw ?_
  refine di h fun e37 g38 h => ?_
  refine zw ?_
  refine di h fun e39 g40 h => ?_
  refine zw ?_
  refine cnd h (fun hb41 h => ?_) fun hb41 h => ?_
  ·
   refine AW.ct hb41 rfl ?_
   refine zw ?_
   refine rD [0,0] [3,7] [] [0,4,8,13,16,20,24,29,32,36] ?_
   refine zw ?_
   refine AW.ret ?_
   rw [← Wj h]
   exact finI ⟨[C.bool (decide (e37 < e39))], _, Y25.refl _, (.cons (.tmp rfl) .nil), [], _, _, rfl, ⟨rfl, rfl⟩⟩
  refine AW.cf hb41 rfl ?_
  refine zw ?_
  refine cnd h (fun hb42 h => ?_) fun hb42 h => ?_
  ·
   refine AW.ct hb42 rfl ?_
   refine zw ?_
   refine AW.ret ?_
   rw [← Wj h]
   exact finI ⟨[C.bool (decide (x21 < x31))], _, Y25.refl _, (.cons (.tmp rfl) .nil), [], _, _, rfl, ⟨rfl, rfl⟩⟩
  refine AW.cf hb42 rfl ?_
  refine zw ?_
  refine AW.ret ?_
  rw [← Wj h]
  exact finI ⟨[C.bool (decide (x13 < x23))], _, Y25.refl _, (.cons (.tmp rfl) .nil), [], _, _, rfl, ⟨rfl, rfl⟩⟩
 refine AW.cond rfl (fun _ => ?_) (fun hn => absurd ((Y47 hb36).symm.trans hn) (by decide))
 refine zw ?_
 refine oc h fun r43 g44 h => ?_
 refine zw ?_
 refine AW.ret ?_
 rw [← Wj h]
 exact finI ⟨[C.bool r43], _, Y25.refl _, (.cons (.tmp rfl) .nil), [], _, _, rfl, ⟨rfl, rfl⟩⟩

def Z44 (p0 : Y9y) (p1 : List Ya0) (p2 : Int) (p3 : Int) : Option Y9v := (Z38 p1 p2 p3).bind fun r3 => cond (r3 == 0) (some (Y9v.mk 0 0 0 0 0 0 ByteArray.empty [] 0)) ((Z27 p0.events r3).bind fun r6 => (getI p0.events r6).bind fun e8 => some e8)
instance Z45 (p0 : Y9y) (p1 : List Ya0) (p2 : Int) (p3 : Int) : Sp Tryz.prog 262 [C.agg [cI p0.room, cM Ya6 9 p0.events, cM Ya6 9 p0.parked], cM Yae 3 p1, cI p2, cI p3] (Z44 p0 p1 p2 p3) (fun r => C.agg [cI r.id, cI r.room, cI r.author, cI r.kind, cI r.key, cI r.n, C.str r.text, cM kI64 1 r.prev, cI r.time]) := Sp.of (so Tryz.func262 rfl rfl fun r X h => gh (.b .z (.r [0,0] [1,3,7] [8] [0,5,8,13,16,22,24,29,35] .z)))

def Z46 (p0 : Y9y) (p1 : List Ya0) (p2 : Int) : Option Int := (Z44 p0 p1 2 p2).bind fun r2 => some r2.n
instance Z47 (p0 : Y9y) (p1 : List Ya0) (p2 : Int) : Sp Tryz.prog 151 [C.agg [cI p0.room, cM Ya6 9 p0.events, cM Ya6 9 p0.parked], cM Yae 3 p1, cI p2] (Z46 p0 p1 p2) (fun r => cI r) := Sp.of (so Tryz.func151 rfl rfl fun r X h => gh .z)

def Z48 (p0 : Y9y) (p1 : List Ya0) (p2 : Int) : Option Int := (Z38 p1 3 p2).bind fun r2 => cond (decide (r2 > 0)) ((Z44 p0 p1 3 p2).bind fun r5 => some r5.n) ((Z44 p0 p1 1 0).bind fun r7 => cond (r7.author == p2) (some 100) (some 0))
instance Z49 (p0 : Y9y) (p1 : List Ya0) (p2 : Int) : Sp Tryz.prog 144 [C.agg [cI p0.room, cM Ya6 9 p0.events, cM Ya6 9 p0.parked], cM Yae 3 p1, cI p2] (Z48 p0 p1 p2) (fun r => cI r) := Sp.of (so Tryz.func144 rfl rfl fun r X h => gh .z)

def Z4a (p0 : Bool) : Option Int := cond p0 (some 11) (some 0)
instance Z4b (p0 : Bool) : Sp Tryz.prog 337 [C.bool p0] (Z4a p0) (fun r => cI r) := Sp.of (so Tryz.func337 rfl rfl fun r X h => gh .z)

def Z4c (x20 : Int) : Option Int := some x20
def Z4d (p3 : Int) (x4 : Bool) (x11 : Bool) : Option Int := cond (p3 == 3) ((Z4a true).bind fun r13 => Z4c r13) (cond x4 ((Z4a false).bind fun r16 => Z4c r16) ((Z4a (!x11)).bind fun r18 => Z4c r18))
def Z4e (p0 : Y9y) (p1 : List Ya0) (p2 : Y9v) (p3 : Int) (x4 : Bool) : Option Int := cond (p2.n == 1) ((Z44 p0 p1 5 0).bind fun r6 => cond (r6.n == 1) (Z4d p3 x4 true) ((Z44 p0 p1 1 0).bind fun r9 => Z4d p3 x4 (r9.author == p2.author))) (cond (p2.n == 2) ((Z4a (!x4)).bind fun r22 => some r22) (some 11))
def Z4f (p0 : Y9y) (p1 : List Ya0) (p2 : Y9v) (p3 : Int) : Option Int := cond (p3 == 1) (Z4e p0 p1 p2 p3 true) (Z4e p0 p1 p2 p3 (p3 == 4))
instance Z4g (p0 : Y9y) (p1 : List Ya0) (p2 : Y9v) (p3 : Int) : Sp Tryz.prog 335 [C.agg [cI p0.room, cM Ya6 9 p0.events, cM Ya6 9 p0.parked], cM Yae 3 p1, C.agg [cI p2.id, cI p2.room, cI p2.author, cI p2.kind, cI p2.key, cI p2.n, C.str p2.text, cM kI64 1 p2.prev, cI p2.time], cI p3] (Z4f p0 p1 p2 p3) (fun r => cI r) := Sp.of (so Tryz.func335 rfl rfl fun r X h => gh (.q 1 (.c1 (fun x4 => .d [(9, C.bool x4)] []) [1,3,4,6] [1,0] .z (.b (.c1 (fun x11 => .d [(10, C.bool x11)] []) [3,9] [] (.r [0,0] [0,6,11] [] [1,4,10,12,16,20,25,28,40,45,34,36,48,52,56] .z) (.c1 (fun x20 => .d [(8, cI x20)] []) [] [] .z .z)) .z))))

def Z4h (x13 : Int) : Option Int := some x13
def Z4i (x26 : Int) : Option Int := some x26
def Z4j (x36 : Int) : Option Int := some x36
def Z4k (p0 : Y9y) (p1 : List Ya0) (p2 : Y9v) (p3 : Int) : Option Int := (Z46 p0 p1 p2.key).bind fun r3 => (Z48 p0 p1 p2.key).bind fun r5 => cond (p2.n == 4) (cond (r3 == 1) ((Z4a true).bind fun r9 => Z4h r9) ((Z4a (r3 == 3)).bind fun r11 => Z4h r11)) (cond (p2.n == 2) (cond (decide (p3 < 50)) ((Z4a true).bind fun r16 => Z4i r16) (cond (decide (p3 ≤ r5)) ((Z4a true).bind fun r19 => Z4i r19) (cond (r3 == 0) ((Z4a true).bind fun r22 => Z4i r22) ((Z4a (r3 == 2)).bind fun r24 => Z4i r24)))) (cond (p2.n == 3) (cond (decide (p3 < 50)) ((Z4a true).bind fun r29 => Z4j r29) (cond (decide (p3 ≤ r5)) ((Z4a true).bind fun r32 => Z4j r32) ((Z4a (r3 == 3)).bind fun r34 => Z4j r34))) (some 11)))
instance Z4l (p0 : Y9y) (p1 : List Ya0) (p2 : Y9v) (p3 : Int) : Sp Tryz.prog 336 [C.agg [cI p0.room, cM Ya6 9 p0.events, cM Ya6 9 p0.parked], cM Yae 3 p1, C.agg [cI p2.id, cI p2.room, cI p2.author, cI p2.kind, cI p2.key, cI p2.n, C.str p2.text, cM kI64 1 p2.prev, cI p2.time], cI p3] (Z4k p0 p1 p2 p3) (fun r => cI r) := Sp.of (so Tryz.func336 rfl rfl fun r X h => gh (.r [0,0] [0,3,5,8] [] [1,4,8,13,21,24,28,33,18,38,40,44] (.b (.c1 (fun x13 => .d [(8, cI x13)] []) [] [] .z .z) (.b (.c1 (fun x26 => .d [(8, cI x26)] []) [] [] .z .z) (.b (.c1 (fun x36 => .d [(8, cI x36)] []) [] [] .z .z) .z)))))

end Go.Proofs.YtmaefakalikkiaaGreat
