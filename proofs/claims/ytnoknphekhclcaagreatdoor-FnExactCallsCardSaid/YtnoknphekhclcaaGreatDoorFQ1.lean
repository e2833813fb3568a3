/- Printed by gen.py: plain functions for Go functions, and that the walks keep to them. -/
import Derived.Test.YtnoknphekhclcaaGreatDoorFBG
import Derived.Test.YtnoknphekhclcaaGreatDoorFSorts
import Derived.Test.YtnoknphekhclcaaGreatDoorFX
import Derived.Test.YtnoknphekhclcaaGreatDoorFL
import Derived.Test.YtnoknphekhclcaaGreatDoorChecked
set_option autoImplicit false
set_option linter.unusedVariables false
set_option linter.unusedSimpArgs false
set_option maxHeartbeats 8000000
set_option maxRecDepth 100000
namespace Go.Proofs.YtnoknphekhclcaaGreatDoor
open Go Go.Abs
attribute [local irreducible] AW Ops OpsD Y3z VoK HoK GhF UsC Go.Abs.Fin PkK LenT LenL Y9l BldK FzK FzLK
structure Y9z where
  id : Int
  room : Int
  author : Int
  kind : Int
  key : Int
  n : Int
  text : ByteArray
  prev : List Int
  time : Int
structure Ya0 where
  room : Int
  events : List Y9z
  parked : List Y9z
structure Ya1 where
  room : Int
  id : Int
structure THub where
  rooms : List Ya0
  stream : List Ya1
structure Ya2 where
  user : Int
  at_ : List Int
structure Ya3 where
  room : Int
  events : List Y9z
  parked : List Y9z
structure Ya4 where
  rooms : List Ya3
  stream : List Ya1
structure Ya5 where
  kind : Int
  key : Int
  id : Int
structure Ya6 where
  depths : List Int
  ahead : List (List Ya5)
  behind : List (List Ya5)
  code : List Int
structure Ya7 where
  h : Ya4
  rooms : List Ya6
  pos : List (List Int)
  now : List (List Ya5)
structure Ya8 where
  event : Y9z
  hidden : Bool
structure Ya9 where
  graph : Ya3
  depth : List (Int × Int)
  before : List (Int × List Ya5)
  after : List (Int × List Ya5)
  refused : List (Int × Int)
structure Yaa where
  hub : Ya4
  rooms : List Ya9
def kI64 (x : Int) : List C := [cI x]
def Yab (x : Y9z) : List C := [cI x.id, cI x.room, cI x.author, cI x.kind, cI x.key, cI x.n, C.str x.text, cM kI64 1 x.prev, cI x.time]
def Yac (x : Ya0) : List C := [cI x.room, cM Yab 9 x.events, cM Yab 9 x.parked]
def Yad (x : Ya1) : List C := [cI x.room, cI x.id]
def Yae (x : Y9z) (u : Value) : List C := [cI x.id, cI x.room, cI x.author, cI x.kind, cI x.key, cI x.n, C.str x.text, cV u, cI x.time]
def Yaf (x : Y9z) (u : Value) : List Abs.Obj := [oA u 2 kI64 1 x.prev]
def Yag (x : Ya3) : List C := [cI x.room, cM Yab 9 x.events, cM Yab 9 x.parked]
def Yah (x : Ya3) (u : Value × Value) : List C := [cI x.room, cV u.1, cV u.2]
def Yai (x : Ya3) (u : Value × Value) : List Abs.Obj := [Obj.deep u.1 82 Yae Yaf 9 x.events, Obj.deep u.2 82 Yae Yaf 9 x.parked]
def Yaj (x : Ya5) : List C := [cI x.kind, cI x.key, cI x.id]
def Yak (x : List Ya5) : List C := [cM Yaj 3 x]
def Yal (x : Bool) : List C := [C.bool x]
def Yam (x : Ya6) : List C := [cM kI64 1 x.depths, cM Yak 1 x.ahead, cM Yak 1 x.behind, cM kI64 1 x.code]
def Yan (x : Ya6) : List C := [C.ip [cM kI64 1 x.depths, cM Yak 1 x.ahead, cM Yak 1 x.behind, cM kI64 1 x.code]]
def Yao (x : List Int) : List C := [cM kI64 1 x]
def kU8 (x : Int) : List C := [cV (.int .u8 x)]
abbrev Yap (x : Int) : C := cI x
abbrev Yaq (x : List Ya5) : C := cM Yaj 3 x
abbrev Yar (x : Bool) : C := C.bool x
def Yas (x : Ya9) : List C := [cI x.graph.room, cM Yab 9 x.graph.events, cM Yab 9 x.graph.parked, C.imap .i64 Yap x.depth, C.imap .i64 Yaq x.before, C.imap .i64 Yaq x.after, C.imap .i64 Yap x.refused]
def Yat (x : Ya9) : List C := [C.ip [cI x.graph.room, cM Yab 9 x.graph.events, cM Yab 9 x.graph.parked, C.imap .i64 Yap x.depth, C.imap .i64 Yaq x.before, C.imap .i64 Yaq x.after, C.imap .i64 Yap x.refused]]
def Yau (x : Ya8) : List C := [cI x.event.id, cI x.event.room, cI x.event.author, cI x.event.kind, cI x.event.key, cI x.event.n, C.str x.event.text, cM kI64 1 x.event.prev, cI x.event.time, C.bool x.hidden]
def Yav (x : Ya4) : List C := [cM Yag 3 x.rooms, cM Yad 2 x.stream]
def Yaw (x : Ya2) : List C := [cI x.user, cM kI64 1 x.at_]
def Yax (x : Ya7) : List C := [cM Yag 3 x.h.rooms, cM Yad 2 x.h.stream, cM Yan 1 x.rooms, cM Yao 1 x.pos, cM Yak 1 x.now]
def Yay (x : Yaa) : List C := [cM Yag 3 x.hub.rooms, cM Yad 2 x.hub.stream, cM Yat 1 x.rooms]
def kHub (x : THub) : List C := [cM Yac 3 x.rooms, cM Yad 2 x.stream]
instance Yaz : SlI Tryz.prog 44 2 1 8 := ⟨by kernel_rfl⟩
instance Yb0 : FldI Tryz.prog 187 6 6 := ⟨by kernel_rfl⟩
instance ld_9 : LdI Tryz.prog 9 false 1 := ⟨by kernel_rfl⟩
theorem un_9 : Tryz.prog.underlying 9 = some .string := by kernel_rfl
instance : UnI Tryz.prog 9 .string := ⟨un_9⟩
instance Yb1 : FldI Tryz.prog 187 7 7 := ⟨by kernel_rfl⟩
instance Yb2 : LdI Tryz.prog 44 false 1 := ⟨by kernel_rfl⟩
instance Yb3 : SlI Tryz.prog 107 187 9 96 := ⟨by kernel_rfl⟩
instance Yb4 : LdI Tryz.prog 187 true 9 := ⟨by kernel_rfl⟩
instance Yb5 : FldI Tryz.prog 109 1 1 := ⟨by kernel_rfl⟩
instance Yb6 : LdI Tryz.prog 107 false 1 := ⟨by kernel_rfl⟩
instance Yb7 : FldI Tryz.prog 109 2 2 := ⟨by kernel_rfl⟩
instance Yb8 : SlI Tryz.prog 22 109 3 56 := ⟨by kernel_rfl⟩
instance Yb9 : LdI Tryz.prog 109 true 3 := ⟨by kernel_rfl⟩
instance Yba : SlI Tryz.prog 23 29 2 16 := ⟨by kernel_rfl⟩
instance Ybb : FldI Tryz.prog 25 0 0 := ⟨by kernel_rfl⟩
instance Ybc : LdI Tryz.prog 22 false 1 := ⟨by kernel_rfl⟩
instance Ybd : FldI Tryz.prog 25 1 1 := ⟨by kernel_rfl⟩
instance Ybe : LdI Tryz.prog 23 false 1 := ⟨by kernel_rfl⟩
instance Ybf : FldI Tryz.prog 46 1 1 := ⟨by kernel_rfl⟩
theorem Ybg : Y30 Tryz.prog 44 = some (2, 1, 8) := by kernel_rfl
theorem ze_2 : Y1c Tryz.prog 2 = some [.int .i64 0] := by kernel_rfl
instance : AlI Tryz.prog 2 [.int .i64 0] [cV (.int .i64 0)] := ⟨ze_2, Y4e rfl rfl⟩
instance ld_2 : LdI Tryz.prog 2 false 1 := ⟨by kernel_rfl⟩
theorem Ybh : Y1c Tryz.prog 82 = some [.int .i64 0, .int .i64 0, .int .i64 0, .int .i64 0, .int .i64 0, .int .i64 0, .string ByteArray.empty, .slice none 0 0, .int .i64 0] := by kernel_rfl
instance : AlI Tryz.prog 82 [.int .i64 0, .int .i64 0, .int .i64 0, .int .i64 0, .int .i64 0, .int .i64 0, .string ByteArray.empty, .slice none 0 0, .int .i64 0] [cV (.int .i64 0), cV (.int .i64 0), cV (.int .i64 0), cV (.int .i64 0), cV (.int .i64 0), cV (.int .i64 0), cV (.string ByteArray.empty), cV s0, cV (.int .i64 0)] := ⟨Ybh, Y4e rfl rfl⟩
instance Ybi : FldI Tryz.prog 187 0 0 := ⟨by kernel_rfl⟩
instance Ybj : FldI Tryz.prog 82 0 0 := ⟨by kernel_rfl⟩
instance Ybk : FldI Tryz.prog 187 1 1 := ⟨by kernel_rfl⟩
instance Ybl : FldI Tryz.prog 82 1 1 := ⟨by kernel_rfl⟩
instance Ybm : FldI Tryz.prog 187 2 2 := ⟨by kernel_rfl⟩
instance Ybn : FldI Tryz.prog 82 2 2 := ⟨by kernel_rfl⟩
instance Ybo : FldI Tryz.prog 187 3 3 := ⟨by kernel_rfl⟩
instance Ybp : FldI Tryz.prog 82 3 3 := ⟨by kernel_rfl⟩
instance Ybq : FldI Tryz.prog 187 4 4 := ⟨by kernel_rfl⟩
instance Ybr : FldI Tryz.prog 82 4 4 := ⟨by kernel_rfl⟩
instance Ybs : FldI Tryz.prog 187 5 5 := ⟨by kernel_rfl⟩
instance Ybt : FldI Tryz.prog 82 5 5 := ⟨by kernel_rfl⟩
instance Ybu : FldI Tryz.prog 82 6 6 := ⟨by kernel_rfl⟩
instance Ybv : FldI Tryz.prog 82 7 7 := ⟨by kernel_rfl⟩
instance Ybw : FldI Tryz.prog 187 8 8 := ⟨by kernel_rfl⟩
instance Ybx : FldI Tryz.prog 82 8 8 := ⟨by kernel_rfl⟩
instance Yby : LdI Tryz.prog 82 true 9 := ⟨by kernel_rfl⟩
theorem Ybz : Y30 Tryz.prog 116 = some (82, 9, 96) := by kernel_rfl
theorem Yc0 : ∀ x, Y4h (kI64 x) := fun x => (Y4h.cons (Y4g.val _) (Y4h.nil) : Y4h [cI x])
theorem Yc1 : ∀ x u, FrzL (Yae x u) (Yaf x u) (Yab x) := fun _ _ => (fS (fS (fS (fS (fS (fS (fS (FrzL.cons (os := [_]) Frz.arr (fS FrzL.nil)))))))))
theorem Yc2 : ∀ x u, Y4h (Yae x u) := fun _ _ => (Y4h.cons (Y4g.val _) (Y4h.cons (Y4g.val _) (Y4h.cons (Y4g.val _) (Y4h.cons (Y4g.val _) (Y4h.cons (Y4g.val _) (Y4h.cons (Y4g.val _) (Y4h.cons (Y4g.val _) (Y4h.cons (Y4g.val _) (Y4h.cons (Y4g.val _) Y4h.nil)))))))))
theorem Yc3 : ∀ x u, ∀ o ∈ Yaf x u, Y4i o := fun _ _ => (Y4k (Y4i.arr Yc0) Y4j)
instance Yc4 : SlI Tryz.prog 116 82 9 96 := ⟨by kernel_rfl⟩
theorem Yc5 : Y1c Tryz.prog 118 = some [.int .i64 0, .slice none 0 0, .slice none 0 0] := by kernel_rfl
instance : AlI Tryz.prog 118 [.int .i64 0, .slice none 0 0, .slice none 0 0] [cV (.int .i64 0), cV s0, cV s0] := ⟨Yc5, Y4e rfl rfl⟩
instance Yc6 : FldI Tryz.prog 109 0 0 := ⟨by kernel_rfl⟩
instance Yc7 : FldI Tryz.prog 118 0 0 := ⟨by kernel_rfl⟩
instance Yc8 : FldI Tryz.prog 118 1 1 := ⟨by kernel_rfl⟩
instance Yc9 : LdI Tryz.prog 116 false 1 := ⟨by kernel_rfl⟩
instance Yca : FldI Tryz.prog 118 2 2 := ⟨by kernel_rfl⟩
instance Ycb : LdI Tryz.prog 118 true 3 := ⟨by kernel_rfl⟩
theorem Ycc : Y30 Tryz.prog 33 = some (118, 3, 56) := by kernel_rfl
theorem Ycd : ∀ x u, FrzL (Yah x u) (Yai x u) (Yag x) := fun _ _ => (fS (FrzL.cons (os := [_]) (Frz.deep Yc1) (FrzL.cons (os := [_]) (Frz.deep Yc1) FrzL.nil)))
theorem Yce : ∀ x u, Y4h (Yah x u) := fun _ _ => (Y4h.cons (Y4g.val _) (Y4h.cons (Y4g.val _) (Y4h.cons (Y4g.val _) Y4h.nil)))
theorem Ycf : ∀ x u, ∀ o ∈ Yai x u, Y4i o := fun _ _ => (Y4k (Y4i.deep Yc2 Yc3) (Y4k (Y4i.deep Yc2 Yc3) Y4j))
instance Ycg : SlI Tryz.prog 33 118 3 56 := ⟨by kernel_rfl⟩
theorem Ych : Y1c Tryz.prog 40 = some [.int .i64 0, .int .i64 0] := by kernel_rfl
instance : AlI Tryz.prog 40 [.int .i64 0, .int .i64 0] [cV (.int .i64 0), cV (.int .i64 0)] := ⟨Ych, Y4e rfl rfl⟩
instance Yci : FldI Tryz.prog 29 0 0 := ⟨by kernel_rfl⟩
instance Ycj : FldI Tryz.prog 40 0 0 := ⟨by kernel_rfl⟩
instance Yck : FldI Tryz.prog 29 1 1 := ⟨by kernel_rfl⟩
instance Ycl : FldI Tryz.prog 40 1 1 := ⟨by kernel_rfl⟩
instance Ycm : LdI Tryz.prog 40 true 2 := ⟨by kernel_rfl⟩
theorem Ycn : Y30 Tryz.prog 34 = some (40, 2, 16) := by kernel_rfl
instance Yco : LdI Tryz.prog 29 true 2 := ⟨by kernel_rfl⟩
instance Ycp : SlI Tryz.prog 34 40 2 16 := ⟨by kernel_rfl⟩
theorem Ycq : Y1c Tryz.prog 36 = some [.slice none 0 0, .slice none 0 0] := by kernel_rfl
instance : AlI Tryz.prog 36 [.slice none 0 0, .slice none 0 0] [cV s0, cV s0] := ⟨Ycq, Y4e rfl rfl⟩
instance Ycr : FldI Tryz.prog 36 0 0 := ⟨by kernel_rfl⟩
instance Ycs : LdI Tryz.prog 33 false 1 := ⟨by kernel_rfl⟩
instance Yct : FldI Tryz.prog 36 1 1 := ⟨by kernel_rfl⟩
instance Ycu : LdI Tryz.prog 34 false 1 := ⟨by kernel_rfl⟩
instance Ycv : LdI Tryz.prog 36 true 2 := ⟨by kernel_rfl⟩
theorem Ycw : Y1c Tryz.prog 49 = some [.int .i64 0, .slice none 0 0] := by kernel_rfl
instance : AlI Tryz.prog 49 [.int .i64 0, .slice none 0 0] [cV (.int .i64 0), cV s0] := ⟨Ycw, Y4e rfl rfl⟩
instance Ycx : FldI Tryz.prog 46 0 0 := ⟨by kernel_rfl⟩
instance Ycy : FldI Tryz.prog 49 0 0 := ⟨by kernel_rfl⟩
instance Ycz : FldI Tryz.prog 49 1 1 := ⟨by kernel_rfl⟩
instance Yd0 : LdI Tryz.prog 49 true 2 := ⟨by kernel_rfl⟩
theorem un_4 : Tryz.prog.underlying 4 = some .bool := by kernel_rfl
instance : UnI Tryz.prog 4 .bool := ⟨un_4⟩
instance Yd1 : SlI Tryz.prog 159 194 3 24 := ⟨by kernel_rfl⟩
instance Yd2 : FldI Tryz.prog 194 0 0 := ⟨by kernel_rfl⟩
instance Yd3 : FldI Tryz.prog 194 1 1 := ⟨by kernel_rfl⟩
instance Yd4 : FldI Tryz.prog 194 2 2 := ⟨by kernel_rfl⟩
instance Yd5 : SlI Tryz.prog 112 159 1 24 := ⟨by kernel_rfl⟩
instance Yd6 : LdI Tryz.prog 159 false 1 := ⟨by kernel_rfl⟩
theorem Yd7 : Y30 Tryz.prog 159 = some (194, 3, 24) := by kernel_rfl
instance Yd8 : LdI Tryz.prog 194 true 3 := ⟨by kernel_rfl⟩
theorem Yd9 : places Tryz.prog 82 = some [(0, 1), (1, 1), (2, 1), (3, 1), (4, 1), (5, 1), (6, 1), (7, 1), (8, 1)] := by kernel_rfl
instance : PlI Tryz.prog 82 [(0, 1), (1, 1), (2, 1), (3, 1), (4, 1), (5, 1), (6, 1), (7, 1), (8, 1)] := ⟨Yd9⟩
theorem Yda : Y79 Tryz.prog 82 5 = some (5, 1, false) := by kernel_rfl
theorem Ydb : Y79 Tryz.prog 82 2 = some (2, 1, false) := by kernel_rfl
theorem Ydc : ∀ x, Y4h (Yaj x) := fun x => (Y4h.cons (Y4g.val _) (Y4h.cons (Y4g.val _) (Y4h.cons (Y4g.val _) (Y4h.nil))) : Y4h [cI x.kind, cI x.key, cI x.id])
theorem Ydd : places Tryz.prog 194 = some [(0, 1), (1, 1), (2, 1)] := by kernel_rfl
instance : PlI Tryz.prog 194 [(0, 1), (1, 1), (2, 1)] := ⟨Ydd⟩
theorem Yde : Y1c Tryz.prog 194 = some [.int .i64 0, .int .i64 0, .int .i64 0] := by kernel_rfl
instance : AlI Tryz.prog 194 [.int .i64 0, .int .i64 0, .int .i64 0] [cV (.int .i64 0), cV (.int .i64 0), cV (.int .i64 0)] := ⟨Yde, Y4e rfl rfl⟩
theorem Ydf : Y30 Tryz.prog 161 = some (4, 1, 1) := by kernel_rfl
theorem ze_4 : Y1c Tryz.prog 4 = some [.bool false] := by kernel_rfl
instance : AlI Tryz.prog 4 [.bool false] [cV (.bool false)] := ⟨ze_4, Y4e rfl rfl⟩
theorem Ydg : Y79 Tryz.prog 82 7 = some (7, 1, false) := by kernel_rfl
instance Ydh : SlI Tryz.prog 161 4 1 1 := ⟨by kernel_rfl⟩
instance ld_4 : LdI Tryz.prog 4 false 1 := ⟨by kernel_rfl⟩
theorem Ydi : Y30 Tryz.prog 112 = some (159, 1, 24) := by kernel_rfl
theorem Ydj : Y1c Tryz.prog 159 = some [.slice none 0 0] := by kernel_rfl
instance : AlI Tryz.prog 159 [.slice none 0 0] [cV s0] := ⟨Ydj, Y4e rfl rfl⟩
theorem Ydk : places Tryz.prog 164 = some [(0, 1), (1, 1), (2, 1), (3, 1)] := by kernel_rfl
instance : PlI Tryz.prog 164 [(0, 1), (1, 1), (2, 1), (3, 1)] := ⟨Ydk⟩
theorem Ydl : Y1c Tryz.prog 164 = some [.slice none 0 0, .slice none 0 0, .slice none 0 0, .slice none 0 0] := by kernel_rfl
instance : AlI Tryz.prog 164 [.slice none 0 0, .slice none 0 0, .slice none 0 0, .slice none 0 0] [cV s0, cV s0, cV s0, cV s0] := ⟨Ydl, Y4e rfl rfl⟩
instance Ydm : FldI Tryz.prog 164 2 2 := ⟨by kernel_rfl⟩
instance Ydn : LdI Tryz.prog 112 false 1 := ⟨by kernel_rfl⟩
instance Ydo : FldI Tryz.prog 164 1 1 := ⟨by kernel_rfl⟩
instance Ydp : FldI Tryz.prog 164 0 0 := ⟨by kernel_rfl⟩
instance Ydq : FldI Tryz.prog 164 3 3 := ⟨by kernel_rfl⟩
theorem Ydr : places Tryz.prog 114 = some [(0, 2), (2, 1), (3, 1), (4, 1)] := by kernel_rfl
instance : PlI Tryz.prog 114 [(0, 2), (2, 1), (3, 1), (4, 1)] := ⟨Ydr⟩
theorem Yds : Y1c Tryz.prog 114 = some [.slice none 0 0, .slice none 0 0, .slice none 0 0, .slice none 0 0, .slice none 0 0] := by kernel_rfl
instance : AlI Tryz.prog 114 [.slice none 0 0, .slice none 0 0, .slice none 0 0, .slice none 0 0, .slice none 0 0] [cV s0, cV s0, cV s0, cV s0, cV s0] := ⟨Yds, Y4e rfl rfl⟩
instance Ydt : FldI Tryz.prog 114 1 2 := ⟨by kernel_rfl⟩
instance Ydu : LdI Tryz.prog 110 false 1 := ⟨by kernel_rfl⟩
theorem Ydv : Y30 Tryz.prog 110 = some (157, 1, 8) := by kernel_rfl
instance Ydw : FldI Tryz.prog 114 3 4 := ⟨by kernel_rfl⟩
instance Ydx : FldI Tryz.prog 114 2 3 := ⟨by kernel_rfl⟩
instance Ydy : LdI Tryz.prog 111 false 1 := ⟨by kernel_rfl⟩
theorem Ydz : Y30 Tryz.prog 111 = some (44, 1, 24) := by kernel_rfl
instance Ye0 : FldI Tryz.prog 114 0 0 := ⟨by kernel_rfl⟩
instance Ye1 : SlI Tryz.prog 110 157 1 8 := ⟨by kernel_rfl⟩
instance Ye2 : LdI Tryz.prog 157 false 1 := ⟨by kernel_rfl⟩
instance Ye3 : SlI Tryz.prog 111 44 1 24 := ⟨by kernel_rfl⟩
theorem Ye4 : Y5s Tryz.prog 40 = some [0, 0] := by kernel_rfl
theorem Ye5 : Y30 Tryz.prog 89 = some (3, 1, 8) := by kernel_rfl
instance Ye6 : SlI Tryz.prog 89 3 1 8 := ⟨by kernel_rfl⟩
instance ld_3 : LdI Tryz.prog 3 false 1 := ⟨by kernel_rfl⟩
theorem Ye7 : Y1c Tryz.prog 92 = some [.int .i64 0, .int .i64 0, .int .i64 0, .int .i64 0, .int .i64 0, .int .i64 0, .string ByteArray.empty, .slice none 0 0, .int .i64 0, .bool false] := by kernel_rfl
instance : AlI Tryz.prog 92 [.int .i64 0, .int .i64 0, .int .i64 0, .int .i64 0, .int .i64 0, .int .i64 0, .string ByteArray.empty, .slice none 0 0, .int .i64 0, .bool false] [cV (.int .i64 0), cV (.int .i64 0), cV (.int .i64 0), cV (.int .i64 0), cV (.int .i64 0), cV (.int .i64 0), cV (.string ByteArray.empty), cV s0, cV (.int .i64 0), cV (.bool false)] := ⟨Ye7, Y4e rfl rfl⟩
theorem Ye8 : places Tryz.prog 92 = some [(0, 9), (9, 1)] := by kernel_rfl
instance : PlI Tryz.prog 92 [(0, 9), (9, 1)] := ⟨Ye8⟩
instance Ye9 : LdI Tryz.prog 92 true 10 := ⟨by kernel_rfl⟩
theorem un_2 : Tryz.prog.underlying 2 = some (.int .i64) := by kernel_rfl
instance : UnI Tryz.prog 2 (.int .i64) := ⟨un_2⟩
theorem un_5 : Tryz.prog.underlying 5 = some (.int .u8) := by kernel_rfl
instance : UnI Tryz.prog 5 (.int .u8) := ⟨un_5⟩
theorem Yea : Y30 Tryz.prog 144 = some (5, 1, 1) := by kernel_rfl
theorem Yeb : Y7e Tryz.prog 144 = true := by kernel_rfl
instance Yec : FldI Tryz.prog 92 0 0 := ⟨by kernel_rfl⟩
theorem un_3 : Tryz.prog.underlying 3 = some (.int .i64) := by kernel_rfl
instance : UnI Tryz.prog 3 (.int .i64) := ⟨un_3⟩
theorem Yed : Tryz.prog.underlying 213 = some (.int .u64) := by kernel_rfl
instance : UnI Tryz.prog 213 (.int .u64) := ⟨Yed⟩
theorem Yee : Y1c Tryz.prog 44 = some [.slice none 0 0] := by kernel_rfl
instance : AlI Tryz.prog 44 [.slice none 0 0] [cV s0] := ⟨Yee, Y4e rfl rfl⟩
instance Yef : FldI Tryz.prog 136 3 5 := ⟨by kernel_rfl⟩
instance Yeg : LdI Tryz.prog 134 false 1 := ⟨by kernel_rfl⟩
theorem Yeh : Y6r Tryz.prog 134 = some (.i64, 159) := by kernel_rfl
theorem Yei : Y6t Tryz.prog 159 = some s0 := by kernel_rfl
theorem Yej : Y5s Tryz.prog 194 = some [0, 0, 0] := by kernel_rfl
theorem Yek : Y6r Tryz.prog 233 = some (.i64, 4) := by kernel_rfl
theorem zv_4 : Y6t Tryz.prog 4 = some (.bool false) := by kernel_rfl
instance Yel : LdI Tryz.prog 127 false 1 := ⟨by kernel_rfl⟩
instance Yem : FldI Tryz.prog 136 0 0 := ⟨by kernel_rfl⟩
instance Yen : FldI Tryz.prog 136 1 3 := ⟨by kernel_rfl⟩
instance Yeo : LdI Tryz.prog 133 false 1 := ⟨by kernel_rfl⟩
theorem Yep : Y6r Tryz.prog 133 = some (.i64, 2) := by kernel_rfl
theorem zv_2 : Y6t Tryz.prog 2 = some (.int .i64 0) := by kernel_rfl
instance Yeq : FldI Tryz.prog 136 2 4 := ⟨by kernel_rfl⟩
instance Yer : FldI Tryz.prog 136 4 6 := ⟨by kernel_rfl⟩
theorem Yes : places Tryz.prog 136 = some [(0, 3), (3, 1), (4, 1), (5, 1), (6, 1)] := by kernel_rfl
instance : PlI Tryz.prog 136 [(0, 3), (3, 1), (4, 1), (5, 1), (6, 1)] := ⟨Yes⟩
theorem Yet : Y1c Tryz.prog 136 = some [.int .i64 0, .slice none 0 0, .slice none 0 0, .map none, .map none, .map none, .map none] := by kernel_rfl
instance : AlI Tryz.prog 136 [.int .i64 0, .slice none 0 0, .slice none 0 0, .map none, .map none, .map none, .map none] [cV (.int .i64 0), cV s0, cV s0, cV (.map none), cV (.map none), cV (.map none), cV (.map none)] := ⟨Yet, Y4e rfl rfl⟩
instance Yeu : FldI Tryz.prog 126 1 2 := ⟨by kernel_rfl⟩
instance Yev : LdI Tryz.prog 124 false 1 := ⟨by kernel_rfl⟩
instance Yew : SlI Tryz.prog 124 127 1 8 := ⟨by kernel_rfl⟩
theorem Yex : places Tryz.prog 126 = some [(0, 2), (2, 1)] := by kernel_rfl
instance : PlI Tryz.prog 126 [(0, 2), (2, 1)] := ⟨Yex⟩
theorem Yey : Y1c Tryz.prog 126 = some [.slice none 0 0, .slice none 0 0, .slice none 0 0] := by kernel_rfl
instance : AlI Tryz.prog 126 [.slice none 0 0, .slice none 0 0, .slice none 0 0] [cV s0, cV s0, cV s0] := ⟨Yey, Y4e rfl rfl⟩
theorem Yez : Y30 Tryz.prog 124 = some (127, 1, 8) := by kernel_rfl
theorem Yf0 : Y1c Tryz.prog 130 = some [.map none] := by kernel_rfl
instance : AlI Tryz.prog 130 [.map none] [cV (.map none)] := ⟨Yf0, Y4e rfl rfl⟩
instance Yf1 : LdI Tryz.prog 130 false 1 := ⟨by kernel_rfl⟩
theorem Yf2 : Y8v Tryz.prog 130 = some (40, 4) := by kernel_rfl
theorem Yf3 : Y1c Tryz.prog 127 = some [.pointer none] := by kernel_rfl
instance : AlI Tryz.prog 127 [.pointer none] [cV (.pointer none)] := ⟨Yf3, Y4e rfl rfl⟩
theorem Yf4 : places Tryz.prog 40 = some [(0, 1), (1, 1)] := by kernel_rfl
instance : PlI Tryz.prog 40 [(0, 1), (1, 1)] := ⟨Yf4⟩
instance Yf5 : FldI Tryz.prog 126 0 0 := ⟨by kernel_rfl⟩
instance Yf6 : FldI Tryz.prog 92 1 9 := ⟨by kernel_rfl⟩
theorem Yf7 : Y30 Tryz.prog 97 = some (92, 10, 104) := by kernel_rfl
instance Yf8 : SlI Tryz.prog 97 92 10 104 := ⟨by kernel_rfl⟩
instance Yf9 : LdI Tryz.prog 25 true 2 := ⟨by kernel_rfl⟩
instance Yfa : LdI Tryz.prog 46 true 2 := ⟨by kernel_rfl⟩
instance : ArT Tryz.prog 44 2 1 8 kI64 := ⟨Ybg⟩
instance : ZeK Tryz.prog 2 kI64 [.int .i64 0] 0 := ⟨ze_2, (Y4e rfl rfl)⟩
instance : ZeK Tryz.prog 82 Yab [.int .i64 0, .int .i64 0, .int .i64 0, .int .i64 0, .int .i64 0, .int .i64 0, .string ByteArray.empty, .slice none 0 0, .int .i64 0] (Y9z.mk 0 0 0 0 0 0 ByteArray.empty [] 0) := ⟨Ybh, (fun w F => Imps.cells (.cons (Imp.refl _) (.cons (Imp.refl _) (.cons (Imp.refl _) (.cons (Imp.refl _) (.cons (Imp.refl _) (.cons (Imp.refl _) (.cons (Imp.refl _) (.cons (Imp.nil kI64 1) (.cons (Imp.refl _) .nil))))))))) (Y4e (cs := [cV (.int .i64 0), cV (.int .i64 0), cV (.int .i64 0), cV (.int .i64 0), cV (.int .i64 0), cV (.int .i64 0), cV (.string ByteArray.empty), cV s0, cV (.int .i64 0)]) rfl rfl w F))⟩
instance : ArT Tryz.prog 116 82 9 96 Yab := ⟨Ybz⟩
instance : PnK kI64 := ⟨Yc0⟩
instance : FzD Yae Yaf Yab := ⟨Yc1⟩
instance : PnD Yae Yaf := ⟨Yc2, Yc3⟩
instance : ZeK Tryz.prog 118 Yag [.int .i64 0, .slice none 0 0, .slice none 0 0] (Ya3.mk 0 [] []) := ⟨Yc5, (fun w F => Imps.cells (.cons (Imp.refl _) (.cons (Imp.nil Yab 9) (.cons (Imp.nil Yab 9) .nil))) (Y4e (cs := [cV (.int .i64 0), cV s0, cV s0]) rfl rfl w F))⟩
instance : ArT Tryz.prog 33 118 3 56 Yag := ⟨Ycc⟩
instance : FzD Yah Yai Yag := ⟨Ycd⟩
instance : PnD Yah Yai := ⟨Yce, Ycf⟩
instance : ZeK Tryz.prog 40 Yad [.int .i64 0, .int .i64 0] (Ya1.mk 0 0) := ⟨Ych, (Y4e rfl rfl)⟩
instance : ArT Tryz.prog 34 40 2 16 Yad := ⟨Ycn⟩
instance : ZeK Tryz.prog 36 Yav [.slice none 0 0, .slice none 0 0] (Ya4.mk [] []) := ⟨Ycq, (fun w F => Imps.cells (.cons (Imp.nil Yag 3) (.cons (Imp.nil Yad 2) .nil)) (Y4e (cs := [cV s0, cV s0]) rfl rfl w F))⟩
instance : ZeK Tryz.prog 49 Yaw [.int .i64 0, .slice none 0 0] (Ya2.mk 0 []) := ⟨Ycw, (fun w F => Imps.cells (.cons (Imp.refl _) (.cons (Imp.nil kI64 1) .nil)) (Y4e (cs := [cV (.int .i64 0), cV s0]) rfl rfl w F))⟩
instance : ArT Tryz.prog 159 194 3 24 Yaj := ⟨Yd7⟩
instance : FiI Tryz.prog 82 5 5 1 false := ⟨Yda⟩
instance : FiI Tryz.prog 82 2 2 1 false := ⟨Ydb⟩
instance : PnK Yaj := ⟨Ydc⟩
instance : ZeK Tryz.prog 194 Yaj [.int .i64 0, .int .i64 0, .int .i64 0] (Ya5.mk 0 0 0) := ⟨Yde, (Y4e rfl rfl)⟩
instance : ArT Tryz.prog 161 4 1 1 Yal := ⟨Ydf⟩
instance : ZeK Tryz.prog 4 Yal [.bool false] false := ⟨ze_4, (Y4e rfl rfl)⟩
instance : FiI Tryz.prog 82 7 7 1 false := ⟨Ydg⟩
instance : ArT Tryz.prog 112 159 1 24 Yak := ⟨Ydi⟩
instance : ZeK Tryz.prog 159 Yak [.slice none 0 0] [] := ⟨Ydj, (fun w F => Imps.cells (.cons (Imp.nil Yaj 3) .nil) (Y4e (cs := [cV s0]) rfl rfl w F))⟩
instance : ZeK Tryz.prog 164 Yam [.slice none 0 0, .slice none 0 0, .slice none 0 0, .slice none 0 0] (Ya6.mk [] [] [] []) := ⟨Ydl, (fun w F => Imps.cells (.cons (Imp.nil kI64 1) (.cons (Imp.nil Yak 1) (.cons (Imp.nil Yak 1) (.cons (Imp.nil kI64 1) .nil)))) (Y4e (cs := [cV s0, cV s0, cV s0, cV s0]) rfl rfl w F))⟩
instance : ZeK Tryz.prog 114 Yax [.slice none 0 0, .slice none 0 0, .slice none 0 0, .slice none 0 0, .slice none 0 0] (Ya7.mk (Ya4.mk [] []) [] [] []) := ⟨Yds, (fun w F => Imps.cells (.cons (Imp.nil Yag 3) (.cons (Imp.nil Yad 2) (.cons (Imp.nil Yan 1) (.cons (Imp.nil Yao 1) (.cons (Imp.nil Yak 1) .nil))))) (Y4e (cs := [cV s0, cV s0, cV s0, cV s0, cV s0]) rfl rfl w F))⟩
instance : ArT Tryz.prog 110 157 1 8 Yan := ⟨Ydv⟩
instance : ArT Tryz.prog 111 44 1 24 Yao := ⟨Ydz⟩
instance : EqK Tryz.prog 40 [0, 0] := ⟨Ye4⟩
instance : ArT Tryz.prog 89 3 1 8 kI64 := ⟨Ye5⟩
instance : ZeK Tryz.prog 92 Yau [.int .i64 0, .int .i64 0, .int .i64 0, .int .i64 0, .int .i64 0, .int .i64 0, .string ByteArray.empty, .slice none 0 0, .int .i64 0, .bool false] (Ya8.mk (Y9z.mk 0 0 0 0 0 0 ByteArray.empty [] 0) false) := ⟨Ye7, (fun w F => Imps.cells (.cons (Imp.refl _) (.cons (Imp.refl _) (.cons (Imp.refl _) (.cons (Imp.refl _) (.cons (Imp.refl _) (.cons (Imp.refl _) (.cons (Imp.refl _) (.cons (Imp.nil kI64 1) (.cons (Imp.refl _) (.cons (Imp.refl _) .nil)))))))))) (Y4e (cs := [cV (.int .i64 0), cV (.int .i64 0), cV (.int .i64 0), cV (.int .i64 0), cV (.int .i64 0), cV (.int .i64 0), cV (.string ByteArray.empty), cV s0, cV (.int .i64 0), cV (.bool false)]) rfl rfl w F))⟩
instance : ArT Tryz.prog 144 5 1 1 kU8 := ⟨Yea⟩
instance : ByI Tryz.prog 144 := ⟨Yeb⟩
instance : ZeK Tryz.prog 44 Yao [.slice none 0 0] [] := ⟨Yee, (fun w F => Imps.cells (.cons (Imp.nil kI64 1) .nil) (Y4e (cs := [cV s0]) rfl rfl w F))⟩
instance : MpT Tryz.prog 134 .i64 Yaq 159 s0 ([] : List Ya5) := ⟨Yeh, Yei, (fun w F => Imp.nil Yaj 3 w F _ rfl)⟩
instance : EqK Tryz.prog 194 [0, 0, 0] := ⟨Yej⟩
instance : MpT Tryz.prog 233 .i64 Yar 4 (.bool false) false := ⟨Yek, zv_4, (fun _ _ => rfl)⟩
instance : MpT Tryz.prog 133 .i64 Yap 2 (.int .i64 0) 0 := ⟨Yep, zv_2, (fun _ _ => rfl)⟩
instance : ZeK Tryz.prog 126 Yay [.slice none 0 0, .slice none 0 0, .slice none 0 0] (Yaa.mk (Ya4.mk [] []) []) := ⟨Yey, (fun w F => Imps.cells (.cons (Imp.nil Yag 3) (.cons (Imp.nil Yad 2) (.cons (Imp.nil Yat 1) .nil))) (Y4e (cs := [cV s0, cV s0, cV s0]) rfl rfl w F))⟩
instance : ArT Tryz.prog 124 127 1 8 Yat := ⟨Yez⟩
instance : PpT Tryz.prog 130 Yar 40 4 (.bool false) false := ⟨Yf2, zv_4, (fun _ _ => rfl)⟩
instance : ArT Tryz.prog 97 92 10 104 Yau := ⟨Yf7⟩
instance : SrI Tryz.prog 192 9 := ⟨Y9q⟩
instance : SrJ Tryz.prog 254 := ⟨Y9r⟩
instance {a1 : Int} {a2 : Int} {a3 : Int} {a4 : Int} {a5 : Int} {a6 : Int} {a7 : ByteArray} {a8 : List Int} {a9 : Int} : Mk Yab [cI a1, cI a2, cI a3, cI a4, cI a5, cI a6, C.str a7, cM kI64 1 a8, cI a9] (Y9z.mk a1 a2 a3 a4 a5 a6 a7 a8 a9) := ⟨rfl⟩
instance {a1 : Int} {a2 : List Y9z} {a3 : List Y9z} : Mk Yac [cI a1, cM Yab 9 a2, cM Yab 9 a3] (Ya0.mk a1 a2 a3) := ⟨rfl⟩
instance {a1 : Int} {a2 : Int} : Mk Yad [cI a1, cI a2] (Ya1.mk a1 a2) := ⟨rfl⟩
instance {a1 : List Ya0} {a2 : List Ya1} : Mk kHub [cM Yac 3 a1, cM Yad 2 a2] (THub.mk a1 a2) := ⟨rfl⟩
instance {a1 : Int} {a2 : List Int} : Mk Yaw [cI a1, cM kI64 1 a2] (Ya2.mk a1 a2) := ⟨rfl⟩
instance {a1 : Int} {a2 : List Y9z} {a3 : List Y9z} : Mk Yag [cI a1, cM Yab 9 a2, cM Yab 9 a3] (Ya3.mk a1 a2 a3) := ⟨rfl⟩
instance {a1 : List Ya3} {a2 : List Ya1} : Mk Yav [cM Yag 3 a1, cM Yad 2 a2] (Ya4.mk a1 a2) := ⟨rfl⟩
instance {a1 : Int} {a2 : Int} {a3 : Int} : Mk Yaj [cI a1, cI a2, cI a3] (Ya5.mk a1 a2 a3) := ⟨rfl⟩
instance {a1 : List Int} {a2 : List (List Ya5)} {a3 : List (List Ya5)} {a4 : List Int} : Mk Yan [C.ip [cM kI64 1 a1, cM Yak 1 a2, cM Yak 1 a3, cM kI64 1 a4]] (Ya6.mk a1 a2 a3 a4) := ⟨rfl⟩
instance {a1 : List Int} {a2 : List (List Ya5)} {a3 : List (List Ya5)} {a4 : List Int} : Mk Yam [cM kI64 1 a1, cM Yak 1 a2, cM Yak 1 a3, cM kI64 1 a4] (Ya6.mk a1 a2 a3 a4) := ⟨rfl⟩
instance {a1 : List Ya3} {a2 : List Ya1} {a3 : List Ya6} {a4 : List (List Int)} {a5 : List (List Ya5)} : Mk Yax [cM Yag 3 a1, cM Yad 2 a2, cM Yan 1 a3, cM Yao 1 a4, cM Yak 1 a5] (Ya7.mk (Ya4.mk a1 a2) a3 a4 a5) := ⟨rfl⟩
instance {a1 : Int} {a2 : Int} {a3 : Int} {a4 : Int} {a5 : Int} {a6 : Int} {a7 : ByteArray} {a8 : List Int} {a9 : Int} {a10 : Bool} : Mk Yau [cI a1, cI a2, cI a3, cI a4, cI a5, cI a6, C.str a7, cM kI64 1 a8, cI a9, C.bool a10] (Ya8.mk (Y9z.mk a1 a2 a3 a4 a5 a6 a7 a8 a9) a10) := ⟨rfl⟩
instance {a1 : Int} {a2 : List Y9z} {a3 : List Y9z} {a4 : List (Int × Int)} {a5 : List (Int × List Ya5)} {a6 : List (Int × List Ya5)} {a7 : List (Int × Int)} : Mk Yat [C.ip [cI a1, cM Yab 9 a2, cM Yab 9 a3, C.imap .i64 Yap a4, C.imap .i64 Yaq a5, C.imap .i64 Yaq a6, C.imap .i64 Yap a7]] (Ya9.mk (Ya3.mk a1 a2 a3) a4 a5 a6 a7) := ⟨rfl⟩
instance {a1 : Int} {a2 : List Y9z} {a3 : List Y9z} {a4 : List (Int × Int)} {a5 : List (Int × List Ya5)} {a6 : List (Int × List Ya5)} {a7 : List (Int × Int)} : Mk Yas [cI a1, cM Yab 9 a2, cM Yab 9 a3, C.imap .i64 Yap a4, C.imap .i64 Yaq a5, C.imap .i64 Yaq a6, C.imap .i64 Yap a7] (Ya9.mk (Ya3.mk a1 a2 a3) a4 a5 a6 a7) := ⟨rfl⟩
instance {a1 : List Ya3} {a2 : List Ya1} {a3 : List Ya9} : Mk Yay [cM Yag 3 a1, cM Yad 2 a2, cM Yat 1 a3] (Yaa.mk (Ya4.mk a1 a2) a3) := ⟨rfl⟩
instance {x : Int} : Mk kI64 [cI x] x := ⟨rfl⟩
instance {x : List Ya5} : Mk Yak [cM Yaj 3 x] x := ⟨rfl⟩
instance {x : Bool} : Mk Yal [C.bool x] x := ⟨rfl⟩
instance {x : List Int} : Mk Yao [cM kI64 1 x] x := ⟨rfl⟩
instance {x : Int} : Mk kU8 [cV (.int .u8 x)] x := ⟨rfl⟩
instance {x : Int} : Mc Yap (cI x) x := ⟨rfl⟩
instance {x : List Ya5} : Mc Yaq (cM Yaj 3 x) x := ⟨rfl⟩
instance {x : Bool} : Mc Yar (C.bool x) x := ⟨rfl⟩

def Z1 (p0 : List Int) (p1 : Int) : Option Int := cond (decide ((IntKind.i64.wrap (p1 - (p0.length : Int))) < 0)) (some (-1)) (some (IntKind.i64.wrap (p1 - (p0.length : Int))))
instance Z2 (p0 : List Int) (p1 : Int) : Sp Tryz.prog 47 [cM kI64 1 p0, cI p1] (Z1 p0 p1) (fun r => cI r) := Sp.of (so Tryz.func47 rfl rfl fun r X h => gh .z)

def Z3 (p0 : Y9z) (p1 : Int) : Option Int := cond (decide ((IntKind.i64.wrap (p1 - (p0.text.size : Int))) < 0)) (some (-1)) ((Z1 p0.prev (IntKind.i64.wrap (p1 - (p0.text.size : Int)))).bind fun r3 => cond (decide (r3 < 0)) (some (-1)) (some r3))
instance Z4 (p0 : Y9z) (p1 : Int) : Sp Tryz.prog 135 [C.agg [cI p0.id, cI p0.room, cI p0.author, cI p0.kind, cI p0.key, cI p0.n, C.str p0.text, cM kI64 1 p0.prev, cI p0.time], cI p1] (Z3 p0 p1) (fun r => cI r) := Sp.of (so Tryz.func135 rfl rfl fun r X h => gh .z)

def Z5 (x16 : Int) : Option Int := some x16
def Z6 (p0 : List Y9z) (x8 : Int) (x9 : Int) : Option ((Int × Int) ⊕ (Int ⊕ Int)) := cond (decide (x9 < (p0.length : Int))) ((getI p0 x9).bind fun e11 => (Z3 e11 x8).bind fun r13 => cond (decide (r13 < 0)) (some (.inr (.inl (-1)))) (some (.inl (r13, (IntKind.i64.wrap (x9 + 1)))))) (some (.inr (.inr x8)))
def Z7 (p0 : List Y9z) (p1 : Int) : Option Int := cond (decide ((IntKind.i64.wrap (p1 - (p0.length : Int))) < 0)) (some (-1)) ((iter (fun z17 => Z6 p0 z17.1 z17.2) big ((IntKind.i64.wrap (p1 - (p0.length : Int))), 0)).bind (fun z20 => match z20 with | .inl y18 => some y18 | .inr y19 => Z5 y19))
instance Z8 (p0 : List Y9z) (p1 : Int) : Sp Tryz.prog 102 [cM Yab 9 p0, cI p1] (Z7 p0 p1) (fun r => cI r) := Sp.of (so Tryz.func102 rfl rfl fun r X h => gh (.b .z (.c1 (fun x16 => .d [(1, cI x16)] []) [] [] (.l2 (fun x8 x9 => .d [(1, cI x8), (5, cI x9)] []) [0] [] .z) .z)))

def Z9 (p0 : Ya0) (p1 : Int) : Option Int := (Z7 p0.events p1).bind fun r2 => cond (decide (r2 < 0)) (some (-1)) ((Z7 p0.parked r2).bind fun r5 => cond (decide (r5 < 0)) (some (-1)) (some r5))
instance Za (p0 : Ya0) (p1 : Int) : Sp Tryz.prog 69 [C.agg [cI p0.room, cM Yab 9 p0.events, cM Yab 9 p0.parked], cI p1] (Z9 p0 p1) (fun r => cI r) := Sp.of (so Tryz.func69 rfl rfl fun r X h => gh .z)

def Zb (x16 : Int) : Option Int := some x16
def Zc (p0 : List Ya0) (x8 : Int) (x9 : Int) : Option ((Int × Int) ⊕ (Int ⊕ Int)) := cond (decide (x9 < (p0.length : Int))) ((getI p0 x9).bind fun e11 => (Z9 e11 x8).bind fun r13 => cond (decide (r13 < 0)) (some (.inr (.inl (-1)))) (some (.inl (r13, (IntKind.i64.wrap (x9 + 1)))))) (some (.inr (.inr x8)))
def Zd (p0 : List Ya0) (p1 : Int) : Option Int := cond (decide ((IntKind.i64.wrap (p1 - (p0.length : Int))) < 0)) (some (-1)) ((iter (fun z17 => Zc p0 z17.1 z17.2) big ((IntKind.i64.wrap (p1 - (p0.length : Int))), 0)).bind (fun z20 => match z20 with | .inl y18 => some y18 | .inr y19 => Zb y19))
instance Ze (p0 : List Ya0) (p1 : Int) : Sp Tryz.prog 32 [cM Yac 3 p0, cI p1] (Zd p0 p1) (fun r => cI r) := Sp.of (so Tryz.func32 rfl rfl fun r X h => gh (.b .z (.c1 (fun x16 => .d [(1, cI x16)] []) [] [] (.l2 (fun x8 x9 => .d [(1, cI x8), (5, cI x9)] []) [0] [] .z) .z)))

def Zf (p0 : List Ya1) (p1 : Int) : Option Int := cond (decide ((IntKind.i64.wrap (p1 - (p0.length : Int))) < 0)) (some (-1)) (some (IntKind.i64.wrap (p1 - (p0.length : Int))))
instance Zg (p0 : List Ya1) (p1 : Int) : Sp Tryz.prog 33 [cM Yad 2 p0, cI p1] (Zf p0 p1) (fun r => cI r) := Sp.of (so Tryz.func33 rfl rfl fun r X h => gh .z)

def Zh (p0 : THub) (p1 : Int) : Option Int := (Zd p0.rooms p1).bind fun r2 => cond (decide (r2 < 0)) (some (-1)) ((Zf p0.stream r2).bind fun r5 => cond (decide (r5 < 0)) (some (-1)) (some r5))
instance Zi (p0 : THub) (p1 : Int) : Sp Tryz.prog 7 [C.agg [cM Yac 3 p0.rooms, cM Yad 2 p0.stream], cI p1] (Zh p0 p1) (fun r => cI r) := Sp.of (so Tryz.func7 rfl rfl fun r X h => gh .z)

def Zj (p0 : Ya2) (p1 : Int) : Option Int := (Z1 p0.at_ p1).bind fun r2 => cond (decide (r2 < 0)) (some (-1)) (some r2)
instance Zk (p0 : Ya2) (p1 : Int) : Sp Tryz.prog 15 [C.agg [cI p0.user, cM kI64 1 p0.at_], cI p1] (Zj p0 p1) (fun r => cI r) := Sp.of (so Tryz.func15 rfl rfl fun r X h => gh .z)

def Zl (l16 : List Int) : Option (List Int) := some l16
def Zm (p0 : List Int) (l9 : List Int) (x10 : Int) : Option ((List Int × Int) ⊕ ((List Int))) := cond (decide (x10 < (p0.length : Int))) ((getI p0 x10).bind fun e12 => (getI l9 x10).bind fun e14 => some (.inl ((List.set l9 (Int.toNat x10) e12), (IntKind.i64.wrap (x10 + 1))))) (some (.inr l9))
def Zn (p0 : List Int) : Option (List Int) := (chk (decide (0 ≤ (p0.length : Int) ∧ (p0.length : Int) * 8 ≤ 140737488355328))).bind fun u2 => (iter (fun z18 => Zm p0 z18.1 z18.2) big ((List.replicate (Int.toNat (p0.length : Int)) 0), 0)).bind fun y19 => Zl y19
instance Zo (p0 : List Int) : SpO Tryz.prog 54 (Zn p0) (.d [cM kI64 1 p0] [] fun r => .x fun (v17 : Value) => .d (cV v17) [oA v17 2 kI64 1 r]) := ⟨so Tryz.func54 rfl rfl fun r X h => gh (.q 2 (.a 0 fun w0 => .c1 (fun l16 => .d [] [oA w0 2 kI64 1 l16]) [3] [] (.A 0 fun w0 => .l2 (fun l9 x10 => .d [(4, cI x10)] [oA w0 2 kI64 1 l9]) [0,3] [] .z) .z))⟩
instance Zo' (p0 : List Int) : Sp Tryz.prog 54 [cM kI64 1 p0] (Zn p0) (fun r => cM kI64 1 r) := ⟨fun r h => Ok.freeze ((Zo p0).h r h) (by rintro c qs ⟨v17, rfl, rfl⟩; exact Frz.arr)⟩

def Zp (p0 : Y9z) : Option Y9z := (Zn p0.prev).bind fun r4 => some (Y9z.mk p0.id p0.room p0.author p0.kind p0.key p0.n p0.text r4 p0.time)
instance Zq (p0 : Y9z) : SpO Tryz.prog 144 (Zp p0) (.d [C.agg [cI p0.id, cI p0.room, cI p0.author, cI p0.kind, cI p0.key, cI p0.n, C.str p0.text, cM kI64 1 p0.prev, cI p0.time]] [] fun r => .x fun (v8 : Value) => .d (C.agg [cI r.id, cI r.room, cI r.author, cI r.kind, cI r.key, cI r.n, C.str r.text, cV v8, cI r.time]) [oA v8 2 kI64 1 r.prev]) := ⟨so Tryz.func144 rfl rfl fun r X h => gh (.k .z)⟩
instance Zq' (p0 : Y9z) : Sp Tryz.prog 144 [C.agg [cI p0.id, cI p0.room, cI p0.author, cI p0.kind, cI p0.key, cI p0.n, C.str p0.text, cM kI64 1 p0.prev, cI p0.time]] (Zp p0) (fun r => C.agg [cI r.id, cI r.room, cI r.author, cI r.kind, cI r.key, cI r.n, C.str r.text, cM kI64 1 r.prev, cI r.time]) := ⟨fun r h => Ok.freeze ((Zq p0).h r h) (by rintro c qs ⟨v8, rfl, rfl⟩; exact Frz.agg (fS (fS (fS (fS (fS (fS (fS (FrzL.cons (os := [_]) (Frz.arr) (fS (FrzL.nil)))))))))))⟩

def Zr (l22 : List Y9z) : Option (List Y9z) := some l22
def Zs (p0 : List Y9z) (l12 : List Y9z) (x13 : Int) : Option ((List Y9z × Int) ⊕ ((List Y9z))) := cond (decide (x13 < (p0.length : Int))) ((getI p0 x13).bind fun e15 => (Zp e15).bind fun r17 => (getI l12 x13).bind fun e20 => some (.inl ((List.set l12 (Int.toNat x13) r17), (IntKind.i64.wrap (x13 + 1))))) (some (.inr l12))
def Zt (p0 : List Y9z) : Option (List Y9z) := (chk (decide (0 ≤ (p0.length : Int) ∧ (p0.length : Int) * 96 ≤ 140737488355328))).bind fun u2 => (iter (fun z24 => Zs p0 z24.1 z24.2) big ((List.replicate (Int.toNat (p0.length : Int)) (Y9z.mk 0 0 0 0 0 0 ByteArray.empty [] 0)), 0)).bind fun y25 => Zr y25
theorem Zu (p0 : List Y9z) (r : List Y9z) (h : Zt p0 = some r) : Ok Tryz.prog 111 [cM Yab 9 p0] [] (fun c qs => ∃ (v23 : Value), c = cV v23 ∧ qs = [Obj.deep v23 82 Yae Yaf 9 r]) := by
 refine Ok.of_body (rs := [.tmp 2]) Tryz.func111 rfl rfl rfl rfl rfl fun X => ?_
 unfold Zt at h
 refine zw ?_
 refine ob' h fun u2 c1 h => ?_
 refine Ops.h (ns := []) rfl rfl (Y6l (k := Yae) (ob := Yaf) (z := (Y9z.mk 0 0 0 0 0 0 ByteArray.empty [] 0)) (u0 := s0) Ybz Ybh (Y4e rfl rfl) (fun _ _ => (Own.none_cons Y6i Own.none_nil)) rfl rfl (Y49 c1).1 (Y49 c1).2 (Y4a (by decide) c1) rfl) ?_
 rintro _ _ ⟨b3, rfl, rfl⟩
 refine Ops.v rfl (Ys rfl rfl) ?_
 refine Ops.nil ?_
 refine AW.seq ?_
 refine AW.cut (τ := List Y9z) (fun l22 => ⟨[(3, cV (sn b3 (p0.length : Int)))], [Obj.deep (sn b3 (p0.length : Int)) 82 Yae Yaf 9 l22]⟩) (fun l22 => Zr l22 = some r) ?_ ?_
 ·
  refine zw ?_
  refine ob' h fun o26 g27 q28 => ?_
  refine AW.loop (τ := List Y9z × Int) (x := ((List.replicate (Int.toNat (p0.length : Int)) (Y9z.mk 0 0 0 0 0 0 ByteArray.empty [] 0)), 0)) (fun (l12, x13) => ⟨[(0, cM Yab 9 p0), (3, cV (sn b3 (p0.length : Int))), (4, cI x13)], [Obj.deep (sn b3 (p0.length : Int)) 82 Yae Yaf 9 l12]⟩) (fun k (l12, x13) => iter (fun z24 => Zs p0 z24.1 z24.2) k (l12, x13) = some o26) g27 (Y25.both (ns := [0]) rfl rfl) ?_
  rintro k ⟨l12, x13⟩ i30
  refine Y4d (show iter (fun z24 => Zs p0 z24.1 z24.2) k (l12, x13) = some o26 from i30) fun k29 y31 hlt_k29 h h32 => ?_
  replace h : Zs p0 l12 x13 = some y31 := h
  unfold Zs at h
  refine zw ?_
  refine cnd h (fun hb14 h => ?_) fun hb14 h => ?_
  ·
   refine AW.ct hb14 rfl ?_
   refine zw ?_
   refine oi h fun e15 g16 h => ?_
   refine zw ?_
   refine ob' h fun r17 g18 h => ?_
   refine Ops.h (ns := []) rfl rfl (Y27 ((Zq _).h _ g18) rfl rfl) ?_
   rintro _ _ ⟨_, ⟨v19, rfl, rfl⟩, rfl⟩
   refine ob' h fun e20 g21 h => ?_
   refine Ops.v rfl (Y6d (p := 1) Yc4.h rfl rfl rfl g21 rfl) ?_
   refine Ops.hd (ns := [1, 0]) rfl rfl (Y6h (e' := r17) (u' := v19) Yby.h rfl rfl rfl (Y2f g21).2.2 (fun _ => rfl) rfl rfl) ?_
   refine zw ?_
   obtain rfl := Wj h
   exact ⟨k29, ((List.set l12 (Int.toNat x13) r17), (IntKind.i64.wrap (x13 + 1))), hlt_k29, h32, Y25.both (ns := [0]) rfl rfl⟩
  refine AW.cf hb14 rfl ?_
  refine AW.exit ?_
  obtain rfl := Wj h
  obtain rfl := Wj h32
  replace h := q28
  exact ⟨l12, h, Y25.both (ns := [0]) rfl rfl⟩
 intro l22 h
 replace h : Zr l22 = some r := h
 unfold Zr at h
 refine zw ?_
 refine AW.ret ?_
 rw [← Wj h]
 exact finI ⟨[cV (sn b3 (p0.length : Int))], _, Y25.refl _, (.cons (.tmp rfl) .nil), [0], _, _, rfl, ⟨(sn b3 (p0.length : Int)), rfl, rfl⟩⟩
instance Zu' (p0 : List Y9z) : Sp Tryz.prog 111 [cM Yab 9 p0] (Zt p0) (fun r => cM Yab 9 r) := ⟨fun r h => Ok.freeze (Zu p0 r h) (by rintro c qs ⟨v23, rfl, rfl⟩; exact (Frz.deep Yc1))⟩
instance Zv (p0 : List Y9z) : SpO Tryz.prog 111 (Zt p0) (.d [cM Yab 9 p0] [] fun r => .x fun (v23 : Value) => .d (cV v23) [Obj.deep v23 82 Yae Yaf 9 r]) := ⟨fun r h => Zu p0 r h⟩

def Zw (p0 : Ya0) : Option Ya3 := (Zt p0.events).bind fun r4 => (Zt p0.parked).bind fun r8 => some (Ya3.mk p0.room r4 r8)
instance Zx (p0 : Ya0) : SpO Tryz.prog 76 (Zw p0) (.d [C.agg [cI p0.room, cM Yab 9 p0.events, cM Yab 9 p0.parked]] [] fun r => .x fun (v12 : Value) => .x fun (v13 : Value) => .d (C.agg [cI r.room, cV v12, cV v13]) [Obj.deep v12 82 Yae Yaf 9 r.events, Obj.deep v13 82 Yae Yaf 9 r.parked]) := ⟨so Tryz.func76 rfl rfl fun r X h => gh (.k (.k .z))⟩
instance Zx' (p0 : Ya0) : Sp Tryz.prog 76 [C.agg [cI p0.room, cM Yab 9 p0.events, cM Yab 9 p0.parked]] (Zw p0) (fun r => C.agg [cI r.room, cM Yab 9 r.events, cM Yab 9 r.parked]) := ⟨fun r h => Ok.freeze ((Zx p0).h r h) (by rintro c qs ⟨v12, v13, rfl, rfl⟩; exact Frz.agg (fS (FrzL.cons (os := [_]) ((Frz.deep Yc1)) (FrzL.cons (os := [_]) ((Frz.deep Yc1)) (FrzL.nil)))))⟩

def Zy (l24 : List Ya3) : Option (List Ya3) := some l24
def Zz (p0 : List Ya0) (l13 : List Ya3) (x14 : Int) : Option ((List Ya3 × Int) ⊕ ((List Ya3))) := cond (decide (x14 < (p0.length : Int))) ((getI p0 x14).bind fun e16 => (Zw e16).bind fun r18 => (getI l13 x14).bind fun e22 => some (.inl ((List.set l13 (Int.toNat x14) r18), (IntKind.i64.wrap (x14 + 1))))) (some (.inr l13))
def Z10 (p0 : List Ya0) : Option (List Ya3) := (chk (decide (0 ≤ (p0.length : Int) ∧ (p0.length : Int) * 56 ≤ 140737488355328))).bind fun u2 => (iter (fun z26 => Zz p0 z26.1 z26.2) big ((List.replicate (Int.toNat (p0.length : Int)) (Ya3.mk 0 [] [])), 0)).bind fun y27 => Zy y27
theorem Z11 (p0 : List Ya0) (r : List Ya3) (h : Z10 p0 = some r) : Ok Tryz.prog 38 [cM Yac 3 p0] [] (fun c qs => ∃ (v25 : Value), c = cV v25 ∧ qs = [Obj.deep v25 118 Yah Yai 3 r]) := by
 refine Ok.of_body (rs := [.tmp 2]) Tryz.func38 rfl rfl rfl rfl rfl fun X => ?_
 unfold Z10 at h
 refine zw ?_
 refine ob' h fun u2 c1 h => ?_
 refine Ops.h (ns := []) rfl rfl (Y6l (k := Yah) (ob := Yai) (z := (Ya3.mk 0 [] [])) (u0 := (s0, s0)) Ycc Yc5 (Y4e rfl rfl) (fun _ _ => (Own.none_cons Y6j (Own.none_cons Y6j Own.none_nil))) rfl rfl (Y49 c1).1 (Y49 c1).2 (Y4a (by decide) c1) rfl) ?_
 rintro _ _ ⟨b3, rfl, rfl⟩
 refine Ops.v rfl (Ys rfl rfl) ?_
 refine Ops.nil ?_
 refine AW.seq ?_
 refine AW.cut (τ := List Ya3) (fun l24 => ⟨[(3, cV (sn b3 (p0.length : Int)))], [Obj.deep (sn b3 (p0.length : Int)) 118 Yah Yai 3 l24]⟩) (fun l24 => Zy l24 = some r) ?_ ?_
 ·
  refine zw ?_
  refine ob' h fun o28 g29 q30 => ?_
  refine AW.loop (τ := List Ya3 × Int) (x := ((List.replicate (Int.toNat (p0.length : Int)) (Ya3.mk 0 [] [])), 0)) (fun (l13, x14) => ⟨[(0, cM Yac 3 p0), (3, cV (sn b3 (p0.length : Int))), (4, cI x14)], [Obj.deep (sn b3 (p0.length : Int)) 118 Yah Yai 3 l13]⟩) (fun k (l13, x14) => iter (fun z26 => Zz p0 z26.1 z26.2) k (l13, x14) = some o28) g29 (Y25.both (ns := [0]) rfl rfl) ?_
  rintro k ⟨l13, x14⟩ i32
  refine Y4d (show iter (fun z26 => Zz p0 z26.1 z26.2) k (l13, x14) = some o28 from i32) fun k31 y33 hlt_k31 h h34 => ?_
  replace h : Zz p0 l13 x14 = some y33 := h
  unfold Zz at h
  refine zw ?_
  refine cnd h (fun hb15 h => ?_) fun hb15 h => ?_
  ·
   refine AW.ct hb15 rfl ?_
   refine zw ?_
   refine oi h fun e16 g17 h => ?_
   refine zw ?_
   refine ob' h fun r18 g19 h => ?_
   refine Ops.h (ns := []) rfl rfl (Y27 ((Zx _).h _ g19) rfl rfl) ?_
   rintro _ _ ⟨_, ⟨v20, v21, rfl, rfl⟩, rfl⟩
   refine ob' h fun e22 g23 h => ?_
   refine Ops.v rfl (Y6d (p := 2) Ycg.h rfl rfl rfl g23 rfl) ?_
   refine Ops.hd (ns := [2, 0, 0]) rfl rfl (Y6h (e' := r18) (u' := (v20, v21)) Ycb.h rfl rfl rfl (Y2f g23).2.2 (fun _ => rfl) rfl rfl) ?_
   refine zw ?_
   obtain rfl := Wj h
   exact ⟨k31, ((List.set l13 (Int.toNat x14) r18), (IntKind.i64.wrap (x14 + 1))), hlt_k31, h34, Y25.both (ns := [0]) rfl rfl⟩
  refine AW.cf hb15 rfl ?_
  refine AW.exit ?_
  obtain rfl := Wj h
  obtain rfl := Wj h34
  replace h := q30
  exact ⟨l13, h, Y25.both (ns := [0]) rfl rfl⟩
 intro l24 h
 replace h : Zy l24 = some r := h
 unfold Zy at h
 refine zw ?_
 refine AW.ret ?_
 rw [← Wj h]
 exact finI ⟨[cV (sn b3 (p0.length : Int))], _, Y25.refl _, (.cons (.tmp rfl) .nil), [0], _, _, rfl, ⟨(sn b3 (p0.length : Int)), rfl, rfl⟩⟩
instance Z11' (p0 : List Ya0) : Sp Tryz.prog 38 [cM Yac 3 p0] (Z10 p0) (fun r => cM Yag 3 r) := ⟨fun r h => Ok.freeze (Z11 p0 r h) (by rintro c qs ⟨v25, rfl, rfl⟩; exact (Frz.deep Ycd))⟩
instance Z12 (p0 : List Ya0) : SpO Tryz.prog 38 (Z10 p0) (.d [cM Yac 3 p0] [] fun r => .x fun (v25 : Value) => .d (cV v25) [Obj.deep v25 118 Yah Yai 3 r]) := ⟨fun r h => Z11 p0 r h⟩

def Z13 (p0 : Ya1) : Option Ya1 := some p0
instance Z14 (p0 : Ya1) : Sp Tryz.prog 12 [C.agg [cI p0.room, cI p0.id]] (Z13 p0) (fun r => C.agg [cI r.room, cI r.id]) := Sp.of (so Tryz.func12 rfl rfl fun r X h => gh .z)

def Z15 (l20 : List Ya1) : Option (List Ya1) := some l20
def Z16 (p0 : List Ya1) (l11 : List Ya1) (x12 : Int) : Option ((List Ya1 × Int) ⊕ ((List Ya1))) := cond (decide (x12 < (p0.length : Int))) ((getI p0 x12).bind fun e14 => (Z13 e14).bind fun r16 => (getI l11 x12).bind fun e18 => some (.inl ((List.set l11 (Int.toNat x12) r16), (IntKind.i64.wrap (x12 + 1))))) (some (.inr l11))
def Z17 (p0 : List Ya1) : Option (List Ya1) := (chk (decide (0 ≤ (p0.length : Int) ∧ (p0.length : Int) * 16 ≤ 140737488355328))).bind fun u2 => (iter (fun z22 => Z16 p0 z22.1 z22.2) big ((List.replicate (Int.toNat (p0.length : Int)) (Ya1.mk 0 0)), 0)).bind fun y23 => Z15 y23
instance Z18 (p0 : List Ya1) : SpO Tryz.prog 39 (Z17 p0) (.d [cM Yad 2 p0] [] fun r => .x fun (v21 : Value) => .d (cV v21) [oA v21 40 Yad 2 r]) := ⟨so Tryz.func39 rfl rfl fun r X h => gh (.q 2 (.a 0 fun w0 => .c1 (fun l20 => .d [] [oA w0 40 Yad 2 l20]) [3] [] (.A 0 fun w0 => .l2 (fun l11 x12 => .d [(4, cI x12)] [oA w0 40 Yad 2 l11]) [0,3] [] .z) .z))⟩
instance Z18' (p0 : List Ya1) : Sp Tryz.prog 39 [cM Yad 2 p0] (Z17 p0) (fun r => cM Yad 2 r) := ⟨fun r h => Ok.freeze ((Z18 p0).h r h) (by rintro c qs ⟨v21, rfl, rfl⟩; exact Frz.arr)⟩

def Z19 (p0 : THub) : Option Ya4 := (Z10 p0.rooms).bind fun r4 => (Z17 p0.stream).bind fun r8 => some (Ya4.mk r4 r8)
instance Z1a (p0 : THub) : SpO Tryz.prog 10 (Z19 p0) (.d [C.agg [cM Yac 3 p0.rooms, cM Yad 2 p0.stream]] [] fun r => .x fun (v12 : Value) => .x fun (v13 : Value) => .d (C.agg [cV v12, cV v13]) [Obj.deep v12 118 Yah Yai 3 r.rooms, oA v13 40 Yad 2 r.stream]) := ⟨so Tryz.func10 rfl rfl fun r X h => gh (.k (.k .z))⟩
instance Z1a' (p0 : THub) : Sp Tryz.prog 10 [C.agg [cM Yac 3 p0.rooms, cM Yad 2 p0.stream]] (Z19 p0) (fun r => C.agg [cM Yag 3 r.rooms, cM Yad 2 r.stream]) := ⟨fun r h => Ok.freeze ((Z1a p0).h r h) (by rintro c qs ⟨v12, v13, rfl, rfl⟩; exact Frz.agg (FrzL.cons (os := [_]) ((Frz.deep Ycd)) (FrzL.cons (os := [_]) (Frz.arr) (FrzL.nil))))⟩

def Z1b (p0 : Ya2) : Option Ya2 := (Zn p0.at_).bind fun r4 => some (Ya2.mk p0.user r4)
instance Z1c (p0 : Ya2) : SpO Tryz.prog 17 (Z1b p0) (.d [C.agg [cI p0.user, cM kI64 1 p0.at_]] [] fun r => .x fun (v8 : Value) => .d (C.agg [cI r.user, cV v8]) [oA v8 2 kI64 1 r.at_]) := ⟨so Tryz.func17 rfl rfl fun r X h => gh (.k .z)⟩
instance Z1c' (p0 : Ya2) : Sp Tryz.prog 17 [C.agg [cI p0.user, cM kI64 1 p0.at_]] (Z1b p0) (fun r => C.agg [cI r.user, cM kI64 1 r.at_]) := ⟨fun r h => Ok.freeze ((Z1c p0).h r h) (by rintro c qs ⟨v8, rfl, rfl⟩; exact Frz.agg (fS (FrzL.cons (os := [_]) (Frz.arr) (FrzL.nil))))⟩

def Z1d (x2 : Bool) : Option Bool := some x2
def Z1e (p0 : Int) (p1 : Int) (p2 : Int) : Option Bool := cond (decide (p0 ≥ p1)) (Z1d (decide (p0 ≤ p2))) (Z1d false)
instance Z1f (p0 : Int) (p1 : Int) (p2 : Int) : Sp Tryz.prog 67 [cI p0, cI p1, cI p2] (Z1e p0 p1 p2) (fun r => C.bool r) := Sp.of (so Tryz.func67 rfl rfl fun r X h => gh (.q 1 (.c1 (fun x2 => .d [(6, C.bool x2)] []) [] [] .z .z)))

def Z1g (p0 : Int) : Option Bool := (Z1e p0 1 1000000).bind fun r1 => some r1
instance Z1h (p0 : Int) : Sp Tryz.prog 171 [cI p0] (Z1g p0) (fun r => C.bool r) := Sp.of (so Tryz.func171 rfl rfl fun r X h => gh .z)

def Z1i (p0 : Int) : Option Bool := (Z1e p0 1 6).bind fun r1 => some r1
instance Z1j (p0 : Int) : Sp Tryz.prog 73 [cI p0] (Z1i p0) (fun r => C.bool r) := Sp.of (so Tryz.func73 rfl rfl fun r X h => gh .z)

def Z1k (p0 : Int) : Option Bool := (Z1e p0 0 1000000).bind fun r1 => some r1
instance Z1l (p0 : Int) : Sp Tryz.prog 172 [cI p0] (Z1k p0) (fun r => C.bool r) := Sp.of (so Tryz.func172 rfl rfl fun r X h => gh .z)

def Z1m : Option Bool := some true
def Z1n (x14 : Int) (x25 : Bool) : Option (Int ⊕ (Bool ⊕ Unit)) := cond x25 (some (.inr (.inl false))) (some (.inl (IntKind.i64.wrap (x14 + 1))))
def Z1o (p0 : List Int) (p1 : Int) (x14 : Int) : Option (Int ⊕ (Bool ⊕ Unit)) := cond (decide (x14 < (p0.length : Int))) ((getI p0 x14).bind fun e16 => (Z1g e16).bind fun r18 => cond r18 (cond (e16 == p1) (Z1n x14 true) (cond (decide (x14 > 0)) ((getI p0 (IntKind.i64.wrap (x14 - 1))).bind fun e23 => Z1n x14 (decide (e23 ≥ e16))) (Z1n x14 false))) (Z1n x14 true)) (some (.inr (.inr ())))
def Z1p (p0 : List Int) (p1 : Int) : Option Bool := cond (decide ((p0.length : Int) > 4)) (some false) ((iter (Z1o p0 p1) big 0).bind (fun z28 => match z28 with | .inl y27 => some y27 | .inr () => Z1m))
instance Z1q (p0 : List Int) (p1 : Int) : Sp Tryz.prog 173 [cM kI64 1 p0, cI p1] (Z1p p0 p1) (fun r => C.bool r) := Sp.of (so Tryz.func173 rfl rfl fun r X h => gh (.b .z (.c0 (.d [] []) [] [] (.l1 (fun x14 => .d [(5, cI x14)] []) [0,1] [] (.b (.q 1 (.c1 (fun x25 => .d [(44, C.bool x25)] []) [0,1,5] [] (.r [] [3,10,22,26] [] [0,4,8,13,18,20,24,28,32,36,41,44,48,52,56,60,64,68,72,76,80,84,89,92,96,100,105,108,112,116] .z) .z)) .z)) .z)))

def Z1r (x5 : Bool) : Option Bool := some x5
def Z1s (x13 : Bool) : Option Bool := some x13
def Z1t (x21 : Bool) : Option Bool := some x21
def Z1u (x25 : Bool) : Option Bool := some x25
def Z1v (x31 : Bool) : Option Bool := some x31
def Z1w (x37 : Bool) : Option Bool := some x37
def Z1x (x42 : Bool) : Option Bool := some x42
def Z1y (x48 : Bool) : Option Bool := some x48
def Z1z (p0 : Y9z) : Option Bool := cond (p0.kind == 1) (cond (p0.key == 0) (cond (p0.n == 0) (Z1r (p0.text.toList == ByteArray.empty.toList)) (Z1r false)) (Z1r false)) (cond (p0.kind == 2) ((Z1i p0.key).bind fun r7 => cond r7 ((Z1e p0.n 1 4).bind fun r10 => cond r10 (Z1s (p0.text.toList == ByteArray.empty.toList)) (Z1s false)) (Z1s false)) (cond (p0.kind == 3) ((Z1i p0.key).bind fun r15 => cond r15 ((Z1e p0.n 0 100).bind fun r18 => cond r18 (Z1t (p0.text.toList == ByteArray.empty.toList)) (Z1t false)) (Z1t false)) (cond (p0.kind == 4) (cond (p0.key == 0) (cond (p0.n == 0) (Z1u (decide ((p0.text.size : Int) ≤ 30))) (Z1u false)) (Z1u false)) (cond (p0.kind == 5) (cond (p0.key == 0) ((Z1e p0.n 1 2).bind fun r28 => cond r28 (Z1v (p0.text.toList == ByteArray.empty.toList)) (Z1v false)) (Z1v false)) (cond (p0.kind == 6) (cond (p0.key == 0) ((Z1e p0.n 1 3).bind fun r34 => cond r34 (Z1w (p0.text.toList == ByteArray.empty.toList)) (Z1w false)) (Z1w false)) (cond (p0.kind == 7) (cond (p0.key == 0) (cond (p0.n == 0) (cond (decide ((p0.text.size : Int) ≥ 1)) (Z1x (decide ((p0.text.size : Int) ≤ 30))) (Z1x false)) (Z1x false)) (Z1x false)) (cond (p0.kind == 8) ((Z1g p0.key).bind fun r44 => cond r44 (cond (p0.n == 0) (Z1y (p0.text.toList == ByteArray.empty.toList)) (Z1y false)) (Z1y false)) (some false))))))))
instance Z20 (p0 : Y9z) : Sp Tryz.prog 174 [C.agg [cI p0.id, cI p0.room, cI p0.author, cI p0.kind, cI p0.key, cI p0.n, C.str p0.text, cM kI64 1 p0.prev, cI p0.time]] (Z1z p0) (fun r => C.bool r) := Sp.of (so Tryz.func174 rfl rfl fun r X h => gh (.r [0] [1,4,7] [] [0,5,8,12,17,20,24,29,32,36,40,44] (.b (.c1 (fun x5 => .d [(2, C.bool x5)] []) [] [] .z .z) (.b (.c1 (fun x13 => .d [(2, C.bool x13)] []) [] [] .z .z) (.b (.c1 (fun x21 => .d [(2, C.bool x21)] []) [] [] .z .z) (.b (.c1 (fun x25 => .d [(2, C.bool x25)] []) [] [] .z .z) (.b (.c1 (fun x31 => .d [(2, C.bool x31)] []) [] [] .z .z) (.b (.c1 (fun x37 => .d [(2, C.bool x37)] []) [] [] .z .z) (.b (.c1 (fun x42 => .d [(2, C.bool x42)] []) [] [] .z .z) (.b (.c1 (fun x48 => .d [(2, C.bool x48)] []) [] [] .z .z) .z))))))))))

def Z21 (x20 : Bool) : Option Bool := some x20
def Z22 (p0 : Y9z) : Option Bool := (Z1g p0.id).bind fun r2 => cond r2 ((Z1e p0.room 1 3).bind fun r5 => cond r5 ((Z1i p0.author).bind fun r8 => cond r8 ((Z1k p0.time).bind fun r11 => cond r11 ((Z1p p0.prev p0.id).bind fun r14 => cond r14 (cond ((p0.kind == 1) == ((p0.prev.length : Int) == 0)) ((Z1z p0).bind fun r18 => Z21 r18) (Z21 false)) (Z21 false)) (Z21 false)) (Z21 false)) (Z21 false)) (Z21 false)
instance Z23 (p0 : Y9z) : Sp Tryz.prog 136 [C.agg [cI p0.id, cI p0.room, cI p0.author, cI p0.kind, cI p0.key, cI p0.n, C.str p0.text, cM kI64 1 p0.prev, cI p0.time]] (Z22 p0) (fun r => C.bool r) := Sp.of (so Tryz.func136 rfl rfl fun r X h => gh (.q 1 (.c1 (fun x20 => .d [(2, C.bool x20)] []) [] [] .z .z)))

def Z24 : Option Bool := some true
def Z25 (x14 : Int) (x25 : Bool) : Option (Int ⊕ (Bool ⊕ Unit)) := cond x25 (some (.inr (.inl false))) (some (.inl (IntKind.i64.wrap (x14 + 1))))
def Z26 (p0 : List Y9z) (p1 : Int) (x14 : Int) : Option (Int ⊕ (Bool ⊕ Unit)) := cond (decide (x14 < (p0.length : Int))) ((getI p0 x14).bind fun e16 => (Z22 e16).bind fun r18 => cond r18 (cond (e16.room != p1) (Z25 x14 true) (cond (decide (x14 > 0)) ((getI p0 (IntKind.i64.wrap (x14 - 1))).bind fun e23 => Z25 x14 (decide (e23.id ≥ e16.id))) (Z25 x14 false))) (Z25 x14 true)) (some (.inr (.inr ())))
def Z27 (p0 : List Y9z) (p1 : Int) (p2 : Int) : Option Bool := cond (decide ((p0.length : Int) > p2)) (some false) ((iter (Z26 p0 p1) big 0).bind (fun z28 => match z28 with | .inl y27 => some y27 | .inr () => Z24))
instance Z28 (p0 : List Y9z) (p1 : Int) (p2 : Int) : Sp Tryz.prog 103 [cM Yab 9 p0, cI p1, cI p2] (Z27 p0 p1 p2) (fun r => C.bool r) := Sp.of (so Tryz.func103 rfl rfl fun r X h => gh (.b .z (.c0 (.d [] []) [] [] (.l1 (fun x14 => .d [(7, cI x14)] []) [0,1] [] (.b (.q 1 (.c1 (fun x25 => .d [(50, C.bool x25)] []) [0,1,7] [] (.r [] [3,11,24,29] [] [0,4,8,13,18,20,24,28,32,36,40,45,48,52,56,60,64,68,72,76,80,84,88,92,97,100,104,108,112,117,120,124,128] .z) .z)) .z)) .z)))

def Z29 : Option Int := some (-1)
def Z2a (p0 : List Y9z) (p1 : Int) (x5 : Int) : Option (Int ⊕ (Int ⊕ Unit)) := cond (decide (x5 < (p0.length : Int))) ((getI p0 x5).bind fun e7 => cond (e7.id == p1) (some (.inr (.inl x5))) (some (.inl (IntKind.i64.wrap (x5 + 1))))) (some (.inr (.inr ())))
def Z2b (p0 : List Y9z) (p1 : Int) : Option Int := (iter (Z2a p0 p1) big 0).bind (fun z11 => match z11 with | .inl y10 => some y10 | .inr () => Z29)
instance Z2c (p0 : List Y9z) (p1 : Int) : Sp Tryz.prog 74 [cM Yab 9 p0, cI p1] (Z2b p0 p1) (fun r => cI r) := Sp.of (so Tryz.func74 rfl rfl fun r X h => gh (.q 1 (.c0 (.d [] []) [] [] (.l1 (fun x5 => .d [(5, cI x5)] []) [0,1] [] .z) .z)))

def Z2d : Option Bool := some true
def Z2e (p0 : List Y9z) (p1 : Y9z) (x8 : Int) : Option (Int ⊕ (Bool ⊕ Unit)) := cond (decide (x8 < (p1.prev.length : Int))) ((getI p1.prev x8).bind fun e10 => (Z2b p0 e10).bind fun r12 => cond (decide (r12 < 0)) (some (.inr (.inl false))) (some (.inl (IntKind.i64.wrap (x8 + 1))))) (some (.inr (.inr ())))
def Z2f (p0 : List Y9z) (p1 : Y9z) : Option Bool := (iter (Z2e p0 p1) big 0).bind (fun z16 => match z16 with | .inl y15 => some y15 | .inr () => Z2d)
instance Z2g (p0 : List Y9z) (p1 : Y9z) : Sp Tryz.prog 104 [cM Yab 9 p0, C.agg [cI p1.id, cI p1.room, cI p1.author, cI p1.kind, cI p1.key, cI p1.n, C.str p1.text, cM kI64 1 p1.prev, cI p1.time]] (Z2f p0 p1) (fun r => C.bool r) := Sp.of (so Tryz.func104 rfl rfl fun r X h => gh (.q 1 (.c0 (.d [] []) [] [] (.l1 (fun x8 => .d [(5, cI x8)] []) [0,3] [0] .z) .z)))

def Z2h (l161 : List Int) : Option (List Int) := some l161
def Z2i (x82 : Int) (l160 : List Int) : Option ((List Int × Int) ⊕ ((List Int))) := some (.inl (l160, (IntKind.i64.wrap (x82 + 1))))
def Z2j (x122 : Int) (l159 : List Int) : Option ((List Int × Int) ⊕ ((List Int))) := some (.inl (l159, (IntKind.i64.wrap (x122 + 1))))
def Z2k (l121 : List Int) (x122 : Int) (x156 : Int) (x157 : Bool) : Option ((List Int × Int) ⊕ ((List Int))) := cond x157 (Z2j x122 (List.set l121 (Int.toNat x122) (IntKind.i64.wrap (x156 + 1)))) (Z2j x122 l121)
def Z2l (x141 : Int) (x154 : Int) (x155 : Bool) : Option ((Int × Bool × Int) ⊕ ((Int × Bool))) := some (.inl (x154, x155, (IntKind.i64.wrap (x141 + 1))))
def Z2m (x139 : Int) (x141 : Int) (e149 : Int) (x152 : Bool) : Option ((Int × Bool × Int) ⊕ ((Int × Bool))) := cond (decide (e149 > x139)) (Z2l x141 e149 x152) (Z2l x141 x139 x152)
def Z2n (p0 : List Y9z) (l121 : List Int) (x122 : Int) (x139 : Int) (x140 : Bool) (x141 : Int) : Option ((Int × Bool × Int) ⊕ ((Int × Bool))) := (getI p0 x122).bind fun e142 => cond (decide (x141 < (e142.prev.length : Int))) ((getI e142.prev x141).bind fun e145 => (Z2b p0 e145).bind fun r147 => (getI l121 r147).bind fun e149 => cond x140 (Z2m x139 x141 e149 (decide (e149 > 0))) (Z2m x139 x141 e149 false)) (some (.inr (x139, x140)))
def Z2o (p0 : List Y9z) (l121 : List Int) (x122 : Int) : Option ((List Int × Int) ⊕ ((List Int))) := cond (decide (x122 < (p0.length : Int))) ((getI l121 x122).bind fun e124 => cond (decide (e124 > 0)) (Z2j x122 l121) ((iter (fun z163 => Z2n p0 l121 x122 z163.1 z163.2.1 z163.2.2) big (0, true, 0)).bind fun (y164, y165) => Z2k l121 x122 y164 y165)) (some (.inr l121))
def Z2p (p0 : List Y9z) (l81 : List Int) (x82 : Int) : Option ((List Int × Int) ⊕ ((List Int))) := cond (decide (x82 < (p0.length : Int))) ((iter (fun z166 => Z2o p0 z166.1 z166.2) big (l81, 0)).bind fun y167 => Z2i x82 y167) (some (.inr l81))
def Z2q (p0 : List Y9z) : Option (List Int) := (chk (decide (0 ≤ (p0.length : Int) ∧ (p0.length : Int) * 8 ≤ 140737488355328))).bind fun u2 => (iter (fun z168 => Z2p p0 z168.1 z168.2) big ((List.replicate (Int.toNat (p0.length : Int)) 0), 0)).bind fun y169 => Z2h y169
instance Z2r (p0 : List Y9z) : SpO Tryz.prog 105 (Z2q p0) (.d [cM Yab 9 p0] [] fun r => .x fun (v162 : Value) => .d (cV v162) [oA v162 2 kI64 1 r]) := ⟨so Tryz.func105 rfl rfl fun r X h => gh (.q 2 (.a 0 fun w0 => .c1 (fun l161 => .d [] [oA w0 2 kI64 1 l161]) [3] [] (.A 0 fun w0 => .l2 (fun l81 x82 => .d [(4, cI x82)] [oA w0 2 kI64 1 l81]) [0,3] [] (.b (.a 0 fun w0 => .c1 (fun l160 => .d [] [oA w0 2 kI64 1 l160]) [0,3,4] [] (.A 0 fun w0 => .l2 (fun l121 x122 => .d [(5, cI x122)] [oA w0 2 kI64 1 l121]) [0,3,4] [] (.b (.a 0 fun w0 => .c1 (fun l159 => .d [] [oA w0 2 kI64 1 l159]) [0,3,4,5] [] (.b .z (.q 2 (.c2 (fun x156 x157 => .d [(6, cI x156), (7, C.bool x157)] []) [0,3,4,5] [0] (.l3 (fun x139 x140 x141 => .d [(6, cI x139), (7, C.bool x140), (8, cI x141)] []) [0,3,4,5] [0] (.b (.c2 (fun x154 x155 => .d [(6, cI x154), (7, C.bool x155)] []) [0,3,4,5,8] [0] (.q 1 (.c1 (fun x152 => .d [(7, C.bool x152)] []) [0,3,4,5,6,8,9] [0] .z .z)) .z) .z)) .z))) .z) .z)) .z) .z)) .z))⟩
instance Z2r' (p0 : List Y9z) : Sp Tryz.prog 105 [cM Yab 9 p0] (Z2q p0) (fun r => cM kI64 1 r) := ⟨fun r h => Ok.freeze ((Z2r p0).h r h) (by rintro c qs ⟨v162, rfl, rfl⟩; exact Frz.arr)⟩

def Z2s : Option Bool := some true
def Z2t (r46 : List Int) (x52 : Int) : Option (Int ⊕ (Bool ⊕ Unit)) := cond (decide (x52 < (r46.length : Int))) ((getI r46 x52).bind fun e54 => cond (e54 == 0) (some (.inr (.inl false))) (some (.inl (IntKind.i64.wrap (x52 + 1))))) (some (.inr (.inr ())))
def Z2u (p0 : Ya3) : Option Bool := (Z2q p0.events).bind fun r46 => (iter (Z2t r46) big 0).bind (fun z58 => match z58 with | .inl y57 => some y57 | .inr () => Z2s)
def Z2v (p0 : Ya3) (x39 : Int) : Option (Int ⊕ (Bool ⊕ Unit)) := cond (decide (x39 < (p0.parked.length : Int))) ((getI p0.parked x39).bind fun e41 => (Z2f p0.events e41).bind fun r43 => cond r43 (some (.inr (.inl false))) (some (.inl (IntKind.i64.wrap (x39 + 1))))) (some (.inr (.inr ())))
def Z2w (p0 : Ya3) : Option Bool := (iter (Z2v p0) big 0).bind (fun z60 => match z60 with | .inl y59 => some y59 | .inr () => Z2u p0)
def Z2x (x22 : Int) (x31 : Bool) : Option (Int ⊕ (Bool ⊕ Unit)) := cond x31 (some (.inr (.inl false))) (some (.inl (IntKind.i64.wrap (x22 + 1))))
def Z2y (p0 : Ya3) (x22 : Int) : Option (Int ⊕ (Bool ⊕ Unit)) := cond (decide (x22 < (p0.events.length : Int))) ((getI p0.events x22).bind fun e24 => (Z2f p0.events e24).bind fun r26 => cond r26 ((Z2b p0.parked e24.id).bind fun r29 => Z2x x22 (decide (r29 ≥ 0))) (Z2x x22 true)) (some (.inr (.inr ())))
def Z2z (p0 : Ya3) (x10 : Bool) : Option Bool := cond x10 (some false) ((iter (Z2y p0) big 0).bind (fun z62 => match z62 with | .inl y61 => some y61 | .inr () => Z2w p0))
def Z30 (p0 : Ya3) : Option Bool := (Z1e p0.room 1 3).bind fun r2 => cond r2 ((Z27 p0.events p0.room 60).bind fun r5 => cond r5 ((Z27 p0.parked p0.room 20).bind fun r8 => Z2z p0 (!r8)) (Z2z p0 true)) (Z2z p0 true)
instance Z31 (p0 : Ya3) : Sp Tryz.prog 70 [C.agg [cI p0.room, cM Yab 9 p0.events, cM Yab 9 p0.parked]] (Z30 p0) (fun r => C.bool r) := Sp.of (so Tryz.func70 rfl rfl fun r X h => gh (.q 2 (.c1 (fun x10 => .d [(26, C.bool x10)] []) [1] [0] .z (.b .z (.c0 (.d [] []) [1] [0] (.l1 (fun x22 => .d [(3, cI x22)] []) [1] [0] (.b (.q 1 (.c1 (fun x31 => .d [(54, C.bool x31)] []) [1,3] [0] (.r [0] [1,3,6,11,13,17] [] [0,5,8,13,16,20,25,30,32,36,40,45,48,53,56,60,64,69,74,76,80] .z) .z)) .z)) (.c0 (.d [] []) [1] [0] (.l1 (fun x39 => .d [(4, cI x39)] []) [1] [0] (.b (.r [0] [1,3,6] [] [0,5,8,13,16,20,25,30] .z) .z)) (.q 1 (.c0 (.d [] []) [] [] (.l1 (fun x52 => .d [(6, cI x52)] []) [5] [] .z) .z))))))))

def Z32 (l69 : List Int) : Option (List Int) := some l69
def Z33 (x37 : Int) (l67 : List Int) : Option ((List Int × Int) ⊕ ((List Int))) := some (.inl (l67, (IntKind.i64.wrap (x37 + 1))))
def Z34 (x53 : Int) (l65 : List Int) : Option ((List Int × Int) ⊕ ((List Int))) := some (.inl (l65, (IntKind.i64.wrap (x53 + 1))))
def Z35 (p0 : Ya3) (r2 : List Int) (x37 : Int) (l52 : List Int) (x53 : Int) : Option ((List Int × Int) ⊕ ((List Int))) := cond (decide (x53 < (p0.events.length : Int))) ((getI r2 x53).bind fun e55 => cond (e55 == x37) ((getI p0.events x53).bind fun e58 => (chk (decide ((l52.length + [e58.id].length) * 8 ≤ 140737488355328))).bind fun u62 => Z34 x53 (l52 ++ [e58.id])) (Z34 x53 l52)) (some (.inr l52))
def Z36 (p0 : Ya3) (r2 : List Int) (l36 : List Int) (x37 : Int) : Option ((List Int × Int) ⊕ ((List Int))) := cond (decide ((l36.length : Int) < (p0.events.length : Int))) ((iter (fun z71 => Z35 p0 r2 x37 z71.1 z71.2) big (l36, 0)).bind fun y72 => Z33 x37 y72) (some (.inr l36))
def Z37 (p0 : Ya3) : Option (List Int) := (Z2q p0.events).bind fun r2 => (iter (fun z73 => Z36 p0 r2 z73.1 z73.2) big (([] : List Int), 1)).bind fun y74 => Z32 y74
instance Z38 (p0 : Ya3) : SpO Tryz.prog 137 (Z37 p0) (.d [C.agg [cI p0.room, cM Yab 9 p0.events, cM Yab 9 p0.parked]] [] fun r => .x fun (v70 : Value) => .d (cV v70) [oA v70 2 kI64 1 r]) := ⟨so Tryz.func137 rfl rfl fun r X h => gh (.q 3 (.c1 (fun l69 => .x fun v68 => .d [(4, cV v68)] [oA v68 2 kI64 1 l69]) [] [] (.l2 (fun l36 x37 => .x fun v35 => .d [(4, cV v35), (5, cI x37)] [oA v35 2 kI64 1 l36]) [1,3] [1] (.b (.c1 (fun l67 => .x fun v66 => .d [(4, cV v66)] [oA v66 2 kI64 1 l67]) [1,3,5] [1] (.l2 (fun l52 x53 => .x fun v51 => .d [(4, cV v51), (6, cI x53)] [oA v51 2 kI64 1 l52]) [1,3,5] [1] (.b (.c1 (fun l65 => .x fun v64 => .d [(4, cV v64)] [oA v64 2 kI64 1 l65]) [1,3,5,6] [1] .z .z) .z)) .z) .z)) .z))⟩
instance Z38' (p0 : Ya3) : Sp Tryz.prog 137 [C.agg [cI p0.room, cM Yab 9 p0.events, cM Yab 9 p0.parked]] (Z37 p0) (fun r => cM kI64 1 r) := ⟨fun r h => Ok.freeze ((Z38 p0).h r h) (by rintro c qs ⟨v70, rfl, rfl⟩; exact Frz.arr)⟩

def Z39 : Option Int := some 0
def Z3a (p0 : List Ya5) (x9 : Int) (x14 : Bool) : Option (Int ⊕ (Int ⊕ Unit)) := cond x14 ((getI p0 x9).bind fun e16 => some (.inr (.inl e16.id))) (some (.inl (IntKind.i64.wrap (x9 + 1))))
def Z3b (p0 : List Ya5) (p1 : Int) (p2 : Int) (x9 : Int) : Option (Int ⊕ (Int ⊕ Unit)) := cond (decide (x9 < (p0.length : Int))) ((getI p0 x9).bind fun e11 => cond (e11.kind == p1) (Z3a p0 x9 (e11.key == p2)) (Z3a p0 x9 false)) (some (.inr (.inr ())))
def Z3c (p0 : List Ya5) (p1 : Int) (p2 : Int) : Option Int := (iter (Z3b p0 p1 p2) big 0).bind (fun z19 => match z19 with | .inl y18 => some y18 | .inr () => Z39)
instance Z3d (p0 : List Ya5) (p1 : Int) (p2 : Int) : Sp Tryz.prog 178 [cM Yaj 3 p0, cI p1, cI p2] (Z3c p0 p1 p2) (fun r => cI r) := Sp.of (so Tryz.func178 rfl rfl fun r X h => gh (.q 1 (.c0 (.d [] []) [] [] (.l1 (fun x9 => .d [(7, cI x9)] []) [0,1,2] [] (.b (.q 1 (.c1 (fun x14 => .d [(29, C.bool x14)] []) [0,1,2,7] [] .z .z)) .z)) .z)))

def Z3e : Option Bool := some true
def Z3f (p0 : List (List Ya5)) (p1 : Ya5) (x8 : Int) : Option (Int ⊕ (Bool ⊕ Unit)) := cond (decide (x8 < (p0.length : Int))) ((getI p0 x8).bind fun e10 => (Z3c e10 p1.kind p1.key).bind fun r12 => cond (r12 != p1.id) (some (.inr (.inl false))) (some (.inl (IntKind.i64.wrap (x8 + 1))))) (some (.inr (.inr ())))
def Z3g (p0 : List (List Ya5)) (p1 : Ya5) : Option Bool := (iter (Z3f p0 p1) big 0).bind (fun z16 => match z16 with | .inl y15 => some y15 | .inr () => Z3e)
instance Z3h (p0 : List (List Ya5)) (p1 : Ya5) : Sp Tryz.prog 175 [cM Yak 1 p0, C.agg [cI p1.kind, cI p1.key, cI p1.id]] (Z3g p0 p1) (fun r => C.bool r) := Sp.of (so Tryz.func175 rfl rfl fun r X h => gh (.q 1 (.c0 (.d [] []) [] [] (.l1 (fun x8 => .d [(5, cI x8)] []) [0,3] [0] (.b (.r [0] [3,5,7,10] [] [0,4,8,13,16,21,24,29,36,41,34,44] .z) .z)) .z)))

def Z3i (l35 : List Ya5) : Option (List Ya5) := some l35
def Z3j (x19 : Int) (l33 : List Ya5) : Option ((List Ya5 × Int) ⊕ ((List Ya5))) := some (.inl (l33, (IntKind.i64.wrap (x19 + 1))))
def Z3k (p0 : List Ya5) (l18 : List Ya5) (x19 : Int) (x24 : Bool) : Option ((List Ya5 × Int) ⊕ ((List Ya5))) := cond x24 ((getI p0 x19).bind fun e26 => (chk (decide ((l18.length + [e26].length) * 24 ≤ 140737488355328))).bind fun u30 => Z3j x19 (l18 ++ [e26])) (Z3j x19 l18)
def Z3l (p0 : List Ya5) (p1 : Ya5) (l18 : List Ya5) (x19 : Int) : Option ((List Ya5 × Int) ⊕ ((List Ya5))) := cond (decide (x19 < (p0.length : Int))) ((getI p0 x19).bind fun e21 => cond (e21.kind != p1.kind) (Z3k p0 l18 x19 true) (Z3k p0 l18 x19 (e21.key != p1.key))) (some (.inr l18))
def Z3m (p0 : List Ya5) (p1 : Ya5) : Option (List Ya5) := (iter (fun z37 => Z3l p0 p1 z37.1 z37.2) big (([] : List Ya5), 0)).bind fun y38 => Z3i y38
instance Z3n (p0 : List Ya5) (p1 : Ya5) : SpO Tryz.prog 184 (Z3m p0 p1) (.d [cM Yaj 3 p0, C.agg [cI p1.kind, cI p1.key, cI p1.id]] [] fun r => .x fun (v36 : Value) => .d (cV v36) [oA v36 194 Yaj 3 r]) := ⟨so Tryz.func184 rfl rfl fun r X h => gh (.q 2 (.c1 (fun l35 => .x fun v34 => .d [(5, cV v34)] [oA v34 194 Yaj 3 l35]) [] [] (.l2 (fun l18 x19 => .x fun v17 => .d [(5, cV v17), (6, cI x19)] [oA v17 194 Yaj 3 l18]) [0,3] [1] (.b (.c1 (fun l33 => .x fun v32 => .d [(5, cV v32)] [oA v32 194 Yaj 3 l33]) [0,3,6] [1] (.c1 (fun x24 => .d [(31, C.bool x24)] []) [0,3,5,6] [1,0] (.r [0,0] [4,6,13,15] [] [0,4,8,12,17,20,25,28,32,36,40,44,48,53,56,61,64,68] .z) .z) .z) .z)) .z))⟩
instance Z3n' (p0 : List Ya5) (p1 : Ya5) : Sp Tryz.prog 184 [cM Yaj 3 p0, C.agg [cI p1.kind, cI p1.key, cI p1.id]] (Z3m p0 p1) (fun r => cM Yaj 3 r) := ⟨fun r h => Ok.freeze ((Z3n p0 p1).h r h) (by rintro c qs ⟨v36, rfl, rfl⟩; exact Frz.arr)⟩

def Z3o (x5 : Bool) : Option Bool := some x5
def Z3p (p0 : Ya5) (p1 : Ya5) : Option Bool := cond (decide (p0.kind < p1.kind)) (Z3o true) (cond (p0.kind == p1.kind) (Z3o (decide (p0.key < p1.key))) (Z3o false))
instance Z3q (p0 : Ya5) (p1 : Ya5) : Sp Tryz.prog 185 [C.agg [cI p0.kind, cI p0.key, cI p0.id], C.agg [cI p1.kind, cI p1.key, cI p1.id]] (Z3p p0 p1) (fun r => C.bool r) := Sp.of (so Tryz.func185 rfl rfl fun r X h => gh (.q 1 (.c1 (fun x5 => .d [(4, C.bool x5)] []) [] [] .z .z)))

def Z3r (p1 : Ya5) (r2 : List Ya5) (x19 : Int) : Option (List Ya5) := (Y2d r2 0 x19).bind fun s21 => (chk (decide ((([] : List Ya5).length + s21.length) * 24 ≤ 140737488355328))).bind fun u24 => (chk (decide (((([] : List Ya5) ++ s21).length + [p1].length) * 24 ≤ 140737488355328))).bind fun u28 => (Y2d r2 x19 (r2.length : Int)).bind fun s30 => (chk (decide ((((([] : List Ya5) ++ s21) ++ [p1]).length + s30.length) * 24 ≤ 140737488355328))).bind fun u33 => some (((([] : List Ya5) ++ s21) ++ [p1]) ++ s30)
def Z3s (x11 : Int) (x17 : Bool) : Option (Int ⊕ (Int)) := cond x17 (some (.inl (IntKind.i64.wrap (x11 + 1)))) (some (.inr x11))
def Z3t (p1 : Ya5) (r2 : List Ya5) (x11 : Int) : Option (Int ⊕ (Int)) := cond (decide (x11 < (r2.length : Int))) ((getI r2 x11).bind fun e13 => (Z3p e13 p1).bind fun r15 => Z3s x11 r15) (Z3s x11 false)
def Z3u (p0 : List Ya5) (p1 : Ya5) : Option (List Ya5) := (Z3m p0 p1).bind fun r2 => (iter (Z3t p1 r2) big 0).bind fun y36 => Z3r p1 r2 y36
instance Z3v (p0 : List Ya5) (p1 : Ya5) : SpO Tryz.prog 141 (Z3u p0 p1) (.d [cM Yaj 3 p0, C.agg [cI p1.kind, cI p1.key, cI p1.id]] [] fun r => .x fun (v35 : Value) => .d (cV v35) [oA v35 194 Yaj 3 r]) := ⟨so Tryz.func141 rfl rfl fun r X h => gh (.q 3 (.c1 (fun x19 => .d [(6, cI x19)] []) [3,5] [0] (.l1 (fun x11 => .d [(6, cI x11)] []) [3,5] [0] (.q 1 (.c1 (fun x17 => .d [(22, C.bool x17)] []) [3,5,6] [0] (.r [0] [8,9] [] [0,4,8,12,16,20,24,28,33,37,42,44] .z) .z))) .z))⟩
instance Z3v' (p0 : List Ya5) (p1 : Ya5) : Sp Tryz.prog 141 [cM Yaj 3 p0, C.agg [cI p1.kind, cI p1.key, cI p1.id]] (Z3u p0 p1) (fun r => cM Yaj 3 r) := ⟨fun r h => Ok.freeze ((Z3v p0 p1).h r h) (by rintro c qs ⟨v35, rfl, rfl⟩; exact Frz.arr)⟩

def Z3w (p0 : List Int) (p1 : Int) (x12 : Int) (x16 : Bool) : Option (List Int) := cond x16 (some p0) ((Y2d p0 0 x12).bind fun s19 => (chk (decide ((([] : List Int).length + s19.length) * 8 ≤ 140737488355328))).bind fun u22 => (chk (decide (((([] : List Int) ++ s19).length + [p1].length) * 8 ≤ 140737488355328))).bind fun u26 => (Y2d p0 x12 (p0.length : Int)).bind fun s28 => (chk (decide ((((([] : List Int) ++ s19) ++ [p1]).length + s28.length) * 8 ≤ 140737488355328))).bind fun u31 => some (((([] : List Int) ++ s19) ++ [p1]) ++ s28))
def Z3x (p0 : List Int) (p1 : Int) (x12 : Int) : Option (List Int) := cond (decide (x12 < (p0.length : Int))) ((getI p0 x12).bind fun e14 => Z3w p0 p1 x12 (e14 == p1)) (Z3w p0 p1 x12 false)
def Z3y (x6 : Int) (x10 : Bool) : Option (Int ⊕ (Int)) := cond x10 (some (.inl (IntKind.i64.wrap (x6 + 1)))) (some (.inr x6))
def Z3z (p0 : List Int) (p1 : Int) (x6 : Int) : Option (Int ⊕ (Int)) := cond (decide (x6 < (p0.length : Int))) ((getI p0 x6).bind fun e8 => Z3y x6 (decide (e8 < p1))) (Z3y x6 false)
def Z40 (p0 : List Int) (p1 : Int) : Option (List Int) := (iter (Z3z p0 p1) big 0).bind fun y33 => Z3x p0 p1 y33
instance Z41 (p0 : List Int) (p1 : Int) : Sp Tryz.prog 176 [cM kI64 1 p0, cI p1] (Z40 p0 p1) (fun r => cM kI64 1 r) := Sp.of (so Tryz.func176 rfl rfl fun r X h => gh (.q 2 (.c1 (fun x12 => .d [(5, cI x12)] []) [0,1] [] (.l1 (fun x6 => .d [(5, cI x6)] []) [0,1] [] (.q 1 (.c1 (fun x10 => .d [(18, C.bool x10)] []) [0,1,5] [] .z .z))) (.q 1 (.c1 (fun x16 => .d [(32, C.bool x16)] []) [0,1,5] [] .z .z)))))

def Z42 (x6 : Bool) : Option Bool := some x6
def Z43 (p0 : Y9z) : Option Bool := cond (p0.kind == 1) (Z42 true) (cond (p0.kind == 3) (Z42 true) (cond (p0.kind == 5) (Z42 true) (cond (p0.kind == 2) (Z42 (p0.key != p0.author)) (Z42 false))))
instance Z44 (p0 : Y9z) : Sp Tryz.prog 213 [C.agg [cI p0.id, cI p0.room, cI p0.author, cI p0.kind, cI p0.key, cI p0.n, C.str p0.text, cM kI64 1 p0.prev, cI p0.time]] (Z43 p0) (fun r => C.bool r) := Sp.of (so Tryz.func213 rfl rfl fun r X h => gh (.q 1 (.c1 (fun x6 => .d [(2, C.bool x6)] []) [] [] .z .z)))

def Z45 (p1 : List Int) (r2 : Int) (r4 : Int) (x13 : Int) (x14 : Int) (x15 : Int) (x16 : Int) (x17 : Int) (x18 : Int) (x19 : ByteArray) (l20 : List Int) (x21 : Int) (x23 : Int) (x24 : Int) (x25 : Int) (x26 : Int) (x27 : Int) (x28 : Int) (x29 : ByteArray) (l30 : List Int) (x31 : Int) : Option Bool := (Z43 (Y9z.mk x13 x14 x15 x16 x17 x18 x19 l20 x21)).bind fun r32 => (Z43 (Y9z.mk x23 x24 x25 x26 x27 x28 x29 l30 x31)).bind fun r34 => cond (r32 == r34) ((getI p1 r2).bind fun e37 => (getI p1 r4).bind fun e39 => cond (e37 != e39) (some (decide (e37 < e39))) (cond (x21 != x31) (some (decide (x21 < x31))) (some (decide (x13 < x23))))) ((Z43 (Y9z.mk x13 x14 x15 x16 x17 x18 x19 l20 x21)).bind fun r43 => some r43)
def Z46 (p0 : Ya3) (p1 : List Int) (p2 : Int) (p3 : Int) : Option Bool := (Z2b p0.events p2).bind fun r2 => (Z2b p0.events p3).bind fun r4 => (getI p0.events r2).bind fun e6 => (getI p0.events r4).bind fun e8 => Z45 p1 r2 r4 e6.id e6.room e6.author e6.kind e6.key e6.n e6.text e6.prev e6.time e8.id e8.room e8.author e8.kind e8.key e8.n e8.text e8.prev e8.time
instance Z47 (p0 : Ya3) (p1 : List Int) (p2 : Int) (p3 : Int) : Sp Tryz.prog 177 [C.agg [cI p0.room, cM Yab 9 p0.events, cM Yab 9 p0.parked], cM kI64 1 p1, cI p2, cI p3] (Z46 p0 p1 p2 p3) C.bool := sp Tryz.func177 rfl rfl fun r X h => by
 unfold Z46 at h
 refine zw ?_
 refine ox fun b1 => ?_
 refine zw ?_
 refine rD [0] [1,5] [] [0,5,8,16,21,24,14,30,32,36] ?_
 refine zw ?_
 refine dc h fun r2 g3 h => ?_
 refine zw ?_
 refine dc h fun r4 g5 h => ?_
 refine OpsD.v rfl rfl (Ys rfl rfl) ?_
 refine OpsD.v rfl rfl (Ys rfl rfl) ?_
 refine OpsD.done ?_
 refine AW.seq ?_
 refine AW.cut (τ := Int × Int × Int × Int × Int × Int × ByteArray × List Int × Int × Int × Int × Int × Int × Int × Int × ByteArray × List Int × Int × Nat × Nat) (fun (x13, x14, x15, x16, x17, x18, x19, l20, x21, x23, x24, x25, x26, x27, x28, x29, l30, x31, b12, b22) => ⟨[(1, cM kI64 1 p1), (9, cI r2), (10, cI r4), (11, pt b12), (12, pt b22)], [oB b12 82 [cI x13, cI x14, cI x15, cI x16, cI x17, cI x18, C.str x19, cM kI64 1 l20, cI x21], oB b22 82 [cI x23, cI x24, cI x25, cI x26, cI x27, cI x28, C.str x29, cM kI64 1 l30, cI x31]]⟩) (fun (x13, x14, x15, x16, x17, x18, x19, l20, x21, x23, x24, x25, x26, x27, x28, x29, l30, x31, b12, b22) => Z45 p1 r2 r4 x13 x14 x15 x16 x17 x18 x19 l20 x21 x23 x24 x25 x26 x27 x28 x29 l30 x31 = some r) ?_ ?_
 ·
  refine AW.regionD (L := [1, 4, 6, 9]) (Lt := [13]) (k := .light 0 false (.light 1 true (.light 2 false (.light 3 false (.light 4 true (.light 5 false (.light 6 true (.light 7 false (.light 8 false (.light 9 true (.two 10 11 (.one 11 (.one 12 (.late 13 (.done)))) (.one 10 (.one 12 (.late 13 (.done))))))))))))))) (ns := [0]) (by kernel_rfl) (by kernel_rfl) (by kernel_rfl) (by kernel_rfl) rfl ?_
  refine zw ?_
  refine di h fun e6 g7 h => ?_
  refine zw ?_
  refine di h fun e8 g9 h => ?_
  refine zw ?_
  refine OpsD.two ?_ ?_
  ·
   refine dal fun b10 => ?_
   refine zw ?_
   refine dal fun b11 => ?_
   refine OpsD.one ?_
   refine Y3z.h (ns := [1]) rfl rfl rfl (Y1y (gs := [cI e6.id, cI e6.room, cI e6.author, cI e6.kind, cI e6.key, cI e6.n, C.str e6.text, cM kI64 1 e6.prev, cI e6.time]) Yby.h rfl rfl rfl rfl rfl) ?_
   rintro _ _ ⟨rfl, rfl⟩
   refine zw ?_
   exact ⟨(e6.id, e6.room, e6.author, e6.kind, e6.key, e6.n, e6.text, e6.prev, e6.time, e8.id, e8.room, e8.author, e8.kind, e8.key, e8.n, e8.text, e8.prev, e8.time, b10, b11), h, Y25.both (ns := [2, 0]) rfl rfl⟩
  refine dal fun b11 => ?_
  refine zw ?_
  refine dal fun b10 => ?_
  refine OpsD.one ?_
  refine Y3z.h (ns := [0]) rfl rfl rfl (Y1y (gs := [cI e6.id, cI e6.room, cI e6.author, cI e6.kind, cI e6.key, cI e6.n, C.str e6.text, cM kI64 1 e6.prev, cI e6.time]) Yby.h rfl rfl rfl rfl rfl) ?_
  rintro _ _ ⟨rfl, rfl⟩
  refine zw ?_
  exact ⟨(e6.id, e6.room, e6.author, e6.kind, e6.key, e6.n, e6.text, e6.prev, e6.time, e8.id, e8.room, e8.author, e8.kind, e8.key, e8.n, e8.text, e8.prev, e8.time, b10, b11), h, Y25.both (ns := [2, 0]) rfl rfl⟩
 rintro ⟨x13, x14, x15, x16, x17, x18, x19, l20, x21, x23, x24, x25, x26, x27, x28, x29, l30, x31, b12, b22⟩ h
 replace h : Z45 p1 r2 r4 x13 x14 x15 x16 x17 x18 x19 l20 x21 x23 x24 x25 x26 x27 x28 x29 l30 x31 = some r := h
 unfold Z45 at h
 refine zw ?_
 refine rD [0,0] [0,2] [] [1,9,6,14,16,20] ?_
 refine zw ?_
 refine dc h fun r32 g33 h => ?_
 refine zw ?_
 refine dc h fun r34 g35 h => ?_
 refine OpsD.v rfl rfl (Y15 un_4 rfl rfl rfl) ?_
 refine zw ?_
 refine cnd h (fun hb36 h => ?_) fun hb36 h => ?_
 ·
  refine AW.cond rfl (fun hn => absurd ((Y46 hb36).symm.trans hn) (by decide)) (fun _ => ?_)
  refine zw ?_
  refine rD [0,0] [3,7] [] [0,4,8,13,16,20,24,29,32,36] ?_
  refine zw ?_
  refine di h fun e37 g38 h => ?_
  refine zw ?_
  refine di h fun e39 g40 h => ?_
  refine zw ?_
  refine cnd h (fun hb41 h => ?_) fun hb41 h => ?_
  ·
   refine AW.ct hb41 rfl ?_
   refine zw ?_
   refine rD [0,0] [3,7] [] [0,4,8,13,16,20,24,29,32,36] ?_
   refine zw ?_
   refine AW.ret ?_
   rw [← Wj h]
   exact finI ⟨[C.bool (decide (e37 < e39))], _, Y25.refl _, (.cons (.tmp rfl) .nil), [], _, _, rfl, ⟨rfl, rfl⟩⟩
  refine AW.cf hb41 rfl ?_
  refine zw ?_
  refine cnd h (fun hb42 h => ?_) fun hb42 h => ?_
  ·
   refine AW.ct hb42 rfl ?_
   refine zw ?_
   refine AW.ret ?_
   rw [← Wj h]
   exact finI ⟨[C.bool (decide (x21 < x31))], _, Y25.refl _, (.cons (.tmp rfl) .nil), [], _, _, rfl, ⟨rfl, rfl⟩⟩
  refine AW.cf hb42 rfl ?_
  refine zw ?_
  refine AW.ret ?_
  rw [← Wj h]
  exact finI ⟨[C.bool (decide (x13 < x23))], _, Y25.refl _, (.cons (.tmp rfl) .nil), [], _, _, rfl, ⟨rfl, rfl⟩⟩
 refine AW.cond rfl (fun _ => ?_) (fun hn => absurd ((Y47 hb36).symm.trans hn) (by decide))
 refine zw ?_
 refine oc h fun r43 g44 h => ?_
 refine zw ?_
 refine AW.ret ?_
 rw [← Wj h]
 exact finI ⟨[C.bool r43], _, Y25.refl _, (.cons (.tmp rfl) .nil), [], _, _, rfl, ⟨rfl, rfl⟩⟩

def Z48 (p0 : Ya3) (p1 : List Ya5) (p2 : Int) (p3 : Int) : Option Y9z := (Z3c p1 p2 p3).bind fun r3 => cond (r3 == 0) (some (Y9z.mk 0 0 0 0 0 0 ByteArray.empty [] 0)) ((Z2b p0.events r3).bind fun r6 => (getI p0.events r6).bind fun e8 => some e8)
instance Z49 (p0 : Ya3) (p1 : List Ya5) (p2 : Int) (p3 : Int) : Sp Tryz.prog 143 [C.agg [cI p0.room, cM Yab 9 p0.events, cM Yab 9 p0.parked], cM Yaj 3 p1, cI p2, cI p3] (Z48 p0 p1 p2 p3) (fun r => C.agg [cI r.id, cI r.room, cI r.author, cI r.kind, cI r.key, cI r.n, C.str r.text, cM kI64 1 r.prev, cI r.time]) := Sp.of (so Tryz.func143 rfl rfl fun r X h => gh (.b .z (.r [0,0] [1,3,7] [8] [0,5,8,13,16,22,24,29,35] .z)))

def Z4a (p0 : Ya3) (p1 : List Ya5) (p2 : Int) : Option Int := (Z48 p0 p1 2 p2).bind fun r2 => some r2.n
instance Z4b (p0 : Ya3) (p1 : List Ya5) (p2 : Int) : Sp Tryz.prog 110 [C.agg [cI p0.room, cM Yab 9 p0.events, cM Yab 9 p0.parked], cM Yaj 3 p1, cI p2] (Z4a p0 p1 p2) (fun r => cI r) := Sp.of (so Tryz.func110 rfl rfl fun r X h => gh .z)

def Z4c (p0 : Ya3) (p1 : List Ya5) (p2 : Int) : Option Int := (Z3c p1 3 p2).bind fun r2 => cond (decide (r2 > 0)) ((Z48 p0 p1 3 p2).bind fun r5 => some r5.n) ((Z48 p0 p1 1 0).bind fun r7 => cond (r7.author == p2) (some 100) (some 0))
instance Z4d (p0 : Ya3) (p1 : List Ya5) (p2 : Int) : Sp Tryz.prog 179 [C.agg [cI p0.room, cM Yab 9 p0.events, cM Yab 9 p0.parked], cM Yaj 3 p1, cI p2] (Z4c p0 p1 p2) (fun r => cI r) := Sp.of (so Tryz.func179 rfl rfl fun r X h => gh .z)

def Z4e (p0 : Bool) : Option Int := cond p0 (some 11) (some 0)
instance Z4f (p0 : Bool) : Sp Tryz.prog 182 [C.bool p0] (Z4e p0) (fun r => cI r) := Sp.of (so Tryz.func182 rfl rfl fun r X h => gh .z)

def Z4g (x20 : Int) : Option Int := some x20
def Z4h (p3 : Int) (x4 : Bool) (x11 : Bool) : Option Int := cond (p3 == 3) ((Z4e true).bind fun r13 => Z4g r13) (cond x4 ((Z4e false).bind fun r16 => Z4g r16) ((Z4e (!x11)).bind fun r18 => Z4g r18))
def Z4i (p0 : Ya3) (p1 : List Ya5) (p2 : Y9z) (p3 : Int) (x4 : Bool) : Option Int := cond (p2.n == 1) ((Z48 p0 p1 5 0).bind fun r6 => cond (r6.n == 1) (Z4h p3 x4 true) ((Z48 p0 p1 1 0).bind fun r9 => Z4h p3 x4 (r9.author == p2.author))) (cond (p2.n == 2) ((Z4e (!x4)).bind fun r22 => some r22) (some 11))
def Z4j (p0 : Ya3) (p1 : List Ya5) (p2 : Y9z) (p3 : Int) : Option Int := cond (p3 == 1) (Z4i p0 p1 p2 p3 true) (Z4i p0 p1 p2 p3 (p3 == 4))
instance Z4k (p0 : Ya3) (p1 : List Ya5) (p2 : Y9z) (p3 : Int) : Sp Tryz.prog 180 [C.agg [cI p0.room, cM Yab 9 p0.events, cM Yab 9 p0.parked], cM Yaj 3 p1, C.agg [cI p2.id, cI p2.room, cI p2.author, cI p2.kind, cI p2.key, cI p2.n, C.str p2.text, cM kI64 1 p2.prev, cI p2.time], cI p3] (Z4j p0 p1 p2 p3) (fun r => cI r) := Sp.of (so Tryz.func180 rfl rfl fun r X h => gh (.q 1 (.c1 (fun x4 => .d [(9, C.bool x4)] []) [1,3,4,6] [1,0] .z (.b (.c1 (fun x11 => .d [(10, C.bool x11)] []) [3,9] [] (.r [0,0] [0,6,11] [] [1,4,10,12,16,20,25,28,40,45,34,36,48,52,56] .z) (.c1 (fun x20 => .d [(8, cI x20)] []) [] [] .z .z)) .z))))

end Go.Proofs.YtnoknphekhclcaaGreatDoor
