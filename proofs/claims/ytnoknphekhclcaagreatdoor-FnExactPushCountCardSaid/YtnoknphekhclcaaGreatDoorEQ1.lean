/- Printed by gen.py: plain functions for Go functions, and that the walks keep to them. -/
import Derived.Test.YtnoknphekhclcaaGreatDoorEBG
import Derived.Test.YtnoknphekhclcaaGreatDoorESorts
import Derived.Test.YtnoknphekhclcaaGreatDoorEX
import Derived.Test.YtnoknphekhclcaaGreatDoorEL
import Derived.Test.YtnoknphekhclcaaGreatDoorChecked
set_option autoImplicit false
set_option linter.unusedVariables false
set_option linter.unusedSimpArgs false
set_option maxHeartbeats 8000000
set_option maxRecDepth 100000
namespace Go.Proofs.YtnoknphekhclcaaGreatDoor
open Go Go.Abs
attribute [local irreducible] AW Ops OpsD Y3z VoK HoK GhF UsC Go.Abs.Fin PkK LenT LenL Y9f BldK FzK FzLK
structure Y9t where
  id : Int
  room : Int
  author : Int
  kind : Int
  key : Int
  n : Int
  text : ByteArray
  prev : List Int
  time : Int
structure Y9u where
  room : Int
  events : List Y9t
  parked : List Y9t
structure Y9v where
  room : Int
  id : Int
structure THub where
  rooms : List Y9u
  stream : List Y9v
structure Y9w where
  user : Int
  at_ : List Int
structure Y9x where
  kind : Int
  n : Int
  text : ByteArray
  loud : Int
structure Y9y where
  room : Int
  events : List Y9t
  parked : List Y9t
structure Y9z where
  rooms : List Y9y
  stream : List Y9v
structure Ya0 where
  kind : Int
  key : Int
  id : Int
structure Ya1 where
  depths : List Int
  ahead : List (List Ya0)
  behind : List (List Ya0)
  code : List Int
structure Ya2 where
  h : Y9z
  rooms : List Ya1
  pos : List (List Int)
  now : List (List Ya0)
structure Ya3 where
  event : Y9t
  hidden : Bool
structure Ya4 where
  graph : Y9y
  depth : List (Int × Int)
  before : List (Int × List Ya0)
  after : List (Int × List Ya0)
  refused : List (Int × Int)
structure Ya5 where
  hub : Y9z
  rooms : List Ya4
def kI64 (x : Int) : List C := [cI x]
def Ya6 (x : Y9t) : List C := [cI x.id, cI x.room, cI x.author, cI x.kind, cI x.key, cI x.n, C.str x.text, cM kI64 1 x.prev, cI x.time]
def Ya7 (x : Y9u) : List C := [cI x.room, cM Ya6 9 x.events, cM Ya6 9 x.parked]
def Ya8 (x : Y9v) : List C := [cI x.room, cI x.id]
def Ya9 (x : Y9x) : List C := [cI x.kind, cI x.n, C.str x.text, cI x.loud]
def Yaa (x : Y9t) (u : Value) : List C := [cI x.id, cI x.room, cI x.author, cI x.kind, cI x.key, cI x.n, C.str x.text, cV u, cI x.time]
def Yab (x : Y9t) (u : Value) : List Abs.Obj := [oA u 2 kI64 1 x.prev]
def Yac (x : Y9y) : List C := [cI x.room, cM Ya6 9 x.events, cM Ya6 9 x.parked]
def Yad (x : Y9y) (u : Value × Value) : List C := [cI x.room, cV u.1, cV u.2]
def Yae (x : Y9y) (u : Value × Value) : List Abs.Obj := [Obj.deep u.1 82 Yaa Yab 9 x.events, Obj.deep u.2 82 Yaa Yab 9 x.parked]
def Yaf (x : Ya0) : List C := [cI x.kind, cI x.key, cI x.id]
def Yag (x : List Ya0) : List C := [cM Yaf 3 x]
def Yah (x : Bool) : List C := [C.bool x]
def Yai (x : Ya1) : List C := [cM kI64 1 x.depths, cM Yag 1 x.ahead, cM Yag 1 x.behind, cM kI64 1 x.code]
def Yaj (x : Ya1) : List C := [C.ip [cM kI64 1 x.depths, cM Yag 1 x.ahead, cM Yag 1 x.behind, cM kI64 1 x.code]]
def Yak (x : List Int) : List C := [cM kI64 1 x]
def kU8 (x : Int) : List C := [cV (.int .u8 x)]
abbrev Yal (x : Int) : C := cI x
abbrev Yam (x : List Ya0) : C := cM Yaf 3 x
abbrev Yan (x : Bool) : C := C.bool x
def Yao (x : Ya4) : List C := [cI x.graph.room, cM Ya6 9 x.graph.events, cM Ya6 9 x.graph.parked, C.imap .i64 Yal x.depth, C.imap .i64 Yam x.before, C.imap .i64 Yam x.after, C.imap .i64 Yal x.refused]
def Yap (x : Ya4) : List C := [C.ip [cI x.graph.room, cM Ya6 9 x.graph.events, cM Ya6 9 x.graph.parked, C.imap .i64 Yal x.depth, C.imap .i64 Yam x.before, C.imap .i64 Yam x.after, C.imap .i64 Yal x.refused]]
def Yaq (x : Ya3) : List C := [cI x.event.id, cI x.event.room, cI x.event.author, cI x.event.kind, cI x.event.key, cI x.event.n, C.str x.event.text, cM kI64 1 x.event.prev, cI x.event.time, C.bool x.hidden]
def Yar (x : Y9z) : List C := [cM Yac 3 x.rooms, cM Ya8 2 x.stream]
def Yas (x : Y9w) : List C := [cI x.user, cM kI64 1 x.at_]
def Yat (x : Ya2) : List C := [cM Yac 3 x.h.rooms, cM Ya8 2 x.h.stream, cM Yaj 1 x.rooms, cM Yak 1 x.pos, cM Yag 1 x.now]
def Yau (x : Ya5) : List C := [cM Yac 3 x.hub.rooms, cM Ya8 2 x.hub.stream, cM Yap 1 x.rooms]
def kHub (x : THub) : List C := [cM Ya7 3 x.rooms, cM Ya8 2 x.stream]
instance Yav : SlI Tryz.prog 44 2 1 8 := ⟨by kernel_rfl⟩
instance Yaw : FldI Tryz.prog 187 6 6 := ⟨by kernel_rfl⟩
instance ld_9 : LdI Tryz.prog 9 false 1 := ⟨by kernel_rfl⟩
theorem un_9 : Tryz.prog.underlying 9 = some .string := by kernel_rfl
instance : UnI Tryz.prog 9 .string := ⟨un_9⟩
instance Yax : FldI Tryz.prog 187 7 7 := ⟨by kernel_rfl⟩
instance Yay : LdI Tryz.prog 44 false 1 := ⟨by kernel_rfl⟩
instance Yaz : SlI Tryz.prog 107 187 9 96 := ⟨by kernel_rfl⟩
instance Yb0 : LdI Tryz.prog 187 true 9 := ⟨by kernel_rfl⟩
instance Yb1 : FldI Tryz.prog 109 1 1 := ⟨by kernel_rfl⟩
instance Yb2 : LdI Tryz.prog 107 false 1 := ⟨by kernel_rfl⟩
instance Yb3 : FldI Tryz.prog 109 2 2 := ⟨by kernel_rfl⟩
instance Yb4 : SlI Tryz.prog 22 109 3 56 := ⟨by kernel_rfl⟩
instance Yb5 : LdI Tryz.prog 109 true 3 := ⟨by kernel_rfl⟩
instance Yb6 : SlI Tryz.prog 23 29 2 16 := ⟨by kernel_rfl⟩
instance Yb7 : FldI Tryz.prog 25 0 0 := ⟨by kernel_rfl⟩
instance Yb8 : LdI Tryz.prog 22 false 1 := ⟨by kernel_rfl⟩
instance Yb9 : FldI Tryz.prog 25 1 1 := ⟨by kernel_rfl⟩
instance Yba : LdI Tryz.prog 23 false 1 := ⟨by kernel_rfl⟩
instance Ybb : FldI Tryz.prog 46 1 1 := ⟨by kernel_rfl⟩
instance Ybc : FldI Tryz.prog 27 2 2 := ⟨by kernel_rfl⟩
instance Ybd : SlI Tryz.prog 57 27 4 40 := ⟨by kernel_rfl⟩
instance Ybe : LdI Tryz.prog 27 true 4 := ⟨by kernel_rfl⟩
theorem Ybf : Y30 Tryz.prog 44 = some (2, 1, 8) := by kernel_rfl
theorem ze_2 : Y1c Tryz.prog 2 = some [.int .i64 0] := by kernel_rfl
instance : AlI Tryz.prog 2 [.int .i64 0] [cV (.int .i64 0)] := ⟨ze_2, Y4e rfl rfl⟩
instance ld_2 : LdI Tryz.prog 2 false 1 := ⟨by kernel_rfl⟩
theorem Ybg : Y1c Tryz.prog 82 = some [.int .i64 0, .int .i64 0, .int .i64 0, .int .i64 0, .int .i64 0, .int .i64 0, .string ByteArray.empty, .slice none 0 0, .int .i64 0] := by kernel_rfl
instance : AlI Tryz.prog 82 [.int .i64 0, .int .i64 0, .int .i64 0, .int .i64 0, .int .i64 0, .int .i64 0, .string ByteArray.empty, .slice none 0 0, .int .i64 0] [cV (.int .i64 0), cV (.int .i64 0), cV (.int .i64 0), cV (.int .i64 0), cV (.int .i64 0), cV (.int .i64 0), cV (.string ByteArray.empty), cV s0, cV (.int .i64 0)] := ⟨Ybg, Y4e rfl rfl⟩
instance Ybh : FldI Tryz.prog 187 0 0 := ⟨by kernel_rfl⟩
instance Ybi : FldI Tryz.prog 82 0 0 := ⟨by kernel_rfl⟩
instance Ybj : FldI Tryz.prog 187 1 1 := ⟨by kernel_rfl⟩
instance Ybk : FldI Tryz.prog 82 1 1 := ⟨by kernel_rfl⟩
instance Ybl : FldI Tryz.prog 187 2 2 := ⟨by kernel_rfl⟩
instance Ybm : FldI Tryz.prog 82 2 2 := ⟨by kernel_rfl⟩
instance Ybn : FldI Tryz.prog 187 3 3 := ⟨by kernel_rfl⟩
instance Ybo : FldI Tryz.prog 82 3 3 := ⟨by kernel_rfl⟩
instance Ybp : FldI Tryz.prog 187 4 4 := ⟨by kernel_rfl⟩
instance Ybq : FldI Tryz.prog 82 4 4 := ⟨by kernel_rfl⟩
instance Ybr : FldI Tryz.prog 187 5 5 := ⟨by kernel_rfl⟩
instance Ybs : FldI Tryz.prog 82 5 5 := ⟨by kernel_rfl⟩
instance Ybt : FldI Tryz.prog 82 6 6 := ⟨by kernel_rfl⟩
instance Ybu : FldI Tryz.prog 82 7 7 := ⟨by kernel_rfl⟩
instance Ybv : FldI Tryz.prog 187 8 8 := ⟨by kernel_rfl⟩
instance Ybw : FldI Tryz.prog 82 8 8 := ⟨by kernel_rfl⟩
instance Ybx : LdI Tryz.prog 82 true 9 := ⟨by kernel_rfl⟩
theorem Yby : Y30 Tryz.prog 116 = some (82, 9, 96) := by kernel_rfl
theorem Ybz : ∀ x, Y4h (kI64 x) := fun x => (Y4h.cons (Y4g.val _) (Y4h.nil) : Y4h [cI x])
theorem Yc0 : ∀ x u, FrzL (Yaa x u) (Yab x u) (Ya6 x) := fun _ _ => (fS (fS (fS (fS (fS (fS (fS (FrzL.cons (os := [_]) Frz.arr (fS FrzL.nil)))))))))
theorem Yc1 : ∀ x u, Y4h (Yaa x u) := fun _ _ => (Y4h.cons (Y4g.val _) (Y4h.cons (Y4g.val _) (Y4h.cons (Y4g.val _) (Y4h.cons (Y4g.val _) (Y4h.cons (Y4g.val _) (Y4h.cons (Y4g.val _) (Y4h.cons (Y4g.val _) (Y4h.cons (Y4g.val _) (Y4h.cons (Y4g.val _) Y4h.nil)))))))))
theorem Yc2 : ∀ x u, ∀ o ∈ Yab x u, Y4i o := fun _ _ => (Y4k (Y4i.arr Ybz) Y4j)
instance Yc3 : SlI Tryz.prog 116 82 9 96 := ⟨by kernel_rfl⟩
theorem Yc4 : Y1c Tryz.prog 118 = some [.int .i64 0, .slice none 0 0, .slice none 0 0] := by kernel_rfl
instance : AlI Tryz.prog 118 [.int .i64 0, .slice none 0 0, .slice none 0 0] [cV (.int .i64 0), cV s0, cV s0] := ⟨Yc4, Y4e rfl rfl⟩
instance Yc5 : FldI Tryz.prog 109 0 0 := ⟨by kernel_rfl⟩
instance Yc6 : FldI Tryz.prog 118 0 0 := ⟨by kernel_rfl⟩
instance Yc7 : FldI Tryz.prog 118 1 1 := ⟨by kernel_rfl⟩
instance Yc8 : LdI Tryz.prog 116 false 1 := ⟨by kernel_rfl⟩
instance Yc9 : FldI Tryz.prog 118 2 2 := ⟨by kernel_rfl⟩
instance Yca : LdI Tryz.prog 118 true 3 := ⟨by kernel_rfl⟩
theorem Ycb : Y30 Tryz.prog 33 = some (118, 3, 56) := by kernel_rfl
theorem Ycc : ∀ x u, FrzL (Yad x u) (Yae x u) (Yac x) := fun _ _ => (fS (FrzL.cons (os := [_]) (Frz.deep Yc0) (FrzL.cons (os := [_]) (Frz.deep Yc0) FrzL.nil)))
theorem Ycd : ∀ x u, Y4h (Yad x u) := fun _ _ => (Y4h.cons (Y4g.val _) (Y4h.cons (Y4g.val _) (Y4h.cons (Y4g.val _) Y4h.nil)))
theorem Yce : ∀ x u, ∀ o ∈ Yae x u, Y4i o := fun _ _ => (Y4k (Y4i.deep Yc1 Yc2) (Y4k (Y4i.deep Yc1 Yc2) Y4j))
instance Ycf : SlI Tryz.prog 33 118 3 56 := ⟨by kernel_rfl⟩
theorem Ycg : Y1c Tryz.prog 40 = some [.int .i64 0, .int .i64 0] := by kernel_rfl
instance : AlI Tryz.prog 40 [.int .i64 0, .int .i64 0] [cV (.int .i64 0), cV (.int .i64 0)] := ⟨Ycg, Y4e rfl rfl⟩
instance Ych : FldI Tryz.prog 29 0 0 := ⟨by kernel_rfl⟩
instance Yci : FldI Tryz.prog 40 0 0 := ⟨by kernel_rfl⟩
instance Ycj : FldI Tryz.prog 29 1 1 := ⟨by kernel_rfl⟩
instance Yck : FldI Tryz.prog 40 1 1 := ⟨by kernel_rfl⟩
instance Ycl : LdI Tryz.prog 40 true 2 := ⟨by kernel_rfl⟩
theorem Ycm : Y30 Tryz.prog 34 = some (40, 2, 16) := by kernel_rfl
instance Ycn : LdI Tryz.prog 29 true 2 := ⟨by kernel_rfl⟩
instance Yco : SlI Tryz.prog 34 40 2 16 := ⟨by kernel_rfl⟩
theorem Ycp : Y1c Tryz.prog 36 = some [.slice none 0 0, .slice none 0 0] := by kernel_rfl
instance : AlI Tryz.prog 36 [.slice none 0 0, .slice none 0 0] [cV s0, cV s0] := ⟨Ycp, Y4e rfl rfl⟩
instance Ycq : FldI Tryz.prog 36 0 0 := ⟨by kernel_rfl⟩
instance Ycr : LdI Tryz.prog 33 false 1 := ⟨by kernel_rfl⟩
instance Ycs : FldI Tryz.prog 36 1 1 := ⟨by kernel_rfl⟩
instance Yct : LdI Tryz.prog 34 false 1 := ⟨by kernel_rfl⟩
instance Ycu : LdI Tryz.prog 36 true 2 := ⟨by kernel_rfl⟩
theorem Ycv : Y1c Tryz.prog 49 = some [.int .i64 0, .slice none 0 0] := by kernel_rfl
instance : AlI Tryz.prog 49 [.int .i64 0, .slice none 0 0] [cV (.int .i64 0), cV s0] := ⟨Ycv, Y4e rfl rfl⟩
instance Ycw : FldI Tryz.prog 46 0 0 := ⟨by kernel_rfl⟩
instance Ycx : FldI Tryz.prog 49 0 0 := ⟨by kernel_rfl⟩
instance Ycy : FldI Tryz.prog 49 1 1 := ⟨by kernel_rfl⟩
instance Ycz : LdI Tryz.prog 49 true 2 := ⟨by kernel_rfl⟩
theorem Yd0 : Y1c Tryz.prog 38 = some [.int .i64 0, .int .i64 0, .string ByteArray.empty, .int .i64 0] := by kernel_rfl
instance : AlI Tryz.prog 38 [.int .i64 0, .int .i64 0, .string ByteArray.empty, .int .i64 0] [cV (.int .i64 0), cV (.int .i64 0), cV (.string ByteArray.empty), cV (.int .i64 0)] := ⟨Yd0, Y4e rfl rfl⟩
instance Yd1 : FldI Tryz.prog 27 0 0 := ⟨by kernel_rfl⟩
instance Yd2 : FldI Tryz.prog 38 0 0 := ⟨by kernel_rfl⟩
instance Yd3 : FldI Tryz.prog 27 1 1 := ⟨by kernel_rfl⟩
instance Yd4 : FldI Tryz.prog 38 1 1 := ⟨by kernel_rfl⟩
instance Yd5 : FldI Tryz.prog 38 2 2 := ⟨by kernel_rfl⟩
instance Yd6 : FldI Tryz.prog 27 3 3 := ⟨by kernel_rfl⟩
instance Yd7 : FldI Tryz.prog 38 3 3 := ⟨by kernel_rfl⟩
instance Yd8 : LdI Tryz.prog 38 true 4 := ⟨by kernel_rfl⟩
theorem Yd9 : Y30 Tryz.prog 60 = some (38, 4, 40) := by kernel_rfl
instance Yda : SlI Tryz.prog 60 38 4 40 := ⟨by kernel_rfl⟩
theorem un_4 : Tryz.prog.underlying 4 = some .bool := by kernel_rfl
instance : UnI Tryz.prog 4 .bool := ⟨un_4⟩
instance Ydb : SlI Tryz.prog 159 194 3 24 := ⟨by kernel_rfl⟩
instance Ydc : FldI Tryz.prog 194 0 0 := ⟨by kernel_rfl⟩
instance Ydd : FldI Tryz.prog 194 1 1 := ⟨by kernel_rfl⟩
instance Yde : FldI Tryz.prog 194 2 2 := ⟨by kernel_rfl⟩
instance Ydf : SlI Tryz.prog 112 159 1 24 := ⟨by kernel_rfl⟩
instance Ydg : LdI Tryz.prog 159 false 1 := ⟨by kernel_rfl⟩
theorem Ydh : Y30 Tryz.prog 159 = some (194, 3, 24) := by kernel_rfl
instance Ydi : LdI Tryz.prog 194 true 3 := ⟨by kernel_rfl⟩
theorem Ydj : places Tryz.prog 82 = some [(0, 1), (1, 1), (2, 1), (3, 1), (4, 1), (5, 1), (6, 1), (7, 1), (8, 1)] := by kernel_rfl
instance : PlI Tryz.prog 82 [(0, 1), (1, 1), (2, 1), (3, 1), (4, 1), (5, 1), (6, 1), (7, 1), (8, 1)] := ⟨Ydj⟩
theorem Ydk : Y73 Tryz.prog 82 5 = some (5, 1, false) := by kernel_rfl
theorem Ydl : Y73 Tryz.prog 82 2 = some (2, 1, false) := by kernel_rfl
theorem Ydm : ∀ x, Y4h (Yaf x) := fun x => (Y4h.cons (Y4g.val _) (Y4h.cons (Y4g.val _) (Y4h.cons (Y4g.val _) (Y4h.nil))) : Y4h [cI x.kind, cI x.key, cI x.id])
theorem Ydn : places Tryz.prog 194 = some [(0, 1), (1, 1), (2, 1)] := by kernel_rfl
instance : PlI Tryz.prog 194 [(0, 1), (1, 1), (2, 1)] := ⟨Ydn⟩
theorem Ydo : Y1c Tryz.prog 194 = some [.int .i64 0, .int .i64 0, .int .i64 0] := by kernel_rfl
instance : AlI Tryz.prog 194 [.int .i64 0, .int .i64 0, .int .i64 0] [cV (.int .i64 0), cV (.int .i64 0), cV (.int .i64 0)] := ⟨Ydo, Y4e rfl rfl⟩
theorem Ydp : Y30 Tryz.prog 161 = some (4, 1, 1) := by kernel_rfl
theorem ze_4 : Y1c Tryz.prog 4 = some [.bool false] := by kernel_rfl
instance : AlI Tryz.prog 4 [.bool false] [cV (.bool false)] := ⟨ze_4, Y4e rfl rfl⟩
theorem Ydq : Y73 Tryz.prog 82 7 = some (7, 1, false) := by kernel_rfl
instance Ydr : SlI Tryz.prog 161 4 1 1 := ⟨by kernel_rfl⟩
instance ld_4 : LdI Tryz.prog 4 false 1 := ⟨by kernel_rfl⟩
theorem Yds : Y30 Tryz.prog 112 = some (159, 1, 24) := by kernel_rfl
theorem Ydt : Y1c Tryz.prog 159 = some [.slice none 0 0] := by kernel_rfl
instance : AlI Tryz.prog 159 [.slice none 0 0] [cV s0] := ⟨Ydt, Y4e rfl rfl⟩
theorem Ydu : places Tryz.prog 164 = some [(0, 1), (1, 1), (2, 1), (3, 1)] := by kernel_rfl
instance : PlI Tryz.prog 164 [(0, 1), (1, 1), (2, 1), (3, 1)] := ⟨Ydu⟩
theorem Ydv : Y1c Tryz.prog 164 = some [.slice none 0 0, .slice none 0 0, .slice none 0 0, .slice none 0 0] := by kernel_rfl
instance : AlI Tryz.prog 164 [.slice none 0 0, .slice none 0 0, .slice none 0 0, .slice none 0 0] [cV s0, cV s0, cV s0, cV s0] := ⟨Ydv, Y4e rfl rfl⟩
instance Ydw : FldI Tryz.prog 164 2 2 := ⟨by kernel_rfl⟩
instance Ydx : LdI Tryz.prog 112 false 1 := ⟨by kernel_rfl⟩
instance Ydy : FldI Tryz.prog 164 1 1 := ⟨by kernel_rfl⟩
instance Ydz : FldI Tryz.prog 164 0 0 := ⟨by kernel_rfl⟩
instance Ye0 : FldI Tryz.prog 164 3 3 := ⟨by kernel_rfl⟩
theorem Ye1 : places Tryz.prog 114 = some [(0, 2), (2, 1), (3, 1), (4, 1)] := by kernel_rfl
instance : PlI Tryz.prog 114 [(0, 2), (2, 1), (3, 1), (4, 1)] := ⟨Ye1⟩
theorem Ye2 : Y1c Tryz.prog 114 = some [.slice none 0 0, .slice none 0 0, .slice none 0 0, .slice none 0 0, .slice none 0 0] := by kernel_rfl
instance : AlI Tryz.prog 114 [.slice none 0 0, .slice none 0 0, .slice none 0 0, .slice none 0 0, .slice none 0 0] [cV s0, cV s0, cV s0, cV s0, cV s0] := ⟨Ye2, Y4e rfl rfl⟩
instance Ye3 : FldI Tryz.prog 114 1 2 := ⟨by kernel_rfl⟩
instance Ye4 : LdI Tryz.prog 110 false 1 := ⟨by kernel_rfl⟩
theorem Ye5 : Y30 Tryz.prog 110 = some (157, 1, 8) := by kernel_rfl
instance Ye6 : FldI Tryz.prog 114 3 4 := ⟨by kernel_rfl⟩
instance Ye7 : FldI Tryz.prog 114 2 3 := ⟨by kernel_rfl⟩
instance Ye8 : LdI Tryz.prog 111 false 1 := ⟨by kernel_rfl⟩
theorem Ye9 : Y30 Tryz.prog 111 = some (44, 1, 24) := by kernel_rfl
instance Yea : FldI Tryz.prog 114 0 0 := ⟨by kernel_rfl⟩
instance Yeb : SlI Tryz.prog 110 157 1 8 := ⟨by kernel_rfl⟩
instance Yec : LdI Tryz.prog 157 false 1 := ⟨by kernel_rfl⟩
instance Yed : SlI Tryz.prog 111 44 1 24 := ⟨by kernel_rfl⟩
theorem Yee : Y5s Tryz.prog 40 = some [0, 0] := by kernel_rfl
theorem Yef : Y30 Tryz.prog 89 = some (3, 1, 8) := by kernel_rfl
instance Yeg : SlI Tryz.prog 89 3 1 8 := ⟨by kernel_rfl⟩
instance ld_3 : LdI Tryz.prog 3 false 1 := ⟨by kernel_rfl⟩
theorem Yeh : Y1c Tryz.prog 92 = some [.int .i64 0, .int .i64 0, .int .i64 0, .int .i64 0, .int .i64 0, .int .i64 0, .string ByteArray.empty, .slice none 0 0, .int .i64 0, .bool false] := by kernel_rfl
instance : AlI Tryz.prog 92 [.int .i64 0, .int .i64 0, .int .i64 0, .int .i64 0, .int .i64 0, .int .i64 0, .string ByteArray.empty, .slice none 0 0, .int .i64 0, .bool false] [cV (.int .i64 0), cV (.int .i64 0), cV (.int .i64 0), cV (.int .i64 0), cV (.int .i64 0), cV (.int .i64 0), cV (.string ByteArray.empty), cV s0, cV (.int .i64 0), cV (.bool false)] := ⟨Yeh, Y4e rfl rfl⟩
theorem Yei : places Tryz.prog 92 = some [(0, 9), (9, 1)] := by kernel_rfl
instance : PlI Tryz.prog 92 [(0, 9), (9, 1)] := ⟨Yei⟩
instance Yej : LdI Tryz.prog 92 true 10 := ⟨by kernel_rfl⟩
theorem un_2 : Tryz.prog.underlying 2 = some (.int .i64) := by kernel_rfl
instance : UnI Tryz.prog 2 (.int .i64) := ⟨un_2⟩
theorem un_5 : Tryz.prog.underlying 5 = some (.int .u8) := by kernel_rfl
instance : UnI Tryz.prog 5 (.int .u8) := ⟨un_5⟩
theorem Yek : Y30 Tryz.prog 144 = some (5, 1, 1) := by kernel_rfl
theorem Yel : Y78 Tryz.prog 144 = true := by kernel_rfl
theorem Yem : Y73 Tryz.prog 92 0 = some (0, 9, true) := by kernel_rfl
theorem un_3 : Tryz.prog.underlying 3 = some (.int .i64) := by kernel_rfl
instance : UnI Tryz.prog 3 (.int .i64) := ⟨un_3⟩
theorem Yen : Tryz.prog.underlying 213 = some (.int .u64) := by kernel_rfl
instance : UnI Tryz.prog 213 (.int .u64) := ⟨Yen⟩
theorem Yeo : Y1c Tryz.prog 44 = some [.slice none 0 0] := by kernel_rfl
instance : AlI Tryz.prog 44 [.slice none 0 0] [cV s0] := ⟨Yeo, Y4e rfl rfl⟩
instance Yep : FldI Tryz.prog 136 3 5 := ⟨by kernel_rfl⟩
instance Yeq : LdI Tryz.prog 134 false 1 := ⟨by kernel_rfl⟩
theorem Yer : Y6l Tryz.prog 134 = some (.i64, 159) := by kernel_rfl
theorem Yes : Y6n Tryz.prog 159 = some s0 := by kernel_rfl
theorem Yet : Y5s Tryz.prog 194 = some [0, 0, 0] := by kernel_rfl
theorem Yeu : Y6l Tryz.prog 233 = some (.i64, 4) := by kernel_rfl
theorem zv_4 : Y6n Tryz.prog 4 = some (.bool false) := by kernel_rfl
instance Yev : LdI Tryz.prog 127 false 1 := ⟨by kernel_rfl⟩
instance Yew : FldI Tryz.prog 136 0 0 := ⟨by kernel_rfl⟩
instance Yex : FldI Tryz.prog 136 1 3 := ⟨by kernel_rfl⟩
instance Yey : LdI Tryz.prog 133 false 1 := ⟨by kernel_rfl⟩
theorem Yez : Y6l Tryz.prog 133 = some (.i64, 2) := by kernel_rfl
theorem zv_2 : Y6n Tryz.prog 2 = some (.int .i64 0) := by kernel_rfl
instance Yf0 : FldI Tryz.prog 136 2 4 := ⟨by kernel_rfl⟩
instance Yf1 : FldI Tryz.prog 136 4 6 := ⟨by kernel_rfl⟩
theorem Yf2 : places Tryz.prog 136 = some [(0, 3), (3, 1), (4, 1), (5, 1), (6, 1)] := by kernel_rfl
instance : PlI Tryz.prog 136 [(0, 3), (3, 1), (4, 1), (5, 1), (6, 1)] := ⟨Yf2⟩
theorem Yf3 : Y1c Tryz.prog 136 = some [.int .i64 0, .slice none 0 0, .slice none 0 0, .map none, .map none, .map none, .map none] := by kernel_rfl
instance : AlI Tryz.prog 136 [.int .i64 0, .slice none 0 0, .slice none 0 0, .map none, .map none, .map none, .map none] [cV (.int .i64 0), cV s0, cV s0, cV (.map none), cV (.map none), cV (.map none), cV (.map none)] := ⟨Yf3, Y4e rfl rfl⟩
instance Yf4 : FldI Tryz.prog 126 1 2 := ⟨by kernel_rfl⟩
instance Yf5 : LdI Tryz.prog 124 false 1 := ⟨by kernel_rfl⟩
instance Yf6 : SlI Tryz.prog 124 127 1 8 := ⟨by kernel_rfl⟩
theorem Yf7 : places Tryz.prog 126 = some [(0, 2), (2, 1)] := by kernel_rfl
instance : PlI Tryz.prog 126 [(0, 2), (2, 1)] := ⟨Yf7⟩
theorem Yf8 : Y1c Tryz.prog 126 = some [.slice none 0 0, .slice none 0 0, .slice none 0 0] := by kernel_rfl
instance : AlI Tryz.prog 126 [.slice none 0 0, .slice none 0 0, .slice none 0 0] [cV s0, cV s0, cV s0] := ⟨Yf8, Y4e rfl rfl⟩
theorem Yf9 : Y30 Tryz.prog 124 = some (127, 1, 8) := by kernel_rfl
theorem Yfa : Y1c Tryz.prog 130 = some [.map none] := by kernel_rfl
instance : AlI Tryz.prog 130 [.map none] [cV (.map none)] := ⟨Yfa, Y4e rfl rfl⟩
instance Yfb : LdI Tryz.prog 130 false 1 := ⟨by kernel_rfl⟩
theorem Yfc : Y8p Tryz.prog 130 = some (40, 4) := by kernel_rfl
theorem Yfd : Y1c Tryz.prog 127 = some [.pointer none] := by kernel_rfl
instance : AlI Tryz.prog 127 [.pointer none] [cV (.pointer none)] := ⟨Yfd, Y4e rfl rfl⟩
theorem Yfe : places Tryz.prog 40 = some [(0, 1), (1, 1)] := by kernel_rfl
instance : PlI Tryz.prog 40 [(0, 1), (1, 1)] := ⟨Yfe⟩
instance Yff : FldI Tryz.prog 126 0 0 := ⟨by kernel_rfl⟩
instance Yfg : FldI Tryz.prog 92 0 0 := ⟨by kernel_rfl⟩
instance Yfh : FldI Tryz.prog 92 1 9 := ⟨by kernel_rfl⟩
theorem Yfi : Y30 Tryz.prog 97 = some (92, 10, 104) := by kernel_rfl
instance Yfj : SlI Tryz.prog 97 92 10 104 := ⟨by kernel_rfl⟩
instance Yfk : LdI Tryz.prog 25 true 2 := ⟨by kernel_rfl⟩
instance Yfl : LdI Tryz.prog 46 true 2 := ⟨by kernel_rfl⟩
instance : ArT Tryz.prog 44 2 1 8 kI64 := ⟨Ybf⟩
instance : ZeK Tryz.prog 2 kI64 [.int .i64 0] 0 := ⟨ze_2, (Y4e rfl rfl)⟩
instance : ZeK Tryz.prog 82 Ya6 [.int .i64 0, .int .i64 0, .int .i64 0, .int .i64 0, .int .i64 0, .int .i64 0, .string ByteArray.empty, .slice none 0 0, .int .i64 0] (Y9t.mk 0 0 0 0 0 0 ByteArray.empty [] 0) := ⟨Ybg, (fun w F => Imps.cells (.cons (Imp.refl _) (.cons (Imp.refl _) (.cons (Imp.refl _) (.cons (Imp.refl _) (.cons (Imp.refl _) (.cons (Imp.refl _) (.cons (Imp.refl _) (.cons (Imp.nil kI64 1) (.cons (Imp.refl _) .nil))))))))) (Y4e (cs := [cV (.int .i64 0), cV (.int .i64 0), cV (.int .i64 0), cV (.int .i64 0), cV (.int .i64 0), cV (.int .i64 0), cV (.string ByteArray.empty), cV s0, cV (.int .i64 0)]) rfl rfl w F))⟩
instance : ArT Tryz.prog 116 82 9 96 Ya6 := ⟨Yby⟩
instance : PnK kI64 := ⟨Ybz⟩
instance : FzD Yaa Yab Ya6 := ⟨Yc0⟩
instance : PnD Yaa Yab := ⟨Yc1, Yc2⟩
instance : ZeK Tryz.prog 118 Yac [.int .i64 0, .slice none 0 0, .slice none 0 0] (Y9y.mk 0 [] []) := ⟨Yc4, (fun w F => Imps.cells (.cons (Imp.refl _) (.cons (Imp.nil Ya6 9) (.cons (Imp.nil Ya6 9) .nil))) (Y4e (cs := [cV (.int .i64 0), cV s0, cV s0]) rfl rfl w F))⟩
instance : ArT Tryz.prog 33 118 3 56 Yac := ⟨Ycb⟩
instance : FzD Yad Yae Yac := ⟨Ycc⟩
instance : PnD Yad Yae := ⟨Ycd, Yce⟩
instance : ZeK Tryz.prog 40 Ya8 [.int .i64 0, .int .i64 0] (Y9v.mk 0 0) := ⟨Ycg, (Y4e rfl rfl)⟩
instance : ArT Tryz.prog 34 40 2 16 Ya8 := ⟨Ycm⟩
instance : ZeK Tryz.prog 36 Yar [.slice none 0 0, .slice none 0 0] (Y9z.mk [] []) := ⟨Ycp, (fun w F => Imps.cells (.cons (Imp.nil Yac 3) (.cons (Imp.nil Ya8 2) .nil)) (Y4e (cs := [cV s0, cV s0]) rfl rfl w F))⟩
instance : ZeK Tryz.prog 49 Yas [.int .i64 0, .slice none 0 0] (Y9w.mk 0 []) := ⟨Ycv, (fun w F => Imps.cells (.cons (Imp.refl _) (.cons (Imp.nil kI64 1) .nil)) (Y4e (cs := [cV (.int .i64 0), cV s0]) rfl rfl w F))⟩
instance : ZeK Tryz.prog 38 Ya9 [.int .i64 0, .int .i64 0, .string ByteArray.empty, .int .i64 0] (Y9x.mk 0 0 ByteArray.empty 0) := ⟨Yd0, (Y4e rfl rfl)⟩
instance : ArT Tryz.prog 60 38 4 40 Ya9 := ⟨Yd9⟩
instance : ArT Tryz.prog 159 194 3 24 Yaf := ⟨Ydh⟩
instance : FiI Tryz.prog 82 5 5 1 false := ⟨Ydk⟩
instance : FiI Tryz.prog 82 2 2 1 false := ⟨Ydl⟩
instance : PnK Yaf := ⟨Ydm⟩
instance : ZeK Tryz.prog 194 Yaf [.int .i64 0, .int .i64 0, .int .i64 0] (Ya0.mk 0 0 0) := ⟨Ydo, (Y4e rfl rfl)⟩
instance : ArT Tryz.prog 161 4 1 1 Yah := ⟨Ydp⟩
instance : ZeK Tryz.prog 4 Yah [.bool false] false := ⟨ze_4, (Y4e rfl rfl)⟩
instance : FiI Tryz.prog 82 7 7 1 false := ⟨Ydq⟩
instance : ArT Tryz.prog 112 159 1 24 Yag := ⟨Yds⟩
instance : ZeK Tryz.prog 159 Yag [.slice none 0 0] [] := ⟨Ydt, (fun w F => Imps.cells (.cons (Imp.nil Yaf 3) .nil) (Y4e (cs := [cV s0]) rfl rfl w F))⟩
instance : ZeK Tryz.prog 164 Yai [.slice none 0 0, .slice none 0 0, .slice none 0 0, .slice none 0 0] (Ya1.mk [] [] [] []) := ⟨Ydv, (fun w F => Imps.cells (.cons (Imp.nil kI64 1) (.cons (Imp.nil Yag 1) (.cons (Imp.nil Yag 1) (.cons (Imp.nil kI64 1) .nil)))) (Y4e (cs := [cV s0, cV s0, cV s0, cV s0]) rfl rfl w F))⟩
instance : ZeK Tryz.prog 114 Yat [.slice none 0 0, .slice none 0 0, .slice none 0 0, .slice none 0 0, .slice none 0 0] (Ya2.mk (Y9z.mk [] []) [] [] []) := ⟨Ye2, (fun w F => Imps.cells (.cons (Imp.nil Yac 3) (.cons (Imp.nil Ya8 2) (.cons (Imp.nil Yaj 1) (.cons (Imp.nil Yak 1) (.cons (Imp.nil Yag 1) .nil))))) (Y4e (cs := [cV s0, cV s0, cV s0, cV s0, cV s0]) rfl rfl w F))⟩
instance : ArT Tryz.prog 110 157 1 8 Yaj := ⟨Ye5⟩
instance : ArT Tryz.prog 111 44 1 24 Yak := ⟨Ye9⟩
instance : EqK Tryz.prog 40 [0, 0] := ⟨Yee⟩
instance : ArT Tryz.prog 89 3 1 8 kI64 := ⟨Yef⟩
instance : ZeK Tryz.prog 92 Yaq [.int .i64 0, .int .i64 0, .int .i64 0, .int .i64 0, .int .i64 0, .int .i64 0, .string ByteArray.empty, .slice none 0 0, .int .i64 0, .bool false] (Ya3.mk (Y9t.mk 0 0 0 0 0 0 ByteArray.empty [] 0) false) := ⟨Yeh, (fun w F => Imps.cells (.cons (Imp.refl _) (.cons (Imp.refl _) (.cons (Imp.refl _) (.cons (Imp.refl _) (.cons (Imp.refl _) (.cons (Imp.refl _) (.cons (Imp.refl _) (.cons (Imp.nil kI64 1) (.cons (Imp.refl _) (.cons (Imp.refl _) .nil)))))))))) (Y4e (cs := [cV (.int .i64 0), cV (.int .i64 0), cV (.int .i64 0), cV (.int .i64 0), cV (.int .i64 0), cV (.int .i64 0), cV (.string ByteArray.empty), cV s0, cV (.int .i64 0), cV (.bool false)]) rfl rfl w F))⟩
instance : ArT Tryz.prog 144 5 1 1 kU8 := ⟨Yek⟩
instance : ByI Tryz.prog 144 := ⟨Yel⟩
instance : FiI Tryz.prog 92 0 0 9 true := ⟨Yem⟩
instance : ZeK Tryz.prog 44 Yak [.slice none 0 0] [] := ⟨Yeo, (fun w F => Imps.cells (.cons (Imp.nil kI64 1) .nil) (Y4e (cs := [cV s0]) rfl rfl w F))⟩
instance : MpT Tryz.prog 134 .i64 Yam 159 s0 ([] : List Ya0) := ⟨Yer, Yes, (fun w F => Imp.nil Yaf 3 w F _ rfl)⟩
instance : EqK Tryz.prog 194 [0, 0, 0] := ⟨Yet⟩
instance : MpT Tryz.prog 233 .i64 Yan 4 (.bool false) false := ⟨Yeu, zv_4, (fun _ _ => rfl)⟩
instance : MpT Tryz.prog 133 .i64 Yal 2 (.int .i64 0) 0 := ⟨Yez, zv_2, (fun _ _ => rfl)⟩
instance : ZeK Tryz.prog 126 Yau [.slice none 0 0, .slice none 0 0, .slice none 0 0] (Ya5.mk (Y9z.mk [] []) []) := ⟨Yf8, (fun w F => Imps.cells (.cons (Imp.nil Yac 3) (.cons (Imp.nil Ya8 2) (.cons (Imp.nil Yap 1) .nil))) (Y4e (cs := [cV s0, cV s0, cV s0]) rfl rfl w F))⟩
instance : ArT Tryz.prog 124 127 1 8 Yap := ⟨Yf9⟩
instance : PpT Tryz.prog 130 Yan 40 4 (.bool false) false := ⟨Yfc, zv_4, (fun _ _ => rfl)⟩
instance : ArT Tryz.prog 97 92 10 104 Yaq := ⟨Yfi⟩
instance : SrI Tryz.prog 192 9 := ⟨Y9k⟩
instance : SrJ Tryz.prog 254 := ⟨Y9l⟩
instance {a1 : Int} {a2 : Int} {a3 : Int} {a4 : Int} {a5 : Int} {a6 : Int} {a7 : ByteArray} {a8 : List Int} {a9 : Int} : Mk Ya6 [cI a1, cI a2, cI a3, cI a4, cI a5, cI a6, C.str a7, cM kI64 1 a8, cI a9] (Y9t.mk a1 a2 a3 a4 a5 a6 a7 a8 a9) := ⟨rfl⟩
instance {a1 : Int} {a2 : List Y9t} {a3 : List Y9t} : Mk Ya7 [cI a1, cM Ya6 9 a2, cM Ya6 9 a3] (Y9u.mk a1 a2 a3) := ⟨rfl⟩
instance {a1 : Int} {a2 : Int} : Mk Ya8 [cI a1, cI a2] (Y9v.mk a1 a2) := ⟨rfl⟩
instance {a1 : List Y9u} {a2 : List Y9v} : Mk kHub [cM Ya7 3 a1, cM Ya8 2 a2] (THub.mk a1 a2) := ⟨rfl⟩
instance {a1 : Int} {a2 : List Int} : Mk Yas [cI a1, cM kI64 1 a2] (Y9w.mk a1 a2) := ⟨rfl⟩
instance {a1 : Int} {a2 : Int} {a3 : ByteArray} {a4 : Int} : Mk Ya9 [cI a1, cI a2, C.str a3, cI a4] (Y9x.mk a1 a2 a3 a4) := ⟨rfl⟩
instance {a1 : Int} {a2 : List Y9t} {a3 : List Y9t} : Mk Yac [cI a1, cM Ya6 9 a2, cM Ya6 9 a3] (Y9y.mk a1 a2 a3) := ⟨rfl⟩
instance {a1 : List Y9y} {a2 : List Y9v} : Mk Yar [cM Yac 3 a1, cM Ya8 2 a2] (Y9z.mk a1 a2) := ⟨rfl⟩
instance {a1 : Int} {a2 : Int} {a3 : Int} : Mk Yaf [cI a1, cI a2, cI a3] (Ya0.mk a1 a2 a3) := ⟨rfl⟩
instance {a1 : List Int} {a2 : List (List Ya0)} {a3 : List (List Ya0)} {a4 : List Int} : Mk Yaj [C.ip [cM kI64 1 a1, cM Yag 1 a2, cM Yag 1 a3, cM kI64 1 a4]] (Ya1.mk a1 a2 a3 a4) := ⟨rfl⟩
instance {a1 : List Int} {a2 : List (List Ya0)} {a3 : List (List Ya0)} {a4 : List Int} : Mk Yai [cM kI64 1 a1, cM Yag 1 a2, cM Yag 1 a3, cM kI64 1 a4] (Ya1.mk a1 a2 a3 a4) := ⟨rfl⟩
instance {a1 : List Y9y} {a2 : List Y9v} {a3 : List Ya1} {a4 : List (List Int)} {a5 : List (List Ya0)} : Mk Yat [cM Yac 3 a1, cM Ya8 2 a2, cM Yaj 1 a3, cM Yak 1 a4, cM Yag 1 a5] (Ya2.mk (Y9z.mk a1 a2) a3 a4 a5) := ⟨rfl⟩
instance {a1 : Int} {a2 : Int} {a3 : Int} {a4 : Int} {a5 : Int} {a6 : Int} {a7 : ByteArray} {a8 : List Int} {a9 : Int} {a10 : Bool} : Mk Yaq [cI a1, cI a2, cI a3, cI a4, cI a5, cI a6, C.str a7, cM kI64 1 a8, cI a9, C.bool a10] (Ya3.mk (Y9t.mk a1 a2 a3 a4 a5 a6 a7 a8 a9) a10) := ⟨rfl⟩
instance {a1 : Int} {a2 : List Y9t} {a3 : List Y9t} {a4 : List (Int × Int)} {a5 : List (Int × List Ya0)} {a6 : List (Int × List Ya0)} {a7 : List (Int × Int)} : Mk Yap [C.ip [cI a1, cM Ya6 9 a2, cM Ya6 9 a3, C.imap .i64 Yal a4, C.imap .i64 Yam a5, C.imap .i64 Yam a6, C.imap .i64 Yal a7]] (Ya4.mk (Y9y.mk a1 a2 a3) a4 a5 a6 a7) := ⟨rfl⟩
instance {a1 : Int} {a2 : List Y9t} {a3 : List Y9t} {a4 : List (Int × Int)} {a5 : List (Int × List Ya0)} {a6 : List (Int × List Ya0)} {a7 : List (Int × Int)} : Mk Yao [cI a1, cM Ya6 9 a2, cM Ya6 9 a3, C.imap .i64 Yal a4, C.imap .i64 Yam a5, C.imap .i64 Yam a6, C.imap .i64 Yal a7] (Ya4.mk (Y9y.mk a1 a2 a3) a4 a5 a6 a7) := ⟨rfl⟩
instance {a1 : List Y9y} {a2 : List Y9v} {a3 : List Ya4} : Mk Yau [cM Yac 3 a1, cM Ya8 2 a2, cM Yap 1 a3] (Ya5.mk (Y9z.mk a1 a2) a3) := ⟨rfl⟩
instance {x : Int} : Mk kI64 [cI x] x := ⟨rfl⟩
instance {x : List Ya0} : Mk Yag [cM Yaf 3 x] x := ⟨rfl⟩
instance {x : Bool} : Mk Yah [C.bool x] x := ⟨rfl⟩
instance {x : List Int} : Mk Yak [cM kI64 1 x] x := ⟨rfl⟩
instance {x : Int} : Mk kU8 [cV (.int .u8 x)] x := ⟨rfl⟩
instance {x : Int} : Mc Yal (cI x) x := ⟨rfl⟩
instance {x : List Ya0} : Mc Yam (cM Yaf 3 x) x := ⟨rfl⟩
instance {x : Bool} : Mc Yan (C.bool x) x := ⟨rfl⟩

def Z1 (p0 : List Int) (p1 : Int) : Option Int := cond (decide ((IntKind.i64.wrap (p1 - (p0.length : Int))) < 0)) (some (-1)) (some (IntKind.i64.wrap (p1 - (p0.length : Int))))
instance Z2 (p0 : List Int) (p1 : Int) : Sp Tryz.prog 47 [cM kI64 1 p0, cI p1] (Z1 p0 p1) (fun r => cI r) := Sp.of (so Tryz.func47 rfl rfl fun r X h => gh .z)

def Z3 (p0 : Y9t) (p1 : Int) : Option Int := cond (decide ((IntKind.i64.wrap (p1 - (p0.text.size : Int))) < 0)) (some (-1)) ((Z1 p0.prev (IntKind.i64.wrap (p1 - (p0.text.size : Int)))).bind fun r3 => cond (decide (r3 < 0)) (some (-1)) (some r3))
instance Z4 (p0 : Y9t) (p1 : Int) : Sp Tryz.prog 135 [C.agg [cI p0.id, cI p0.room, cI p0.author, cI p0.kind, cI p0.key, cI p0.n, C.str p0.text, cM kI64 1 p0.prev, cI p0.time], cI p1] (Z3 p0 p1) (fun r => cI r) := Sp.of (so Tryz.func135 rfl rfl fun r X h => gh .z)

def Z5 (x16 : Int) : Option Int := some x16
def Z6 (p0 : List Y9t) (x8 : Int) (x9 : Int) : Option ((Int × Int) ⊕ (Int ⊕ Int)) := cond (decide (x9 < (p0.length : Int))) ((getI p0 x9).bind fun e11 => (Z3 e11 x8).bind fun r13 => cond (decide (r13 < 0)) (some (.inr (.inl (-1)))) (some (.inl (r13, (IntKind.i64.wrap (x9 + 1)))))) (some (.inr (.inr x8)))
def Z7 (p0 : List Y9t) (p1 : Int) : Option Int := cond (decide ((IntKind.i64.wrap (p1 - (p0.length : Int))) < 0)) (some (-1)) ((iter (fun z17 => Z6 p0 z17.1 z17.2) big ((IntKind.i64.wrap (p1 - (p0.length : Int))), 0)).bind (fun z20 => match z20 with | .inl y18 => some y18 | .inr y19 => Z5 y19))
instance Z8 (p0 : List Y9t) (p1 : Int) : Sp Tryz.prog 102 [cM Ya6 9 p0, cI p1] (Z7 p0 p1) (fun r => cI r) := Sp.of (so Tryz.func102 rfl rfl fun r X h => gh (.b .z (.c1 (fun x16 => .d [(1, cI x16)] []) [] [] (.l2 (fun x8 x9 => .d [(1, cI x8), (5, cI x9)] []) [0] [] .z) .z)))

def Z9 (p0 : Y9u) (p1 : Int) : Option Int := (Z7 p0.events p1).bind fun r2 => cond (decide (r2 < 0)) (some (-1)) ((Z7 p0.parked r2).bind fun r5 => cond (decide (r5 < 0)) (some (-1)) (some r5))
instance Za (p0 : Y9u) (p1 : Int) : Sp Tryz.prog 69 [C.agg [cI p0.room, cM Ya6 9 p0.events, cM Ya6 9 p0.parked], cI p1] (Z9 p0 p1) (fun r => cI r) := Sp.of (so Tryz.func69 rfl rfl fun r X h => gh .z)

def Zb (x16 : Int) : Option Int := some x16
def Zc (p0 : List Y9u) (x8 : Int) (x9 : Int) : Option ((Int × Int) ⊕ (Int ⊕ Int)) := cond (decide (x9 < (p0.length : Int))) ((getI p0 x9).bind fun e11 => (Z9 e11 x8).bind fun r13 => cond (decide (r13 < 0)) (some (.inr (.inl (-1)))) (some (.inl (r13, (IntKind.i64.wrap (x9 + 1)))))) (some (.inr (.inr x8)))
def Zd (p0 : List Y9u) (p1 : Int) : Option Int := cond (decide ((IntKind.i64.wrap (p1 - (p0.length : Int))) < 0)) (some (-1)) ((iter (fun z17 => Zc p0 z17.1 z17.2) big ((IntKind.i64.wrap (p1 - (p0.length : Int))), 0)).bind (fun z20 => match z20 with | .inl y18 => some y18 | .inr y19 => Zb y19))
instance Ze (p0 : List Y9u) (p1 : Int) : Sp Tryz.prog 32 [cM Ya7 3 p0, cI p1] (Zd p0 p1) (fun r => cI r) := Sp.of (so Tryz.func32 rfl rfl fun r X h => gh (.b .z (.c1 (fun x16 => .d [(1, cI x16)] []) [] [] (.l2 (fun x8 x9 => .d [(1, cI x8), (5, cI x9)] []) [0] [] .z) .z)))

def Zf (p0 : List Y9v) (p1 : Int) : Option Int := cond (decide ((IntKind.i64.wrap (p1 - (p0.length : Int))) < 0)) (some (-1)) (some (IntKind.i64.wrap (p1 - (p0.length : Int))))
instance Zg (p0 : List Y9v) (p1 : Int) : Sp Tryz.prog 33 [cM Ya8 2 p0, cI p1] (Zf p0 p1) (fun r => cI r) := Sp.of (so Tryz.func33 rfl rfl fun r X h => gh .z)

def Zh (p0 : THub) (p1 : Int) : Option Int := (Zd p0.rooms p1).bind fun r2 => cond (decide (r2 < 0)) (some (-1)) ((Zf p0.stream r2).bind fun r5 => cond (decide (r5 < 0)) (some (-1)) (some r5))
instance Zi (p0 : THub) (p1 : Int) : Sp Tryz.prog 7 [C.agg [cM Ya7 3 p0.rooms, cM Ya8 2 p0.stream], cI p1] (Zh p0 p1) (fun r => cI r) := Sp.of (so Tryz.func7 rfl rfl fun r X h => gh .z)

def Zj (p0 : Y9w) (p1 : Int) : Option Int := (Z1 p0.at_ p1).bind fun r2 => cond (decide (r2 < 0)) (some (-1)) (some r2)
instance Zk (p0 : Y9w) (p1 : Int) : Sp Tryz.prog 15 [C.agg [cI p0.user, cM kI64 1 p0.at_], cI p1] (Zj p0 p1) (fun r => cI r) := Sp.of (so Tryz.func15 rfl rfl fun r X h => gh .z)

def Zl (p0 : Y9x) (p1 : Int) : Option Int := cond (decide ((IntKind.i64.wrap (p1 - (p0.text.size : Int))) < 0)) (some (-1)) (some (IntKind.i64.wrap (p1 - (p0.text.size : Int))))
instance Zm (p0 : Y9x) (p1 : Int) : Sp Tryz.prog 8 [C.agg [cI p0.kind, cI p0.n, C.str p0.text, cI p0.loud], cI p1] (Zl p0 p1) (fun r => cI r) := Sp.of (so Tryz.func8 rfl rfl fun r X h => gh .z)

def Zn (x16 : Int) : Option Int := some x16
def Zo (p0 : List Y9x) (x8 : Int) (x9 : Int) : Option ((Int × Int) ⊕ (Int ⊕ Int)) := cond (decide (x9 < (p0.length : Int))) ((getI p0 x9).bind fun e11 => (Zl e11 x8).bind fun r13 => cond (decide (r13 < 0)) (some (.inr (.inl (-1)))) (some (.inl (r13, (IntKind.i64.wrap (x9 + 1)))))) (some (.inr (.inr x8)))
def Zp (p0 : List Y9x) (p1 : Int) : Option Int := cond (decide ((IntKind.i64.wrap (p1 - (p0.length : Int))) < 0)) (some (-1)) ((iter (fun z17 => Zo p0 z17.1 z17.2) big ((IntKind.i64.wrap (p1 - (p0.length : Int))), 0)).bind (fun z20 => match z20 with | .inl y18 => some y18 | .inr y19 => Zn y19))
instance Zq (p0 : List Y9x) (p1 : Int) : Sp Tryz.prog 25 [cM Ya9 4 p0, cI p1] (Zp p0 p1) (fun r => cI r) := Sp.of (so Tryz.func25 rfl rfl fun r X h => gh (.b .z (.c1 (fun x16 => .d [(1, cI x16)] []) [] [] (.l2 (fun x8 x9 => .d [(1, cI x8), (5, cI x9)] []) [0] [] .z) .z)))

def Zr (l16 : List Int) : Option (List Int) := some l16
def Zs (p0 : List Int) (l9 : List Int) (x10 : Int) : Option ((List Int × Int) ⊕ ((List Int))) := cond (decide (x10 < (p0.length : Int))) ((getI p0 x10).bind fun e12 => (getI l9 x10).bind fun e14 => some (.inl ((List.set l9 (Int.toNat x10) e12), (IntKind.i64.wrap (x10 + 1))))) (some (.inr l9))
def Zt (p0 : List Int) : Option (List Int) := (chk (decide (0 ≤ (p0.length : Int) ∧ (p0.length : Int) * 8 ≤ 140737488355328))).bind fun u2 => (iter (fun z18 => Zs p0 z18.1 z18.2) big ((List.replicate (Int.toNat (p0.length : Int)) 0), 0)).bind fun y19 => Zr y19
instance Zu (p0 : List Int) : SpO Tryz.prog 54 (Zt p0) (.d [cM kI64 1 p0] [] fun r => .x fun (v17 : Value) => .d (cV v17) [oA v17 2 kI64 1 r]) := ⟨so Tryz.func54 rfl rfl fun r X h => gh (.q 2 (.a 0 fun w0 => .c1 (fun l16 => .d [] [oA w0 2 kI64 1 l16]) [3] [] (.A 0 fun w0 => .l2 (fun l9 x10 => .d [(4, cI x10)] [oA w0 2 kI64 1 l9]) [0,3] [] .z) .z))⟩
instance Zu' (p0 : List Int) : Sp Tryz.prog 54 [cM kI64 1 p0] (Zt p0) (fun r => cM kI64 1 r) := ⟨fun r h => Ok.freeze ((Zu p0).h r h) (by rintro c qs ⟨v17, rfl, rfl⟩; exact Frz.arr)⟩

def Zv (p0 : Y9t) : Option Y9t := (Zt p0.prev).bind fun r4 => some (Y9t.mk p0.id p0.room p0.author p0.kind p0.key p0.n p0.text r4 p0.time)
instance Zw (p0 : Y9t) : SpO Tryz.prog 144 (Zv p0) (.d [C.agg [cI p0.id, cI p0.room, cI p0.author, cI p0.kind, cI p0.key, cI p0.n, C.str p0.text, cM kI64 1 p0.prev, cI p0.time]] [] fun r => .x fun (v8 : Value) => .d (C.agg [cI r.id, cI r.room, cI r.author, cI r.kind, cI r.key, cI r.n, C.str r.text, cV v8, cI r.time]) [oA v8 2 kI64 1 r.prev]) := ⟨so Tryz.func144 rfl rfl fun r X h => gh (.k .z)⟩
instance Zw' (p0 : Y9t) : Sp Tryz.prog 144 [C.agg [cI p0.id, cI p0.room, cI p0.author, cI p0.kind, cI p0.key, cI p0.n, C.str p0.text, cM kI64 1 p0.prev, cI p0.time]] (Zv p0) (fun r => C.agg [cI r.id, cI r.room, cI r.author, cI r.kind, cI r.key, cI r.n, C.str r.text, cM kI64 1 r.prev, cI r.time]) := ⟨fun r h => Ok.freeze ((Zw p0).h r h) (by rintro c qs ⟨v8, rfl, rfl⟩; exact Frz.agg (fS (fS (fS (fS (fS (fS (fS (FrzL.cons (os := [_]) (Frz.arr) (fS (FrzL.nil)))))))))))⟩

def Zx (l22 : List Y9t) : Option (List Y9t) := some l22
def Zy (p0 : List Y9t) (l12 : List Y9t) (x13 : Int) : Option ((List Y9t × Int) ⊕ ((List Y9t))) := cond (decide (x13 < (p0.length : Int))) ((getI p0 x13).bind fun e15 => (Zv e15).bind fun r17 => (getI l12 x13).bind fun e20 => some (.inl ((List.set l12 (Int.toNat x13) r17), (IntKind.i64.wrap (x13 + 1))))) (some (.inr l12))
def Zz (p0 : List Y9t) : Option (List Y9t) := (chk (decide (0 ≤ (p0.length : Int) ∧ (p0.length : Int) * 96 ≤ 140737488355328))).bind fun u2 => (iter (fun z24 => Zy p0 z24.1 z24.2) big ((List.replicate (Int.toNat (p0.length : Int)) (Y9t.mk 0 0 0 0 0 0 ByteArray.empty [] 0)), 0)).bind fun y25 => Zx y25
theorem Z10 (p0 : List Y9t) (r : List Y9t) (h : Zz p0 = some r) : Ok Tryz.prog 111 [cM Ya6 9 p0] [] (fun c qs => ∃ (v23 : Value), c = cV v23 ∧ qs = [Obj.deep v23 82 Yaa Yab 9 r]) := by
 refine Ok.of_body (rs := [.tmp 2]) Tryz.func111 rfl rfl rfl rfl rfl fun X => ?_
 unfold Zz at h
 refine zw ?_
 refine ob' h fun u2 c1 h => ?_
 refine Ops.h (ns := []) rfl rfl (Y6f (k := Yaa) (ob := Yab) (z := (Y9t.mk 0 0 0 0 0 0 ByteArray.empty [] 0)) (u0 := s0) Yby Ybg (Y4e rfl rfl) (fun _ _ => (Own.none_cons Y6c Own.none_nil)) rfl rfl (Y49 c1).1 (Y49 c1).2 (Y4a (by decide) c1) rfl) ?_
 rintro _ _ ⟨b3, rfl, rfl⟩
 refine Ops.v rfl (Ys rfl rfl) ?_
 refine Ops.nil ?_
 refine AW.seq ?_
 refine AW.cut (τ := List Y9t) (fun l22 => ⟨[(3, cV (sn b3 (p0.length : Int)))], [Obj.deep (sn b3 (p0.length : Int)) 82 Yaa Yab 9 l22]⟩) (fun l22 => Zx l22 = some r) ?_ ?_
 ·
  refine zw ?_
  refine ob' h fun o26 g27 q28 => ?_
  refine AW.loop (τ := List Y9t × Int) (x := ((List.replicate (Int.toNat (p0.length : Int)) (Y9t.mk 0 0 0 0 0 0 ByteArray.empty [] 0)), 0)) (fun (l12, x13) => ⟨[(0, cM Ya6 9 p0), (3, cV (sn b3 (p0.length : Int))), (4, cI x13)], [Obj.deep (sn b3 (p0.length : Int)) 82 Yaa Yab 9 l12]⟩) (fun k (l12, x13) => iter (fun z24 => Zy p0 z24.1 z24.2) k (l12, x13) = some o26) g27 (Y25.both (ns := [0]) rfl rfl) ?_
  rintro k ⟨l12, x13⟩ i30
  refine Y4d (show iter (fun z24 => Zy p0 z24.1 z24.2) k (l12, x13) = some o26 from i30) fun k29 y31 hlt_k29 h h32 => ?_
  replace h : Zy p0 l12 x13 = some y31 := h
  unfold Zy at h
  refine zw ?_
  refine cnd h (fun hb14 h => ?_) fun hb14 h => ?_
  ·
   refine AW.ct hb14 rfl ?_
   refine zw ?_
   refine oi h fun e15 g16 h => ?_
   refine zw ?_
   refine ob' h fun r17 g18 h => ?_
   refine Ops.h (ns := []) rfl rfl (Y27 ((Zw _).h _ g18) rfl rfl) ?_
   rintro _ _ ⟨_, ⟨v19, rfl, rfl⟩, rfl⟩
   refine ob' h fun e20 g21 h => ?_
   refine Ops.v rfl (Y6a (p := 1) Yc3.h rfl rfl rfl g21 rfl) ?_
   refine Ops.hd (ns := [1, 0]) rfl rfl (Y6b (e' := r17) (u' := v19) Ybx.h rfl rfl rfl (Y2f g21).2.2 (fun _ => rfl) rfl rfl) ?_
   refine zw ?_
   obtain rfl := Wj h
   exact ⟨k29, ((List.set l12 (Int.toNat x13) r17), (IntKind.i64.wrap (x13 + 1))), hlt_k29, h32, Y25.both (ns := [0]) rfl rfl⟩
  refine AW.cf hb14 rfl ?_
  refine AW.exit ?_
  obtain rfl := Wj h
  obtain rfl := Wj h32
  replace h := q28
  exact ⟨l12, h, Y25.both (ns := [0]) rfl rfl⟩
 intro l22 h
 replace h : Zx l22 = some r := h
 unfold Zx at h
 refine zw ?_
 refine AW.ret ?_
 rw [← Wj h]
 exact finI ⟨[cV (sn b3 (p0.length : Int))], _, Y25.refl _, (.cons (.tmp rfl) .nil), [0], _, _, rfl, ⟨(sn b3 (p0.length : Int)), rfl, rfl⟩⟩
instance Z10' (p0 : List Y9t) : Sp Tryz.prog 111 [cM Ya6 9 p0] (Zz p0) (fun r => cM Ya6 9 r) := ⟨fun r h => Ok.freeze (Z10 p0 r h) (by rintro c qs ⟨v23, rfl, rfl⟩; exact (Frz.deep Yc0))⟩
instance Z11 (p0 : List Y9t) : SpO Tryz.prog 111 (Zz p0) (.d [cM Ya6 9 p0] [] fun r => .x fun (v23 : Value) => .d (cV v23) [Obj.deep v23 82 Yaa Yab 9 r]) := ⟨fun r h => Z10 p0 r h⟩

def Z12 (p0 : Y9u) : Option Y9y := (Zz p0.events).bind fun r4 => (Zz p0.parked).bind fun r8 => some (Y9y.mk p0.room r4 r8)
instance Z13 (p0 : Y9u) : SpO Tryz.prog 76 (Z12 p0) (.d [C.agg [cI p0.room, cM Ya6 9 p0.events, cM Ya6 9 p0.parked]] [] fun r => .x fun (v12 : Value) => .x fun (v13 : Value) => .d (C.agg [cI r.room, cV v12, cV v13]) [Obj.deep v12 82 Yaa Yab 9 r.events, Obj.deep v13 82 Yaa Yab 9 r.parked]) := ⟨so Tryz.func76 rfl rfl fun r X h => gh (.k (.k .z))⟩
instance Z13' (p0 : Y9u) : Sp Tryz.prog 76 [C.agg [cI p0.room, cM Ya6 9 p0.events, cM Ya6 9 p0.parked]] (Z12 p0) (fun r => C.agg [cI r.room, cM Ya6 9 r.events, cM Ya6 9 r.parked]) := ⟨fun r h => Ok.freeze ((Z13 p0).h r h) (by rintro c qs ⟨v12, v13, rfl, rfl⟩; exact Frz.agg (fS (FrzL.cons (os := [_]) ((Frz.deep Yc0)) (FrzL.cons (os := [_]) ((Frz.deep Yc0)) (FrzL.nil)))))⟩

def Z14 (l24 : List Y9y) : Option (List Y9y) := some l24
def Z15 (p0 : List Y9u) (l13 : List Y9y) (x14 : Int) : Option ((List Y9y × Int) ⊕ ((List Y9y))) := cond (decide (x14 < (p0.length : Int))) ((getI p0 x14).bind fun e16 => (Z12 e16).bind fun r18 => (getI l13 x14).bind fun e22 => some (.inl ((List.set l13 (Int.toNat x14) r18), (IntKind.i64.wrap (x14 + 1))))) (some (.inr l13))
def Z16 (p0 : List Y9u) : Option (List Y9y) := (chk (decide (0 ≤ (p0.length : Int) ∧ (p0.length : Int) * 56 ≤ 140737488355328))).bind fun u2 => (iter (fun z26 => Z15 p0 z26.1 z26.2) big ((List.replicate (Int.toNat (p0.length : Int)) (Y9y.mk 0 [] [])), 0)).bind fun y27 => Z14 y27
theorem Z17 (p0 : List Y9u) (r : List Y9y) (h : Z16 p0 = some r) : Ok Tryz.prog 38 [cM Ya7 3 p0] [] (fun c qs => ∃ (v25 : Value), c = cV v25 ∧ qs = [Obj.deep v25 118 Yad Yae 3 r]) := by
 refine Ok.of_body (rs := [.tmp 2]) Tryz.func38 rfl rfl rfl rfl rfl fun X => ?_
 unfold Z16 at h
 refine zw ?_
 refine ob' h fun u2 c1 h => ?_
 refine Ops.h (ns := []) rfl rfl (Y6f (k := Yad) (ob := Yae) (z := (Y9y.mk 0 [] [])) (u0 := (s0, s0)) Ycb Yc4 (Y4e rfl rfl) (fun _ _ => (Own.none_cons Y6d (Own.none_cons Y6d Own.none_nil))) rfl rfl (Y49 c1).1 (Y49 c1).2 (Y4a (by decide) c1) rfl) ?_
 rintro _ _ ⟨b3, rfl, rfl⟩
 refine Ops.v rfl (Ys rfl rfl) ?_
 refine Ops.nil ?_
 refine AW.seq ?_
 refine AW.cut (τ := List Y9y) (fun l24 => ⟨[(3, cV (sn b3 (p0.length : Int)))], [Obj.deep (sn b3 (p0.length : Int)) 118 Yad Yae 3 l24]⟩) (fun l24 => Z14 l24 = some r) ?_ ?_
 ·
  refine zw ?_
  refine ob' h fun o28 g29 q30 => ?_
  refine AW.loop (τ := List Y9y × Int) (x := ((List.replicate (Int.toNat (p0.length : Int)) (Y9y.mk 0 [] [])), 0)) (fun (l13, x14) => ⟨[(0, cM Ya7 3 p0), (3, cV (sn b3 (p0.length : Int))), (4, cI x14)], [Obj.deep (sn b3 (p0.length : Int)) 118 Yad Yae 3 l13]⟩) (fun k (l13, x14) => iter (fun z26 => Z15 p0 z26.1 z26.2) k (l13, x14) = some o28) g29 (Y25.both (ns := [0]) rfl rfl) ?_
  rintro k ⟨l13, x14⟩ i32
  refine Y4d (show iter (fun z26 => Z15 p0 z26.1 z26.2) k (l13, x14) = some o28 from i32) fun k31 y33 hlt_k31 h h34 => ?_
  replace h : Z15 p0 l13 x14 = some y33 := h
  unfold Z15 at h
  refine zw ?_
  refine cnd h (fun hb15 h => ?_) fun hb15 h => ?_
  ·
   refine AW.ct hb15 rfl ?_
   refine zw ?_
   refine oi h fun e16 g17 h => ?_
   refine zw ?_
   refine ob' h fun r18 g19 h => ?_
   refine Ops.h (ns := []) rfl rfl (Y27 ((Z13 _).h _ g19) rfl rfl) ?_
   rintro _ _ ⟨_, ⟨v20, v21, rfl, rfl⟩, rfl⟩
   refine ob' h fun e22 g23 h => ?_
   refine Ops.v rfl (Y6a (p := 2) Ycf.h rfl rfl rfl g23 rfl) ?_
   refine Ops.hd (ns := [2, 0, 0]) rfl rfl (Y6b (e' := r18) (u' := (v20, v21)) Yca.h rfl rfl rfl (Y2f g23).2.2 (fun _ => rfl) rfl rfl) ?_
   refine zw ?_
   obtain rfl := Wj h
   exact ⟨k31, ((List.set l13 (Int.toNat x14) r18), (IntKind.i64.wrap (x14 + 1))), hlt_k31, h34, Y25.both (ns := [0]) rfl rfl⟩
  refine AW.cf hb15 rfl ?_
  refine AW.exit ?_
  obtain rfl := Wj h
  obtain rfl := Wj h34
  replace h := q30
  exact ⟨l13, h, Y25.both (ns := [0]) rfl rfl⟩
 intro l24 h
 replace h : Z14 l24 = some r := h
 unfold Z14 at h
 refine zw ?_
 refine AW.ret ?_
 rw [← Wj h]
 exact finI ⟨[cV (sn b3 (p0.length : Int))], _, Y25.refl _, (.cons (.tmp rfl) .nil), [0], _, _, rfl, ⟨(sn b3 (p0.length : Int)), rfl, rfl⟩⟩
instance Z17' (p0 : List Y9u) : Sp Tryz.prog 38 [cM Ya7 3 p0] (Z16 p0) (fun r => cM Yac 3 r) := ⟨fun r h => Ok.freeze (Z17 p0 r h) (by rintro c qs ⟨v25, rfl, rfl⟩; exact (Frz.deep Ycc))⟩
instance Z18 (p0 : List Y9u) : SpO Tryz.prog 38 (Z16 p0) (.d [cM Ya7 3 p0] [] fun r => .x fun (v25 : Value) => .d (cV v25) [Obj.deep v25 118 Yad Yae 3 r]) := ⟨fun r h => Z17 p0 r h⟩

def Z19 (p0 : Y9v) : Option Y9v := some p0
instance Z1a (p0 : Y9v) : Sp Tryz.prog 12 [C.agg [cI p0.room, cI p0.id]] (Z19 p0) (fun r => C.agg [cI r.room, cI r.id]) := Sp.of (so Tryz.func12 rfl rfl fun r X h => gh .z)

def Z1b (l20 : List Y9v) : Option (List Y9v) := some l20
def Z1c (p0 : List Y9v) (l11 : List Y9v) (x12 : Int) : Option ((List Y9v × Int) ⊕ ((List Y9v))) := cond (decide (x12 < (p0.length : Int))) ((getI p0 x12).bind fun e14 => (Z19 e14).bind fun r16 => (getI l11 x12).bind fun e18 => some (.inl ((List.set l11 (Int.toNat x12) r16), (IntKind.i64.wrap (x12 + 1))))) (some (.inr l11))
def Z1d (p0 : List Y9v) : Option (List Y9v) := (chk (decide (0 ≤ (p0.length : Int) ∧ (p0.length : Int) * 16 ≤ 140737488355328))).bind fun u2 => (iter (fun z22 => Z1c p0 z22.1 z22.2) big ((List.replicate (Int.toNat (p0.length : Int)) (Y9v.mk 0 0)), 0)).bind fun y23 => Z1b y23
instance Z1e (p0 : List Y9v) : SpO Tryz.prog 39 (Z1d p0) (.d [cM Ya8 2 p0] [] fun r => .x fun (v21 : Value) => .d (cV v21) [oA v21 40 Ya8 2 r]) := ⟨so Tryz.func39 rfl rfl fun r X h => gh (.q 2 (.a 0 fun w0 => .c1 (fun l20 => .d [] [oA w0 40 Ya8 2 l20]) [3] [] (.A 0 fun w0 => .l2 (fun l11 x12 => .d [(4, cI x12)] [oA w0 40 Ya8 2 l11]) [0,3] [] .z) .z))⟩
instance Z1e' (p0 : List Y9v) : Sp Tryz.prog 39 [cM Ya8 2 p0] (Z1d p0) (fun r => cM Ya8 2 r) := ⟨fun r h => Ok.freeze ((Z1e p0).h r h) (by rintro c qs ⟨v21, rfl, rfl⟩; exact Frz.arr)⟩

def Z1f (p0 : THub) : Option Y9z := (Z16 p0.rooms).bind fun r4 => (Z1d p0.stream).bind fun r8 => some (Y9z.mk r4 r8)
instance Z1g (p0 : THub) : SpO Tryz.prog 10 (Z1f p0) (.d [C.agg [cM Ya7 3 p0.rooms, cM Ya8 2 p0.stream]] [] fun r => .x fun (v12 : Value) => .x fun (v13 : Value) => .d (C.agg [cV v12, cV v13]) [Obj.deep v12 118 Yad Yae 3 r.rooms, oA v13 40 Ya8 2 r.stream]) := ⟨so Tryz.func10 rfl rfl fun r X h => gh (.k (.k .z))⟩
instance Z1g' (p0 : THub) : Sp Tryz.prog 10 [C.agg [cM Ya7 3 p0.rooms, cM Ya8 2 p0.stream]] (Z1f p0) (fun r => C.agg [cM Yac 3 r.rooms, cM Ya8 2 r.stream]) := ⟨fun r h => Ok.freeze ((Z1g p0).h r h) (by rintro c qs ⟨v12, v13, rfl, rfl⟩; exact Frz.agg (FrzL.cons (os := [_]) ((Frz.deep Ycc)) (FrzL.cons (os := [_]) (Frz.arr) (FrzL.nil))))⟩

def Z1h (p0 : Y9w) : Option Y9w := (Zt p0.at_).bind fun r4 => some (Y9w.mk p0.user r4)
instance Z1i (p0 : Y9w) : SpO Tryz.prog 17 (Z1h p0) (.d [C.agg [cI p0.user, cM kI64 1 p0.at_]] [] fun r => .x fun (v8 : Value) => .d (C.agg [cI r.user, cV v8]) [oA v8 2 kI64 1 r.at_]) := ⟨so Tryz.func17 rfl rfl fun r X h => gh (.k .z)⟩
instance Z1i' (p0 : Y9w) : Sp Tryz.prog 17 [C.agg [cI p0.user, cM kI64 1 p0.at_]] (Z1h p0) (fun r => C.agg [cI r.user, cM kI64 1 r.at_]) := ⟨fun r h => Ok.freeze ((Z1i p0).h r h) (by rintro c qs ⟨v8, rfl, rfl⟩; exact Frz.agg (fS (FrzL.cons (os := [_]) (Frz.arr) (FrzL.nil))))⟩

def Z1j (p0 : Y9x) : Option Y9x := some p0
instance Z1k (p0 : Y9x) : Sp Tryz.prog 11 [C.agg [cI p0.kind, cI p0.n, C.str p0.text, cI p0.loud]] (Z1j p0) (fun r => C.agg [cI r.kind, cI r.n, C.str r.text, cI r.loud]) := Sp.of (so Tryz.func11 rfl rfl fun r X h => gh .z)

def Z1l (l20 : List Y9x) : Option (List Y9x) := some l20
def Z1m (p0 : List Y9x) (l11 : List Y9x) (x12 : Int) : Option ((List Y9x × Int) ⊕ ((List Y9x))) := cond (decide (x12 < (p0.length : Int))) ((getI p0 x12).bind fun e14 => (Z1j e14).bind fun r16 => (getI l11 x12).bind fun e18 => some (.inl ((List.set l11 (Int.toNat x12) r16), (IntKind.i64.wrap (x12 + 1))))) (some (.inr l11))
def Z1n (p0 : List Y9x) : Option (List Y9x) := (chk (decide (0 ≤ (p0.length : Int) ∧ (p0.length : Int) * 40 ≤ 140737488355328))).bind fun u2 => (iter (fun z22 => Z1m p0 z22.1 z22.2) big ((List.replicate (Int.toNat (p0.length : Int)) (Y9x.mk 0 0 ByteArray.empty 0)), 0)).bind fun y23 => Z1l y23
instance Z1o (p0 : List Y9x) : SpO Tryz.prog 27 (Z1n p0) (.d [cM Ya9 4 p0] [] fun r => .x fun (v21 : Value) => .d (cV v21) [oA v21 38 Ya9 4 r]) := ⟨so Tryz.func27 rfl rfl fun r X h => gh (.q 2 (.a 0 fun w0 => .c1 (fun l20 => .d [] [oA w0 38 Ya9 4 l20]) [3] [] (.A 0 fun w0 => .l2 (fun l11 x12 => .d [(4, cI x12)] [oA w0 38 Ya9 4 l11]) [0,3] [] .z) .z))⟩
instance Z1o' (p0 : List Y9x) : Sp Tryz.prog 27 [cM Ya9 4 p0] (Z1n p0) (fun r => cM Ya9 4 r) := ⟨fun r h => Ok.freeze ((Z1o p0).h r h) (by rintro c qs ⟨v21, rfl, rfl⟩; exact Frz.arr)⟩

def Z1p (x2 : Bool) : Option Bool := some x2
def Z1q (p0 : Int) (p1 : Int) (p2 : Int) : Option Bool := cond (decide (p0 ≥ p1)) (Z1p (decide (p0 ≤ p2))) (Z1p false)
instance Z1r (p0 : Int) (p1 : Int) (p2 : Int) : Sp Tryz.prog 67 [cI p0, cI p1, cI p2] (Z1q p0 p1 p2) (fun r => C.bool r) := Sp.of (so Tryz.func67 rfl rfl fun r X h => gh (.q 1 (.c1 (fun x2 => .d [(6, C.bool x2)] []) [] [] .z .z)))

def Z1s (p0 : Int) : Option Bool := (Z1q p0 1 1000000).bind fun r1 => some r1
instance Z1t (p0 : Int) : Sp Tryz.prog 171 [cI p0] (Z1s p0) (fun r => C.bool r) := Sp.of (so Tryz.func171 rfl rfl fun r X h => gh .z)

def Z1u (p0 : Int) : Option Bool := (Z1q p0 1 6).bind fun r1 => some r1
instance Z1v (p0 : Int) : Sp Tryz.prog 73 [cI p0] (Z1u p0) (fun r => C.bool r) := Sp.of (so Tryz.func73 rfl rfl fun r X h => gh .z)

def Z1w (p0 : Int) : Option Bool := (Z1q p0 0 1000000).bind fun r1 => some r1
instance Z1x (p0 : Int) : Sp Tryz.prog 172 [cI p0] (Z1w p0) (fun r => C.bool r) := Sp.of (so Tryz.func172 rfl rfl fun r X h => gh .z)

def Z1y : Option Bool := some true
def Z1z (x14 : Int) (x25 : Bool) : Option (Int ⊕ (Bool ⊕ Unit)) := cond x25 (some (.inr (.inl false))) (some (.inl (IntKind.i64.wrap (x14 + 1))))
def Z20 (p0 : List Int) (p1 : Int) (x14 : Int) : Option (Int ⊕ (Bool ⊕ Unit)) := cond (decide (x14 < (p0.length : Int))) ((getI p0 x14).bind fun e16 => (Z1s e16).bind fun r18 => cond r18 (cond (e16 == p1) (Z1z x14 true) (cond (decide (x14 > 0)) ((getI p0 (IntKind.i64.wrap (x14 - 1))).bind fun e23 => Z1z x14 (decide (e23 ≥ e16))) (Z1z x14 false))) (Z1z x14 true)) (some (.inr (.inr ())))
def Z21 (p0 : List Int) (p1 : Int) : Option Bool := cond (decide ((p0.length : Int) > 4)) (some false) ((iter (Z20 p0 p1) big 0).bind (fun z28 => match z28 with | .inl y27 => some y27 | .inr () => Z1y))
instance Z22 (p0 : List Int) (p1 : Int) : Sp Tryz.prog 173 [cM kI64 1 p0, cI p1] (Z21 p0 p1) (fun r => C.bool r) := Sp.of (so Tryz.func173 rfl rfl fun r X h => gh (.b .z (.c0 (.d [] []) [] [] (.l1 (fun x14 => .d [(5, cI x14)] []) [0,1] [] (.b (.q 1 (.c1 (fun x25 => .d [(44, C.bool x25)] []) [0,1,5] [] (.r [] [3,10,22,26] [] [0,4,8,13,18,20,24,28,32,36,41,44,48,52,56,60,64,68,72,76,80,84,89,92,96,100,105,108,112,116] .z) .z)) .z)) .z)))

def Z23 (x5 : Bool) : Option Bool := some x5
def Z24 (x13 : Bool) : Option Bool := some x13
def Z25 (x21 : Bool) : Option Bool := some x21
def Z26 (x25 : Bool) : Option Bool := some x25
def Z27 (x31 : Bool) : Option Bool := some x31
def Z28 (x37 : Bool) : Option Bool := some x37
def Z29 (x42 : Bool) : Option Bool := some x42
def Z2a (x48 : Bool) : Option Bool := some x48
def Z2b (p0 : Y9t) : Option Bool := cond (p0.kind == 1) (cond (p0.key == 0) (cond (p0.n == 0) (Z23 (p0.text.toList == ByteArray.empty.toList)) (Z23 false)) (Z23 false)) (cond (p0.kind == 2) ((Z1u p0.key).bind fun r7 => cond r7 ((Z1q p0.n 1 4).bind fun r10 => cond r10 (Z24 (p0.text.toList == ByteArray.empty.toList)) (Z24 false)) (Z24 false)) (cond (p0.kind == 3) ((Z1u p0.key).bind fun r15 => cond r15 ((Z1q p0.n 0 100).bind fun r18 => cond r18 (Z25 (p0.text.toList == ByteArray.empty.toList)) (Z25 false)) (Z25 false)) (cond (p0.kind == 4) (cond (p0.key == 0) (cond (p0.n == 0) (Z26 (decide ((p0.text.size : Int) ≤ 30))) (Z26 false)) (Z26 false)) (cond (p0.kind == 5) (cond (p0.key == 0) ((Z1q p0.n 1 2).bind fun r28 => cond r28 (Z27 (p0.text.toList == ByteArray.empty.toList)) (Z27 false)) (Z27 false)) (cond (p0.kind == 6) (cond (p0.key == 0) ((Z1q p0.n 1 3).bind fun r34 => cond r34 (Z28 (p0.text.toList == ByteArray.empty.toList)) (Z28 false)) (Z28 false)) (cond (p0.kind == 7) (cond (p0.key == 0) (cond (p0.n == 0) (cond (decide ((p0.text.size : Int) ≥ 1)) (Z29 (decide ((p0.text.size : Int) ≤ 30))) (Z29 false)) (Z29 false)) (Z29 false)) (cond (p0.kind == 8) ((Z1s p0.key).bind fun r44 => cond r44 (cond (p0.n == 0) (Z2a (p0.text.toList == ByteArray.empty.toList)) (Z2a false)) (Z2a false)) (some false))))))))
instance Z2c (p0 : Y9t) : Sp Tryz.prog 174 [C.agg [cI p0.id, cI p0.room, cI p0.author, cI p0.kind, cI p0.key, cI p0.n, C.str p0.text, cM kI64 1 p0.prev, cI p0.time]] (Z2b p0) (fun r => C.bool r) := Sp.of (so Tryz.func174 rfl rfl fun r X h => gh (.r [0] [1,4,7] [] [0,5,8,12,17,20,24,29,32,36,40,44] (.b (.c1 (fun x5 => .d [(2, C.bool x5)] []) [] [] .z .z) (.b (.c1 (fun x13 => .d [(2, C.bool x13)] []) [] [] .z .z) (.b (.c1 (fun x21 => .d [(2, C.bool x21)] []) [] [] .z .z) (.b (.c1 (fun x25 => .d [(2, C.bool x25)] []) [] [] .z .z) (.b (.c1 (fun x31 => .d [(2, C.bool x31)] []) [] [] .z .z) (.b (.c1 (fun x37 => .d [(2, C.bool x37)] []) [] [] .z .z) (.b (.c1 (fun x42 => .d [(2, C.bool x42)] []) [] [] .z .z) (.b (.c1 (fun x48 => .d [(2, C.bool x48)] []) [] [] .z .z) .z))))))))))

def Z2d (x20 : Bool) : Option Bool := some x20
def Z2e (p0 : Y9t) : Option Bool := (Z1s p0.id).bind fun r2 => cond r2 ((Z1q p0.room 1 3).bind fun r5 => cond r5 ((Z1u p0.author).bind fun r8 => cond r8 ((Z1w p0.time).bind fun r11 => cond r11 ((Z21 p0.prev p0.id).bind fun r14 => cond r14 (cond ((p0.kind == 1) == ((p0.prev.length : Int) == 0)) ((Z2b p0).bind fun r18 => Z2d r18) (Z2d false)) (Z2d false)) (Z2d false)) (Z2d false)) (Z2d false)) (Z2d false)
instance Z2f (p0 : Y9t) : Sp Tryz.prog 136 [C.agg [cI p0.id, cI p0.room, cI p0.author, cI p0.kind, cI p0.key, cI p0.n, C.str p0.text, cM kI64 1 p0.prev, cI p0.time]] (Z2e p0) (fun r => C.bool r) := Sp.of (so Tryz.func136 rfl rfl fun r X h => gh (.q 1 (.c1 (fun x20 => .d [(2, C.bool x20)] []) [] [] .z .z)))

def Z2g : Option Bool := some true
def Z2h (x14 : Int) (x25 : Bool) : Option (Int ⊕ (Bool ⊕ Unit)) := cond x25 (some (.inr (.inl false))) (some (.inl (IntKind.i64.wrap (x14 + 1))))
def Z2i (p0 : List Y9t) (p1 : Int) (x14 : Int) : Option (Int ⊕ (Bool ⊕ Unit)) := cond (decide (x14 < (p0.length : Int))) ((getI p0 x14).bind fun e16 => (Z2e e16).bind fun r18 => cond r18 (cond (e16.room != p1) (Z2h x14 true) (cond (decide (x14 > 0)) ((getI p0 (IntKind.i64.wrap (x14 - 1))).bind fun e23 => Z2h x14 (decide (e23.id ≥ e16.id))) (Z2h x14 false))) (Z2h x14 true)) (some (.inr (.inr ())))
def Z2j (p0 : List Y9t) (p1 : Int) (p2 : Int) : Option Bool := cond (decide ((p0.length : Int) > p2)) (some false) ((iter (Z2i p0 p1) big 0).bind (fun z28 => match z28 with | .inl y27 => some y27 | .inr () => Z2g))
instance Z2k (p0 : List Y9t) (p1 : Int) (p2 : Int) : Sp Tryz.prog 103 [cM Ya6 9 p0, cI p1, cI p2] (Z2j p0 p1 p2) (fun r => C.bool r) := Sp.of (so Tryz.func103 rfl rfl fun r X h => gh (.b .z (.c0 (.d [] []) [] [] (.l1 (fun x14 => .d [(7, cI x14)] []) [0,1] [] (.b (.q 1 (.c1 (fun x25 => .d [(50, C.bool x25)] []) [0,1,7] [] (.r [] [3,11,24,29] [] [0,4,8,13,18,20,24,28,32,36,40,45,48,52,56,60,64,68,72,76,80,84,88,92,97,100,104,108,112,117,120,124,128] .z) .z)) .z)) .z)))

def Z2l : Option Int := some (-1)
def Z2m (p0 : List Y9t) (p1 : Int) (x5 : Int) : Option (Int ⊕ (Int ⊕ Unit)) := cond (decide (x5 < (p0.length : Int))) ((getI p0 x5).bind fun e7 => cond (e7.id == p1) (some (.inr (.inl x5))) (some (.inl (IntKind.i64.wrap (x5 + 1))))) (some (.inr (.inr ())))
def Z2n (p0 : List Y9t) (p1 : Int) : Option Int := (iter (Z2m p0 p1) big 0).bind (fun z11 => match z11 with | .inl y10 => some y10 | .inr () => Z2l)
instance Z2o (p0 : List Y9t) (p1 : Int) : Sp Tryz.prog 74 [cM Ya6 9 p0, cI p1] (Z2n p0 p1) (fun r => cI r) := Sp.of (so Tryz.func74 rfl rfl fun r X h => gh (.q 1 (.c0 (.d [] []) [] [] (.l1 (fun x5 => .d [(5, cI x5)] []) [0,1] [] .z) .z)))

def Z2p : Option Bool := some true
def Z2q (p0 : List Y9t) (p1 : Y9t) (x8 : Int) : Option (Int ⊕ (Bool ⊕ Unit)) := cond (decide (x8 < (p1.prev.length : Int))) ((getI p1.prev x8).bind fun e10 => (Z2n p0 e10).bind fun r12 => cond (decide (r12 < 0)) (some (.inr (.inl false))) (some (.inl (IntKind.i64.wrap (x8 + 1))))) (some (.inr (.inr ())))
def Z2r (p0 : List Y9t) (p1 : Y9t) : Option Bool := (iter (Z2q p0 p1) big 0).bind (fun z16 => match z16 with | .inl y15 => some y15 | .inr () => Z2p)
instance Z2s (p0 : List Y9t) (p1 : Y9t) : Sp Tryz.prog 104 [cM Ya6 9 p0, C.agg [cI p1.id, cI p1.room, cI p1.author, cI p1.kind, cI p1.key, cI p1.n, C.str p1.text, cM kI64 1 p1.prev, cI p1.time]] (Z2r p0 p1) (fun r => C.bool r) := Sp.of (so Tryz.func104 rfl rfl fun r X h => gh (.q 1 (.c0 (.d [] []) [] [] (.l1 (fun x8 => .d [(5, cI x8)] []) [0,3] [0] .z) .z)))

def Z2t (l161 : List Int) : Option (List Int) := some l161
def Z2u (x82 : Int) (l160 : List Int) : Option ((List Int × Int) ⊕ ((List Int))) := some (.inl (l160, (IntKind.i64.wrap (x82 + 1))))
def Z2v (x122 : Int) (l159 : List Int) : Option ((List Int × Int) ⊕ ((List Int))) := some (.inl (l159, (IntKind.i64.wrap (x122 + 1))))
def Z2w (l121 : List Int) (x122 : Int) (x156 : Int) (x157 : Bool) : Option ((List Int × Int) ⊕ ((List Int))) := cond x157 (Z2v x122 (List.set l121 (Int.toNat x122) (IntKind.i64.wrap (x156 + 1)))) (Z2v x122 l121)
def Z2x (x141 : Int) (x154 : Int) (x155 : Bool) : Option ((Int × Bool × Int) ⊕ ((Int × Bool))) := some (.inl (x154, x155, (IntKind.i64.wrap (x141 + 1))))
def Z2y (x139 : Int) (x141 : Int) (e149 : Int) (x152 : Bool) : Option ((Int × Bool × Int) ⊕ ((Int × Bool))) := cond (decide (e149 > x139)) (Z2x x141 e149 x152) (Z2x x141 x139 x152)
def Z2z (p0 : List Y9t) (l121 : List Int) (x122 : Int) (x139 : Int) (x140 : Bool) (x141 : Int) : Option ((Int × Bool × Int) ⊕ ((Int × Bool))) := (getI p0 x122).bind fun e142 => cond (decide (x141 < (e142.prev.length : Int))) ((getI e142.prev x141).bind fun e145 => (Z2n p0 e145).bind fun r147 => (getI l121 r147).bind fun e149 => cond x140 (Z2y x139 x141 e149 (decide (e149 > 0))) (Z2y x139 x141 e149 false)) (some (.inr (x139, x140)))
def Z30 (p0 : List Y9t) (l121 : List Int) (x122 : Int) : Option ((List Int × Int) ⊕ ((List Int))) := cond (decide (x122 < (p0.length : Int))) ((getI l121 x122).bind fun e124 => cond (decide (e124 > 0)) (Z2v x122 l121) ((iter (fun z163 => Z2z p0 l121 x122 z163.1 z163.2.1 z163.2.2) big (0, true, 0)).bind fun (y164, y165) => Z2w l121 x122 y164 y165)) (some (.inr l121))
def Z31 (p0 : List Y9t) (l81 : List Int) (x82 : Int) : Option ((List Int × Int) ⊕ ((List Int))) := cond (decide (x82 < (p0.length : Int))) ((iter (fun z166 => Z30 p0 z166.1 z166.2) big (l81, 0)).bind fun y167 => Z2u x82 y167) (some (.inr l81))
def Z32 (p0 : List Y9t) : Option (List Int) := (chk (decide (0 ≤ (p0.length : Int) ∧ (p0.length : Int) * 8 ≤ 140737488355328))).bind fun u2 => (iter (fun z168 => Z31 p0 z168.1 z168.2) big ((List.replicate (Int.toNat (p0.length : Int)) 0), 0)).bind fun y169 => Z2t y169
instance Z33 (p0 : List Y9t) : SpO Tryz.prog 105 (Z32 p0) (.d [cM Ya6 9 p0] [] fun r => .x fun (v162 : Value) => .d (cV v162) [oA v162 2 kI64 1 r]) := ⟨so Tryz.func105 rfl rfl fun r X h => gh (.q 2 (.a 0 fun w0 => .c1 (fun l161 => .d [] [oA w0 2 kI64 1 l161]) [3] [] (.A 0 fun w0 => .l2 (fun l81 x82 => .d [(4, cI x82)] [oA w0 2 kI64 1 l81]) [0,3] [] (.b (.a 0 fun w0 => .c1 (fun l160 => .d [] [oA w0 2 kI64 1 l160]) [0,3,4] [] (.A 0 fun w0 => .l2 (fun l121 x122 => .d [(5, cI x122)] [oA w0 2 kI64 1 l121]) [0,3,4] [] (.b (.a 0 fun w0 => .c1 (fun l159 => .d [] [oA w0 2 kI64 1 l159]) [0,3,4,5] [] (.b .z (.q 2 (.c2 (fun x156 x157 => .d [(6, cI x156), (7, C.bool x157)] []) [0,3,4,5] [0] (.l3 (fun x139 x140 x141 => .d [(6, cI x139), (7, C.bool x140), (8, cI x141)] []) [0,3,4,5] [0] (.b (.c2 (fun x154 x155 => .d [(6, cI x154), (7, C.bool x155)] []) [0,3,4,5,8] [0] (.q 1 (.c1 (fun x152 => .d [(7, C.bool x152)] []) [0,3,4,5,6,8,9] [0] .z .z)) .z) .z)) .z))) .z) .z)) .z) .z)) .z))⟩
instance Z33' (p0 : List Y9t) : Sp Tryz.prog 105 [cM Ya6 9 p0] (Z32 p0) (fun r => cM kI64 1 r) := ⟨fun r h => Ok.freeze ((Z33 p0).h r h) (by rintro c qs ⟨v162, rfl, rfl⟩; exact Frz.arr)⟩

def Z34 : Option Bool := some true
def Z35 (r46 : List Int) (x52 : Int) : Option (Int ⊕ (Bool ⊕ Unit)) := cond (decide (x52 < (r46.length : Int))) ((getI r46 x52).bind fun e54 => cond (e54 == 0) (some (.inr (.inl false))) (some (.inl (IntKind.i64.wrap (x52 + 1))))) (some (.inr (.inr ())))
def Z36 (p0 : Y9y) : Option Bool := (Z32 p0.events).bind fun r46 => (iter (Z35 r46) big 0).bind (fun z58 => match z58 with | .inl y57 => some y57 | .inr () => Z34)
def Z37 (p0 : Y9y) (x39 : Int) : Option (Int ⊕ (Bool ⊕ Unit)) := cond (decide (x39 < (p0.parked.length : Int))) ((getI p0.parked x39).bind fun e41 => (Z2r p0.events e41).bind fun r43 => cond r43 (some (.inr (.inl false))) (some (.inl (IntKind.i64.wrap (x39 + 1))))) (some (.inr (.inr ())))
def Z38 (p0 : Y9y) : Option Bool := (iter (Z37 p0) big 0).bind (fun z60 => match z60 with | .inl y59 => some y59 | .inr () => Z36 p0)
def Z39 (x22 : Int) (x31 : Bool) : Option (Int ⊕ (Bool ⊕ Unit)) := cond x31 (some (.inr (.inl false))) (some (.inl (IntKind.i64.wrap (x22 + 1))))
def Z3a (p0 : Y9y) (x22 : Int) : Option (Int ⊕ (Bool ⊕ Unit)) := cond (decide (x22 < (p0.events.length : Int))) ((getI p0.events x22).bind fun e24 => (Z2r p0.events e24).bind fun r26 => cond r26 ((Z2n p0.parked e24.id).bind fun r29 => Z39 x22 (decide (r29 ≥ 0))) (Z39 x22 true)) (some (.inr (.inr ())))
def Z3b (p0 : Y9y) (x10 : Bool) : Option Bool := cond x10 (some false) ((iter (Z3a p0) big 0).bind (fun z62 => match z62 with | .inl y61 => some y61 | .inr () => Z38 p0))
def Z3c (p0 : Y9y) : Option Bool := (Z1q p0.room 1 3).bind fun r2 => cond r2 ((Z2j p0.events p0.room 60).bind fun r5 => cond r5 ((Z2j p0.parked p0.room 20).bind fun r8 => Z3b p0 (!r8)) (Z3b p0 true)) (Z3b p0 true)
instance Z3d (p0 : Y9y) : Sp Tryz.prog 70 [C.agg [cI p0.room, cM Ya6 9 p0.events, cM Ya6 9 p0.parked]] (Z3c p0) (fun r => C.bool r) := Sp.of (so Tryz.func70 rfl rfl fun r X h => gh (.q 2 (.c1 (fun x10 => .d [(26, C.bool x10)] []) [1] [0] .z (.b .z (.c0 (.d [] []) [1] [0] (.l1 (fun x22 => .d [(3, cI x22)] []) [1] [0] (.b (.q 1 (.c1 (fun x31 => .d [(54, C.bool x31)] []) [1,3] [0] (.r [0] [1,3,6,11,13,17] [] [0,5,8,13,16,20,25,30,32,36,40,45,48,53,56,60,64,69,74,76,80] .z) .z)) .z)) (.c0 (.d [] []) [1] [0] (.l1 (fun x39 => .d [(4, cI x39)] []) [1] [0] (.b (.r [0] [1,3,6] [] [0,5,8,13,16,20,25,30] .z) .z)) (.q 1 (.c0 (.d [] []) [] [] (.l1 (fun x52 => .d [(6, cI x52)] []) [5] [] .z) .z))))))))

def Z3e (l69 : List Int) : Option (List Int) := some l69
def Z3f (x37 : Int) (l67 : List Int) : Option ((List Int × Int) ⊕ ((List Int))) := some (.inl (l67, (IntKind.i64.wrap (x37 + 1))))
def Z3g (x53 : Int) (l65 : List Int) : Option ((List Int × Int) ⊕ ((List Int))) := some (.inl (l65, (IntKind.i64.wrap (x53 + 1))))
def Z3h (p0 : Y9y) (r2 : List Int) (x37 : Int) (l52 : List Int) (x53 : Int) : Option ((List Int × Int) ⊕ ((List Int))) := cond (decide (x53 < (p0.events.length : Int))) ((getI r2 x53).bind fun e55 => cond (e55 == x37) ((getI p0.events x53).bind fun e58 => (chk (decide ((l52.length + [e58.id].length) * 8 ≤ 140737488355328))).bind fun u62 => Z3g x53 (l52 ++ [e58.id])) (Z3g x53 l52)) (some (.inr l52))
def Z3i (p0 : Y9y) (r2 : List Int) (l36 : List Int) (x37 : Int) : Option ((List Int × Int) ⊕ ((List Int))) := cond (decide ((l36.length : Int) < (p0.events.length : Int))) ((iter (fun z71 => Z3h p0 r2 x37 z71.1 z71.2) big (l36, 0)).bind fun y72 => Z3f x37 y72) (some (.inr l36))
def Z3j (p0 : Y9y) : Option (List Int) := (Z32 p0.events).bind fun r2 => (iter (fun z73 => Z3i p0 r2 z73.1 z73.2) big (([] : List Int), 1)).bind fun y74 => Z3e y74
instance Z3k (p0 : Y9y) : SpO Tryz.prog 137 (Z3j p0) (.d [C.agg [cI p0.room, cM Ya6 9 p0.events, cM Ya6 9 p0.parked]] [] fun r => .x fun (v70 : Value) => .d (cV v70) [oA v70 2 kI64 1 r]) := ⟨so Tryz.func137 rfl rfl fun r X h => gh (.q 3 (.c1 (fun l69 => .x fun v68 => .d [(4, cV v68)] [oA v68 2 kI64 1 l69]) [] [] (.l2 (fun l36 x37 => .x fun v35 => .d [(4, cV v35), (5, cI x37)] [oA v35 2 kI64 1 l36]) [1,3] [1] (.b (.c1 (fun l67 => .x fun v66 => .d [(4, cV v66)] [oA v66 2 kI64 1 l67]) [1,3,5] [1] (.l2 (fun l52 x53 => .x fun v51 => .d [(4, cV v51), (6, cI x53)] [oA v51 2 kI64 1 l52]) [1,3,5] [1] (.b (.c1 (fun l65 => .x fun v64 => .d [(4, cV v64)] [oA v64 2 kI64 1 l65]) [1,3,5,6] [1] .z .z) .z)) .z) .z)) .z))⟩
instance Z3k' (p0 : Y9y) : Sp Tryz.prog 137 [C.agg [cI p0.room, cM Ya6 9 p0.events, cM Ya6 9 p0.parked]] (Z3j p0) (fun r => cM kI64 1 r) := ⟨fun r h => Ok.freeze ((Z3k p0).h r h) (by rintro c qs ⟨v70, rfl, rfl⟩; exact Frz.arr)⟩

def Z3l : Option Int := some 0
def Z3m (p0 : List Ya0) (x9 : Int) (x14 : Bool) : Option (Int ⊕ (Int ⊕ Unit)) := cond x14 ((getI p0 x9).bind fun e16 => some (.inr (.inl e16.id))) (some (.inl (IntKind.i64.wrap (x9 + 1))))
def Z3n (p0 : List Ya0) (p1 : Int) (p2 : Int) (x9 : Int) : Option (Int ⊕ (Int ⊕ Unit)) := cond (decide (x9 < (p0.length : Int))) ((getI p0 x9).bind fun e11 => cond (e11.kind == p1) (Z3m p0 x9 (e11.key == p2)) (Z3m p0 x9 false)) (some (.inr (.inr ())))
def Z3o (p0 : List Ya0) (p1 : Int) (p2 : Int) : Option Int := (iter (Z3n p0 p1 p2) big 0).bind (fun z19 => match z19 with | .inl y18 => some y18 | .inr () => Z3l)
instance Z3p (p0 : List Ya0) (p1 : Int) (p2 : Int) : Sp Tryz.prog 178 [cM Yaf 3 p0, cI p1, cI p2] (Z3o p0 p1 p2) (fun r => cI r) := Sp.of (so Tryz.func178 rfl rfl fun r X h => gh (.q 1 (.c0 (.d [] []) [] [] (.l1 (fun x9 => .d [(7, cI x9)] []) [0,1,2] [] (.b (.q 1 (.c1 (fun x14 => .d [(29, C.bool x14)] []) [0,1,2,7] [] .z .z)) .z)) .z)))

def Z3q : Option Bool := some true
def Z3r (p0 : List (List Ya0)) (p1 : Ya0) (x8 : Int) : Option (Int ⊕ (Bool ⊕ Unit)) := cond (decide (x8 < (p0.length : Int))) ((getI p0 x8).bind fun e10 => (Z3o e10 p1.kind p1.key).bind fun r12 => cond (r12 != p1.id) (some (.inr (.inl false))) (some (.inl (IntKind.i64.wrap (x8 + 1))))) (some (.inr (.inr ())))
def Z3s (p0 : List (List Ya0)) (p1 : Ya0) : Option Bool := (iter (Z3r p0 p1) big 0).bind (fun z16 => match z16 with | .inl y15 => some y15 | .inr () => Z3q)
instance Z3t (p0 : List (List Ya0)) (p1 : Ya0) : Sp Tryz.prog 175 [cM Yag 1 p0, C.agg [cI p1.kind, cI p1.key, cI p1.id]] (Z3s p0 p1) (fun r => C.bool r) := Sp.of (so Tryz.func175 rfl rfl fun r X h => gh (.q 1 (.c0 (.d [] []) [] [] (.l1 (fun x8 => .d [(5, cI x8)] []) [0,3] [0] (.b (.r [0] [3,5,7,10] [] [0,4,8,13,16,21,24,29,36,41,34,44] .z) .z)) .z)))

def Z3u (l35 : List Ya0) : Option (List Ya0) := some l35
def Z3v (x19 : Int) (l33 : List Ya0) : Option ((List Ya0 × Int) ⊕ ((List Ya0))) := some (.inl (l33, (IntKind.i64.wrap (x19 + 1))))
def Z3w (p0 : List Ya0) (l18 : List Ya0) (x19 : Int) (x24 : Bool) : Option ((List Ya0 × Int) ⊕ ((List Ya0))) := cond x24 ((getI p0 x19).bind fun e26 => (chk (decide ((l18.length + [e26].length) * 24 ≤ 140737488355328))).bind fun u30 => Z3v x19 (l18 ++ [e26])) (Z3v x19 l18)
def Z3x (p0 : List Ya0) (p1 : Ya0) (l18 : List Ya0) (x19 : Int) : Option ((List Ya0 × Int) ⊕ ((List Ya0))) := cond (decide (x19 < (p0.length : Int))) ((getI p0 x19).bind fun e21 => cond (e21.kind != p1.kind) (Z3w p0 l18 x19 true) (Z3w p0 l18 x19 (e21.key != p1.key))) (some (.inr l18))
def Z3y (p0 : List Ya0) (p1 : Ya0) : Option (List Ya0) := (iter (fun z37 => Z3x p0 p1 z37.1 z37.2) big (([] : List Ya0), 0)).bind fun y38 => Z3u y38
instance Z3z (p0 : List Ya0) (p1 : Ya0) : SpO Tryz.prog 184 (Z3y p0 p1) (.d [cM Yaf 3 p0, C.agg [cI p1.kind, cI p1.key, cI p1.id]] [] fun r => .x fun (v36 : Value) => .d (cV v36) [oA v36 194 Yaf 3 r]) := ⟨so Tryz.func184 rfl rfl fun r X h => gh (.q 2 (.c1 (fun l35 => .x fun v34 => .d [(5, cV v34)] [oA v34 194 Yaf 3 l35]) [] [] (.l2 (fun l18 x19 => .x fun v17 => .d [(5, cV v17), (6, cI x19)] [oA v17 194 Yaf 3 l18]) [0,3] [1] (.b (.c1 (fun l33 => .x fun v32 => .d [(5, cV v32)] [oA v32 194 Yaf 3 l33]) [0,3,6] [1] (.c1 (fun x24 => .d [(31, C.bool x24)] []) [0,3,5,6] [1,0] (.r [0,0] [4,6,13,15] [] [0,4,8,12,17,20,25,28,32,36,40,44,48,53,56,61,64,68] .z) .z) .z) .z)) .z))⟩
instance Z3z' (p0 : List Ya0) (p1 : Ya0) : Sp Tryz.prog 184 [cM Yaf 3 p0, C.agg [cI p1.kind, cI p1.key, cI p1.id]] (Z3y p0 p1) (fun r => cM Yaf 3 r) := ⟨fun r h => Ok.freeze ((Z3z p0 p1).h r h) (by rintro c qs ⟨v36, rfl, rfl⟩; exact Frz.arr)⟩

def Z40 (x5 : Bool) : Option Bool := some x5
def Z41 (p0 : Ya0) (p1 : Ya0) : Option Bool := cond (decide (p0.kind < p1.kind)) (Z40 true) (cond (p0.kind == p1.kind) (Z40 (decide (p0.key < p1.key))) (Z40 false))
instance Z42 (p0 : Ya0) (p1 : Ya0) : Sp Tryz.prog 185 [C.agg [cI p0.kind, cI p0.key, cI p0.id], C.agg [cI p1.kind, cI p1.key, cI p1.id]] (Z41 p0 p1) (fun r => C.bool r) := Sp.of (so Tryz.func185 rfl rfl fun r X h => gh (.q 1 (.c1 (fun x5 => .d [(4, C.bool x5)] []) [] [] .z .z)))

def Z43 (p1 : Ya0) (r2 : List Ya0) (x19 : Int) : Option (List Ya0) := (Y2d r2 0 x19).bind fun s21 => (chk (decide ((([] : List Ya0).length + s21.length) * 24 ≤ 140737488355328))).bind fun u24 => (chk (decide (((([] : List Ya0) ++ s21).length + [p1].length) * 24 ≤ 140737488355328))).bind fun u28 => (Y2d r2 x19 (r2.length : Int)).bind fun s30 => (chk (decide ((((([] : List Ya0) ++ s21) ++ [p1]).length + s30.length) * 24 ≤ 140737488355328))).bind fun u33 => some (((([] : List Ya0) ++ s21) ++ [p1]) ++ s30)
def Z44 (x11 : Int) (x17 : Bool) : Option (Int ⊕ (Int)) := cond x17 (some (.inl (IntKind.i64.wrap (x11 + 1)))) (some (.inr x11))
def Z45 (p1 : Ya0) (r2 : List Ya0) (x11 : Int) : Option (Int ⊕ (Int)) := cond (decide (x11 < (r2.length : Int))) ((getI r2 x11).bind fun e13 => (Z41 e13 p1).bind fun r15 => Z44 x11 r15) (Z44 x11 false)
def Z46 (p0 : List Ya0) (p1 : Ya0) : Option (List Ya0) := (Z3y p0 p1).bind fun r2 => (iter (Z45 p1 r2) big 0).bind fun y36 => Z43 p1 r2 y36
instance Z47 (p0 : List Ya0) (p1 : Ya0) : SpO Tryz.prog 141 (Z46 p0 p1) (.d [cM Yaf 3 p0, C.agg [cI p1.kind, cI p1.key, cI p1.id]] [] fun r => .x fun (v35 : Value) => .d (cV v35) [oA v35 194 Yaf 3 r]) := ⟨so Tryz.func141 rfl rfl fun r X h => gh (.q 3 (.c1 (fun x19 => .d [(6, cI x19)] []) [3,5] [0] (.l1 (fun x11 => .d [(6, cI x11)] []) [3,5] [0] (.q 1 (.c1 (fun x17 => .d [(22, C.bool x17)] []) [3,5,6] [0] (.r [0] [8,9] [] [0,4,8,12,16,20,24,28,33,37,42,44] .z) .z))) .z))⟩
instance Z47' (p0 : List Ya0) (p1 : Ya0) : Sp Tryz.prog 141 [cM Yaf 3 p0, C.agg [cI p1.kind, cI p1.key, cI p1.id]] (Z46 p0 p1) (fun r => cM Yaf 3 r) := ⟨fun r h => Ok.freeze ((Z47 p0 p1).h r h) (by rintro c qs ⟨v35, rfl, rfl⟩; exact Frz.arr)⟩

def Z48 (p0 : List Int) (p1 : Int) (x12 : Int) (x16 : Bool) : Option (List Int) := cond x16 (some p0) ((Y2d p0 0 x12).bind fun s19 => (chk (decide ((([] : List Int).length + s19.length) * 8 ≤ 140737488355328))).bind fun u22 => (chk (decide (((([] : List Int) ++ s19).length + [p1].length) * 8 ≤ 140737488355328))).bind fun u26 => (Y2d p0 x12 (p0.length : Int)).bind fun s28 => (chk (decide ((((([] : List Int) ++ s19) ++ [p1]).length + s28.length) * 8 ≤ 140737488355328))).bind fun u31 => some (((([] : List Int) ++ s19) ++ [p1]) ++ s28))
def Z49 (p0 : List Int) (p1 : Int) (x12 : Int) : Option (List Int) := cond (decide (x12 < (p0.length : Int))) ((getI p0 x12).bind fun e14 => Z48 p0 p1 x12 (e14 == p1)) (Z48 p0 p1 x12 false)
def Z4a (x6 : Int) (x10 : Bool) : Option (Int ⊕ (Int)) := cond x10 (some (.inl (IntKind.i64.wrap (x6 + 1)))) (some (.inr x6))
def Z4b (p0 : List Int) (p1 : Int) (x6 : Int) : Option (Int ⊕ (Int)) := cond (decide (x6 < (p0.length : Int))) ((getI p0 x6).bind fun e8 => Z4a x6 (decide (e8 < p1))) (Z4a x6 false)
def Z4c (p0 : List Int) (p1 : Int) : Option (List Int) := (iter (Z4b p0 p1) big 0).bind fun y33 => Z49 p0 p1 y33
instance Z4d (p0 : List Int) (p1 : Int) : Sp Tryz.prog 176 [cM kI64 1 p0, cI p1] (Z4c p0 p1) (fun r => cM kI64 1 r) := Sp.of (so Tryz.func176 rfl rfl fun r X h => gh (.q 2 (.c1 (fun x12 => .d [(5, cI x12)] []) [0,1] [] (.l1 (fun x6 => .d [(5, cI x6)] []) [0,1] [] (.q 1 (.c1 (fun x10 => .d [(18, C.bool x10)] []) [0,1,5] [] .z .z))) (.q 1 (.c1 (fun x16 => .d [(32, C.bool x16)] []) [0,1,5] [] .z .z)))))

def Z4e (x6 : Bool) : Option Bool := some x6
def Z4f (p0 : Y9t) : Option Bool := cond (p0.kind == 1) (Z4e true) (cond (p0.kind == 3) (Z4e true) (cond (p0.kind == 5) (Z4e true) (cond (p0.kind == 2) (Z4e (p0.key != p0.author)) (Z4e false))))
instance Z4g (p0 : Y9t) : Sp Tryz.prog 213 [C.agg [cI p0.id, cI p0.room, cI p0.author, cI p0.kind, cI p0.key, cI p0.n, C.str p0.text, cM kI64 1 p0.prev, cI p0.time]] (Z4f p0) (fun r => C.bool r) := Sp.of (so Tryz.func213 rfl rfl fun r X h => gh (.q 1 (.c1 (fun x6 => .d [(2, C.bool x6)] []) [] [] .z .z)))

end Go.Proofs.YtnoknphekhclcaaGreatDoor
