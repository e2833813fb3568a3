/- Printed by gen.py: plain functions for Go functions, and that the walks keep to them. -/
import Derived.Test.YtmaefakalikkiaaGreatABG
import Derived.Test.YtmaefakalikkiaaGreatASorts
import Derived.Test.YtmaefakalikkiaaGreatAX
import Derived.Test.YtmaefakalikkiaaGreatAL
import Derived.Test.YtmaefakalikkiaaGreatChecked
set_option autoImplicit false
set_option linter.unusedVariables false
set_option linter.unusedSimpArgs false
set_option maxHeartbeats 8000000
set_option maxRecDepth 100000
namespace Go.Proofs.YtmaefakalikkiaaGreat
open Go Go.Abs
attribute [local irreducible] AW Ops OpsD Y3z VoK HoK GhF UsC Go.Abs.Fin PkK LenT LenL Y9k BldK FzK FzLK
structure Y9r where
  id : Int
  room : Int
  author : Int
  kind : Int
  key : Int
  n : Int
  text : ByteArray
  prev : List Int
  time : Int
structure Y9s where
  room : Int
  events : List Y9r
  parked : List Y9r
structure Y9t where
  room : Int
  id : Int
structure THub where
  rooms : List Y9s
  stream : List Y9t
structure Y9u where
  kind : Int
  from_ : Int
  to_ : Int
  room : Int
  text : ByteArray
structure Y9v where
  hubs : List THub
  letters : List Y9u
structure Y9w where
  room : Int
  events : List Y9r
  parked : List Y9r
structure Y9x where
  rooms : List Y9w
  stream : List Y9t
structure Y9y where
  hubs : List Y9x
  letters : List Y9u
structure Y9z where
  kind : Int
  key : Int
  id : Int
structure Ya0 where
  depths : List Int
  ahead : List (List Y9z)
  behind : List (List Y9z)
  code : List Int
structure Ya1 where
  h : Y9x
  rooms : List Ya0
  pos : List (List Int)
  now : List (List Y9z)
structure Ya2 where
  peers : Y9y
  id : Int
  code : Int
structure Ya3 where
  graph : Y9w
  depth : List (Int × Int)
  before : List (Int × List Y9z)
  after : List (Int × List Y9z)
  refused : List (Int × Int)
structure Ya4 where
  hub : Y9x
  rooms : List Ya3
structure TNet where
  servers : List Ya4
  letters : List Y9u
def kI64 (x : Int) : List C := [cI x]
def Ya5 (x : Y9r) : List C := [cI x.id, cI x.room, cI x.author, cI x.kind, cI x.key, cI x.n, C.str x.text, cM kI64 1 x.prev, cI x.time]
def Ya6 (x : Y9s) : List C := [cI x.room, cM Ya5 9 x.events, cM Ya5 9 x.parked]
def Ya7 (x : Y9t) : List C := [cI x.room, cI x.id]
def kHub (x : THub) : List C := [cM Ya6 3 x.rooms, cM Ya7 2 x.stream]
def Ya8 (x : Y9u) : List C := [cI x.kind, cI x.from_, cI x.to_, cI x.room, C.str x.text]
def Ya9 (x : Y9r) (u : Value) : List C := [cI x.id, cI x.room, cI x.author, cI x.kind, cI x.key, cI x.n, C.str x.text, cV u, cI x.time]
def Yaa (x : Y9r) (u : Value) : List Abs.Obj := [oA u 2 kI64 1 x.prev]
def Yab (x : Y9w) : List C := [cI x.room, cM Ya5 9 x.events, cM Ya5 9 x.parked]
def Yac (x : Y9w) (u : Value × Value) : List C := [cI x.room, cV u.1, cV u.2]
def Yad (x : Y9w) (u : Value × Value) : List Abs.Obj := [Obj.deep u.1 42 Ya9 Yaa 9 x.events, Obj.deep u.2 42 Ya9 Yaa 9 x.parked]
def Yae (x : Y9x) : List C := [cM Yab 3 x.rooms, cM Ya7 2 x.stream]
def Yaf (x : Y9x) (u : Value × Value) : List C := [cV u.1, cV u.2]
def Yag (x : Y9x) (u : Value × Value) : List Abs.Obj := [Obj.deep u.1 25 Yac Yad 3 x.rooms, oA u.2 187 Ya7 2 x.stream]
def Yah (x : Y9z) : List C := [cI x.kind, cI x.key, cI x.id]
def Yai (x : List Y9z) : List C := [cM Yah 3 x]
def Yaj (x : Bool) : List C := [C.bool x]
def Yak (x : Ya0) : List C := [cM kI64 1 x.depths, cM Yai 1 x.ahead, cM Yai 1 x.behind, cM kI64 1 x.code]
def Yal (x : Ya0) : List C := [C.ip [cM kI64 1 x.depths, cM Yai 1 x.ahead, cM Yai 1 x.behind, cM kI64 1 x.code]]
def Yam (x : List Int) : List C := [cM kI64 1 x]
abbrev Yan (x : Int) : C := cI x
abbrev Yao (x : List Y9z) : C := cM Yah 3 x
abbrev Yap (x : Bool) : C := C.bool x
def Yaq (x : Ya3) : List C := [cI x.graph.room, cM Ya5 9 x.graph.events, cM Ya5 9 x.graph.parked, C.imap .i64 Yan x.depth, C.imap .i64 Yao x.before, C.imap .i64 Yao x.after, C.imap .i64 Yan x.refused]
def Yar (x : Ya3) : List C := [C.ip [cI x.graph.room, cM Ya5 9 x.graph.events, cM Ya5 9 x.graph.parked, C.imap .i64 Yan x.depth, C.imap .i64 Yao x.before, C.imap .i64 Yao x.after, C.imap .i64 Yan x.refused]]
def Yas (x : Ya4) : List C := [cM Yab 3 x.hub.rooms, cM Ya7 2 x.hub.stream, cM Yar 1 x.rooms]
def Yat (x : Ya4) : List C := [C.ip [cM Yab 3 x.hub.rooms, cM Ya7 2 x.hub.stream, cM Yar 1 x.rooms]]
def kU8 (x : Int) : List C := [cV (.int .u8 x)]
def Yau (x : Y9y) : List C := [cM Yae 2 x.hubs, cM Ya8 5 x.letters]
def Yav (x : Ya1) : List C := [cM Yab 3 x.h.rooms, cM Ya7 2 x.h.stream, cM Yal 1 x.rooms, cM Yam 1 x.pos, cM Yai 1 x.now]
def Yaw (x : Ya2) : List C := [cM Yae 2 x.peers.hubs, cM Ya8 5 x.peers.letters, cI x.id, cI x.code]
def kNet (x : TNet) : List C := [cM Yat 1 x.servers, cM Ya8 5 x.letters]
def Yax (x : TNet) : List C := [C.ip [cM Yat 1 x.servers, cM Ya8 5 x.letters]]
def Yay (x : Y9v) : List C := [cM kHub 2 x.hubs, cM Ya8 5 x.letters]
instance Yaz : SlI Tryz.prog 39 2 1 8 := ⟨by kernel_rfl⟩
instance Yb0 : FldI Tryz.prog 372 6 6 := ⟨by kernel_rfl⟩
instance ld_9 : LdI Tryz.prog 9 false 1 := ⟨by kernel_rfl⟩
theorem un_9 : Tryz.prog.underlying 9 = some .string := by kernel_rfl
instance : UnI Tryz.prog 9 .string := ⟨un_9⟩
instance Yb1 : FldI Tryz.prog 372 7 7 := ⟨by kernel_rfl⟩
instance Yb2 : LdI Tryz.prog 39 false 1 := ⟨by kernel_rfl⟩
instance Yb3 : SlI Tryz.prog 295 372 9 96 := ⟨by kernel_rfl⟩
instance Yb4 : LdI Tryz.prog 372 true 9 := ⟨by kernel_rfl⟩
instance Yb5 : FldI Tryz.prog 297 1 1 := ⟨by kernel_rfl⟩
instance Yb6 : LdI Tryz.prog 295 false 1 := ⟨by kernel_rfl⟩
instance Yb7 : FldI Tryz.prog 297 2 2 := ⟨by kernel_rfl⟩
instance Yb8 : SlI Tryz.prog 74 297 3 56 := ⟨by kernel_rfl⟩
instance Yb9 : LdI Tryz.prog 297 true 3 := ⟨by kernel_rfl⟩
instance Yba : SlI Tryz.prog 75 303 2 16 := ⟨by kernel_rfl⟩
instance Ybb : FldI Tryz.prog 77 0 0 := ⟨by kernel_rfl⟩
instance Ybc : LdI Tryz.prog 74 false 1 := ⟨by kernel_rfl⟩
instance Ybd : FldI Tryz.prog 77 1 1 := ⟨by kernel_rfl⟩
instance Ybe : LdI Tryz.prog 75 false 1 := ⟨by kernel_rfl⟩
instance Ybf : SlI Tryz.prog 56 77 2 48 := ⟨by kernel_rfl⟩
instance Ybg : LdI Tryz.prog 77 true 2 := ⟨by kernel_rfl⟩
instance Ybh : FldI Tryz.prog 282 4 4 := ⟨by kernel_rfl⟩
instance Ybi : SlI Tryz.prog 57 282 5 48 := ⟨by kernel_rfl⟩
instance Ybj : LdI Tryz.prog 282 true 5 := ⟨by kernel_rfl⟩
instance Ybk : FldI Tryz.prog 59 0 0 := ⟨by kernel_rfl⟩
instance Ybl : LdI Tryz.prog 56 false 1 := ⟨by kernel_rfl⟩
instance Ybm : FldI Tryz.prog 59 1 1 := ⟨by kernel_rfl⟩
instance Ybn : LdI Tryz.prog 57 false 1 := ⟨by kernel_rfl⟩
theorem Ybo : Y30 Tryz.prog 39 = some (2, 1, 8) := by kernel_rfl
theorem ze_2 : Y1c Tryz.prog 2 = some [.int .i64 0] := by kernel_rfl
instance : AlI Tryz.prog 2 [.int .i64 0] [cV (.int .i64 0)] := ⟨ze_2, Y4e rfl rfl⟩
instance ld_2 : LdI Tryz.prog 2 false 1 := ⟨by kernel_rfl⟩
theorem Ybp : Y1c Tryz.prog 42 = some [.int .i64 0, .int .i64 0, .int .i64 0, .int .i64 0, .int .i64 0, .int .i64 0, .string ByteArray.empty, .slice none 0 0, .int .i64 0] := by kernel_rfl
instance : AlI Tryz.prog 42 [.int .i64 0, .int .i64 0, .int .i64 0, .int .i64 0, .int .i64 0, .int .i64 0, .string ByteArray.empty, .slice none 0 0, .int .i64 0] [cV (.int .i64 0), cV (.int .i64 0), cV (.int .i64 0), cV (.int .i64 0), cV (.int .i64 0), cV (.int .i64 0), cV (.string ByteArray.empty), cV s0, cV (.int .i64 0)] := ⟨Ybp, Y4e rfl rfl⟩
instance Ybq : FldI Tryz.prog 372 0 0 := ⟨by kernel_rfl⟩
instance Ybr : FldI Tryz.prog 42 0 0 := ⟨by kernel_rfl⟩
instance Ybs : FldI Tryz.prog 372 1 1 := ⟨by kernel_rfl⟩
instance Ybt : FldI Tryz.prog 42 1 1 := ⟨by kernel_rfl⟩
instance Ybu : FldI Tryz.prog 372 2 2 := ⟨by kernel_rfl⟩
instance Ybv : FldI Tryz.prog 42 2 2 := ⟨by kernel_rfl⟩
instance Ybw : FldI Tryz.prog 372 3 3 := ⟨by kernel_rfl⟩
instance Ybx : FldI Tryz.prog 42 3 3 := ⟨by kernel_rfl⟩
instance Yby : FldI Tryz.prog 372 4 4 := ⟨by kernel_rfl⟩
instance Ybz : FldI Tryz.prog 42 4 4 := ⟨by kernel_rfl⟩
instance Yc0 : FldI Tryz.prog 372 5 5 := ⟨by kernel_rfl⟩
instance Yc1 : FldI Tryz.prog 42 5 5 := ⟨by kernel_rfl⟩
instance Yc2 : FldI Tryz.prog 42 6 6 := ⟨by kernel_rfl⟩
instance Yc3 : FldI Tryz.prog 42 7 7 := ⟨by kernel_rfl⟩
instance Yc4 : FldI Tryz.prog 372 8 8 := ⟨by kernel_rfl⟩
instance Yc5 : FldI Tryz.prog 42 8 8 := ⟨by kernel_rfl⟩
instance Yc6 : LdI Tryz.prog 42 true 9 := ⟨by kernel_rfl⟩
theorem Yc7 : Y30 Tryz.prog 23 = some (42, 9, 96) := by kernel_rfl
theorem Yc8 : ∀ x, Y4h (kI64 x) := fun x => (Y4h.cons (Y4g.val _) (Y4h.nil) : Y4h [cI x])
theorem Yc9 : ∀ x u, FrzL (Ya9 x u) (Yaa x u) (Ya5 x) := fun _ _ => (fS (fS (fS (fS (fS (fS (fS (FrzL.cons (os := [_]) Frz.arr (fS FrzL.nil)))))))))
theorem Yca : ∀ x u, Y4h (Ya9 x u) := fun _ _ => (Y4h.cons (Y4g.val _) (Y4h.cons (Y4g.val _) (Y4h.cons (Y4g.val _) (Y4h.cons (Y4g.val _) (Y4h.cons (Y4g.val _) (Y4h.cons (Y4g.val _) (Y4h.cons (Y4g.val _) (Y4h.cons (Y4g.val _) (Y4h.cons (Y4g.val _) Y4h.nil)))))))))
theorem Ycb : ∀ x u, ∀ o ∈ Yaa x u, Y4i o := fun _ _ => (Y4k (Y4i.arr Yc8) Y4j)
instance Ycc : SlI Tryz.prog 23 42 9 96 := ⟨by kernel_rfl⟩
theorem Ycd : Y1c Tryz.prog 25 = some [.int .i64 0, .slice none 0 0, .slice none 0 0] := by kernel_rfl
instance : AlI Tryz.prog 25 [.int .i64 0, .slice none 0 0, .slice none 0 0] [cV (.int .i64 0), cV s0, cV s0] := ⟨Ycd, Y4e rfl rfl⟩
instance Yce : FldI Tryz.prog 297 0 0 := ⟨by kernel_rfl⟩
instance Ycf : FldI Tryz.prog 25 0 0 := ⟨by kernel_rfl⟩
instance Ycg : FldI Tryz.prog 25 1 1 := ⟨by kernel_rfl⟩
instance Ych : LdI Tryz.prog 23 false 1 := ⟨by kernel_rfl⟩
instance Yci : FldI Tryz.prog 25 2 2 := ⟨by kernel_rfl⟩
instance Ycj : LdI Tryz.prog 25 true 3 := ⟨by kernel_rfl⟩
theorem Yck : Y30 Tryz.prog 81 = some (25, 3, 56) := by kernel_rfl
theorem Ycl : ∀ x u, FrzL (Yac x u) (Yad x u) (Yab x) := fun _ _ => (fS (FrzL.cons (os := [_]) (Frz.deep Yc9) (FrzL.cons (os := [_]) (Frz.deep Yc9) FrzL.nil)))
theorem Ycm : ∀ x u, Y4h (Yac x u) := fun _ _ => (Y4h.cons (Y4g.val _) (Y4h.cons (Y4g.val _) (Y4h.cons (Y4g.val _) Y4h.nil)))
theorem Ycn : ∀ x u, ∀ o ∈ Yad x u, Y4i o := fun _ _ => (Y4k (Y4i.deep Yca Ycb) (Y4k (Y4i.deep Yca Ycb) Y4j))
instance Yco : SlI Tryz.prog 81 25 3 56 := ⟨by kernel_rfl⟩
theorem Ycp : Y1c Tryz.prog 187 = some [.int .i64 0, .int .i64 0] := by kernel_rfl
instance : AlI Tryz.prog 187 [.int .i64 0, .int .i64 0] [cV (.int .i64 0), cV (.int .i64 0)] := ⟨Ycp, Y4e rfl rfl⟩
instance Ycq : FldI Tryz.prog 303 0 0 := ⟨by kernel_rfl⟩
instance Ycr : FldI Tryz.prog 187 0 0 := ⟨by kernel_rfl⟩
instance Ycs : FldI Tryz.prog 303 1 1 := ⟨by kernel_rfl⟩
instance Yct : FldI Tryz.prog 187 1 1 := ⟨by kernel_rfl⟩
instance Ycu : LdI Tryz.prog 187 true 2 := ⟨by kernel_rfl⟩
theorem Ycv : Y30 Tryz.prog 79 = some (187, 2, 16) := by kernel_rfl
instance Ycw : LdI Tryz.prog 303 true 2 := ⟨by kernel_rfl⟩
instance Ycx : SlI Tryz.prog 79 187 2 16 := ⟨by kernel_rfl⟩
theorem Ycy : Y1c Tryz.prog 83 = some [.slice none 0 0, .slice none 0 0] := by kernel_rfl
instance : AlI Tryz.prog 83 [.slice none 0 0, .slice none 0 0] [cV s0, cV s0] := ⟨Ycy, Y4e rfl rfl⟩
instance Ycz : FldI Tryz.prog 83 0 0 := ⟨by kernel_rfl⟩
instance Yd0 : LdI Tryz.prog 81 false 1 := ⟨by kernel_rfl⟩
instance Yd1 : FldI Tryz.prog 83 1 1 := ⟨by kernel_rfl⟩
instance Yd2 : LdI Tryz.prog 79 false 1 := ⟨by kernel_rfl⟩
instance Yd3 : LdI Tryz.prog 83 true 2 := ⟨by kernel_rfl⟩
theorem Yd4 : Y30 Tryz.prog 61 = some (83, 2, 48) := by kernel_rfl
theorem Yd5 : ∀ x, Y4h (Ya7 x) := fun x => (Y4h.cons (Y4g.val _) (Y4h.cons (Y4g.val _) (Y4h.nil)) : Y4h [cI x.room, cI x.id])
theorem Yd6 : ∀ x u, FrzL (Yaf x u) (Yag x u) (Yae x) := fun _ _ => (FrzL.cons (os := [_]) (Frz.deep Ycl) (FrzL.cons (os := [_]) Frz.arr FrzL.nil))
theorem Yd7 : ∀ x u, Y4h (Yaf x u) := fun _ _ => (Y4h.cons (Y4g.val _) (Y4h.cons (Y4g.val _) Y4h.nil))
theorem Yd8 : ∀ x u, ∀ o ∈ Yag x u, Y4i o := fun _ _ => (Y4k (Y4i.deep Ycm Ycn) (Y4k (Y4i.arr Yd5) Y4j))
instance Yd9 : SlI Tryz.prog 61 83 2 48 := ⟨by kernel_rfl⟩
theorem Yda : Y1c Tryz.prog 167 = some [.int .i64 0, .int .i64 0, .int .i64 0, .int .i64 0, .string ByteArray.empty] := by kernel_rfl
instance : AlI Tryz.prog 167 [.int .i64 0, .int .i64 0, .int .i64 0, .int .i64 0, .string ByteArray.empty] [cV (.int .i64 0), cV (.int .i64 0), cV (.int .i64 0), cV (.int .i64 0), cV (.string ByteArray.empty)] := ⟨Yda, Y4e rfl rfl⟩
instance Ydb : FldI Tryz.prog 282 0 0 := ⟨by kernel_rfl⟩
instance Ydc : FldI Tryz.prog 167 0 0 := ⟨by kernel_rfl⟩
instance Ydd : FldI Tryz.prog 282 1 1 := ⟨by kernel_rfl⟩
instance Yde : FldI Tryz.prog 167 1 1 := ⟨by kernel_rfl⟩
instance Ydf : FldI Tryz.prog 282 2 2 := ⟨by kernel_rfl⟩
instance Ydg : FldI Tryz.prog 167 2 2 := ⟨by kernel_rfl⟩
instance Ydh : FldI Tryz.prog 282 3 3 := ⟨by kernel_rfl⟩
instance Ydi : FldI Tryz.prog 167 3 3 := ⟨by kernel_rfl⟩
instance Ydj : FldI Tryz.prog 167 4 4 := ⟨by kernel_rfl⟩
instance Ydk : LdI Tryz.prog 167 true 5 := ⟨by kernel_rfl⟩
theorem Ydl : Y30 Tryz.prog 62 = some (167, 5, 48) := by kernel_rfl
instance Ydm : SlI Tryz.prog 62 167 5 48 := ⟨by kernel_rfl⟩
theorem Ydn : Y1c Tryz.prog 64 = some [.slice none 0 0, .slice none 0 0] := by kernel_rfl
instance : AlI Tryz.prog 64 [.slice none 0 0, .slice none 0 0] [cV s0, cV s0] := ⟨Ydn, Y4e rfl rfl⟩
instance Ydo : FldI Tryz.prog 64 0 0 := ⟨by kernel_rfl⟩
instance Ydp : LdI Tryz.prog 61 false 1 := ⟨by kernel_rfl⟩
instance Ydq : FldI Tryz.prog 64 1 1 := ⟨by kernel_rfl⟩
instance Ydr : LdI Tryz.prog 62 false 1 := ⟨by kernel_rfl⟩
instance Yds : LdI Tryz.prog 64 true 2 := ⟨by kernel_rfl⟩
theorem un_4 : Tryz.prog.underlying 4 = some .bool := by kernel_rfl
instance : UnI Tryz.prog 4 .bool := ⟨un_4⟩
instance Ydt : SlI Tryz.prog 29 136 3 24 := ⟨by kernel_rfl⟩
instance Ydu : FldI Tryz.prog 136 0 0 := ⟨by kernel_rfl⟩
instance Ydv : FldI Tryz.prog 136 1 1 := ⟨by kernel_rfl⟩
instance Ydw : FldI Tryz.prog 136 2 2 := ⟨by kernel_rfl⟩
instance Ydx : SlI Tryz.prog 26 29 1 24 := ⟨by kernel_rfl⟩
instance Ydy : LdI Tryz.prog 29 false 1 := ⟨by kernel_rfl⟩
theorem Ydz : Y30 Tryz.prog 29 = some (136, 3, 24) := by kernel_rfl
instance Ye0 : LdI Tryz.prog 136 true 3 := ⟨by kernel_rfl⟩
theorem Ye1 : places Tryz.prog 42 = some [(0, 1), (1, 1), (2, 1), (3, 1), (4, 1), (5, 1), (6, 1), (7, 1), (8, 1)] := by kernel_rfl
instance : PlI Tryz.prog 42 [(0, 1), (1, 1), (2, 1), (3, 1), (4, 1), (5, 1), (6, 1), (7, 1), (8, 1)] := ⟨Ye1⟩
theorem Ye2 : Y78 Tryz.prog 42 5 = some (5, 1, false) := by kernel_rfl
theorem Ye3 : Y78 Tryz.prog 42 2 = some (2, 1, false) := by kernel_rfl
theorem Ye4 : ∀ x, Y4h (Yah x) := fun x => (Y4h.cons (Y4g.val _) (Y4h.cons (Y4g.val _) (Y4h.cons (Y4g.val _) (Y4h.nil))) : Y4h [cI x.kind, cI x.key, cI x.id])
theorem Ye5 : places Tryz.prog 136 = some [(0, 1), (1, 1), (2, 1)] := by kernel_rfl
instance : PlI Tryz.prog 136 [(0, 1), (1, 1), (2, 1)] := ⟨Ye5⟩
theorem Ye6 : Y1c Tryz.prog 136 = some [.int .i64 0, .int .i64 0, .int .i64 0] := by kernel_rfl
instance : AlI Tryz.prog 136 [.int .i64 0, .int .i64 0, .int .i64 0] [cV (.int .i64 0), cV (.int .i64 0), cV (.int .i64 0)] := ⟨Ye6, Y4e rfl rfl⟩
theorem Ye7 : Y30 Tryz.prog 151 = some (4, 1, 1) := by kernel_rfl
theorem ze_4 : Y1c Tryz.prog 4 = some [.bool false] := by kernel_rfl
instance : AlI Tryz.prog 4 [.bool false] [cV (.bool false)] := ⟨ze_4, Y4e rfl rfl⟩
theorem Ye8 : Y78 Tryz.prog 42 7 = some (7, 1, false) := by kernel_rfl
instance Ye9 : SlI Tryz.prog 151 4 1 1 := ⟨by kernel_rfl⟩
instance ld_4 : LdI Tryz.prog 4 false 1 := ⟨by kernel_rfl⟩
theorem Yea : Y30 Tryz.prog 26 = some (29, 1, 24) := by kernel_rfl
theorem Yeb : Y1c Tryz.prog 29 = some [.slice none 0 0] := by kernel_rfl
instance : AlI Tryz.prog 29 [.slice none 0 0] [cV s0] := ⟨Yeb, Y4e rfl rfl⟩
theorem Yec : places Tryz.prog 146 = some [(0, 1), (1, 1), (2, 1), (3, 1)] := by kernel_rfl
instance : PlI Tryz.prog 146 [(0, 1), (1, 1), (2, 1), (3, 1)] := ⟨Yec⟩
theorem Yed : Y1c Tryz.prog 146 = some [.slice none 0 0, .slice none 0 0, .slice none 0 0, .slice none 0 0] := by kernel_rfl
instance : AlI Tryz.prog 146 [.slice none 0 0, .slice none 0 0, .slice none 0 0, .slice none 0 0] [cV s0, cV s0, cV s0, cV s0] := ⟨Yed, Y4e rfl rfl⟩
instance Yee : FldI Tryz.prog 146 2 2 := ⟨by kernel_rfl⟩
instance Yef : LdI Tryz.prog 26 false 1 := ⟨by kernel_rfl⟩
instance Yeg : FldI Tryz.prog 146 1 1 := ⟨by kernel_rfl⟩
instance Yeh : FldI Tryz.prog 146 0 0 := ⟨by kernel_rfl⟩
instance Yei : FldI Tryz.prog 146 3 3 := ⟨by kernel_rfl⟩
theorem Yej : places Tryz.prog 208 = some [(0, 2), (2, 1), (3, 1), (4, 1)] := by kernel_rfl
instance : PlI Tryz.prog 208 [(0, 2), (2, 1), (3, 1), (4, 1)] := ⟨Yej⟩
theorem Yek : Y1c Tryz.prog 208 = some [.slice none 0 0, .slice none 0 0, .slice none 0 0, .slice none 0 0, .slice none 0 0] := by kernel_rfl
instance : AlI Tryz.prog 208 [.slice none 0 0, .slice none 0 0, .slice none 0 0, .slice none 0 0, .slice none 0 0] [cV s0, cV s0, cV s0, cV s0, cV s0] := ⟨Yek, Y4e rfl rfl⟩
instance Yel : FldI Tryz.prog 208 1 2 := ⟨by kernel_rfl⟩
instance Yem : LdI Tryz.prog 205 false 1 := ⟨by kernel_rfl⟩
theorem Yen : Y30 Tryz.prog 205 = some (147, 1, 8) := by kernel_rfl
instance Yeo : FldI Tryz.prog 208 3 4 := ⟨by kernel_rfl⟩
instance Yep : FldI Tryz.prog 208 2 3 := ⟨by kernel_rfl⟩
instance Yeq : LdI Tryz.prog 206 false 1 := ⟨by kernel_rfl⟩
theorem Yer : Y30 Tryz.prog 206 = some (39, 1, 24) := by kernel_rfl
instance Yes : FldI Tryz.prog 208 0 0 := ⟨by kernel_rfl⟩
instance Yet : SlI Tryz.prog 205 147 1 8 := ⟨by kernel_rfl⟩
instance Yeu : LdI Tryz.prog 147 false 1 := ⟨by kernel_rfl⟩
instance Yev : SlI Tryz.prog 206 39 1 24 := ⟨by kernel_rfl⟩
theorem Yew : Y5r Tryz.prog 187 = some [0, 0] := by kernel_rfl
theorem Yex : Y1c Tryz.prog 66 = some [.slice none 0 0, .slice none 0 0, .int .i64 0, .int .i64 0] := by kernel_rfl
instance : AlI Tryz.prog 66 [.slice none 0 0, .slice none 0 0, .int .i64 0, .int .i64 0] [cV s0, cV s0, cV (.int .i64 0), cV (.int .i64 0)] := ⟨Yex, Y4e rfl rfl⟩
theorem Yey : places Tryz.prog 66 = some [(0, 2), (2, 1), (3, 1)] := by kernel_rfl
instance : PlI Tryz.prog 66 [(0, 2), (2, 1), (3, 1)] := ⟨Yey⟩
instance Yez : LdI Tryz.prog 66 true 4 := ⟨by kernel_rfl⟩
theorem Yf0 : places Tryz.prog 25 = some [(0, 1), (1, 1), (2, 1)] := by kernel_rfl
instance : PlI Tryz.prog 25 [(0, 1), (1, 1), (2, 1)] := ⟨Yf0⟩
theorem Yf1 : places Tryz.prog 83 = some [(0, 1), (1, 1)] := by kernel_rfl
instance : PlI Tryz.prog 83 [(0, 1), (1, 1)] := ⟨Yf1⟩
theorem Yf2 : places Tryz.prog 64 = some [(0, 1), (1, 1)] := by kernel_rfl
instance : PlI Tryz.prog 64 [(0, 1), (1, 1)] := ⟨Yf2⟩
theorem un_3 : Tryz.prog.underlying 3 = some (.int .i64) := by kernel_rfl
instance : UnI Tryz.prog 3 (.int .i64) := ⟨un_3⟩
theorem Yf3 : Tryz.prog.underlying 239 = some (.int .u64) := by kernel_rfl
instance : UnI Tryz.prog 239 (.int .u64) := ⟨Yf3⟩
theorem Yf4 : Y1c Tryz.prog 39 = some [.slice none 0 0] := by kernel_rfl
instance : AlI Tryz.prog 39 [.slice none 0 0] [cV s0] := ⟨Yf4, Y4e rfl rfl⟩
theorem Yf5 : Y30 Tryz.prog 209 = some (3, 1, 8) := by kernel_rfl
instance Yf6 : SlI Tryz.prog 209 3 1 8 := ⟨by kernel_rfl⟩
instance ld_3 : LdI Tryz.prog 3 false 1 := ⟨by kernel_rfl⟩
instance Yf7 : FldI Tryz.prog 140 3 5 := ⟨by kernel_rfl⟩
instance Yf8 : LdI Tryz.prog 138 false 1 := ⟨by kernel_rfl⟩
theorem Yf9 : Y6q Tryz.prog 138 = some (.i64, 29) := by kernel_rfl
theorem Yfa : Y6s Tryz.prog 29 = some s0 := by kernel_rfl
theorem Yfb : Y5r Tryz.prog 136 = some [0, 0, 0] := by kernel_rfl
theorem Yfc : Y6q Tryz.prog 253 = some (.i64, 4) := by kernel_rfl
theorem zv_4 : Y6s Tryz.prog 4 = some (.bool false) := by kernel_rfl
instance Yfd : LdI Tryz.prog 131 false 1 := ⟨by kernel_rfl⟩
instance Yfe : FldI Tryz.prog 140 0 0 := ⟨by kernel_rfl⟩
instance Yff : FldI Tryz.prog 140 1 3 := ⟨by kernel_rfl⟩
instance Yfg : LdI Tryz.prog 137 false 1 := ⟨by kernel_rfl⟩
theorem Yfh : Y6q Tryz.prog 137 = some (.i64, 2) := by kernel_rfl
theorem zv_2 : Y6s Tryz.prog 2 = some (.int .i64 0) := by kernel_rfl
instance Yfi : FldI Tryz.prog 140 2 4 := ⟨by kernel_rfl⟩
instance Yfj : FldI Tryz.prog 140 4 6 := ⟨by kernel_rfl⟩
theorem Yfk : places Tryz.prog 140 = some [(0, 3), (3, 1), (4, 1), (5, 1), (6, 1)] := by kernel_rfl
instance : PlI Tryz.prog 140 [(0, 3), (3, 1), (4, 1), (5, 1), (6, 1)] := ⟨Yfk⟩
theorem Yfl : Y1c Tryz.prog 140 = some [.int .i64 0, .slice none 0 0, .slice none 0 0, .map none, .map none, .map none, .map none] := by kernel_rfl
instance : AlI Tryz.prog 140 [.int .i64 0, .slice none 0 0, .slice none 0 0, .map none, .map none, .map none, .map none] [cV (.int .i64 0), cV s0, cV s0, cV (.map none), cV (.map none), cV (.map none), cV (.map none)] := ⟨Yfl, Y4e rfl rfl⟩
instance Yfm : FldI Tryz.prog 199 1 2 := ⟨by kernel_rfl⟩
instance Yfn : LdI Tryz.prog 197 false 1 := ⟨by kernel_rfl⟩
instance Yfo : SlI Tryz.prog 197 131 1 8 := ⟨by kernel_rfl⟩
theorem Yfp : places Tryz.prog 199 = some [(0, 2), (2, 1)] := by kernel_rfl
instance : PlI Tryz.prog 199 [(0, 2), (2, 1)] := ⟨Yfp⟩
theorem Yfq : Y1c Tryz.prog 199 = some [.slice none 0 0, .slice none 0 0, .slice none 0 0] := by kernel_rfl
instance : AlI Tryz.prog 199 [.slice none 0 0, .slice none 0 0, .slice none 0 0] [cV s0, cV s0, cV s0] := ⟨Yfq, Y4e rfl rfl⟩
theorem Yfr : Y30 Tryz.prog 197 = some (131, 1, 8) := by kernel_rfl
theorem Yfs : Y1c Tryz.prog 304 = some [.map none] := by kernel_rfl
instance : AlI Tryz.prog 304 [.map none] [cV (.map none)] := ⟨Yfs, Y4e rfl rfl⟩
instance Yft : LdI Tryz.prog 304 false 1 := ⟨by kernel_rfl⟩
theorem Yfu : Y8r Tryz.prog 304 = some (187, 4) := by kernel_rfl
theorem Yfv : Y1c Tryz.prog 131 = some [.pointer none] := by kernel_rfl
instance : AlI Tryz.prog 131 [.pointer none] [cV (.pointer none)] := ⟨Yfv, Y4e rfl rfl⟩
theorem Yfw : places Tryz.prog 187 = some [(0, 1), (1, 1)] := by kernel_rfl
instance : PlI Tryz.prog 187 [(0, 1), (1, 1)] := ⟨Yfw⟩
instance Yfx : FldI Tryz.prog 290 0 0 := ⟨by kernel_rfl⟩
instance Yfy : LdI Tryz.prog 288 false 1 := ⟨by kernel_rfl⟩
instance Yfz : SlI Tryz.prog 288 193 1 8 := ⟨by kernel_rfl⟩
theorem Yg0 : places Tryz.prog 290 = some [(0, 1), (1, 1)] := by kernel_rfl
instance : PlI Tryz.prog 290 [(0, 1), (1, 1)] := ⟨Yg0⟩
theorem Yg1 : Y1c Tryz.prog 290 = some [.slice none 0 0, .slice none 0 0] := by kernel_rfl
instance : AlI Tryz.prog 290 [.slice none 0 0, .slice none 0 0] [cV s0, cV s0] := ⟨Yg1, Y4e rfl rfl⟩
theorem Yg2 : Y1c Tryz.prog 172 = some [.pointer none] := by kernel_rfl
instance : AlI Tryz.prog 172 [.pointer none] [cV (.pointer none)] := ⟨Yg2, Y4e rfl rfl⟩
instance Yg3 : LdI Tryz.prog 172 false 1 := ⟨by kernel_rfl⟩
theorem Yg4 : Y30 Tryz.prog 288 = some (193, 1, 8) := by kernel_rfl
instance Yg5 : FldI Tryz.prog 290 1 1 := ⟨by kernel_rfl⟩
instance Yg6 : LdI Tryz.prog 193 false 1 := ⟨by kernel_rfl⟩
instance Yg7 : FldI Tryz.prog 199 0 0 := ⟨by kernel_rfl⟩
instance Yg8 : FldI Tryz.prog 66 0 0 := ⟨by kernel_rfl⟩
instance Yg9 : FldI Tryz.prog 66 1 2 := ⟨by kernel_rfl⟩
instance Yga : FldI Tryz.prog 66 2 3 := ⟨by kernel_rfl⟩
theorem un_5 : Tryz.prog.underlying 5 = some (.int .u8) := by kernel_rfl
instance : UnI Tryz.prog 5 (.int .u8) := ⟨un_5⟩
theorem Ygb : Y30 Tryz.prog 22 = some (5, 1, 1) := by kernel_rfl
theorem Ygc : Y7d Tryz.prog 22 = true := by kernel_rfl
instance Ygd : LdI Tryz.prog 59 true 2 := ⟨by kernel_rfl⟩
theorem Yge : ∀ x, Y4h (Ya8 x) := fun x => (Y4h.cons (Y4g.val _) (Y4h.cons (Y4g.val _) (Y4h.cons (Y4g.val _) (Y4h.cons (Y4g.val _) (Y4h.cons (Y4g.val _) (Y4h.nil))))) : Y4h [cI x.kind, cI x.from_, cI x.to_, cI x.room, C.str x.text])
instance : ArT Tryz.prog 39 2 1 8 kI64 := ⟨Ybo⟩
instance : ZeK Tryz.prog 2 kI64 [.int .i64 0] 0 := ⟨ze_2, (Y4e rfl rfl)⟩
instance : ZeK Tryz.prog 42 Ya5 [.int .i64 0, .int .i64 0, .int .i64 0, .int .i64 0, .int .i64 0, .int .i64 0, .string ByteArray.empty, .slice none 0 0, .int .i64 0] (Y9r.mk 0 0 0 0 0 0 ByteArray.empty [] 0) := ⟨Ybp, (fun w F => Imps.cells (.cons (Imp.refl _) (.cons (Imp.refl _) (.cons (Imp.refl _) (.cons (Imp.refl _) (.cons (Imp.refl _) (.cons (Imp.refl _) (.cons (Imp.refl _) (.cons (Imp.nil kI64 1) (.cons (Imp.refl _) .nil))))))))) (Y4e (cs := [cV (.int .i64 0), cV (.int .i64 0), cV (.int .i64 0), cV (.int .i64 0), cV (.int .i64 0), cV (.int .i64 0), cV (.string ByteArray.empty), cV s0, cV (.int .i64 0)]) rfl rfl w F))⟩
instance : ArT Tryz.prog 23 42 9 96 Ya5 := ⟨Yc7⟩
instance : PnK kI64 := ⟨Yc8⟩
instance : FzD Ya9 Yaa Ya5 := ⟨Yc9⟩
instance : PnD Ya9 Yaa := ⟨Yca, Ycb⟩
instance : ZeK Tryz.prog 25 Yab [.int .i64 0, .slice none 0 0, .slice none 0 0] (Y9w.mk 0 [] []) := ⟨Ycd, (fun w F => Imps.cells (.cons (Imp.refl _) (.cons (Imp.nil Ya5 9) (.cons (Imp.nil Ya5 9) .nil))) (Y4e (cs := [cV (.int .i64 0), cV s0, cV s0]) rfl rfl w F))⟩
instance : ArT Tryz.prog 81 25 3 56 Yab := ⟨Yck⟩
instance : FzD Yac Yad Yab := ⟨Ycl⟩
instance : PnD Yac Yad := ⟨Ycm, Ycn⟩
instance : ZeK Tryz.prog 187 Ya7 [.int .i64 0, .int .i64 0] (Y9t.mk 0 0) := ⟨Ycp, (Y4e rfl rfl)⟩
instance : ArT Tryz.prog 79 187 2 16 Ya7 := ⟨Ycv⟩
instance : ZeK Tryz.prog 83 Yae [.slice none 0 0, .slice none 0 0] (Y9x.mk [] []) := ⟨Ycy, (fun w F => Imps.cells (.cons (Imp.nil Yab 3) (.cons (Imp.nil Ya7 2) .nil)) (Y4e (cs := [cV s0, cV s0]) rfl rfl w F))⟩
instance : ArT Tryz.prog 61 83 2 48 Yae := ⟨Yd4⟩
instance : PnK Ya7 := ⟨Yd5⟩
instance : FzD Yaf Yag Yae := ⟨Yd6⟩
instance : PnD Yaf Yag := ⟨Yd7, Yd8⟩
instance : ZeK Tryz.prog 167 Ya8 [.int .i64 0, .int .i64 0, .int .i64 0, .int .i64 0, .string ByteArray.empty] (Y9u.mk 0 0 0 0 ByteArray.empty) := ⟨Yda, (Y4e rfl rfl)⟩
instance : ArT Tryz.prog 62 167 5 48 Ya8 := ⟨Ydl⟩
instance : ZeK Tryz.prog 64 Yau [.slice none 0 0, .slice none 0 0] (Y9y.mk [] []) := ⟨Ydn, (fun w F => Imps.cells (.cons (Imp.nil Yae 2) (.cons (Imp.nil Ya8 5) .nil)) (Y4e (cs := [cV s0, cV s0]) rfl rfl w F))⟩
instance : ArT Tryz.prog 29 136 3 24 Yah := ⟨Ydz⟩
instance : FiI Tryz.prog 42 5 5 1 false := ⟨Ye2⟩
instance : FiI Tryz.prog 42 2 2 1 false := ⟨Ye3⟩
instance : PnK Yah := ⟨Ye4⟩
instance : ZeK Tryz.prog 136 Yah [.int .i64 0, .int .i64 0, .int .i64 0] (Y9z.mk 0 0 0) := ⟨Ye6, (Y4e rfl rfl)⟩
instance : ArT Tryz.prog 151 4 1 1 Yaj := ⟨Ye7⟩
instance : ZeK Tryz.prog 4 Yaj [.bool false] false := ⟨ze_4, (Y4e rfl rfl)⟩
instance : FiI Tryz.prog 42 7 7 1 false := ⟨Ye8⟩
instance : ArT Tryz.prog 26 29 1 24 Yai := ⟨Yea⟩
instance : ZeK Tryz.prog 29 Yai [.slice none 0 0] [] := ⟨Yeb, (fun w F => Imps.cells (.cons (Imp.nil Yah 3) .nil) (Y4e (cs := [cV s0]) rfl rfl w F))⟩
instance : ZeK Tryz.prog 146 Yak [.slice none 0 0, .slice none 0 0, .slice none 0 0, .slice none 0 0] (Ya0.mk [] [] [] []) := ⟨Yed, (fun w F => Imps.cells (.cons (Imp.nil kI64 1) (.cons (Imp.nil Yai 1) (.cons (Imp.nil Yai 1) (.cons (Imp.nil kI64 1) .nil)))) (Y4e (cs := [cV s0, cV s0, cV s0, cV s0]) rfl rfl w F))⟩
instance : ZeK Tryz.prog 208 Yav [.slice none 0 0, .slice none 0 0, .slice none 0 0, .slice none 0 0, .slice none 0 0] (Ya1.mk (Y9x.mk [] []) [] [] []) := ⟨Yek, (fun w F => Imps.cells (.cons (Imp.nil Yab 3) (.cons (Imp.nil Ya7 2) (.cons (Imp.nil Yal 1) (.cons (Imp.nil Yam 1) (.cons (Imp.nil Yai 1) .nil))))) (Y4e (cs := [cV s0, cV s0, cV s0, cV s0, cV s0]) rfl rfl w F))⟩
instance : ArT Tryz.prog 205 147 1 8 Yal := ⟨Yen⟩
instance : ArT Tryz.prog 206 39 1 24 Yam := ⟨Yer⟩
instance : EqK Tryz.prog 187 [0, 0] := ⟨Yew⟩
instance : ZeK Tryz.prog 66 Yaw [.slice none 0 0, .slice none 0 0, .int .i64 0, .int .i64 0] (Ya2.mk (Y9y.mk [] []) 0 0) := ⟨Yex, (fun w F => Imps.cells (.cons (Imp.nil Yae 2) (.cons (Imp.nil Ya8 5) (.cons (Imp.refl _) (.cons (Imp.refl _) .nil)))) (Y4e (cs := [cV s0, cV s0, cV (.int .i64 0), cV (.int .i64 0)]) rfl rfl w F))⟩
instance : ZeK Tryz.prog 39 Yam [.slice none 0 0] [] := ⟨Yf4, (fun w F => Imps.cells (.cons (Imp.nil kI64 1) .nil) (Y4e (cs := [cV s0]) rfl rfl w F))⟩
instance : ArT Tryz.prog 209 3 1 8 kI64 := ⟨Yf5⟩
instance : MpT Tryz.prog 138 .i64 Yao 29 s0 ([] : List Y9z) := ⟨Yf9, Yfa, (fun w F => Imp.nil Yah 3 w F _ rfl)⟩
instance : EqK Tryz.prog 136 [0, 0, 0] := ⟨Yfb⟩
instance : MpT Tryz.prog 253 .i64 Yap 4 (.bool false) false := ⟨Yfc, zv_4, (fun _ _ => rfl)⟩
instance : MpT Tryz.prog 137 .i64 Yan 2 (.int .i64 0) 0 := ⟨Yfh, zv_2, (fun _ _ => rfl)⟩
instance : ZeK Tryz.prog 199 Yas [.slice none 0 0, .slice none 0 0, .slice none 0 0] (Ya4.mk (Y9x.mk [] []) []) := ⟨Yfq, (fun w F => Imps.cells (.cons (Imp.nil Yab 3) (.cons (Imp.nil Ya7 2) (.cons (Imp.nil Yar 1) .nil))) (Y4e (cs := [cV s0, cV s0, cV s0]) rfl rfl w F))⟩
instance : ArT Tryz.prog 197 131 1 8 Yar := ⟨Yfr⟩
instance : PpT Tryz.prog 304 Yap 187 4 (.bool false) false := ⟨Yfu, zv_4, (fun _ _ => rfl)⟩
instance : ZeK Tryz.prog 290 kNet [.slice none 0 0, .slice none 0 0] (TNet.mk [] []) := ⟨Yg1, (fun w F => Imps.cells (.cons (Imp.nil Yat 1) (.cons (Imp.nil Ya8 5) .nil)) (Y4e (cs := [cV s0, cV s0]) rfl rfl w F))⟩
instance : ArT Tryz.prog 288 193 1 8 Yat := ⟨Yg4⟩
instance : ArT Tryz.prog 22 5 1 1 kU8 := ⟨Ygb⟩
instance : ByI Tryz.prog 22 := ⟨Ygc⟩
instance : PnK Ya8 := ⟨Yge⟩
instance : SrI Tryz.prog 238 9 := ⟨Y9p⟩
instance {a1 : Int} {a2 : Int} {a3 : Int} {a4 : Int} {a5 : Int} {a6 : Int} {a7 : ByteArray} {a8 : List Int} {a9 : Int} : Mk Ya5 [cI a1, cI a2, cI a3, cI a4, cI a5, cI a6, C.str a7, cM kI64 1 a8, cI a9] (Y9r.mk a1 a2 a3 a4 a5 a6 a7 a8 a9) := ⟨rfl⟩
instance {a1 : Int} {a2 : List Y9r} {a3 : List Y9r} : Mk Ya6 [cI a1, cM Ya5 9 a2, cM Ya5 9 a3] (Y9s.mk a1 a2 a3) := ⟨rfl⟩
instance {a1 : Int} {a2 : Int} : Mk Ya7 [cI a1, cI a2] (Y9t.mk a1 a2) := ⟨rfl⟩
instance {a1 : List Y9s} {a2 : List Y9t} : Mk kHub [cM Ya6 3 a1, cM Ya7 2 a2] (THub.mk a1 a2) := ⟨rfl⟩
instance {a1 : Int} {a2 : Int} {a3 : Int} {a4 : Int} {a5 : ByteArray} : Mk Ya8 [cI a1, cI a2, cI a3, cI a4, C.str a5] (Y9u.mk a1 a2 a3 a4 a5) := ⟨rfl⟩
instance {a1 : List THub} {a2 : List Y9u} : Mk Yay [cM kHub 2 a1, cM Ya8 5 a2] (Y9v.mk a1 a2) := ⟨rfl⟩
instance {a1 : Int} {a2 : List Y9r} {a3 : List Y9r} : Mk Yab [cI a1, cM Ya5 9 a2, cM Ya5 9 a3] (Y9w.mk a1 a2 a3) := ⟨rfl⟩
instance {a1 : List Y9w} {a2 : List Y9t} : Mk Yae [cM Yab 3 a1, cM Ya7 2 a2] (Y9x.mk a1 a2) := ⟨rfl⟩
instance {a1 : List Y9x} {a2 : List Y9u} : Mk Yau [cM Yae 2 a1, cM Ya8 5 a2] (Y9y.mk a1 a2) := ⟨rfl⟩
instance {a1 : Int} {a2 : Int} {a3 : Int} : Mk Yah [cI a1, cI a2, cI a3] (Y9z.mk a1 a2 a3) := ⟨rfl⟩
instance {a1 : List Int} {a2 : List (List Y9z)} {a3 : List (List Y9z)} {a4 : List Int} : Mk Yal [C.ip [cM kI64 1 a1, cM Yai 1 a2, cM Yai 1 a3, cM kI64 1 a4]] (Ya0.mk a1 a2 a3 a4) := ⟨rfl⟩
instance {a1 : List Int} {a2 : List (List Y9z)} {a3 : List (List Y9z)} {a4 : List Int} : Mk Yak [cM kI64 1 a1, cM Yai 1 a2, cM Yai 1 a3, cM kI64 1 a4] (Ya0.mk a1 a2 a3 a4) := ⟨rfl⟩
instance {a1 : List Y9w} {a2 : List Y9t} {a3 : List Ya0} {a4 : List (List Int)} {a5 : List (List Y9z)} : Mk Yav [cM Yab 3 a1, cM Ya7 2 a2, cM Yal 1 a3, cM Yam 1 a4, cM Yai 1 a5] (Ya1.mk (Y9x.mk a1 a2) a3 a4 a5) := ⟨rfl⟩
instance {a1 : List Y9x} {a2 : List Y9u} {a3 : Int} {a4 : Int} : Mk Yaw [cM Yae 2 a1, cM Ya8 5 a2, cI a3, cI a4] (Ya2.mk (Y9y.mk a1 a2) a3 a4) := ⟨rfl⟩
instance {a1 : Int} {a2 : List Y9r} {a3 : List Y9r} {a4 : List (Int × Int)} {a5 : List (Int × List Y9z)} {a6 : List (Int × List Y9z)} {a7 : List (Int × Int)} : Mk Yar [C.ip [cI a1, cM Ya5 9 a2, cM Ya5 9 a3, C.imap .i64 Yan a4, C.imap .i64 Yao a5, C.imap .i64 Yao a6, C.imap .i64 Yan a7]] (Ya3.mk (Y9w.mk a1 a2 a3) a4 a5 a6 a7) := ⟨rfl⟩
instance {a1 : Int} {a2 : List Y9r} {a3 : List Y9r} {a4 : List (Int × Int)} {a5 : List (Int × List Y9z)} {a6 : List (Int × List Y9z)} {a7 : List (Int × Int)} : Mk Yaq [cI a1, cM Ya5 9 a2, cM Ya5 9 a3, C.imap .i64 Yan a4, C.imap .i64 Yao a5, C.imap .i64 Yao a6, C.imap .i64 Yan a7] (Ya3.mk (Y9w.mk a1 a2 a3) a4 a5 a6 a7) := ⟨rfl⟩
instance {a1 : List Y9w} {a2 : List Y9t} {a3 : List Ya3} : Mk Yat [C.ip [cM Yab 3 a1, cM Ya7 2 a2, cM Yar 1 a3]] (Ya4.mk (Y9x.mk a1 a2) a3) := ⟨rfl⟩
instance {a1 : List Y9w} {a2 : List Y9t} {a3 : List Ya3} : Mk Yas [cM Yab 3 a1, cM Ya7 2 a2, cM Yar 1 a3] (Ya4.mk (Y9x.mk a1 a2) a3) := ⟨rfl⟩
instance {a1 : List Ya4} {a2 : List Y9u} : Mk Yax [C.ip [cM Yat 1 a1, cM Ya8 5 a2]] (TNet.mk a1 a2) := ⟨rfl⟩
instance {a1 : List Ya4} {a2 : List Y9u} : Mk kNet [cM Yat 1 a1, cM Ya8 5 a2] (TNet.mk a1 a2) := ⟨rfl⟩
instance {x : Int} : Mk kI64 [cI x] x := ⟨rfl⟩
instance {x : List Y9z} : Mk Yai [cM Yah 3 x] x := ⟨rfl⟩
instance {x : Bool} : Mk Yaj [C.bool x] x := ⟨rfl⟩
instance {x : List Int} : Mk Yam [cM kI64 1 x] x := ⟨rfl⟩
instance {x : Int} : Mc Yan (cI x) x := ⟨rfl⟩
instance {x : List Y9z} : Mc Yao (cM Yah 3 x) x := ⟨rfl⟩
instance {x : Bool} : Mc Yap (C.bool x) x := ⟨rfl⟩
instance {x : Int} : Mk kU8 [cV (.int .u8 x)] x := ⟨rfl⟩

def Z1 (p0 : List Int) (p1 : Int) : Option Int := cond (decide ((IntKind.i64.wrap (p1 - (p0.length : Int))) < 0)) (some (-1)) (some (IntKind.i64.wrap (p1 - (p0.length : Int))))
instance Z2 (p0 : List Int) (p1 : Int) : Sp Tryz.prog 402 [cM kI64 1 p0, cI p1] (Z1 p0 p1) (fun r => cI r) := Sp.of (so Tryz.func402 rfl rfl fun r X h => gh .z)

def Z3 (p0 : Y9r) (p1 : Int) : Option Int := cond (decide ((IntKind.i64.wrap (p1 - (p0.text.size : Int))) < 0)) (some (-1)) ((Z1 p0.prev (IntKind.i64.wrap (p1 - (p0.text.size : Int)))).bind fun r3 => cond (decide (r3 < 0)) (some (-1)) (some r3))
instance Z4 (p0 : Y9r) (p1 : Int) : Sp Tryz.prog 384 [C.agg [cI p0.id, cI p0.room, cI p0.author, cI p0.kind, cI p0.key, cI p0.n, C.str p0.text, cM kI64 1 p0.prev, cI p0.time], cI p1] (Z3 p0 p1) (fun r => cI r) := Sp.of (so Tryz.func384 rfl rfl fun r X h => gh .z)

def Z5 (x16 : Int) : Option Int := some x16
def Z6 (p0 : List Y9r) (x8 : Int) (x9 : Int) : Option ((Int × Int) ⊕ (Int ⊕ Int)) := cond (decide (x9 < (p0.length : Int))) ((getI p0 x9).bind fun e11 => (Z3 e11 x8).bind fun r13 => cond (decide (r13 < 0)) (some (.inr (.inl (-1)))) (some (.inl (r13, (IntKind.i64.wrap (x9 + 1)))))) (some (.inr (.inr x8)))
def Z7 (p0 : List Y9r) (p1 : Int) : Option Int := cond (decide ((IntKind.i64.wrap (p1 - (p0.length : Int))) < 0)) (some (-1)) ((iter (fun z17 => Z6 p0 z17.1 z17.2) big ((IntKind.i64.wrap (p1 - (p0.length : Int))), 0)).bind (fun z20 => match z20 with | .inl y18 => some y18 | .inr y19 => Z5 y19))
instance Z8 (p0 : List Y9r) (p1 : Int) : Sp Tryz.prog 351 [cM Ya5 9 p0, cI p1] (Z7 p0 p1) (fun r => cI r) := Sp.of (so Tryz.func351 rfl rfl fun r X h => gh (.b .z (.c1 (fun x16 => .d [(1, cI x16)] []) [] [] (.l2 (fun x8 x9 => .d [(1, cI x8), (5, cI x9)] []) [0] [] .z) .z)))

def Z9 (p0 : Y9s) (p1 : Int) : Option Int := (Z7 p0.events p1).bind fun r2 => cond (decide (r2 < 0)) (some (-1)) ((Z7 p0.parked r2).bind fun r5 => cond (decide (r5 < 0)) (some (-1)) (some r5))
instance Za (p0 : Y9s) (p1 : Int) : Sp Tryz.prog 281 [C.agg [cI p0.room, cM Ya5 9 p0.events, cM Ya5 9 p0.parked], cI p1] (Z9 p0 p1) (fun r => cI r) := Sp.of (so Tryz.func281 rfl rfl fun r X h => gh .z)

def Zb (x16 : Int) : Option Int := some x16
def Zc (p0 : List Y9s) (x8 : Int) (x9 : Int) : Option ((Int × Int) ⊕ (Int ⊕ Int)) := cond (decide (x9 < (p0.length : Int))) ((getI p0 x9).bind fun e11 => (Z9 e11 x8).bind fun r13 => cond (decide (r13 < 0)) (some (.inr (.inl (-1)))) (some (.inl (r13, (IntKind.i64.wrap (x9 + 1)))))) (some (.inr (.inr x8)))
def Zd (p0 : List Y9s) (p1 : Int) : Option Int := cond (decide ((IntKind.i64.wrap (p1 - (p0.length : Int))) < 0)) (some (-1)) ((iter (fun z17 => Zc p0 z17.1 z17.2) big ((IntKind.i64.wrap (p1 - (p0.length : Int))), 0)).bind (fun z20 => match z20 with | .inl y18 => some y18 | .inr y19 => Zb y19))
instance Ze (p0 : List Y9s) (p1 : Int) : Sp Tryz.prog 168 [cM Ya6 3 p0, cI p1] (Zd p0 p1) (fun r => cI r) := Sp.of (so Tryz.func168 rfl rfl fun r X h => gh (.b .z (.c1 (fun x16 => .d [(1, cI x16)] []) [] [] (.l2 (fun x8 x9 => .d [(1, cI x8), (5, cI x9)] []) [0] [] .z) .z)))

def Zf (p0 : List Y9t) (p1 : Int) : Option Int := cond (decide ((IntKind.i64.wrap (p1 - (p0.length : Int))) < 0)) (some (-1)) (some (IntKind.i64.wrap (p1 - (p0.length : Int))))
instance Zg (p0 : List Y9t) (p1 : Int) : Sp Tryz.prog 169 [cM Ya7 2 p0, cI p1] (Zf p0 p1) (fun r => cI r) := Sp.of (so Tryz.func169 rfl rfl fun r X h => gh .z)

def Zh (p0 : THub) (p1 : Int) : Option Int := (Zd p0.rooms p1).bind fun r2 => cond (decide (r2 < 0)) (some (-1)) ((Zf p0.stream r2).bind fun r5 => cond (decide (r5 < 0)) (some (-1)) (some r5))
instance Zi (p0 : THub) (p1 : Int) : Sp Tryz.prog 53 [C.agg [cM Ya6 3 p0.rooms, cM Ya7 2 p0.stream], cI p1] (Zh p0 p1) (fun r => cI r) := Sp.of (so Tryz.func53 rfl rfl fun r X h => gh .z)

def Zj (x16 : Int) : Option Int := some x16
def Zk (p0 : List THub) (x8 : Int) (x9 : Int) : Option ((Int × Int) ⊕ (Int ⊕ Int)) := cond (decide (x9 < (p0.length : Int))) ((getI p0 x9).bind fun e11 => (Zh e11 x8).bind fun r13 => cond (decide (r13 < 0)) (some (.inr (.inl (-1)))) (some (.inl (r13, (IntKind.i64.wrap (x9 + 1)))))) (some (.inr (.inr x8)))
def Zl (p0 : List THub) (p1 : Int) : Option Int := cond (decide ((IntKind.i64.wrap (p1 - (p0.length : Int))) < 0)) (some (-1)) ((iter (fun z17 => Zk p0 z17.1 z17.2) big ((IntKind.i64.wrap (p1 - (p0.length : Int))), 0)).bind (fun z20 => match z20 with | .inl y18 => some y18 | .inr y19 => Zj y19))
instance Zm (p0 : List THub) (p1 : Int) : Sp Tryz.prog 152 [cM kHub 2 p0, cI p1] (Zl p0 p1) (fun r => cI r) := Sp.of (so Tryz.func152 rfl rfl fun r X h => gh (.b .z (.c1 (fun x16 => .d [(1, cI x16)] []) [] [] (.l2 (fun x8 x9 => .d [(1, cI x8), (5, cI x9)] []) [0] [] .z) .z)))

def Zn (p0 : Y9u) (p1 : Int) : Option Int := cond (decide ((IntKind.i64.wrap (p1 - (p0.text.size : Int))) < 0)) (some (-1)) (some (IntKind.i64.wrap (p1 - (p0.text.size : Int))))
instance Zo (p0 : Y9u) (p1 : Int) : Sp Tryz.prog 270 [C.agg [cI p0.kind, cI p0.from_, cI p0.to_, cI p0.room, C.str p0.text], cI p1] (Zn p0 p1) (fun r => cI r) := Sp.of (so Tryz.func270 rfl rfl fun r X h => gh .z)

def Zp (x16 : Int) : Option Int := some x16
def Zq (p0 : List Y9u) (x8 : Int) (x9 : Int) : Option ((Int × Int) ⊕ (Int ⊕ Int)) := cond (decide (x9 < (p0.length : Int))) ((getI p0 x9).bind fun e11 => (Zn e11 x8).bind fun r13 => cond (decide (r13 < 0)) (some (.inr (.inl (-1)))) (some (.inl (r13, (IntKind.i64.wrap (x9 + 1)))))) (some (.inr (.inr x8)))
def Zr (p0 : List Y9u) (p1 : Int) : Option Int := cond (decide ((IntKind.i64.wrap (p1 - (p0.length : Int))) < 0)) (some (-1)) ((iter (fun z17 => Zq p0 z17.1 z17.2) big ((IntKind.i64.wrap (p1 - (p0.length : Int))), 0)).bind (fun z20 => match z20 with | .inl y18 => some y18 | .inr y19 => Zp y19))
instance Zs (p0 : List Y9u) (p1 : Int) : Sp Tryz.prog 153 [cM Ya8 5 p0, cI p1] (Zr p0 p1) (fun r => cI r) := Sp.of (so Tryz.func153 rfl rfl fun r X h => gh (.b .z (.c1 (fun x16 => .d [(1, cI x16)] []) [] [] (.l2 (fun x8 x9 => .d [(1, cI x8), (5, cI x9)] []) [0] [] .z) .z)))

def Zt (p0 : Y9v) (p1 : Int) : Option Int := (Zl p0.hubs p1).bind fun r2 => cond (decide (r2 < 0)) (some (-1)) ((Zr p0.letters r2).bind fun r5 => cond (decide (r5 < 0)) (some (-1)) (some r5))
instance Zu (p0 : Y9v) (p1 : Int) : Sp Tryz.prog 44 [C.agg [cM kHub 2 p0.hubs, cM Ya8 5 p0.letters], cI p1] (Zt p0 p1) (fun r => cI r) := Sp.of (so Tryz.func44 rfl rfl fun r X h => gh .z)

def Zv (l16 : List Int) : Option (List Int) := some l16
def Zw (p0 : List Int) (l9 : List Int) (x10 : Int) : Option ((List Int × Int) ⊕ ((List Int))) := cond (decide (x10 < (p0.length : Int))) ((getI p0 x10).bind fun e12 => (getI l9 x10).bind fun e14 => some (.inl ((List.set l9 (Int.toNat x10) e12), (IntKind.i64.wrap (x10 + 1))))) (some (.inr l9))
def Zx (p0 : List Int) : Option (List Int) := (chk (decide (0 ≤ (p0.length : Int) ∧ (p0.length : Int) * 8 ≤ 140737488355328))).bind fun u2 => (iter (fun z18 => Zw p0 z18.1 z18.2) big ((List.replicate (Int.toNat (p0.length : Int)) 0), 0)).bind fun y19 => Zv y19
instance Zy (p0 : List Int) : SpO Tryz.prog 403 (Zx p0) (.d [cM kI64 1 p0] [] fun r => .x fun (v17 : Value) => .d (cV v17) [oA v17 2 kI64 1 r]) := ⟨so Tryz.func403 rfl rfl fun r X h => gh (.q 2 (.a 0 fun w0 => .c1 (fun l16 => .d [] [oA w0 2 kI64 1 l16]) [3] [] (.A 0 fun w0 => .l2 (fun l9 x10 => .d [(4, cI x10)] [oA w0 2 kI64 1 l9]) [0,3] [] .z) .z))⟩
instance Zy' (p0 : List Int) : Sp Tryz.prog 403 [cM kI64 1 p0] (Zx p0) (fun r => cM kI64 1 r) := ⟨fun r h => Ok.freeze ((Zy p0).h r h) (by rintro c qs ⟨v17, rfl, rfl⟩; exact Frz.arr)⟩

def Zz (p0 : Y9r) : Option Y9r := (Zx p0.prev).bind fun r4 => some (Y9r.mk p0.id p0.room p0.author p0.kind p0.key p0.n p0.text r4 p0.time)
instance Z10 (p0 : Y9r) : SpO Tryz.prog 385 (Zz p0) (.d [C.agg [cI p0.id, cI p0.room, cI p0.author, cI p0.kind, cI p0.key, cI p0.n, C.str p0.text, cM kI64 1 p0.prev, cI p0.time]] [] fun r => .x fun (v8 : Value) => .d (C.agg [cI r.id, cI r.room, cI r.author, cI r.kind, cI r.key, cI r.n, C.str r.text, cV v8, cI r.time]) [oA v8 2 kI64 1 r.prev]) := ⟨so Tryz.func385 rfl rfl fun r X h => gh (.k .z)⟩
instance Z10' (p0 : Y9r) : Sp Tryz.prog 385 [C.agg [cI p0.id, cI p0.room, cI p0.author, cI p0.kind, cI p0.key, cI p0.n, C.str p0.text, cM kI64 1 p0.prev, cI p0.time]] (Zz p0) (fun r => C.agg [cI r.id, cI r.room, cI r.author, cI r.kind, cI r.key, cI r.n, C.str r.text, cM kI64 1 r.prev, cI r.time]) := ⟨fun r h => Ok.freeze ((Z10 p0).h r h) (by rintro c qs ⟨v8, rfl, rfl⟩; exact Frz.agg (fS (fS (fS (fS (fS (fS (fS (FrzL.cons (os := [_]) (Frz.arr) (fS (FrzL.nil)))))))))))⟩

def Z11 (l22 : List Y9r) : Option (List Y9r) := some l22
def Z12 (p0 : List Y9r) (l12 : List Y9r) (x13 : Int) : Option ((List Y9r × Int) ⊕ ((List Y9r))) := cond (decide (x13 < (p0.length : Int))) ((getI p0 x13).bind fun e15 => (Zz e15).bind fun r17 => (getI l12 x13).bind fun e20 => some (.inl ((List.set l12 (Int.toNat x13) r17), (IntKind.i64.wrap (x13 + 1))))) (some (.inr l12))
def Z13 (p0 : List Y9r) : Option (List Y9r) := (chk (decide (0 ≤ (p0.length : Int) ∧ (p0.length : Int) * 96 ≤ 140737488355328))).bind fun u2 => (iter (fun z24 => Z12 p0 z24.1 z24.2) big ((List.replicate (Int.toNat (p0.length : Int)) (Y9r.mk 0 0 0 0 0 0 ByteArray.empty [] 0)), 0)).bind fun y25 => Z11 y25
theorem Z14 (p0 : List Y9r) (r : List Y9r) (h : Z13 p0 = some r) : Ok Tryz.prog 352 [cM Ya5 9 p0] [] (fun c qs => ∃ (v23 : Value), c = cV v23 ∧ qs = [Obj.deep v23 42 Ya9 Yaa 9 r]) := by
 refine Ok.of_body (rs := [.tmp 2]) Tryz.func352 rfl rfl rfl rfl rfl fun X => ?_
 unfold Z13 at h
 refine zw ?_
 refine ob' h fun u2 c1 h => ?_
 refine Ops.h (ns := []) rfl rfl (Y6k (k := Ya9) (ob := Yaa) (z := (Y9r.mk 0 0 0 0 0 0 ByteArray.empty [] 0)) (u0 := s0) Yc7 Ybp (Y4e rfl rfl) (fun _ _ => (Own.none_cons Y6h Own.none_nil)) rfl rfl (Y49 c1).1 (Y49 c1).2 (Y4a (by decide) c1) rfl) ?_
 rintro _ _ ⟨b3, rfl, rfl⟩
 refine Ops.v rfl (Ys rfl rfl) ?_
 refine Ops.nil ?_
 refine AW.seq ?_
 refine AW.cut (τ := List Y9r) (fun l22 => ⟨[(3, cV (sn b3 (p0.length : Int)))], [Obj.deep (sn b3 (p0.length : Int)) 42 Ya9 Yaa 9 l22]⟩) (fun l22 => Z11 l22 = some r) ?_ ?_
 ·
  refine zw ?_
  refine ob' h fun o26 g27 q28 => ?_
  refine AW.loop (τ := List Y9r × Int) (x := ((List.replicate (Int.toNat (p0.length : Int)) (Y9r.mk 0 0 0 0 0 0 ByteArray.empty [] 0)), 0)) (fun (l12, x13) => ⟨[(0, cM Ya5 9 p0), (3, cV (sn b3 (p0.length : Int))), (4, cI x13)], [Obj.deep (sn b3 (p0.length : Int)) 42 Ya9 Yaa 9 l12]⟩) (fun k (l12, x13) => iter (fun z24 => Z12 p0 z24.1 z24.2) k (l12, x13) = some o26) g27 (Y25.both (ns := [0]) rfl rfl) ?_
  rintro k ⟨l12, x13⟩ i30
  refine Y4d (show iter (fun z24 => Z12 p0 z24.1 z24.2) k (l12, x13) = some o26 from i30) fun k29 y31 hlt_k29 h h32 => ?_
  replace h : Z12 p0 l12 x13 = some y31 := h
  unfold Z12 at h
  refine zw ?_
  refine cnd h (fun hb14 h => ?_) fun hb14 h => ?_
  ·
   refine AW.ct hb14 rfl ?_
   refine zw ?_
   refine oi h fun e15 g16 h => ?_
   refine zw ?_
   refine ob' h fun r17 g18 h => ?_
   refine Ops.h (ns := []) rfl rfl (Y27 ((Z10 _).h _ g18) rfl rfl) ?_
   rintro _ _ ⟨_, ⟨v19, rfl, rfl⟩, rfl⟩
   refine ob' h fun e20 g21 h => ?_
   refine Ops.v rfl (Y6c (p := 1) Ycc.h rfl rfl rfl g21 rfl) ?_
   refine Ops.hd (ns := [1, 0]) rfl rfl (Y6g (e' := r17) (u' := v19) Yc6.h rfl rfl rfl (Y2f g21).2.2 (fun _ => rfl) rfl rfl) ?_
   refine zw ?_
   obtain rfl := Wj h
   exact ⟨k29, ((List.set l12 (Int.toNat x13) r17), (IntKind.i64.wrap (x13 + 1))), hlt_k29, h32, Y25.both (ns := [0]) rfl rfl⟩
  refine AW.cf hb14 rfl ?_
  refine AW.exit ?_
  obtain rfl := Wj h
  obtain rfl := Wj h32
  replace h := q28
  exact ⟨l12, h, Y25.both (ns := [0]) rfl rfl⟩
 intro l22 h
 replace h : Z11 l22 = some r := h
 unfold Z11 at h
 refine zw ?_
 refine AW.ret ?_
 rw [← Wj h]
 exact finI ⟨[cV (sn b3 (p0.length : Int))], _, Y25.refl _, (.cons (.tmp rfl) .nil), [0], _, _, rfl, ⟨(sn b3 (p0.length : Int)), rfl, rfl⟩⟩
instance Z14' (p0 : List Y9r) : Sp Tryz.prog 352 [cM Ya5 9 p0] (Z13 p0) (fun r => cM Ya5 9 r) := ⟨fun r h => Ok.freeze (Z14 p0 r h) (by rintro c qs ⟨v23, rfl, rfl⟩; exact (Frz.deep Yc9))⟩
instance Z15 (p0 : List Y9r) : SpO Tryz.prog 352 (Z13 p0) (.d [cM Ya5 9 p0] [] fun r => .x fun (v23 : Value) => .d (cV v23) [Obj.deep v23 42 Ya9 Yaa 9 r]) := ⟨fun r h => Z14 p0 r h⟩

def Z16 (p0 : Y9s) : Option Y9w := (Z13 p0.events).bind fun r4 => (Z13 p0.parked).bind fun r8 => some (Y9w.mk p0.room r4 r8)
instance Z17 (p0 : Y9s) : SpO Tryz.prog 285 (Z16 p0) (.d [C.agg [cI p0.room, cM Ya5 9 p0.events, cM Ya5 9 p0.parked]] [] fun r => .x fun (v12 : Value) => .x fun (v13 : Value) => .d (C.agg [cI r.room, cV v12, cV v13]) [Obj.deep v12 42 Ya9 Yaa 9 r.events, Obj.deep v13 42 Ya9 Yaa 9 r.parked]) := ⟨so Tryz.func285 rfl rfl fun r X h => gh (.k (.k .z))⟩
instance Z17' (p0 : Y9s) : Sp Tryz.prog 285 [C.agg [cI p0.room, cM Ya5 9 p0.events, cM Ya5 9 p0.parked]] (Z16 p0) (fun r => C.agg [cI r.room, cM Ya5 9 r.events, cM Ya5 9 r.parked]) := ⟨fun r h => Ok.freeze ((Z17 p0).h r h) (by rintro c qs ⟨v12, v13, rfl, rfl⟩; exact Frz.agg (fS (FrzL.cons (os := [_]) ((Frz.deep Yc9)) (FrzL.cons (os := [_]) ((Frz.deep Yc9)) (FrzL.nil)))))⟩

def Z18 (l24 : List Y9w) : Option (List Y9w) := some l24
def Z19 (p0 : List Y9s) (l13 : List Y9w) (x14 : Int) : Option ((List Y9w × Int) ⊕ ((List Y9w))) := cond (decide (x14 < (p0.length : Int))) ((getI p0 x14).bind fun e16 => (Z16 e16).bind fun r18 => (getI l13 x14).bind fun e22 => some (.inl ((List.set l13 (Int.toNat x14) r18), (IntKind.i64.wrap (x14 + 1))))) (some (.inr l13))
def Z1a (p0 : List Y9s) : Option (List Y9w) := (chk (decide (0 ≤ (p0.length : Int) ∧ (p0.length : Int) * 56 ≤ 140737488355328))).bind fun u2 => (iter (fun z26 => Z19 p0 z26.1 z26.2) big ((List.replicate (Int.toNat (p0.length : Int)) (Y9w.mk 0 [] [])), 0)).bind fun y27 => Z18 y27
theorem Z1b (p0 : List Y9s) (r : List Y9w) (h : Z1a p0 = some r) : Ok Tryz.prog 174 [cM Ya6 3 p0] [] (fun c qs => ∃ (v25 : Value), c = cV v25 ∧ qs = [Obj.deep v25 25 Yac Yad 3 r]) := by
 refine Ok.of_body (rs := [.tmp 2]) Tryz.func174 rfl rfl rfl rfl rfl fun X => ?_
 unfold Z1a at h
 refine zw ?_
 refine ob' h fun u2 c1 h => ?_
 refine Ops.h (ns := []) rfl rfl (Y6k (k := Yac) (ob := Yad) (z := (Y9w.mk 0 [] [])) (u0 := (s0, s0)) Yck Ycd (Y4e rfl rfl) (fun _ _ => (Own.none_cons Y6i (Own.none_cons Y6i Own.none_nil))) rfl rfl (Y49 c1).1 (Y49 c1).2 (Y4a (by decide) c1) rfl) ?_
 rintro _ _ ⟨b3, rfl, rfl⟩
 refine Ops.v rfl (Ys rfl rfl) ?_
 refine Ops.nil ?_
 refine AW.seq ?_
 refine AW.cut (τ := List Y9w) (fun l24 => ⟨[(3, cV (sn b3 (p0.length : Int)))], [Obj.deep (sn b3 (p0.length : Int)) 25 Yac Yad 3 l24]⟩) (fun l24 => Z18 l24 = some r) ?_ ?_
 ·
  refine zw ?_
  refine ob' h fun o28 g29 q30 => ?_
  refine AW.loop (τ := List Y9w × Int) (x := ((List.replicate (Int.toNat (p0.length : Int)) (Y9w.mk 0 [] [])), 0)) (fun (l13, x14) => ⟨[(0, cM Ya6 3 p0), (3, cV (sn b3 (p0.length : Int))), (4, cI x14)], [Obj.deep (sn b3 (p0.length : Int)) 25 Yac Yad 3 l13]⟩) (fun k (l13, x14) => iter (fun z26 => Z19 p0 z26.1 z26.2) k (l13, x14) = some o28) g29 (Y25.both (ns := [0]) rfl rfl) ?_
  rintro k ⟨l13, x14⟩ i32
  refine Y4d (show iter (fun z26 => Z19 p0 z26.1 z26.2) k (l13, x14) = some o28 from i32) fun k31 y33 hlt_k31 h h34 => ?_
  replace h : Z19 p0 l13 x14 = some y33 := h
  unfold Z19 at h
  refine zw ?_
  refine cnd h (fun hb15 h => ?_) fun hb15 h => ?_
  ·
   refine AW.ct hb15 rfl ?_
   refine zw ?_
   refine oi h fun e16 g17 h => ?_
   refine zw ?_
   refine ob' h fun r18 g19 h => ?_
   refine Ops.h (ns := []) rfl rfl (Y27 ((Z17 _).h _ g19) rfl rfl) ?_
   rintro _ _ ⟨_, ⟨v20, v21, rfl, rfl⟩, rfl⟩
   refine ob' h fun e22 g23 h => ?_
   refine Ops.v rfl (Y6c (p := 2) Yco.h rfl rfl rfl g23 rfl) ?_
   refine Ops.hd (ns := [2, 0, 0]) rfl rfl (Y6g (e' := r18) (u' := (v20, v21)) Ycj.h rfl rfl rfl (Y2f g23).2.2 (fun _ => rfl) rfl rfl) ?_
   refine zw ?_
   obtain rfl := Wj h
   exact ⟨k31, ((List.set l13 (Int.toNat x14) r18), (IntKind.i64.wrap (x14 + 1))), hlt_k31, h34, Y25.both (ns := [0]) rfl rfl⟩
  refine AW.cf hb15 rfl ?_
  refine AW.exit ?_
  obtain rfl := Wj h
  obtain rfl := Wj h34
  replace h := q30
  exact ⟨l13, h, Y25.both (ns := [0]) rfl rfl⟩
 intro l24 h
 replace h : Z18 l24 = some r := h
 unfold Z18 at h
 refine zw ?_
 refine AW.ret ?_
 rw [← Wj h]
 exact finI ⟨[cV (sn b3 (p0.length : Int))], _, Y25.refl _, (.cons (.tmp rfl) .nil), [0], _, _, rfl, ⟨(sn b3 (p0.length : Int)), rfl, rfl⟩⟩
instance Z1b' (p0 : List Y9s) : Sp Tryz.prog 174 [cM Ya6 3 p0] (Z1a p0) (fun r => cM Yab 3 r) := ⟨fun r h => Ok.freeze (Z1b p0 r h) (by rintro c qs ⟨v25, rfl, rfl⟩; exact (Frz.deep Ycl))⟩
instance Z1c (p0 : List Y9s) : SpO Tryz.prog 174 (Z1a p0) (.d [cM Ya6 3 p0] [] fun r => .x fun (v25 : Value) => .d (cV v25) [Obj.deep v25 25 Yac Yad 3 r]) := ⟨fun r h => Z1b p0 r h⟩

def Z1d (p0 : Y9t) : Option Y9t := some p0
instance Z1e (p0 : Y9t) : Sp Tryz.prog 286 [C.agg [cI p0.room, cI p0.id]] (Z1d p0) (fun r => C.agg [cI r.room, cI r.id]) := Sp.of (so Tryz.func286 rfl rfl fun r X h => gh .z)

def Z1f (l20 : List Y9t) : Option (List Y9t) := some l20
def Z1g (p0 : List Y9t) (l11 : List Y9t) (x12 : Int) : Option ((List Y9t × Int) ⊕ ((List Y9t))) := cond (decide (x12 < (p0.length : Int))) ((getI p0 x12).bind fun e14 => (Z1d e14).bind fun r16 => (getI l11 x12).bind fun e18 => some (.inl ((List.set l11 (Int.toNat x12) r16), (IntKind.i64.wrap (x12 + 1))))) (some (.inr l11))
def Z1h (p0 : List Y9t) : Option (List Y9t) := (chk (decide (0 ≤ (p0.length : Int) ∧ (p0.length : Int) * 16 ≤ 140737488355328))).bind fun u2 => (iter (fun z22 => Z1g p0 z22.1 z22.2) big ((List.replicate (Int.toNat (p0.length : Int)) (Y9t.mk 0 0)), 0)).bind fun y23 => Z1f y23
instance Z1i (p0 : List Y9t) : SpO Tryz.prog 175 (Z1h p0) (.d [cM Ya7 2 p0] [] fun r => .x fun (v21 : Value) => .d (cV v21) [oA v21 187 Ya7 2 r]) := ⟨so Tryz.func175 rfl rfl fun r X h => gh (.q 2 (.a 0 fun w0 => .c1 (fun l20 => .d [] [oA w0 187 Ya7 2 l20]) [3] [] (.A 0 fun w0 => .l2 (fun l11 x12 => .d [(4, cI x12)] [oA w0 187 Ya7 2 l11]) [0,3] [] .z) .z))⟩
instance Z1i' (p0 : List Y9t) : Sp Tryz.prog 175 [cM Ya7 2 p0] (Z1h p0) (fun r => cM Ya7 2 r) := ⟨fun r h => Ok.freeze ((Z1i p0).h r h) (by rintro c qs ⟨v21, rfl, rfl⟩; exact Frz.arr)⟩

def Z1j (p0 : THub) : Option Y9x := (Z1a p0.rooms).bind fun r4 => (Z1h p0.stream).bind fun r8 => some (Y9x.mk r4 r8)
instance Z1k (p0 : THub) : SpO Tryz.prog 55 (Z1j p0) (.d [C.agg [cM Ya6 3 p0.rooms, cM Ya7 2 p0.stream]] [] fun r => .x fun (v12 : Value) => .x fun (v13 : Value) => .d (C.agg [cV v12, cV v13]) [Obj.deep v12 25 Yac Yad 3 r.rooms, oA v13 187 Ya7 2 r.stream]) := ⟨so Tryz.func55 rfl rfl fun r X h => gh (.k (.k .z))⟩
instance Z1k' (p0 : THub) : Sp Tryz.prog 55 [C.agg [cM Ya6 3 p0.rooms, cM Ya7 2 p0.stream]] (Z1j p0) (fun r => C.agg [cM Yab 3 r.rooms, cM Ya7 2 r.stream]) := ⟨fun r h => Ok.freeze ((Z1k p0).h r h) (by rintro c qs ⟨v12, v13, rfl, rfl⟩; exact Frz.agg (FrzL.cons (os := [_]) ((Frz.deep Ycl)) (FrzL.cons (os := [_]) (Frz.arr) (FrzL.nil))))⟩

def Z1l (l24 : List Y9x) : Option (List Y9x) := some l24
def Z1m (p0 : List THub) (l13 : List Y9x) (x14 : Int) : Option ((List Y9x × Int) ⊕ ((List Y9x))) := cond (decide (x14 < (p0.length : Int))) ((getI p0 x14).bind fun e16 => (Z1j e16).bind fun r18 => (getI l13 x14).bind fun e22 => some (.inl ((List.set l13 (Int.toNat x14) r18), (IntKind.i64.wrap (x14 + 1))))) (some (.inr l13))
def Z1n (p0 : List THub) : Option (List Y9x) := (chk (decide (0 ≤ (p0.length : Int) ∧ (p0.length : Int) * 48 ≤ 140737488355328))).bind fun u2 => (iter (fun z26 => Z1m p0 z26.1 z26.2) big ((List.replicate (Int.toNat (p0.length : Int)) (Y9x.mk [] [])), 0)).bind fun y27 => Z1l y27
theorem Z1o (p0 : List THub) (r : List Y9x) (h : Z1n p0 = some r) : Ok Tryz.prog 158 [cM kHub 2 p0] [] (fun c qs => ∃ (v25 : Value), c = cV v25 ∧ qs = [Obj.deep v25 83 Yaf Yag 2 r]) := by
 refine Ok.of_body (rs := [.tmp 2]) Tryz.func158 rfl rfl rfl rfl rfl fun X => ?_
 unfold Z1n at h
 refine zw ?_
 refine ob' h fun u2 c1 h => ?_
 refine Ops.h (ns := []) rfl rfl (Y6k (k := Yaf) (ob := Yag) (z := (Y9x.mk [] [])) (u0 := (s0, s0)) Yd4 Ycy (Y4e rfl rfl) (fun _ _ => (Own.none_cons Y6i (Own.none_cons Y6h Own.none_nil))) rfl rfl (Y49 c1).1 (Y49 c1).2 (Y4a (by decide) c1) rfl) ?_
 rintro _ _ ⟨b3, rfl, rfl⟩
 refine Ops.v rfl (Ys rfl rfl) ?_
 refine Ops.nil ?_
 refine AW.seq ?_
 refine AW.cut (τ := List Y9x) (fun l24 => ⟨[(3, cV (sn b3 (p0.length : Int)))], [Obj.deep (sn b3 (p0.length : Int)) 83 Yaf Yag 2 l24]⟩) (fun l24 => Z1l l24 = some r) ?_ ?_
 ·
  refine zw ?_
  refine ob' h fun o28 g29 q30 => ?_
  refine AW.loop (τ := List Y9x × Int) (x := ((List.replicate (Int.toNat (p0.length : Int)) (Y9x.mk [] [])), 0)) (fun (l13, x14) => ⟨[(0, cM kHub 2 p0), (3, cV (sn b3 (p0.length : Int))), (4, cI x14)], [Obj.deep (sn b3 (p0.length : Int)) 83 Yaf Yag 2 l13]⟩) (fun k (l13, x14) => iter (fun z26 => Z1m p0 z26.1 z26.2) k (l13, x14) = some o28) g29 (Y25.both (ns := [0]) rfl rfl) ?_
  rintro k ⟨l13, x14⟩ i32
  refine Y4d (show iter (fun z26 => Z1m p0 z26.1 z26.2) k (l13, x14) = some o28 from i32) fun k31 y33 hlt_k31 h h34 => ?_
  replace h : Z1m p0 l13 x14 = some y33 := h
  unfold Z1m at h
  refine zw ?_
  refine cnd h (fun hb15 h => ?_) fun hb15 h => ?_
  ·
   refine AW.ct hb15 rfl ?_
   refine zw ?_
   refine oi h fun e16 g17 h => ?_
   refine zw ?_
   refine ob' h fun r18 g19 h => ?_
   refine Ops.h (ns := []) rfl rfl (Y27 ((Z1k _).h _ g19) rfl rfl) ?_
   rintro _ _ ⟨_, ⟨v20, v21, rfl, rfl⟩, rfl⟩
   refine ob' h fun e22 g23 h => ?_
   refine Ops.v rfl (Y6c (p := 2) Yd9.h rfl rfl rfl g23 rfl) ?_
   refine Ops.hd (ns := [2, 0, 0]) rfl rfl (Y6g (e' := r18) (u' := (v20, v21)) Yd3.h rfl rfl rfl (Y2f g23).2.2 (fun _ => rfl) rfl rfl) ?_
   refine zw ?_
   obtain rfl := Wj h
   exact ⟨k31, ((List.set l13 (Int.toNat x14) r18), (IntKind.i64.wrap (x14 + 1))), hlt_k31, h34, Y25.both (ns := [0]) rfl rfl⟩
  refine AW.cf hb15 rfl ?_
  refine AW.exit ?_
  obtain rfl := Wj h
  obtain rfl := Wj h34
  replace h := q30
  exact ⟨l13, h, Y25.both (ns := [0]) rfl rfl⟩
 intro l24 h
 replace h : Z1l l24 = some r := h
 unfold Z1l at h
 refine zw ?_
 refine AW.ret ?_
 rw [← Wj h]
 exact finI ⟨[cV (sn b3 (p0.length : Int))], _, Y25.refl _, (.cons (.tmp rfl) .nil), [0], _, _, rfl, ⟨(sn b3 (p0.length : Int)), rfl, rfl⟩⟩
instance Z1o' (p0 : List THub) : Sp Tryz.prog 158 [cM kHub 2 p0] (Z1n p0) (fun r => cM Yae 2 r) := ⟨fun r h => Ok.freeze (Z1o p0 r h) (by rintro c qs ⟨v25, rfl, rfl⟩; exact (Frz.deep Yd6))⟩
instance Z1p (p0 : List THub) : SpO Tryz.prog 158 (Z1n p0) (.d [cM kHub 2 p0] [] fun r => .x fun (v25 : Value) => .d (cV v25) [Obj.deep v25 83 Yaf Yag 2 r]) := ⟨fun r h => Z1o p0 r h⟩

def Z1q (p0 : Y9u) : Option Y9u := some p0
instance Z1r (p0 : Y9u) : Sp Tryz.prog 273 [C.agg [cI p0.kind, cI p0.from_, cI p0.to_, cI p0.room, C.str p0.text]] (Z1q p0) (fun r => C.agg [cI r.kind, cI r.from_, cI r.to_, cI r.room, C.str r.text]) := Sp.of (so Tryz.func273 rfl rfl fun r X h => gh .z)

def Z1s (l20 : List Y9u) : Option (List Y9u) := some l20
def Z1t (p0 : List Y9u) (l11 : List Y9u) (x12 : Int) : Option ((List Y9u × Int) ⊕ ((List Y9u))) := cond (decide (x12 < (p0.length : Int))) ((getI p0 x12).bind fun e14 => (Z1q e14).bind fun r16 => (getI l11 x12).bind fun e18 => some (.inl ((List.set l11 (Int.toNat x12) r16), (IntKind.i64.wrap (x12 + 1))))) (some (.inr l11))
def Z1u (p0 : List Y9u) : Option (List Y9u) := (chk (decide (0 ≤ (p0.length : Int) ∧ (p0.length : Int) * 48 ≤ 140737488355328))).bind fun u2 => (iter (fun z22 => Z1t p0 z22.1 z22.2) big ((List.replicate (Int.toNat (p0.length : Int)) (Y9u.mk 0 0 0 0 ByteArray.empty)), 0)).bind fun y23 => Z1s y23
instance Z1v (p0 : List Y9u) : SpO Tryz.prog 159 (Z1u p0) (.d [cM Ya8 5 p0] [] fun r => .x fun (v21 : Value) => .d (cV v21) [oA v21 167 Ya8 5 r]) := ⟨so Tryz.func159 rfl rfl fun r X h => gh (.q 2 (.a 0 fun w0 => .c1 (fun l20 => .d [] [oA w0 167 Ya8 5 l20]) [3] [] (.A 0 fun w0 => .l2 (fun l11 x12 => .d [(4, cI x12)] [oA w0 167 Ya8 5 l11]) [0,3] [] .z) .z))⟩
instance Z1v' (p0 : List Y9u) : Sp Tryz.prog 159 [cM Ya8 5 p0] (Z1u p0) (fun r => cM Ya8 5 r) := ⟨fun r h => Ok.freeze ((Z1v p0).h r h) (by rintro c qs ⟨v21, rfl, rfl⟩; exact Frz.arr)⟩

def Z1w (p0 : Y9v) : Option Y9y := (Z1n p0.hubs).bind fun r4 => (Z1u p0.letters).bind fun r8 => some (Y9y.mk r4 r8)
instance Z1x (p0 : Y9v) : SpO Tryz.prog 46 (Z1w p0) (.d [C.agg [cM kHub 2 p0.hubs, cM Ya8 5 p0.letters]] [] fun r => .x fun (v12 : Value) => .x fun (v13 : Value) => .d (C.agg [cV v12, cV v13]) [Obj.deep v12 83 Yaf Yag 2 r.hubs, oA v13 167 Ya8 5 r.letters]) := ⟨so Tryz.func46 rfl rfl fun r X h => gh (.k (.k .z))⟩
instance Z1x' (p0 : Y9v) : Sp Tryz.prog 46 [C.agg [cM kHub 2 p0.hubs, cM Ya8 5 p0.letters]] (Z1w p0) (fun r => C.agg [cM Yae 2 r.hubs, cM Ya8 5 r.letters]) := ⟨fun r h => Ok.freeze ((Z1x p0).h r h) (by rintro c qs ⟨v12, v13, rfl, rfl⟩; exact Frz.agg (FrzL.cons (os := [_]) ((Frz.deep Yd6)) (FrzL.cons (os := [_]) (Frz.arr) (FrzL.nil))))⟩

def Z1y (x2 : Bool) : Option Bool := some x2
def Z1z (p0 : Int) (p1 : Int) (p2 : Int) : Option Bool := cond (decide (p0 ≥ p1)) (Z1y (decide (p0 ≤ p2))) (Z1y false)
instance Z20 (p0 : Int) (p1 : Int) (p2 : Int) : Sp Tryz.prog 213 [cI p0, cI p1, cI p2] (Z1z p0 p1 p2) (fun r => C.bool r) := Sp.of (so Tryz.func213 rfl rfl fun r X h => gh (.q 1 (.c1 (fun x2 => .d [(6, C.bool x2)] []) [] [] .z .z)))

def Z21 (p0 : Int) : Option Bool := (Z1z p0 1 1000000).bind fun r1 => some r1
instance Z22 (p0 : Int) : Sp Tryz.prog 263 [cI p0] (Z21 p0) (fun r => C.bool r) := Sp.of (so Tryz.func263 rfl rfl fun r X h => gh .z)

def Z23 (p0 : Int) : Option Bool := (Z1z p0 1 6).bind fun r1 => some r1
instance Z24 (p0 : Int) : Sp Tryz.prog 145 [cI p0] (Z23 p0) (fun r => C.bool r) := Sp.of (so Tryz.func145 rfl rfl fun r X h => gh .z)

def Z25 (p0 : Int) : Option Bool := (Z1z p0 0 1000000).bind fun r1 => some r1
instance Z26 (p0 : Int) : Sp Tryz.prog 264 [cI p0] (Z25 p0) (fun r => C.bool r) := Sp.of (so Tryz.func264 rfl rfl fun r X h => gh .z)

def Z27 : Option Bool := some true
def Z28 (x14 : Int) (x25 : Bool) : Option (Int ⊕ (Bool ⊕ Unit)) := cond x25 (some (.inr (.inl false))) (some (.inl (IntKind.i64.wrap (x14 + 1))))
def Z29 (p0 : List Int) (p1 : Int) (x14 : Int) : Option (Int ⊕ (Bool ⊕ Unit)) := cond (decide (x14 < (p0.length : Int))) ((getI p0 x14).bind fun e16 => (Z21 e16).bind fun r18 => cond r18 (cond (e16 == p1) (Z28 x14 true) (cond (decide (x14 > 0)) ((getI p0 (IntKind.i64.wrap (x14 - 1))).bind fun e23 => Z28 x14 (decide (e23 ≥ e16))) (Z28 x14 false))) (Z28 x14 true)) (some (.inr (.inr ())))
def Z2a (p0 : List Int) (p1 : Int) : Option Bool := cond (decide ((p0.length : Int) > 4)) (some false) ((iter (Z29 p0 p1) big 0).bind (fun z28 => match z28 with | .inl y27 => some y27 | .inr () => Z27))
instance Z2b (p0 : List Int) (p1 : Int) : Sp Tryz.prog 265 [cM kI64 1 p0, cI p1] (Z2a p0 p1) (fun r => C.bool r) := Sp.of (so Tryz.func265 rfl rfl fun r X h => gh (.b .z (.c0 (.d [] []) [] [] (.l1 (fun x14 => .d [(5, cI x14)] []) [0,1] [] (.b (.q 1 (.c1 (fun x25 => .d [(44, C.bool x25)] []) [0,1,5] [] (.r [] [3,10,22,26] [] [0,4,8,13,18,20,24,28,32,36,41,44,48,52,56,60,64,68,72,76,80,84,89,92,96,100,105,108,112,116] .z) .z)) .z)) .z)))

def Z2c (x5 : Bool) : Option Bool := some x5
def Z2d (x13 : Bool) : Option Bool := some x13
def Z2e (x21 : Bool) : Option Bool := some x21
def Z2f (x25 : Bool) : Option Bool := some x25
def Z2g (x31 : Bool) : Option Bool := some x31
def Z2h (x37 : Bool) : Option Bool := some x37
def Z2i (x42 : Bool) : Option Bool := some x42
def Z2j (x48 : Bool) : Option Bool := some x48
def Z2k (p0 : Y9r) : Option Bool := cond (p0.kind == 1) (cond (p0.key == 0) (cond (p0.n == 0) (Z2c (p0.text.toList == ByteArray.empty.toList)) (Z2c false)) (Z2c false)) (cond (p0.kind == 2) ((Z23 p0.key).bind fun r7 => cond r7 ((Z1z p0.n 1 4).bind fun r10 => cond r10 (Z2d (p0.text.toList == ByteArray.empty.toList)) (Z2d false)) (Z2d false)) (cond (p0.kind == 3) ((Z23 p0.key).bind fun r15 => cond r15 ((Z1z p0.n 0 100).bind fun r18 => cond r18 (Z2e (p0.text.toList == ByteArray.empty.toList)) (Z2e false)) (Z2e false)) (cond (p0.kind == 4) (cond (p0.key == 0) (cond (p0.n == 0) (Z2f (decide ((p0.text.size : Int) ≤ 30))) (Z2f false)) (Z2f false)) (cond (p0.kind == 5) (cond (p0.key == 0) ((Z1z p0.n 1 2).bind fun r28 => cond r28 (Z2g (p0.text.toList == ByteArray.empty.toList)) (Z2g false)) (Z2g false)) (cond (p0.kind == 6) (cond (p0.key == 0) ((Z1z p0.n 1 3).bind fun r34 => cond r34 (Z2h (p0.text.toList == ByteArray.empty.toList)) (Z2h false)) (Z2h false)) (cond (p0.kind == 7) (cond (p0.key == 0) (cond (p0.n == 0) (cond (decide ((p0.text.size : Int) ≥ 1)) (Z2i (decide ((p0.text.size : Int) ≤ 30))) (Z2i false)) (Z2i false)) (Z2i false)) (cond (p0.kind == 8) ((Z21 p0.key).bind fun r44 => cond r44 (cond (p0.n == 0) (Z2j (p0.text.toList == ByteArray.empty.toList)) (Z2j false)) (Z2j false)) (some false))))))))
instance Z2l (p0 : Y9r) : Sp Tryz.prog 266 [C.agg [cI p0.id, cI p0.room, cI p0.author, cI p0.kind, cI p0.key, cI p0.n, C.str p0.text, cM kI64 1 p0.prev, cI p0.time]] (Z2k p0) (fun r => C.bool r) := Sp.of (so Tryz.func266 rfl rfl fun r X h => gh (.r [0] [1,4,7] [] [0,5,8,12,17,20,24,29,32,36,40,44] (.b (.c1 (fun x5 => .d [(2, C.bool x5)] []) [] [] .z .z) (.b (.c1 (fun x13 => .d [(2, C.bool x13)] []) [] [] .z .z) (.b (.c1 (fun x21 => .d [(2, C.bool x21)] []) [] [] .z .z) (.b (.c1 (fun x25 => .d [(2, C.bool x25)] []) [] [] .z .z) (.b (.c1 (fun x31 => .d [(2, C.bool x31)] []) [] [] .z .z) (.b (.c1 (fun x37 => .d [(2, C.bool x37)] []) [] [] .z .z) (.b (.c1 (fun x42 => .d [(2, C.bool x42)] []) [] [] .z .z) (.b (.c1 (fun x48 => .d [(2, C.bool x48)] []) [] [] .z .z) .z))))))))))

def Z2m (x20 : Bool) : Option Bool := some x20
def Z2n (p0 : Y9r) : Option Bool := (Z21 p0.id).bind fun r2 => cond r2 ((Z1z p0.room 1 3).bind fun r5 => cond r5 ((Z23 p0.author).bind fun r8 => cond r8 ((Z25 p0.time).bind fun r11 => cond r11 ((Z2a p0.prev p0.id).bind fun r14 => cond r14 (cond ((p0.kind == 1) == ((p0.prev.length : Int) == 0)) ((Z2k p0).bind fun r18 => Z2m r18) (Z2m false)) (Z2m false)) (Z2m false)) (Z2m false)) (Z2m false)) (Z2m false)
instance Z2o (p0 : Y9r) : Sp Tryz.prog 148 [C.agg [cI p0.id, cI p0.room, cI p0.author, cI p0.kind, cI p0.key, cI p0.n, C.str p0.text, cM kI64 1 p0.prev, cI p0.time]] (Z2n p0) (fun r => C.bool r) := Sp.of (so Tryz.func148 rfl rfl fun r X h => gh (.q 1 (.c1 (fun x20 => .d [(2, C.bool x20)] []) [] [] .z .z)))

def Z2p : Option Bool := some true
def Z2q (x14 : Int) (x25 : Bool) : Option (Int ⊕ (Bool ⊕ Unit)) := cond x25 (some (.inr (.inl false))) (some (.inl (IntKind.i64.wrap (x14 + 1))))
def Z2r (p0 : List Y9r) (p1 : Int) (x14 : Int) : Option (Int ⊕ (Bool ⊕ Unit)) := cond (decide (x14 < (p0.length : Int))) ((getI p0 x14).bind fun e16 => (Z2n e16).bind fun r18 => cond r18 (cond (e16.room != p1) (Z2q x14 true) (cond (decide (x14 > 0)) ((getI p0 (IntKind.i64.wrap (x14 - 1))).bind fun e23 => Z2q x14 (decide (e23.id ≥ e16.id))) (Z2q x14 false))) (Z2q x14 true)) (some (.inr (.inr ())))
def Z2s (p0 : List Y9r) (p1 : Int) (p2 : Int) : Option Bool := cond (decide ((p0.length : Int) > p2)) (some false) ((iter (Z2r p0 p1) big 0).bind (fun z28 => match z28 with | .inl y27 => some y27 | .inr () => Z2p))
instance Z2t (p0 : List Y9r) (p1 : Int) (p2 : Int) : Sp Tryz.prog 246 [cM Ya5 9 p0, cI p1, cI p2] (Z2s p0 p1 p2) (fun r => C.bool r) := Sp.of (so Tryz.func246 rfl rfl fun r X h => gh (.b .z (.c0 (.d [] []) [] [] (.l1 (fun x14 => .d [(7, cI x14)] []) [0,1] [] (.b (.q 1 (.c1 (fun x25 => .d [(50, C.bool x25)] []) [0,1,7] [] (.r [] [3,11,24,29] [] [0,4,8,13,18,20,24,28,32,36,40,45,48,52,56,60,64,68,72,76,80,84,88,92,97,100,104,108,112,117,120,124,128] .z) .z)) .z)) .z)))

def Z2u : Option Int := some (-1)
def Z2v (p0 : List Y9r) (p1 : Int) (x5 : Int) : Option (Int ⊕ (Int ⊕ Unit)) := cond (decide (x5 < (p0.length : Int))) ((getI p0 x5).bind fun e7 => cond (e7.id == p1) (some (.inr (.inl x5))) (some (.inl (IntKind.i64.wrap (x5 + 1))))) (some (.inr (.inr ())))
def Z2w (p0 : List Y9r) (p1 : Int) : Option Int := (iter (Z2v p0 p1) big 0).bind (fun z11 => match z11 with | .inl y10 => some y10 | .inr () => Z2u)
instance Z2x (p0 : List Y9r) (p1 : Int) : Sp Tryz.prog 130 [cM Ya5 9 p0, cI p1] (Z2w p0 p1) (fun r => cI r) := Sp.of (so Tryz.func130 rfl rfl fun r X h => gh (.q 1 (.c0 (.d [] []) [] [] (.l1 (fun x5 => .d [(5, cI x5)] []) [0,1] [] .z) .z)))

def Z2y : Option Bool := some true
def Z2z (p0 : List Y9r) (p1 : Y9r) (x8 : Int) : Option (Int ⊕ (Bool ⊕ Unit)) := cond (decide (x8 < (p1.prev.length : Int))) ((getI p1.prev x8).bind fun e10 => (Z2w p0 e10).bind fun r12 => cond (decide (r12 < 0)) (some (.inr (.inl false))) (some (.inl (IntKind.i64.wrap (x8 + 1))))) (some (.inr (.inr ())))
def Z30 (p0 : List Y9r) (p1 : Y9r) : Option Bool := (iter (Z2z p0 p1) big 0).bind (fun z16 => match z16 with | .inl y15 => some y15 | .inr () => Z2y)
instance Z31 (p0 : List Y9r) (p1 : Y9r) : Sp Tryz.prog 247 [cM Ya5 9 p0, C.agg [cI p1.id, cI p1.room, cI p1.author, cI p1.kind, cI p1.key, cI p1.n, C.str p1.text, cM kI64 1 p1.prev, cI p1.time]] (Z30 p0 p1) (fun r => C.bool r) := Sp.of (so Tryz.func247 rfl rfl fun r X h => gh (.q 1 (.c0 (.d [] []) [] [] (.l1 (fun x8 => .d [(5, cI x8)] []) [0,3] [0] .z) .z)))

def Z32 (l161 : List Int) : Option (List Int) := some l161
def Z33 (x82 : Int) (l160 : List Int) : Option ((List Int × Int) ⊕ ((List Int))) := some (.inl (l160, (IntKind.i64.wrap (x82 + 1))))
def Z34 (x122 : Int) (l159 : List Int) : Option ((List Int × Int) ⊕ ((List Int))) := some (.inl (l159, (IntKind.i64.wrap (x122 + 1))))
def Z35 (l121 : List Int) (x122 : Int) (x156 : Int) (x157 : Bool) : Option ((List Int × Int) ⊕ ((List Int))) := cond x157 (Z34 x122 (List.set l121 (Int.toNat x122) (IntKind.i64.wrap (x156 + 1)))) (Z34 x122 l121)
def Z36 (x141 : Int) (x154 : Int) (x155 : Bool) : Option ((Int × Bool × Int) ⊕ ((Int × Bool))) := some (.inl (x154, x155, (IntKind.i64.wrap (x141 + 1))))
def Z37 (x139 : Int) (x141 : Int) (e149 : Int) (x152 : Bool) : Option ((Int × Bool × Int) ⊕ ((Int × Bool))) := cond (decide (e149 > x139)) (Z36 x141 e149 x152) (Z36 x141 x139 x152)
def Z38 (p0 : List Y9r) (l121 : List Int) (x122 : Int) (x139 : Int) (x140 : Bool) (x141 : Int) : Option ((Int × Bool × Int) ⊕ ((Int × Bool))) := (getI p0 x122).bind fun e142 => cond (decide (x141 < (e142.prev.length : Int))) ((getI e142.prev x141).bind fun e145 => (Z2w p0 e145).bind fun r147 => (getI l121 r147).bind fun e149 => cond x140 (Z37 x139 x141 e149 (decide (e149 > 0))) (Z37 x139 x141 e149 false)) (some (.inr (x139, x140)))
def Z39 (p0 : List Y9r) (l121 : List Int) (x122 : Int) : Option ((List Int × Int) ⊕ ((List Int))) := cond (decide (x122 < (p0.length : Int))) ((getI l121 x122).bind fun e124 => cond (decide (e124 > 0)) (Z34 x122 l121) ((iter (fun z163 => Z38 p0 l121 x122 z163.1 z163.2.1 z163.2.2) big (0, true, 0)).bind fun (y164, y165) => Z35 l121 x122 y164 y165)) (some (.inr l121))
def Z3a (p0 : List Y9r) (l81 : List Int) (x82 : Int) : Option ((List Int × Int) ⊕ ((List Int))) := cond (decide (x82 < (p0.length : Int))) ((iter (fun z166 => Z39 p0 z166.1 z166.2) big (l81, 0)).bind fun y167 => Z33 x82 y167) (some (.inr l81))
def Z3b (p0 : List Y9r) : Option (List Int) := (chk (decide (0 ≤ (p0.length : Int) ∧ (p0.length : Int) * 8 ≤ 140737488355328))).bind fun u2 => (iter (fun z168 => Z3a p0 z168.1 z168.2) big ((List.replicate (Int.toNat (p0.length : Int)) 0), 0)).bind fun y169 => Z32 y169
instance Z3c (p0 : List Y9r) : SpO Tryz.prog 127 (Z3b p0) (.d [cM Ya5 9 p0] [] fun r => .x fun (v162 : Value) => .d (cV v162) [oA v162 2 kI64 1 r]) := ⟨so Tryz.func127 rfl rfl fun r X h => gh (.q 2 (.a 0 fun w0 => .c1 (fun l161 => .d [] [oA w0 2 kI64 1 l161]) [3] [] (.A 0 fun w0 => .l2 (fun l81 x82 => .d [(4, cI x82)] [oA w0 2 kI64 1 l81]) [0,3] [] (.b (.a 0 fun w0 => .c1 (fun l160 => .d [] [oA w0 2 kI64 1 l160]) [0,3,4] [] (.A 0 fun w0 => .l2 (fun l121 x122 => .d [(5, cI x122)] [oA w0 2 kI64 1 l121]) [0,3,4] [] (.b (.a 0 fun w0 => .c1 (fun l159 => .d [] [oA w0 2 kI64 1 l159]) [0,3,4,5] [] (.b .z (.q 2 (.c2 (fun x156 x157 => .d [(6, cI x156), (7, C.bool x157)] []) [0,3,4,5] [0] (.l3 (fun x139 x140 x141 => .d [(6, cI x139), (7, C.bool x140), (8, cI x141)] []) [0,3,4,5] [0] (.b (.c2 (fun x154 x155 => .d [(6, cI x154), (7, C.bool x155)] []) [0,3,4,5,8] [0] (.q 1 (.c1 (fun x152 => .d [(7, C.bool x152)] []) [0,3,4,5,6,8,9] [0] .z .z)) .z) .z)) .z))) .z) .z)) .z) .z)) .z))⟩
instance Z3c' (p0 : List Y9r) : Sp Tryz.prog 127 [cM Ya5 9 p0] (Z3b p0) (fun r => cM kI64 1 r) := ⟨fun r h => Ok.freeze ((Z3c p0).h r h) (by rintro c qs ⟨v162, rfl, rfl⟩; exact Frz.arr)⟩

def Z3d : Option Bool := some true
def Z3e (r46 : List Int) (x52 : Int) : Option (Int ⊕ (Bool ⊕ Unit)) := cond (decide (x52 < (r46.length : Int))) ((getI r46 x52).bind fun e54 => cond (e54 == 0) (some (.inr (.inl false))) (some (.inl (IntKind.i64.wrap (x52 + 1))))) (some (.inr (.inr ())))
def Z3f (p0 : Y9w) : Option Bool := (Z3b p0.events).bind fun r46 => (iter (Z3e r46) big 0).bind (fun z58 => match z58 with | .inl y57 => some y57 | .inr () => Z3d)
def Z3g (p0 : Y9w) (x39 : Int) : Option (Int ⊕ (Bool ⊕ Unit)) := cond (decide (x39 < (p0.parked.length : Int))) ((getI p0.parked x39).bind fun e41 => (Z30 p0.events e41).bind fun r43 => cond r43 (some (.inr (.inl false))) (some (.inl (IntKind.i64.wrap (x39 + 1))))) (some (.inr (.inr ())))
def Z3h (p0 : Y9w) : Option Bool := (iter (Z3g p0) big 0).bind (fun z60 => match z60 with | .inl y59 => some y59 | .inr () => Z3f p0)
def Z3i (x22 : Int) (x31 : Bool) : Option (Int ⊕ (Bool ⊕ Unit)) := cond x31 (some (.inr (.inl false))) (some (.inl (IntKind.i64.wrap (x22 + 1))))
def Z3j (p0 : Y9w) (x22 : Int) : Option (Int ⊕ (Bool ⊕ Unit)) := cond (decide (x22 < (p0.events.length : Int))) ((getI p0.events x22).bind fun e24 => (Z30 p0.events e24).bind fun r26 => cond r26 ((Z2w p0.parked e24.id).bind fun r29 => Z3i x22 (decide (r29 ≥ 0))) (Z3i x22 true)) (some (.inr (.inr ())))
def Z3k (p0 : Y9w) (x10 : Bool) : Option Bool := cond x10 (some false) ((iter (Z3j p0) big 0).bind (fun z62 => match z62 with | .inl y61 => some y61 | .inr () => Z3h p0))
def Z3l (p0 : Y9w) : Option Bool := (Z1z p0.room 1 3).bind fun r2 => cond r2 ((Z2s p0.events p0.room 60).bind fun r5 => cond r5 ((Z2s p0.parked p0.room 20).bind fun r8 => Z3k p0 (!r8)) (Z3k p0 true)) (Z3k p0 true)
instance Z3m (p0 : Y9w) : Sp Tryz.prog 124 [C.agg [cI p0.room, cM Ya5 9 p0.events, cM Ya5 9 p0.parked]] (Z3l p0) (fun r => C.bool r) := Sp.of (so Tryz.func124 rfl rfl fun r X h => gh (.q 2 (.c1 (fun x10 => .d [(26, C.bool x10)] []) [1] [0] .z (.b .z (.c0 (.d [] []) [1] [0] (.l1 (fun x22 => .d [(3, cI x22)] []) [1] [0] (.b (.q 1 (.c1 (fun x31 => .d [(54, C.bool x31)] []) [1,3] [0] (.r [0] [1,3,6,11,13,17] [] [0,5,8,13,16,20,25,30,32,36,40,45,48,53,56,60,64,69,74,76,80] .z) .z)) .z)) (.c0 (.d [] []) [1] [0] (.l1 (fun x39 => .d [(4, cI x39)] []) [1] [0] (.b (.r [0] [1,3,6] [] [0,5,8,13,16,20,25,30] .z) .z)) (.q 1 (.c0 (.d [] []) [] [] (.l1 (fun x52 => .d [(6, cI x52)] []) [5] [] .z) .z))))))))

def Z3n (l69 : List Int) : Option (List Int) := some l69
def Z3o (x37 : Int) (l67 : List Int) : Option ((List Int × Int) ⊕ ((List Int))) := some (.inl (l67, (IntKind.i64.wrap (x37 + 1))))
def Z3p (x53 : Int) (l65 : List Int) : Option ((List Int × Int) ⊕ ((List Int))) := some (.inl (l65, (IntKind.i64.wrap (x53 + 1))))
def Z3q (p0 : Y9w) (r2 : List Int) (x37 : Int) (l52 : List Int) (x53 : Int) : Option ((List Int × Int) ⊕ ((List Int))) := cond (decide (x53 < (p0.events.length : Int))) ((getI r2 x53).bind fun e55 => cond (e55 == x37) ((getI p0.events x53).bind fun e58 => (chk (decide ((l52.length + [e58.id].length) * 8 ≤ 140737488355328))).bind fun u62 => Z3p x53 (l52 ++ [e58.id])) (Z3p x53 l52)) (some (.inr l52))
def Z3r (p0 : Y9w) (r2 : List Int) (l36 : List Int) (x37 : Int) : Option ((List Int × Int) ⊕ ((List Int))) := cond (decide ((l36.length : Int) < (p0.events.length : Int))) ((iter (fun z71 => Z3q p0 r2 x37 z71.1 z71.2) big (l36, 0)).bind fun y72 => Z3o x37 y72) (some (.inr l36))
def Z3s (p0 : Y9w) : Option (List Int) := (Z3b p0.events).bind fun r2 => (iter (fun z73 => Z3r p0 r2 z73.1 z73.2) big (([] : List Int), 1)).bind fun y74 => Z3n y74
instance Z3t (p0 : Y9w) : SpO Tryz.prog 146 (Z3s p0) (.d [C.agg [cI p0.room, cM Ya5 9 p0.events, cM Ya5 9 p0.parked]] [] fun r => .x fun (v70 : Value) => .d (cV v70) [oA v70 2 kI64 1 r]) := ⟨so Tryz.func146 rfl rfl fun r X h => gh (.q 3 (.c1 (fun l69 => .x fun v68 => .d [(4, cV v68)] [oA v68 2 kI64 1 l69]) [] [] (.l2 (fun l36 x37 => .x fun v35 => .d [(4, cV v35), (5, cI x37)] [oA v35 2 kI64 1 l36]) [1,3] [1] (.b (.c1 (fun l67 => .x fun v66 => .d [(4, cV v66)] [oA v66 2 kI64 1 l67]) [1,3,5] [1] (.l2 (fun l52 x53 => .x fun v51 => .d [(4, cV v51), (6, cI x53)] [oA v51 2 kI64 1 l52]) [1,3,5] [1] (.b (.c1 (fun l65 => .x fun v64 => .d [(4, cV v64)] [oA v64 2 kI64 1 l65]) [1,3,5,6] [1] .z .z) .z)) .z) .z)) .z))⟩
instance Z3t' (p0 : Y9w) : Sp Tryz.prog 146 [C.agg [cI p0.room, cM Ya5 9 p0.events, cM Ya5 9 p0.parked]] (Z3s p0) (fun r => cM kI64 1 r) := ⟨fun r h => Ok.freeze ((Z3t p0).h r h) (by rintro c qs ⟨v70, rfl, rfl⟩; exact Frz.arr)⟩

def Z3u : Option Int := some 0
def Z3v (p0 : List Y9z) (x9 : Int) (x14 : Bool) : Option (Int ⊕ (Int ⊕ Unit)) := cond x14 ((getI p0 x9).bind fun e16 => some (.inr (.inl e16.id))) (some (.inl (IntKind.i64.wrap (x9 + 1))))
def Z3w (p0 : List Y9z) (p1 : Int) (p2 : Int) (x9 : Int) : Option (Int ⊕ (Int ⊕ Unit)) := cond (decide (x9 < (p0.length : Int))) ((getI p0 x9).bind fun e11 => cond (e11.kind == p1) (Z3v p0 x9 (e11.key == p2)) (Z3v p0 x9 false)) (some (.inr (.inr ())))
def Z3x (p0 : List Y9z) (p1 : Int) (p2 : Int) : Option Int := (iter (Z3w p0 p1 p2) big 0).bind (fun z19 => match z19 with | .inl y18 => some y18 | .inr () => Z3u)
instance Z3y (p0 : List Y9z) (p1 : Int) (p2 : Int) : Sp Tryz.prog 147 [cM Yah 3 p0, cI p1, cI p2] (Z3x p0 p1 p2) (fun r => cI r) := Sp.of (so Tryz.func147 rfl rfl fun r X h => gh (.q 1 (.c0 (.d [] []) [] [] (.l1 (fun x9 => .d [(7, cI x9)] []) [0,1,2] [] (.b (.q 1 (.c1 (fun x14 => .d [(29, C.bool x14)] []) [0,1,2,7] [] .z .z)) .z)) .z)))

def Z3z : Option Bool := some true
def Z40 (p0 : List (List Y9z)) (p1 : Y9z) (x8 : Int) : Option (Int ⊕ (Bool ⊕ Unit)) := cond (decide (x8 < (p0.length : Int))) ((getI p0 x8).bind fun e10 => (Z3x e10 p1.kind p1.key).bind fun r12 => cond (r12 != p1.id) (some (.inr (.inl false))) (some (.inl (IntKind.i64.wrap (x8 + 1))))) (some (.inr (.inr ())))
def Z41 (p0 : List (List Y9z)) (p1 : Y9z) : Option Bool := (iter (Z40 p0 p1) big 0).bind (fun z16 => match z16 with | .inl y15 => some y15 | .inr () => Z3z)
instance Z42 (p0 : List (List Y9z)) (p1 : Y9z) : Sp Tryz.prog 249 [cM Yai 1 p0, C.agg [cI p1.kind, cI p1.key, cI p1.id]] (Z41 p0 p1) (fun r => C.bool r) := Sp.of (so Tryz.func249 rfl rfl fun r X h => gh (.q 1 (.c0 (.d [] []) [] [] (.l1 (fun x8 => .d [(5, cI x8)] []) [0,3] [0] (.b (.r [0] [3,5,7,10] [] [0,4,8,13,16,21,24,29,36,41,34,44] .z) .z)) .z)))

def Z43 (l35 : List Y9z) : Option (List Y9z) := some l35
def Z44 (x19 : Int) (l33 : List Y9z) : Option ((List Y9z × Int) ⊕ ((List Y9z))) := some (.inl (l33, (IntKind.i64.wrap (x19 + 1))))
def Z45 (p0 : List Y9z) (l18 : List Y9z) (x19 : Int) (x24 : Bool) : Option ((List Y9z × Int) ⊕ ((List Y9z))) := cond x24 ((getI p0 x19).bind fun e26 => (chk (decide ((l18.length + [e26].length) * 24 ≤ 140737488355328))).bind fun u30 => Z44 x19 (l18 ++ [e26])) (Z44 x19 l18)
def Z46 (p0 : List Y9z) (p1 : Y9z) (l18 : List Y9z) (x19 : Int) : Option ((List Y9z × Int) ⊕ ((List Y9z))) := cond (decide (x19 < (p0.length : Int))) ((getI p0 x19).bind fun e21 => cond (e21.kind != p1.kind) (Z45 p0 l18 x19 true) (Z45 p0 l18 x19 (e21.key != p1.key))) (some (.inr l18))
def Z47 (p0 : List Y9z) (p1 : Y9z) : Option (List Y9z) := (iter (fun z37 => Z46 p0 p1 z37.1 z37.2) big (([] : List Y9z), 0)).bind fun y38 => Z43 y38
instance Z48 (p0 : List Y9z) (p1 : Y9z) : SpO Tryz.prog 332 (Z47 p0 p1) (.d [cM Yah 3 p0, C.agg [cI p1.kind, cI p1.key, cI p1.id]] [] fun r => .x fun (v36 : Value) => .d (cV v36) [oA v36 136 Yah 3 r]) := ⟨so Tryz.func332 rfl rfl fun r X h => gh (.q 2 (.c1 (fun l35 => .x fun v34 => .d [(5, cV v34)] [oA v34 136 Yah 3 l35]) [] [] (.l2 (fun l18 x19 => .x fun v17 => .d [(5, cV v17), (6, cI x19)] [oA v17 136 Yah 3 l18]) [0,3] [1] (.b (.c1 (fun l33 => .x fun v32 => .d [(5, cV v32)] [oA v32 136 Yah 3 l33]) [0,3,6] [1] (.c1 (fun x24 => .d [(31, C.bool x24)] []) [0,3,5,6] [1,0] (.r [0,0] [4,6,13,15] [] [0,4,8,12,17,20,25,28,32,36,40,44,48,53,56,61,64,68] .z) .z) .z) .z)) .z))⟩
instance Z48' (p0 : List Y9z) (p1 : Y9z) : Sp Tryz.prog 332 [cM Yah 3 p0, C.agg [cI p1.kind, cI p1.key, cI p1.id]] (Z47 p0 p1) (fun r => cM Yah 3 r) := ⟨fun r h => Ok.freeze ((Z48 p0 p1).h r h) (by rintro c qs ⟨v36, rfl, rfl⟩; exact Frz.arr)⟩

def Z49 (x5 : Bool) : Option Bool := some x5
def Z4a (p0 : Y9z) (p1 : Y9z) : Option Bool := cond (decide (p0.kind < p1.kind)) (Z49 true) (cond (p0.kind == p1.kind) (Z49 (decide (p0.key < p1.key))) (Z49 false))
instance Z4b (p0 : Y9z) (p1 : Y9z) : Sp Tryz.prog 333 [C.agg [cI p0.kind, cI p0.key, cI p0.id], C.agg [cI p1.kind, cI p1.key, cI p1.id]] (Z4a p0 p1) (fun r => C.bool r) := Sp.of (so Tryz.func333 rfl rfl fun r X h => gh (.q 1 (.c1 (fun x5 => .d [(4, C.bool x5)] []) [] [] .z .z)))

def Z4c (p1 : Y9z) (r2 : List Y9z) (x19 : Int) : Option (List Y9z) := (Y2d r2 0 x19).bind fun s21 => (chk (decide ((([] : List Y9z).length + s21.length) * 24 ≤ 140737488355328))).bind fun u24 => (chk (decide (((([] : List Y9z) ++ s21).length + [p1].length) * 24 ≤ 140737488355328))).bind fun u28 => (Y2d r2 x19 (r2.length : Int)).bind fun s30 => (chk (decide ((((([] : List Y9z) ++ s21) ++ [p1]).length + s30.length) * 24 ≤ 140737488355328))).bind fun u33 => some (((([] : List Y9z) ++ s21) ++ [p1]) ++ s30)
def Z4d (x11 : Int) (x17 : Bool) : Option (Int ⊕ (Int)) := cond x17 (some (.inl (IntKind.i64.wrap (x11 + 1)))) (some (.inr x11))
def Z4e (p1 : Y9z) (r2 : List Y9z) (x11 : Int) : Option (Int ⊕ (Int)) := cond (decide (x11 < (r2.length : Int))) ((getI r2 x11).bind fun e13 => (Z4a e13 p1).bind fun r15 => Z4d x11 r15) (Z4d x11 false)
def Z4f (p0 : List Y9z) (p1 : Y9z) : Option (List Y9z) := (Z47 p0 p1).bind fun r2 => (iter (Z4e p1 r2) big 0).bind fun y36 => Z4c p1 r2 y36
instance Z4g (p0 : List Y9z) (p1 : Y9z) : SpO Tryz.prog 250 (Z4f p0 p1) (.d [cM Yah 3 p0, C.agg [cI p1.kind, cI p1.key, cI p1.id]] [] fun r => .x fun (v35 : Value) => .d (cV v35) [oA v35 136 Yah 3 r]) := ⟨so Tryz.func250 rfl rfl fun r X h => gh (.q 3 (.c1 (fun x19 => .d [(6, cI x19)] []) [3,5] [0] (.l1 (fun x11 => .d [(6, cI x11)] []) [3,5] [0] (.q 1 (.c1 (fun x17 => .d [(22, C.bool x17)] []) [3,5,6] [0] (.r [0] [8,9] [] [0,4,8,12,16,20,24,28,33,37,42,44] .z) .z))) .z))⟩
instance Z4g' (p0 : List Y9z) (p1 : Y9z) : Sp Tryz.prog 250 [cM Yah 3 p0, C.agg [cI p1.kind, cI p1.key, cI p1.id]] (Z4f p0 p1) (fun r => cM Yah 3 r) := ⟨fun r h => Ok.freeze ((Z4g p0 p1).h r h) (by rintro c qs ⟨v35, rfl, rfl⟩; exact Frz.arr)⟩

def Z4h (p0 : List Int) (p1 : Int) (x12 : Int) (x16 : Bool) : Option (List Int) := cond x16 (some p0) ((Y2d p0 0 x12).bind fun s19 => (chk (decide ((([] : List Int).length + s19.length) * 8 ≤ 140737488355328))).bind fun u22 => (chk (decide (((([] : List Int) ++ s19).length + [p1].length) * 8 ≤ 140737488355328))).bind fun u26 => (Y2d p0 x12 (p0.length : Int)).bind fun s28 => (chk (decide ((((([] : List Int) ++ s19) ++ [p1]).length + s28.length) * 8 ≤ 140737488355328))).bind fun u31 => some (((([] : List Int) ++ s19) ++ [p1]) ++ s28))
def Z4i (p0 : List Int) (p1 : Int) (x12 : Int) : Option (List Int) := cond (decide (x12 < (p0.length : Int))) ((getI p0 x12).bind fun e14 => Z4h p0 p1 x12 (e14 == p1)) (Z4h p0 p1 x12 false)
def Z4j (x6 : Int) (x10 : Bool) : Option (Int ⊕ (Int)) := cond x10 (some (.inl (IntKind.i64.wrap (x6 + 1)))) (some (.inr x6))
def Z4k (p0 : List Int) (p1 : Int) (x6 : Int) : Option (Int ⊕ (Int)) := cond (decide (x6 < (p0.length : Int))) ((getI p0 x6).bind fun e8 => Z4j x6 (decide (e8 < p1))) (Z4j x6 false)
def Z4l (p0 : List Int) (p1 : Int) : Option (List Int) := (iter (Z4k p0 p1) big 0).bind fun y33 => Z4i p0 p1 y33
instance Z4m (p0 : List Int) (p1 : Int) : Sp Tryz.prog 251 [cM kI64 1 p0, cI p1] (Z4l p0 p1) (fun r => cM kI64 1 r) := Sp.of (so Tryz.func251 rfl rfl fun r X h => gh (.q 2 (.c1 (fun x12 => .d [(5, cI x12)] []) [0,1] [] (.l1 (fun x6 => .d [(5, cI x6)] []) [0,1] [] (.q 1 (.c1 (fun x10 => .d [(18, C.bool x10)] []) [0,1,5] [] .z .z))) (.q 1 (.c1 (fun x16 => .d [(32, C.bool x16)] []) [0,1,5] [] .z .z)))))

def Z4n (x6 : Bool) : Option Bool := some x6
def Z4o (p0 : Y9r) : Option Bool := cond (p0.kind == 1) (Z4n true) (cond (p0.kind == 3) (Z4n true) (cond (p0.kind == 5) (Z4n true) (cond (p0.kind == 2) (Z4n (p0.key != p0.author)) (Z4n false))))
instance Z4p (p0 : Y9r) : Sp Tryz.prog 334 [C.agg [cI p0.id, cI p0.room, cI p0.author, cI p0.kind, cI p0.key, cI p0.n, C.str p0.text, cM kI64 1 p0.prev, cI p0.time]] (Z4o p0) (fun r => C.bool r) := Sp.of (so Tryz.func334 rfl rfl fun r X h => gh (.q 1 (.c1 (fun x6 => .d [(2, C.bool x6)] []) [] [] .z .z)))

end Go.Proofs.YtmaefakalikkiaaGreat
