/- Printed by gen.py: plain functions for Go functions, and that the walks keep to them. -/
import Derived.Test.YtnoknphekhclcaaGreatBBH
import Derived.Test.YtnoknphekhclcaaGreatBSorts
import Derived.Test.YtnoknphekhclcaaGreatBX
import Derived.Test.YtnoknphekhclcaaGreatBL
import Derived.Test.YtnoknphekhclcaaGreatChecked
set_option autoImplicit false
set_option linter.unusedVariables false
set_option linter.unusedSimpArgs false
set_option maxHeartbeats 8000000
set_option maxRecDepth 100000
namespace Go.Proofs.YtnoknphekhclcaaGreat
open Go Go.Abs
attribute [local irreducible] AW Ops OpsD Y3z VoK HoK GhF UsC Go.Abs.Fin PkK LenT LenL Y9q BldK FzK FzLK
structure Yaa where
  id : Int
  room : Int
  author : Int
  kind : Int
  key : Int
  n : Int
  text : ByteArray
  prev : List Int
  time : Int
structure Yab where
  room : Int
  events : List Yaa
  parked : List Yaa
structure Yac where
  room : Int
  id : Int
structure THub where
  rooms : List Yab
  stream : List Yac
structure Yad where
  kind : Int
  from_ : Int
  to_ : Int
  room : Int
  text : ByteArray
structure Yae where
  hubs : List THub
  letters : List Yad
structure Yaf where
  room : Int
  events : List Yaa
  parked : List Yaa
structure Yag where
  rooms : List Yaf
  stream : List Yac
structure Yah where
  hubs : List Yag
  letters : List Yad
structure Yai where
  kind : Int
  key : Int
  id : Int
structure Yaj where
  depths : List Int
  ahead : List (List Yai)
  behind : List (List Yai)
  code : List Int
structure Yak where
  h : Yag
  rooms : List Yaj
  pos : List (List Int)
  now : List (List Yai)
structure Yal where
  peers : Yah
  id : Int
  code : Int
structure Yam where
  from_ : Int
  to_ : Int
structure Yan where
  graph : Yaf
  depth : List (Int × Int)
  before : List (Int × List Yai)
  after : List (Int × List Yai)
  refused : List (Int × Int)
structure Yao where
  hub : Yag
  rooms : List Yan
structure TNet where
  servers : List Yao
  letters : List Yad
def kI64 (x : Int) : List C := [cI x]
def Yap (x : Yaa) : List C := [cI x.id, cI x.room, cI x.author, cI x.kind, cI x.key, cI x.n, C.str x.text, cM kI64 1 x.prev, cI x.time]
def Yaq (x : Yab) : List C := [cI x.room, cM Yap 9 x.events, cM Yap 9 x.parked]
def Yar (x : Yac) : List C := [cI x.room, cI x.id]
def kHub (x : THub) : List C := [cM Yaq 3 x.rooms, cM Yar 2 x.stream]
def Yas (x : Yad) : List C := [cI x.kind, cI x.from_, cI x.to_, cI x.room, C.str x.text]
def Yat (x : Yaa) (u : Value) : List C := [cI x.id, cI x.room, cI x.author, cI x.kind, cI x.key, cI x.n, C.str x.text, cV u, cI x.time]
def Yau (x : Yaa) (u : Value) : List Abs.Obj := [oA u 2 kI64 1 x.prev]
def Yav (x : Yaf) : List C := [cI x.room, cM Yap 9 x.events, cM Yap 9 x.parked]
def Yaw (x : Yaf) (u : Value × Value) : List C := [cI x.room, cV u.1, cV u.2]
def Yax (x : Yaf) (u : Value × Value) : List Abs.Obj := [Obj.deep u.1 47 Yat Yau 9 x.events, Obj.deep u.2 47 Yat Yau 9 x.parked]
def Yay (x : Yag) : List C := [cM Yav 3 x.rooms, cM Yar 2 x.stream]
def Yaz (x : Yag) (u : Value × Value) : List C := [cV u.1, cV u.2]
def Yb0 (x : Yag) (u : Value × Value) : List Abs.Obj := [Obj.deep u.1 114 Yaw Yax 3 x.rooms, oA u.2 191 Yar 2 x.stream]
def Yb1 (x : Yai) : List C := [cI x.kind, cI x.key, cI x.id]
def Yb2 (x : List Yai) : List C := [cM Yb1 3 x]
def Yb3 (x : Bool) : List C := [C.bool x]
def Yb4 (x : Yaj) : List C := [cM kI64 1 x.depths, cM Yb2 1 x.ahead, cM Yb2 1 x.behind, cM kI64 1 x.code]
def Yb5 (x : Yaj) : List C := [C.ip [cM kI64 1 x.depths, cM Yb2 1 x.ahead, cM Yb2 1 x.behind, cM kI64 1 x.code]]
def Yb6 (x : List Int) : List C := [cM kI64 1 x]
def Yb7 (x : Yam) : List C := [cI x.from_, cI x.to_]
def kU8 (x : Int) : List C := [cV (.int .u8 x)]
abbrev Yb8 (x : Int) : C := cI x
abbrev Yb9 (x : List Yai) : C := cM Yb1 3 x
abbrev Yba (x : Bool) : C := C.bool x
def Ybb (x : Yan) : List C := [cI x.graph.room, cM Yap 9 x.graph.events, cM Yap 9 x.graph.parked, C.imap .i64 Yb8 x.depth, C.imap .i64 Yb9 x.before, C.imap .i64 Yb9 x.after, C.imap .i64 Yb8 x.refused]
def Ybc (x : Yan) : List C := [C.ip [cI x.graph.room, cM Yap 9 x.graph.events, cM Yap 9 x.graph.parked, C.imap .i64 Yb8 x.depth, C.imap .i64 Yb9 x.before, C.imap .i64 Yb9 x.after, C.imap .i64 Yb8 x.refused]]
def Ybd (x : Yao) : List C := [cM Yav 3 x.hub.rooms, cM Yar 2 x.hub.stream, cM Ybc 1 x.rooms]
def Ybe (x : Yao) : List C := [C.ip [cM Yav 3 x.hub.rooms, cM Yar 2 x.hub.stream, cM Ybc 1 x.rooms]]
def Ybf (x : Yah) : List C := [cM Yay 2 x.hubs, cM Yas 5 x.letters]
def Ybg (x : Yak) : List C := [cM Yav 3 x.h.rooms, cM Yar 2 x.h.stream, cM Yb5 1 x.rooms, cM Yb6 1 x.pos, cM Yb2 1 x.now]
def Ybh (x : Yal) : List C := [cM Yay 2 x.peers.hubs, cM Yas 5 x.peers.letters, cI x.id, cI x.code]
def kNet (x : TNet) : List C := [cM Ybe 1 x.servers, cM Yas 5 x.letters]
def Ybi (x : TNet) : List C := [C.ip [cM Ybe 1 x.servers, cM Yas 5 x.letters]]
def Ybj (x : Yae) : List C := [cM kHub 2 x.hubs, cM Yas 5 x.letters]
instance Ybk : SlI Tryz.prog 42 2 1 8 := ⟨by kernel_rfl⟩
instance Ybl : FldI Tryz.prog 44 6 6 := ⟨by kernel_rfl⟩
instance ld_9 : LdI Tryz.prog 9 false 1 := ⟨by kernel_rfl⟩
theorem un_9 : Tryz.prog.underlying 9 = some .string := by kernel_rfl
instance : UnI Tryz.prog 9 .string := ⟨un_9⟩
instance Ybm : FldI Tryz.prog 44 7 7 := ⟨by kernel_rfl⟩
instance Ybn : LdI Tryz.prog 42 false 1 := ⟨by kernel_rfl⟩
instance Ybo : SlI Tryz.prog 246 44 9 96 := ⟨by kernel_rfl⟩
instance Ybp : LdI Tryz.prog 44 true 9 := ⟨by kernel_rfl⟩
instance Ybq : FldI Tryz.prog 248 1 1 := ⟨by kernel_rfl⟩
instance Ybr : LdI Tryz.prog 246 false 1 := ⟨by kernel_rfl⟩
instance Ybs : FldI Tryz.prog 248 2 2 := ⟨by kernel_rfl⟩
instance Ybt : SlI Tryz.prog 100 248 3 56 := ⟨by kernel_rfl⟩
instance Ybu : LdI Tryz.prog 248 true 3 := ⟨by kernel_rfl⟩
instance Ybv : SlI Tryz.prog 101 254 2 16 := ⟨by kernel_rfl⟩
instance Ybw : FldI Tryz.prog 103 0 0 := ⟨by kernel_rfl⟩
instance Ybx : LdI Tryz.prog 100 false 1 := ⟨by kernel_rfl⟩
instance Yby : FldI Tryz.prog 103 1 1 := ⟨by kernel_rfl⟩
instance Ybz : LdI Tryz.prog 101 false 1 := ⟨by kernel_rfl⟩
instance Yc0 : SlI Tryz.prog 22 103 2 48 := ⟨by kernel_rfl⟩
instance Yc1 : LdI Tryz.prog 103 true 2 := ⟨by kernel_rfl⟩
instance Yc2 : FldI Tryz.prog 105 4 4 := ⟨by kernel_rfl⟩
instance Yc3 : SlI Tryz.prog 23 105 5 48 := ⟨by kernel_rfl⟩
instance Yc4 : LdI Tryz.prog 105 true 5 := ⟨by kernel_rfl⟩
instance Yc5 : FldI Tryz.prog 25 0 0 := ⟨by kernel_rfl⟩
instance Yc6 : LdI Tryz.prog 22 false 1 := ⟨by kernel_rfl⟩
instance Yc7 : FldI Tryz.prog 25 1 1 := ⟨by kernel_rfl⟩
instance Yc8 : LdI Tryz.prog 23 false 1 := ⟨by kernel_rfl⟩
theorem Yc9 : Y30 Tryz.prog 42 = some (2, 1, 8) := by kernel_rfl
theorem ze_2 : Y1c Tryz.prog 2 = some [.int .i64 0] := by kernel_rfl
instance : AlI Tryz.prog 2 [.int .i64 0] [cV (.int .i64 0)] := ⟨ze_2, Y4g rfl rfl⟩
instance ld_2 : LdI Tryz.prog 2 false 1 := ⟨by kernel_rfl⟩
theorem Yca : Y1c Tryz.prog 47 = some [.int .i64 0, .int .i64 0, .int .i64 0, .int .i64 0, .int .i64 0, .int .i64 0, .string ByteArray.empty, .slice none 0 0, .int .i64 0] := by kernel_rfl
instance : AlI Tryz.prog 47 [.int .i64 0, .int .i64 0, .int .i64 0, .int .i64 0, .int .i64 0, .int .i64 0, .string ByteArray.empty, .slice none 0 0, .int .i64 0] [cV (.int .i64 0), cV (.int .i64 0), cV (.int .i64 0), cV (.int .i64 0), cV (.int .i64 0), cV (.int .i64 0), cV (.string ByteArray.empty), cV s0, cV (.int .i64 0)] := ⟨Yca, Y4g rfl rfl⟩
instance Ycb : FldI Tryz.prog 44 0 0 := ⟨by kernel_rfl⟩
instance Ycc : FldI Tryz.prog 47 0 0 := ⟨by kernel_rfl⟩
instance Ycd : FldI Tryz.prog 44 1 1 := ⟨by kernel_rfl⟩
instance Yce : FldI Tryz.prog 47 1 1 := ⟨by kernel_rfl⟩
instance Ycf : FldI Tryz.prog 44 2 2 := ⟨by kernel_rfl⟩
instance Ycg : FldI Tryz.prog 47 2 2 := ⟨by kernel_rfl⟩
instance Ych : FldI Tryz.prog 44 3 3 := ⟨by kernel_rfl⟩
instance Yci : FldI Tryz.prog 47 3 3 := ⟨by kernel_rfl⟩
instance Ycj : FldI Tryz.prog 44 4 4 := ⟨by kernel_rfl⟩
instance Yck : FldI Tryz.prog 47 4 4 := ⟨by kernel_rfl⟩
instance Ycl : FldI Tryz.prog 44 5 5 := ⟨by kernel_rfl⟩
instance Ycm : FldI Tryz.prog 47 5 5 := ⟨by kernel_rfl⟩
instance Ycn : FldI Tryz.prog 47 6 6 := ⟨by kernel_rfl⟩
instance Yco : FldI Tryz.prog 47 7 7 := ⟨by kernel_rfl⟩
instance Ycp : FldI Tryz.prog 44 8 8 := ⟨by kernel_rfl⟩
instance Ycq : FldI Tryz.prog 47 8 8 := ⟨by kernel_rfl⟩
instance Ycr : LdI Tryz.prog 47 true 9 := ⟨by kernel_rfl⟩
theorem Ycs : Y30 Tryz.prog 112 = some (47, 9, 96) := by kernel_rfl
theorem Yct : ∀ x, Y4j (kI64 x) := fun x => (Y4j.cons (Y4i.val _) (Y4j.nil) : Y4j [cI x])
theorem Ycu : ∀ x u, FrzL (Yat x u) (Yau x u) (Yap x) := fun _ _ => (fS (fS (fS (fS (fS (fS (fS (FrzL.cons (os := [_]) Frz.arr (fS FrzL.nil)))))))))
theorem Ycv : ∀ x u, Y4j (Yat x u) := fun _ _ => (Y4j.cons (Y4i.val _) (Y4j.cons (Y4i.val _) (Y4j.cons (Y4i.val _) (Y4j.cons (Y4i.val _) (Y4j.cons (Y4i.val _) (Y4j.cons (Y4i.val _) (Y4j.cons (Y4i.val _) (Y4j.cons (Y4i.val _) (Y4j.cons (Y4i.val _) Y4j.nil)))))))))
theorem Ycw : ∀ x u, ∀ o ∈ Yau x u, Y4k o := fun _ _ => (Y4m (Y4k.arr Yct) Y4l)
instance Ycx : SlI Tryz.prog 112 47 9 96 := ⟨by kernel_rfl⟩
theorem Ycy : Y1c Tryz.prog 114 = some [.int .i64 0, .slice none 0 0, .slice none 0 0] := by kernel_rfl
instance : AlI Tryz.prog 114 [.int .i64 0, .slice none 0 0, .slice none 0 0] [cV (.int .i64 0), cV s0, cV s0] := ⟨Ycy, Y4g rfl rfl⟩
instance Ycz : FldI Tryz.prog 248 0 0 := ⟨by kernel_rfl⟩
instance Yd0 : FldI Tryz.prog 114 0 0 := ⟨by kernel_rfl⟩
instance Yd1 : FldI Tryz.prog 114 1 1 := ⟨by kernel_rfl⟩
instance Yd2 : LdI Tryz.prog 112 false 1 := ⟨by kernel_rfl⟩
instance Yd3 : FldI Tryz.prog 114 2 2 := ⟨by kernel_rfl⟩
instance Yd4 : LdI Tryz.prog 114 true 3 := ⟨by kernel_rfl⟩
theorem Yd5 : Y30 Tryz.prog 83 = some (114, 3, 56) := by kernel_rfl
theorem Yd6 : ∀ x u, FrzL (Yaw x u) (Yax x u) (Yav x) := fun _ _ => (fS (FrzL.cons (os := [_]) (Frz.deep Ycu) (FrzL.cons (os := [_]) (Frz.deep Ycu) FrzL.nil)))
theorem Yd7 : ∀ x u, Y4j (Yaw x u) := fun _ _ => (Y4j.cons (Y4i.val _) (Y4j.cons (Y4i.val _) (Y4j.cons (Y4i.val _) Y4j.nil)))
theorem Yd8 : ∀ x u, ∀ o ∈ Yax x u, Y4k o := fun _ _ => (Y4m (Y4k.deep Ycv Ycw) (Y4m (Y4k.deep Ycv Ycw) Y4l))
instance Yd9 : SlI Tryz.prog 83 114 3 56 := ⟨by kernel_rfl⟩
theorem Yda : Y1c Tryz.prog 191 = some [.int .i64 0, .int .i64 0] := by kernel_rfl
instance : AlI Tryz.prog 191 [.int .i64 0, .int .i64 0] [cV (.int .i64 0), cV (.int .i64 0)] := ⟨Yda, Y4g rfl rfl⟩
instance Ydb : FldI Tryz.prog 254 0 0 := ⟨by kernel_rfl⟩
instance Ydc : FldI Tryz.prog 191 0 0 := ⟨by kernel_rfl⟩
instance Ydd : FldI Tryz.prog 254 1 1 := ⟨by kernel_rfl⟩
instance Yde : FldI Tryz.prog 191 1 1 := ⟨by kernel_rfl⟩
instance Ydf : LdI Tryz.prog 191 true 2 := ⟨by kernel_rfl⟩
theorem Ydg : Y30 Tryz.prog 84 = some (191, 2, 16) := by kernel_rfl
instance Ydh : LdI Tryz.prog 254 true 2 := ⟨by kernel_rfl⟩
instance Ydi : SlI Tryz.prog 84 191 2 16 := ⟨by kernel_rfl⟩
theorem Ydj : Y1c Tryz.prog 86 = some [.slice none 0 0, .slice none 0 0] := by kernel_rfl
instance : AlI Tryz.prog 86 [.slice none 0 0, .slice none 0 0] [cV s0, cV s0] := ⟨Ydj, Y4g rfl rfl⟩
instance Ydk : FldI Tryz.prog 86 0 0 := ⟨by kernel_rfl⟩
instance Ydl : LdI Tryz.prog 83 false 1 := ⟨by kernel_rfl⟩
instance Ydm : FldI Tryz.prog 86 1 1 := ⟨by kernel_rfl⟩
instance Ydn : LdI Tryz.prog 84 false 1 := ⟨by kernel_rfl⟩
instance Ydo : LdI Tryz.prog 86 true 2 := ⟨by kernel_rfl⟩
theorem Ydp : Y30 Tryz.prog 27 = some (86, 2, 48) := by kernel_rfl
theorem Ydq : ∀ x, Y4j (Yar x) := fun x => (Y4j.cons (Y4i.val _) (Y4j.cons (Y4i.val _) (Y4j.nil)) : Y4j [cI x.room, cI x.id])
theorem Ydr : ∀ x u, FrzL (Yaz x u) (Yb0 x u) (Yay x) := fun _ _ => (FrzL.cons (os := [_]) (Frz.deep Yd6) (FrzL.cons (os := [_]) Frz.arr FrzL.nil))
theorem Yds : ∀ x u, Y4j (Yaz x u) := fun _ _ => (Y4j.cons (Y4i.val _) (Y4j.cons (Y4i.val _) Y4j.nil))
theorem Ydt : ∀ x u, ∀ o ∈ Yb0 x u, Y4k o := fun _ _ => (Y4m (Y4k.deep Yd7 Yd8) (Y4m (Y4k.arr Ydq) Y4l))
instance Ydu : SlI Tryz.prog 27 86 2 48 := ⟨by kernel_rfl⟩
theorem Ydv : Y1c Tryz.prog 60 = some [.int .i64 0, .int .i64 0, .int .i64 0, .int .i64 0, .string ByteArray.empty] := by kernel_rfl
instance : AlI Tryz.prog 60 [.int .i64 0, .int .i64 0, .int .i64 0, .int .i64 0, .string ByteArray.empty] [cV (.int .i64 0), cV (.int .i64 0), cV (.int .i64 0), cV (.int .i64 0), cV (.string ByteArray.empty)] := ⟨Ydv, Y4g rfl rfl⟩
instance Ydw : FldI Tryz.prog 105 0 0 := ⟨by kernel_rfl⟩
instance Ydx : FldI Tryz.prog 60 0 0 := ⟨by kernel_rfl⟩
instance Ydy : FldI Tryz.prog 105 1 1 := ⟨by kernel_rfl⟩
instance Ydz : FldI Tryz.prog 60 1 1 := ⟨by kernel_rfl⟩
instance Ye0 : FldI Tryz.prog 105 2 2 := ⟨by kernel_rfl⟩
instance Ye1 : FldI Tryz.prog 60 2 2 := ⟨by kernel_rfl⟩
instance Ye2 : FldI Tryz.prog 105 3 3 := ⟨by kernel_rfl⟩
instance Ye3 : FldI Tryz.prog 60 3 3 := ⟨by kernel_rfl⟩
instance Ye4 : FldI Tryz.prog 60 4 4 := ⟨by kernel_rfl⟩
instance Ye5 : LdI Tryz.prog 60 true 5 := ⟨by kernel_rfl⟩
theorem Ye6 : Y30 Tryz.prog 28 = some (60, 5, 48) := by kernel_rfl
instance Ye7 : SlI Tryz.prog 28 60 5 48 := ⟨by kernel_rfl⟩
theorem Ye8 : Y1c Tryz.prog 30 = some [.slice none 0 0, .slice none 0 0] := by kernel_rfl
instance : AlI Tryz.prog 30 [.slice none 0 0, .slice none 0 0] [cV s0, cV s0] := ⟨Ye8, Y4g rfl rfl⟩
instance Ye9 : FldI Tryz.prog 30 0 0 := ⟨by kernel_rfl⟩
instance Yea : LdI Tryz.prog 27 false 1 := ⟨by kernel_rfl⟩
instance Yeb : FldI Tryz.prog 30 1 1 := ⟨by kernel_rfl⟩
instance Yec : LdI Tryz.prog 28 false 1 := ⟨by kernel_rfl⟩
instance Yed : LdI Tryz.prog 30 true 2 := ⟨by kernel_rfl⟩
theorem un_4 : Tryz.prog.underlying 4 = some .bool := by kernel_rfl
instance : UnI Tryz.prog 4 .bool := ⟨un_4⟩
instance Yee : SlI Tryz.prog 165 235 3 24 := ⟨by kernel_rfl⟩
instance Yef : FldI Tryz.prog 235 0 0 := ⟨by kernel_rfl⟩
instance Yeg : FldI Tryz.prog 235 1 1 := ⟨by kernel_rfl⟩
instance Yeh : FldI Tryz.prog 235 2 2 := ⟨by kernel_rfl⟩
instance Yei : SlI Tryz.prog 157 165 1 24 := ⟨by kernel_rfl⟩
instance Yej : LdI Tryz.prog 165 false 1 := ⟨by kernel_rfl⟩
theorem Yek : Y30 Tryz.prog 165 = some (235, 3, 24) := by kernel_rfl
instance Yel : LdI Tryz.prog 235 true 3 := ⟨by kernel_rfl⟩
theorem Yem : places Tryz.prog 47 = some [(0, 1), (1, 1), (2, 1), (3, 1), (4, 1), (5, 1), (6, 1), (7, 1), (8, 1)] := by kernel_rfl
instance : PlI Tryz.prog 47 [(0, 1), (1, 1), (2, 1), (3, 1), (4, 1), (5, 1), (6, 1), (7, 1), (8, 1)] := ⟨Yem⟩
theorem Yen : Y7b Tryz.prog 47 5 = some (5, 1, false) := by kernel_rfl
theorem Yeo : Y7b Tryz.prog 47 2 = some (2, 1, false) := by kernel_rfl
theorem Yep : ∀ x, Y4j (Yb1 x) := fun x => (Y4j.cons (Y4i.val _) (Y4j.cons (Y4i.val _) (Y4j.cons (Y4i.val _) (Y4j.nil))) : Y4j [cI x.kind, cI x.key, cI x.id])
theorem Yeq : places Tryz.prog 235 = some [(0, 1), (1, 1), (2, 1)] := by kernel_rfl
instance : PlI Tryz.prog 235 [(0, 1), (1, 1), (2, 1)] := ⟨Yeq⟩
theorem Yer : Y1c Tryz.prog 235 = some [.int .i64 0, .int .i64 0, .int .i64 0] := by kernel_rfl
instance : AlI Tryz.prog 235 [.int .i64 0, .int .i64 0, .int .i64 0] [cV (.int .i64 0), cV (.int .i64 0), cV (.int .i64 0)] := ⟨Yer, Y4g rfl rfl⟩
theorem Yes : Y30 Tryz.prog 161 = some (4, 1, 1) := by kernel_rfl
theorem ze_4 : Y1c Tryz.prog 4 = some [.bool false] := by kernel_rfl
instance : AlI Tryz.prog 4 [.bool false] [cV (.bool false)] := ⟨ze_4, Y4g rfl rfl⟩
theorem Yet : Y7b Tryz.prog 47 7 = some (7, 1, false) := by kernel_rfl
instance Yeu : SlI Tryz.prog 161 4 1 1 := ⟨by kernel_rfl⟩
instance ld_4 : LdI Tryz.prog 4 false 1 := ⟨by kernel_rfl⟩
theorem Yev : Y30 Tryz.prog 157 = some (165, 1, 24) := by kernel_rfl
theorem Yew : Y1c Tryz.prog 165 = some [.slice none 0 0] := by kernel_rfl
instance : AlI Tryz.prog 165 [.slice none 0 0] [cV s0] := ⟨Yew, Y4g rfl rfl⟩
theorem Yex : places Tryz.prog 167 = some [(0, 1), (1, 1), (2, 1), (3, 1)] := by kernel_rfl
instance : PlI Tryz.prog 167 [(0, 1), (1, 1), (2, 1), (3, 1)] := ⟨Yex⟩
theorem Yey : Y1c Tryz.prog 167 = some [.slice none 0 0, .slice none 0 0, .slice none 0 0, .slice none 0 0] := by kernel_rfl
instance : AlI Tryz.prog 167 [.slice none 0 0, .slice none 0 0, .slice none 0 0, .slice none 0 0] [cV s0, cV s0, cV s0, cV s0] := ⟨Yey, Y4g rfl rfl⟩
instance Yez : FldI Tryz.prog 167 2 2 := ⟨by kernel_rfl⟩
instance Yf0 : LdI Tryz.prog 157 false 1 := ⟨by kernel_rfl⟩
instance Yf1 : FldI Tryz.prog 167 1 1 := ⟨by kernel_rfl⟩
instance Yf2 : FldI Tryz.prog 167 0 0 := ⟨by kernel_rfl⟩
instance Yf3 : FldI Tryz.prog 167 3 3 := ⟨by kernel_rfl⟩
theorem Yf4 : places Tryz.prog 159 = some [(0, 2), (2, 1), (3, 1), (4, 1)] := by kernel_rfl
instance : PlI Tryz.prog 159 [(0, 2), (2, 1), (3, 1), (4, 1)] := ⟨Yf4⟩
theorem Yf5 : Y1c Tryz.prog 159 = some [.slice none 0 0, .slice none 0 0, .slice none 0 0, .slice none 0 0, .slice none 0 0] := by kernel_rfl
instance : AlI Tryz.prog 159 [.slice none 0 0, .slice none 0 0, .slice none 0 0, .slice none 0 0, .slice none 0 0] [cV s0, cV s0, cV s0, cV s0, cV s0] := ⟨Yf5, Y4g rfl rfl⟩
instance Yf6 : FldI Tryz.prog 159 1 2 := ⟨by kernel_rfl⟩
instance Yf7 : LdI Tryz.prog 155 false 1 := ⟨by kernel_rfl⟩
theorem Yf8 : Y30 Tryz.prog 155 = some (154, 1, 8) := by kernel_rfl
instance Yf9 : FldI Tryz.prog 159 3 4 := ⟨by kernel_rfl⟩
instance Yfa : FldI Tryz.prog 159 2 3 := ⟨by kernel_rfl⟩
instance Yfb : LdI Tryz.prog 156 false 1 := ⟨by kernel_rfl⟩
theorem Yfc : Y30 Tryz.prog 156 = some (42, 1, 24) := by kernel_rfl
instance Yfd : FldI Tryz.prog 159 0 0 := ⟨by kernel_rfl⟩
instance Yfe : SlI Tryz.prog 155 154 1 8 := ⟨by kernel_rfl⟩
instance Yff : LdI Tryz.prog 154 false 1 := ⟨by kernel_rfl⟩
instance Yfg : SlI Tryz.prog 156 42 1 24 := ⟨by kernel_rfl⟩
theorem Yfh : Y5u Tryz.prog 191 = some [0, 0] := by kernel_rfl
theorem Yfi : Y1c Tryz.prog 32 = some [.slice none 0 0, .slice none 0 0, .int .i64 0, .int .i64 0] := by kernel_rfl
instance : AlI Tryz.prog 32 [.slice none 0 0, .slice none 0 0, .int .i64 0, .int .i64 0] [cV s0, cV s0, cV (.int .i64 0), cV (.int .i64 0)] := ⟨Yfi, Y4g rfl rfl⟩
theorem Yfj : places Tryz.prog 32 = some [(0, 2), (2, 1), (3, 1)] := by kernel_rfl
instance : PlI Tryz.prog 32 [(0, 2), (2, 1), (3, 1)] := ⟨Yfj⟩
instance Yfk : LdI Tryz.prog 32 true 4 := ⟨by kernel_rfl⟩
theorem Yfl : places Tryz.prog 114 = some [(0, 1), (1, 1), (2, 1)] := by kernel_rfl
instance : PlI Tryz.prog 114 [(0, 1), (1, 1), (2, 1)] := ⟨Yfl⟩
theorem Yfm : places Tryz.prog 86 = some [(0, 1), (1, 1)] := by kernel_rfl
instance : PlI Tryz.prog 86 [(0, 1), (1, 1)] := ⟨Yfm⟩
theorem Yfn : places Tryz.prog 30 = some [(0, 1), (1, 1)] := by kernel_rfl
instance : PlI Tryz.prog 30 [(0, 1), (1, 1)] := ⟨Yfn⟩
theorem Yfo : Y30 Tryz.prog 110 = some (182, 2, 16) := by kernel_rfl
instance Yfp : SlI Tryz.prog 110 182 2 16 := ⟨by kernel_rfl⟩
instance Yfq : FldI Tryz.prog 182 1 1 := ⟨by kernel_rfl⟩
theorem Yfr : places Tryz.prog 182 = some [(0, 1), (1, 1)] := by kernel_rfl
instance : PlI Tryz.prog 182 [(0, 1), (1, 1)] := ⟨Yfr⟩
theorem Yfs : Y1c Tryz.prog 182 = some [.int .i64 0, .int .i64 0] := by kernel_rfl
instance : AlI Tryz.prog 182 [.int .i64 0, .int .i64 0] [cV (.int .i64 0), cV (.int .i64 0)] := ⟨Yfs, Y4g rfl rfl⟩
instance Yft : FldI Tryz.prog 182 0 0 := ⟨by kernel_rfl⟩
theorem un_2 : Tryz.prog.underlying 2 = some (.int .i64) := by kernel_rfl
instance : UnI Tryz.prog 2 (.int .i64) := ⟨un_2⟩
theorem Yfu : Tryz.prog.underlying 250 = some (.int .u64) := by kernel_rfl
instance : UnI Tryz.prog 250 (.int .u64) := ⟨Yfu⟩
theorem Yfv : Y30 Tryz.prog 179 = some (5, 1, 1) := by kernel_rfl
theorem un_5 : Tryz.prog.underlying 5 = some (.int .u8) := by kernel_rfl
instance : UnI Tryz.prog 5 (.int .u8) := ⟨un_5⟩
theorem Yfw : Y7g Tryz.prog 179 = true := by kernel_rfl
theorem Yfx : Ya0 Tryz.prog 179 = some 5 := by kernel_rfl
theorem Yfy : places Tryz.prog 60 = some [(0, 1), (1, 1), (2, 1), (3, 1), (4, 1)] := by kernel_rfl
instance : PlI Tryz.prog 60 [(0, 1), (1, 1), (2, 1), (3, 1), (4, 1)] := ⟨Yfy⟩
theorem un_3 : Tryz.prog.underlying 3 = some (.int .i64) := by kernel_rfl
instance : UnI Tryz.prog 3 (.int .i64) := ⟨un_3⟩
theorem Yfz : Tryz.prog.underlying 263 = some (.int .u64) := by kernel_rfl
instance : UnI Tryz.prog 263 (.int .u64) := ⟨Yfz⟩
theorem Yg0 : Y1c Tryz.prog 42 = some [.slice none 0 0] := by kernel_rfl
instance : AlI Tryz.prog 42 [.slice none 0 0] [cV s0] := ⟨Yg0, Y4g rfl rfl⟩
theorem Yg1 : Y30 Tryz.prog 280 = some (3, 1, 8) := by kernel_rfl
instance Yg2 : SlI Tryz.prog 280 3 1 8 := ⟨by kernel_rfl⟩
instance ld_3 : LdI Tryz.prog 3 false 1 := ⟨by kernel_rfl⟩
instance Yg3 : FldI Tryz.prog 128 3 5 := ⟨by kernel_rfl⟩
instance Yg4 : LdI Tryz.prog 126 false 1 := ⟨by kernel_rfl⟩
theorem Yg5 : Y6t Tryz.prog 126 = some (.i64, 165) := by kernel_rfl
theorem Yg6 : Y6v Tryz.prog 165 = some s0 := by kernel_rfl
theorem Yg7 : Y5u Tryz.prog 235 = some [0, 0, 0] := by kernel_rfl
theorem Yg8 : Y6t Tryz.prog 300 = some (.i64, 4) := by kernel_rfl
theorem zv_4 : Y6v Tryz.prog 4 = some (.bool false) := by kernel_rfl
instance Yg9 : LdI Tryz.prog 122 false 1 := ⟨by kernel_rfl⟩
instance Yga : FldI Tryz.prog 128 0 0 := ⟨by kernel_rfl⟩
instance Ygb : FldI Tryz.prog 128 1 3 := ⟨by kernel_rfl⟩
instance Ygc : LdI Tryz.prog 125 false 1 := ⟨by kernel_rfl⟩
theorem Ygd : Y6t Tryz.prog 125 = some (.i64, 2) := by kernel_rfl
theorem zv_2 : Y6v Tryz.prog 2 = some (.int .i64 0) := by kernel_rfl
instance Yge : FldI Tryz.prog 128 2 4 := ⟨by kernel_rfl⟩
instance Ygf : FldI Tryz.prog 128 4 6 := ⟨by kernel_rfl⟩
theorem Ygg : places Tryz.prog 128 = some [(0, 3), (3, 1), (4, 1), (5, 1), (6, 1)] := by kernel_rfl
instance : PlI Tryz.prog 128 [(0, 3), (3, 1), (4, 1), (5, 1), (6, 1)] := ⟨Ygg⟩
theorem Ygh : Y1c Tryz.prog 128 = some [.int .i64 0, .slice none 0 0, .slice none 0 0, .map none, .map none, .map none, .map none] := by kernel_rfl
instance : AlI Tryz.prog 128 [.int .i64 0, .slice none 0 0, .slice none 0 0, .map none, .map none, .map none, .map none] [cV (.int .i64 0), cV s0, cV s0, cV (.map none), cV (.map none), cV (.map none), cV (.map none)] := ⟨Ygh, Y4g rfl rfl⟩
instance Ygi : FldI Tryz.prog 131 1 2 := ⟨by kernel_rfl⟩
instance Ygj : LdI Tryz.prog 129 false 1 := ⟨by kernel_rfl⟩
instance Ygk : SlI Tryz.prog 129 122 1 8 := ⟨by kernel_rfl⟩
theorem Ygl : places Tryz.prog 131 = some [(0, 2), (2, 1)] := by kernel_rfl
instance : PlI Tryz.prog 131 [(0, 2), (2, 1)] := ⟨Ygl⟩
theorem Ygm : Y1c Tryz.prog 131 = some [.slice none 0 0, .slice none 0 0, .slice none 0 0] := by kernel_rfl
instance : AlI Tryz.prog 131 [.slice none 0 0, .slice none 0 0, .slice none 0 0] [cV s0, cV s0, cV s0] := ⟨Ygm, Y4g rfl rfl⟩
theorem Ygn : Y30 Tryz.prog 129 = some (122, 1, 8) := by kernel_rfl
theorem Ygo : Y1c Tryz.prog 189 = some [.map none] := by kernel_rfl
instance : AlI Tryz.prog 189 [.map none] [cV (.map none)] := ⟨Ygo, Y4g rfl rfl⟩
instance Ygp : LdI Tryz.prog 189 false 1 := ⟨by kernel_rfl⟩
theorem Ygq : Y8x Tryz.prog 189 = some (191, 4) := by kernel_rfl
theorem Ygr : Y1c Tryz.prog 122 = some [.pointer none] := by kernel_rfl
instance : AlI Tryz.prog 122 [.pointer none] [cV (.pointer none)] := ⟨Ygr, Y4g rfl rfl⟩
theorem Ygs : places Tryz.prog 191 = some [(0, 1), (1, 1)] := by kernel_rfl
instance : PlI Tryz.prog 191 [(0, 1), (1, 1)] := ⟨Ygs⟩
instance Ygt : FldI Tryz.prog 94 0 0 := ⟨by kernel_rfl⟩
instance Ygu : LdI Tryz.prog 92 false 1 := ⟨by kernel_rfl⟩
instance Ygv : SlI Tryz.prog 92 91 1 8 := ⟨by kernel_rfl⟩
theorem Ygw : places Tryz.prog 94 = some [(0, 1), (1, 1)] := by kernel_rfl
instance : PlI Tryz.prog 94 [(0, 1), (1, 1)] := ⟨Ygw⟩
theorem Ygx : Y1c Tryz.prog 94 = some [.slice none 0 0, .slice none 0 0] := by kernel_rfl
instance : AlI Tryz.prog 94 [.slice none 0 0, .slice none 0 0] [cV s0, cV s0] := ⟨Ygx, Y4g rfl rfl⟩
theorem Ygy : Y1c Tryz.prog 64 = some [.pointer none] := by kernel_rfl
instance : AlI Tryz.prog 64 [.pointer none] [cV (.pointer none)] := ⟨Ygy, Y4g rfl rfl⟩
instance Ygz : LdI Tryz.prog 64 false 1 := ⟨by kernel_rfl⟩
theorem Yh0 : Y30 Tryz.prog 92 = some (91, 1, 8) := by kernel_rfl
instance Yh1 : FldI Tryz.prog 94 1 1 := ⟨by kernel_rfl⟩
instance Yh2 : LdI Tryz.prog 182 true 2 := ⟨by kernel_rfl⟩
instance Yh3 : SlI Tryz.prog 179 5 1 1 := ⟨by kernel_rfl⟩
instance Yh4 : LdI Tryz.prog 91 false 1 := ⟨by kernel_rfl⟩
instance Yh5 : FldI Tryz.prog 131 0 0 := ⟨by kernel_rfl⟩
instance Yh6 : FldI Tryz.prog 32 0 0 := ⟨by kernel_rfl⟩
instance Yh7 : FldI Tryz.prog 32 1 2 := ⟨by kernel_rfl⟩
instance Yh8 : FldI Tryz.prog 32 2 3 := ⟨by kernel_rfl⟩
instance Yh9 : LdI Tryz.prog 25 true 2 := ⟨by kernel_rfl⟩
theorem Yha : ∀ x, Y4j (Yas x) := fun x => (Y4j.cons (Y4i.val _) (Y4j.cons (Y4i.val _) (Y4j.cons (Y4i.val _) (Y4j.cons (Y4i.val _) (Y4j.cons (Y4i.val _) (Y4j.nil))))) : Y4j [cI x.kind, cI x.from_, cI x.to_, cI x.room, C.str x.text])
instance : ArT Tryz.prog 42 2 1 8 kI64 := ⟨Yc9⟩
instance : ZeK Tryz.prog 2 kI64 [.int .i64 0] 0 := ⟨ze_2, (Y4g rfl rfl)⟩
instance : ZeK Tryz.prog 47 Yap [.int .i64 0, .int .i64 0, .int .i64 0, .int .i64 0, .int .i64 0, .int .i64 0, .string ByteArray.empty, .slice none 0 0, .int .i64 0] (Yaa.mk 0 0 0 0 0 0 ByteArray.empty [] 0) := ⟨Yca, (fun w F => Imps.cells (.cons (Imp.refl _) (.cons (Imp.refl _) (.cons (Imp.refl _) (.cons (Imp.refl _) (.cons (Imp.refl _) (.cons (Imp.refl _) (.cons (Imp.refl _) (.cons (Imp.nil kI64 1) (.cons (Imp.refl _) .nil))))))))) (Y4g (cs := [cV (.int .i64 0), cV (.int .i64 0), cV (.int .i64 0), cV (.int .i64 0), cV (.int .i64 0), cV (.int .i64 0), cV (.string ByteArray.empty), cV s0, cV (.int .i64 0)]) rfl rfl w F))⟩
instance : ArT Tryz.prog 112 47 9 96 Yap := ⟨Ycs⟩
instance : PnK kI64 := ⟨Yct⟩
instance : FzD Yat Yau Yap := ⟨Ycu⟩
instance : PnD Yat Yau := ⟨Ycv, Ycw⟩
instance : ZeK Tryz.prog 114 Yav [.int .i64 0, .slice none 0 0, .slice none 0 0] (Yaf.mk 0 [] []) := ⟨Ycy, (fun w F => Imps.cells (.cons (Imp.refl _) (.cons (Imp.nil Yap 9) (.cons (Imp.nil Yap 9) .nil))) (Y4g (cs := [cV (.int .i64 0), cV s0, cV s0]) rfl rfl w F))⟩
instance : ArT Tryz.prog 83 114 3 56 Yav := ⟨Yd5⟩
instance : FzD Yaw Yax Yav := ⟨Yd6⟩
instance : PnD Yaw Yax := ⟨Yd7, Yd8⟩
instance : ZeK Tryz.prog 191 Yar [.int .i64 0, .int .i64 0] (Yac.mk 0 0) := ⟨Yda, (Y4g rfl rfl)⟩
instance : ArT Tryz.prog 84 191 2 16 Yar := ⟨Ydg⟩
instance : ZeK Tryz.prog 86 Yay [.slice none 0 0, .slice none 0 0] (Yag.mk [] []) := ⟨Ydj, (fun w F => Imps.cells (.cons (Imp.nil Yav 3) (.cons (Imp.nil Yar 2) .nil)) (Y4g (cs := [cV s0, cV s0]) rfl rfl w F))⟩
instance : ArT Tryz.prog 27 86 2 48 Yay := ⟨Ydp⟩
instance : PnK Yar := ⟨Ydq⟩
instance : FzD Yaz Yb0 Yay := ⟨Ydr⟩
instance : PnD Yaz Yb0 := ⟨Yds, Ydt⟩
instance : ZeK Tryz.prog 60 Yas [.int .i64 0, .int .i64 0, .int .i64 0, .int .i64 0, .string ByteArray.empty] (Yad.mk 0 0 0 0 ByteArray.empty) := ⟨Ydv, (Y4g rfl rfl)⟩
instance : ArT Tryz.prog 28 60 5 48 Yas := ⟨Ye6⟩
instance : ZeK Tryz.prog 30 Ybf [.slice none 0 0, .slice none 0 0] (Yah.mk [] []) := ⟨Ye8, (fun w F => Imps.cells (.cons (Imp.nil Yay 2) (.cons (Imp.nil Yas 5) .nil)) (Y4g (cs := [cV s0, cV s0]) rfl rfl w F))⟩
instance : ArT Tryz.prog 165 235 3 24 Yb1 := ⟨Yek⟩
instance : FiI Tryz.prog 47 5 5 1 false := ⟨Yen⟩
instance : FiI Tryz.prog 47 2 2 1 false := ⟨Yeo⟩
instance : PnK Yb1 := ⟨Yep⟩
instance : ZeK Tryz.prog 235 Yb1 [.int .i64 0, .int .i64 0, .int .i64 0] (Yai.mk 0 0 0) := ⟨Yer, (Y4g rfl rfl)⟩
instance : ArT Tryz.prog 161 4 1 1 Yb3 := ⟨Yes⟩
instance : ZeK Tryz.prog 4 Yb3 [.bool false] false := ⟨ze_4, (Y4g rfl rfl)⟩
instance : FiI Tryz.prog 47 7 7 1 false := ⟨Yet⟩
instance : ArT Tryz.prog 157 165 1 24 Yb2 := ⟨Yev⟩
instance : ZeK Tryz.prog 165 Yb2 [.slice none 0 0] [] := ⟨Yew, (fun w F => Imps.cells (.cons (Imp.nil Yb1 3) .nil) (Y4g (cs := [cV s0]) rfl rfl w F))⟩
instance : ZeK Tryz.prog 167 Yb4 [.slice none 0 0, .slice none 0 0, .slice none 0 0, .slice none 0 0] (Yaj.mk [] [] [] []) := ⟨Yey, (fun w F => Imps.cells (.cons (Imp.nil kI64 1) (.cons (Imp.nil Yb2 1) (.cons (Imp.nil Yb2 1) (.cons (Imp.nil kI64 1) .nil)))) (Y4g (cs := [cV s0, cV s0, cV s0, cV s0]) rfl rfl w F))⟩
instance : ZeK Tryz.prog 159 Ybg [.slice none 0 0, .slice none 0 0, .slice none 0 0, .slice none 0 0, .slice none 0 0] (Yak.mk (Yag.mk [] []) [] [] []) := ⟨Yf5, (fun w F => Imps.cells (.cons (Imp.nil Yav 3) (.cons (Imp.nil Yar 2) (.cons (Imp.nil Yb5 1) (.cons (Imp.nil Yb6 1) (.cons (Imp.nil Yb2 1) .nil))))) (Y4g (cs := [cV s0, cV s0, cV s0, cV s0, cV s0]) rfl rfl w F))⟩
instance : ArT Tryz.prog 155 154 1 8 Yb5 := ⟨Yf8⟩
instance : ArT Tryz.prog 156 42 1 24 Yb6 := ⟨Yfc⟩
instance : EqK Tryz.prog 191 [0, 0] := ⟨Yfh⟩
instance : ZeK Tryz.prog 32 Ybh [.slice none 0 0, .slice none 0 0, .int .i64 0, .int .i64 0] (Yal.mk (Yah.mk [] []) 0 0) := ⟨Yfi, (fun w F => Imps.cells (.cons (Imp.nil Yay 2) (.cons (Imp.nil Yas 5) (.cons (Imp.refl _) (.cons (Imp.refl _) .nil)))) (Y4g (cs := [cV s0, cV s0, cV (.int .i64 0), cV (.int .i64 0)]) rfl rfl w F))⟩
instance : ArT Tryz.prog 110 182 2 16 Yb7 := ⟨Yfo⟩
instance : ZeK Tryz.prog 182 Yb7 [.int .i64 0, .int .i64 0] (Yam.mk 0 0) := ⟨Yfs, (Y4g rfl rfl)⟩
instance : ArT Tryz.prog 179 5 1 1 kU8 := ⟨Yfv⟩
instance : ByI Tryz.prog 179 := ⟨Yfw⟩
instance : ZeK Tryz.prog 42 Yb6 [.slice none 0 0] [] := ⟨Yg0, (fun w F => Imps.cells (.cons (Imp.nil kI64 1) .nil) (Y4g (cs := [cV s0]) rfl rfl w F))⟩
instance : ArT Tryz.prog 280 3 1 8 kI64 := ⟨Yg1⟩
instance : MpT Tryz.prog 126 .i64 Yb9 165 s0 ([] : List Yai) := ⟨Yg5, Yg6, (fun w F => Imp.nil Yb1 3 w F _ rfl)⟩
instance : EqK Tryz.prog 235 [0, 0, 0] := ⟨Yg7⟩
instance : MpT Tryz.prog 300 .i64 Yba 4 (.bool false) false := ⟨Yg8, zv_4, (fun _ _ => rfl)⟩
instance : MpT Tryz.prog 125 .i64 Yb8 2 (.int .i64 0) 0 := ⟨Ygd, zv_2, (fun _ _ => rfl)⟩
instance : ZeK Tryz.prog 131 Ybd [.slice none 0 0, .slice none 0 0, .slice none 0 0] (Yao.mk (Yag.mk [] []) []) := ⟨Ygm, (fun w F => Imps.cells (.cons (Imp.nil Yav 3) (.cons (Imp.nil Yar 2) (.cons (Imp.nil Ybc 1) .nil))) (Y4g (cs := [cV s0, cV s0, cV s0]) rfl rfl w F))⟩
instance : ArT Tryz.prog 129 122 1 8 Ybc := ⟨Ygn⟩
instance : PpT Tryz.prog 189 Yba 191 4 (.bool false) false := ⟨Ygq, zv_4, (fun _ _ => rfl)⟩
instance : ZeK Tryz.prog 94 kNet [.slice none 0 0, .slice none 0 0] (TNet.mk [] []) := ⟨Ygx, (fun w F => Imps.cells (.cons (Imp.nil Ybe 1) (.cons (Imp.nil Yas 5) .nil)) (Y4g (cs := [cV s0, cV s0]) rfl rfl w F))⟩
instance : ArT Tryz.prog 92 91 1 8 Ybe := ⟨Yh0⟩
instance : PnK Yas := ⟨Yha⟩
instance : SrJ Tryz.prog 205 := ⟨Ya9⟩
instance : SrI Tryz.prog 250 9 := ⟨Ya8⟩
instance {a1 : Int} {a2 : Int} {a3 : Int} {a4 : Int} {a5 : Int} {a6 : Int} {a7 : ByteArray} {a8 : List Int} {a9 : Int} : Mk Yap [cI a1, cI a2, cI a3, cI a4, cI a5, cI a6, C.str a7, cM kI64 1 a8, cI a9] (Yaa.mk a1 a2 a3 a4 a5 a6 a7 a8 a9) := ⟨rfl⟩
instance {a1 : Int} {a2 : List Yaa} {a3 : List Yaa} : Mk Yaq [cI a1, cM Yap 9 a2, cM Yap 9 a3] (Yab.mk a1 a2 a3) := ⟨rfl⟩
instance {a1 : Int} {a2 : Int} : Mk Yar [cI a1, cI a2] (Yac.mk a1 a2) := ⟨rfl⟩
instance {a1 : List Yab} {a2 : List Yac} : Mk kHub [cM Yaq 3 a1, cM Yar 2 a2] (THub.mk a1 a2) := ⟨rfl⟩
instance {a1 : Int} {a2 : Int} {a3 : Int} {a4 : Int} {a5 : ByteArray} : Mk Yas [cI a1, cI a2, cI a3, cI a4, C.str a5] (Yad.mk a1 a2 a3 a4 a5) := ⟨rfl⟩
instance {a1 : List THub} {a2 : List Yad} : Mk Ybj [cM kHub 2 a1, cM Yas 5 a2] (Yae.mk a1 a2) := ⟨rfl⟩
instance {a1 : Int} {a2 : List Yaa} {a3 : List Yaa} : Mk Yav [cI a1, cM Yap 9 a2, cM Yap 9 a3] (Yaf.mk a1 a2 a3) := ⟨rfl⟩
instance {a1 : List Yaf} {a2 : List Yac} : Mk Yay [cM Yav 3 a1, cM Yar 2 a2] (Yag.mk a1 a2) := ⟨rfl⟩
instance {a1 : List Yag} {a2 : List Yad} : Mk Ybf [cM Yay 2 a1, cM Yas 5 a2] (Yah.mk a1 a2) := ⟨rfl⟩
instance {a1 : Int} {a2 : Int} {a3 : Int} : Mk Yb1 [cI a1, cI a2, cI a3] (Yai.mk a1 a2 a3) := ⟨rfl⟩
instance {a1 : List Int} {a2 : List (List Yai)} {a3 : List (List Yai)} {a4 : List Int} : Mk Yb5 [C.ip [cM kI64 1 a1, cM Yb2 1 a2, cM Yb2 1 a3, cM kI64 1 a4]] (Yaj.mk a1 a2 a3 a4) := ⟨rfl⟩
instance {a1 : List Int} {a2 : List (List Yai)} {a3 : List (List Yai)} {a4 : List Int} : Mk Yb4 [cM kI64 1 a1, cM Yb2 1 a2, cM Yb2 1 a3, cM kI64 1 a4] (Yaj.mk a1 a2 a3 a4) := ⟨rfl⟩
instance {a1 : List Yaf} {a2 : List Yac} {a3 : List Yaj} {a4 : List (List Int)} {a5 : List (List Yai)} : Mk Ybg [cM Yav 3 a1, cM Yar 2 a2, cM Yb5 1 a3, cM Yb6 1 a4, cM Yb2 1 a5] (Yak.mk (Yag.mk a1 a2) a3 a4 a5) := ⟨rfl⟩
instance {a1 : List Yag} {a2 : List Yad} {a3 : Int} {a4 : Int} : Mk Ybh [cM Yay 2 a1, cM Yas 5 a2, cI a3, cI a4] (Yal.mk (Yah.mk a1 a2) a3 a4) := ⟨rfl⟩
instance {a1 : Int} {a2 : Int} : Mk Yb7 [cI a1, cI a2] (Yam.mk a1 a2) := ⟨rfl⟩
instance {a1 : Int} {a2 : List Yaa} {a3 : List Yaa} {a4 : List (Int × Int)} {a5 : List (Int × List Yai)} {a6 : List (Int × List Yai)} {a7 : List (Int × Int)} : Mk Ybc [C.ip [cI a1, cM Yap 9 a2, cM Yap 9 a3, C.imap .i64 Yb8 a4, C.imap .i64 Yb9 a5, C.imap .i64 Yb9 a6, C.imap .i64 Yb8 a7]] (Yan.mk (Yaf.mk a1 a2 a3) a4 a5 a6 a7) := ⟨rfl⟩
instance {a1 : Int} {a2 : List Yaa} {a3 : List Yaa} {a4 : List (Int × Int)} {a5 : List (Int × List Yai)} {a6 : List (Int × List Yai)} {a7 : List (Int × Int)} : Mk Ybb [cI a1, cM Yap 9 a2, cM Yap 9 a3, C.imap .i64 Yb8 a4, C.imap .i64 Yb9 a5, C.imap .i64 Yb9 a6, C.imap .i64 Yb8 a7] (Yan.mk (Yaf.mk a1 a2 a3) a4 a5 a6 a7) := ⟨rfl⟩
instance {a1 : List Yaf} {a2 : List Yac} {a3 : List Yan} : Mk Ybe [C.ip [cM Yav 3 a1, cM Yar 2 a2, cM Ybc 1 a3]] (Yao.mk (Yag.mk a1 a2) a3) := ⟨rfl⟩
instance {a1 : List Yaf} {a2 : List Yac} {a3 : List Yan} : Mk Ybd [cM Yav 3 a1, cM Yar 2 a2, cM Ybc 1 a3] (Yao.mk (Yag.mk a1 a2) a3) := ⟨rfl⟩
instance {a1 : List Yao} {a2 : List Yad} : Mk Ybi [C.ip [cM Ybe 1 a1, cM Yas 5 a2]] (TNet.mk a1 a2) := ⟨rfl⟩
instance {a1 : List Yao} {a2 : List Yad} : Mk kNet [cM Ybe 1 a1, cM Yas 5 a2] (TNet.mk a1 a2) := ⟨rfl⟩
instance {x : Int} : Mk kI64 [cI x] x := ⟨rfl⟩
instance {x : List Yai} : Mk Yb2 [cM Yb1 3 x] x := ⟨rfl⟩
instance {x : Bool} : Mk Yb3 [C.bool x] x := ⟨rfl⟩
instance {x : List Int} : Mk Yb6 [cM kI64 1 x] x := ⟨rfl⟩
instance {x : Int} : Mk kU8 [cV (.int .u8 x)] x := ⟨rfl⟩
instance {x : Int} : Mc Yb8 (cI x) x := ⟨rfl⟩
instance {x : List Yai} : Mc Yb9 (cM Yb1 3 x) x := ⟨rfl⟩
instance {x : Bool} : Mc Yba (C.bool x) x := ⟨rfl⟩

def Z1 (p0 : List Int) (p1 : Int) : Option Int := cond (decide ((IntKind.i64.wrap (p1 - (p0.length : Int))) < 0)) (some (-1)) (some (IntKind.i64.wrap (p1 - (p0.length : Int))))
instance Z2 (p0 : List Int) (p1 : Int) : Sp Tryz.prog 49 [cM kI64 1 p0, cI p1] (Z1 p0 p1) (fun r => cI r) := Sp.of (so Tryz.func49 rfl rfl fun r X h => gh .z)

def Z3 (p0 : Yaa) (p1 : Int) : Option Int := cond (decide ((IntKind.i64.wrap (p1 - (p0.text.size : Int))) < 0)) (some (-1)) ((Z1 p0.prev (IntKind.i64.wrap (p1 - (p0.text.size : Int)))).bind fun r3 => cond (decide (r3 < 0)) (some (-1)) (some r3))
instance Z4 (p0 : Yaa) (p1 : Int) : Sp Tryz.prog 17 [C.agg [cI p0.id, cI p0.room, cI p0.author, cI p0.kind, cI p0.key, cI p0.n, C.str p0.text, cM kI64 1 p0.prev, cI p0.time], cI p1] (Z3 p0 p1) (fun r => cI r) := Sp.of (so Tryz.func17 rfl rfl fun r X h => gh .z)

def Z5 (x16 : Int) : Option Int := some x16
def Z6 (p0 : List Yaa) (x8 : Int) (x9 : Int) : Option ((Int × Int) ⊕ (Int ⊕ Int)) := cond (decide (x9 < (p0.length : Int))) ((getI p0 x9).bind fun e11 => (Z3 e11 x8).bind fun r13 => cond (decide (r13 < 0)) (some (.inr (.inl (-1)))) (some (.inl (r13, (IntKind.i64.wrap (x9 + 1)))))) (some (.inr (.inr x8)))
def Z7 (p0 : List Yaa) (p1 : Int) : Option Int := cond (decide ((IntKind.i64.wrap (p1 - (p0.length : Int))) < 0)) (some (-1)) ((iter (fun z17 => Z6 p0 z17.1 z17.2) big ((IntKind.i64.wrap (p1 - (p0.length : Int))), 0)).bind (fun z20 => match z20 with | .inl y18 => some y18 | .inr y19 => Z5 y19))
instance Z8 (p0 : List Yaa) (p1 : Int) : Sp Tryz.prog 255 [cM Yap 9 p0, cI p1] (Z7 p0 p1) (fun r => cI r) := Sp.of (so Tryz.func255 rfl rfl fun r X h => gh (.b .z (.c1 (fun x16 => .d [(1, cI x16)] []) [] [] (.l2 (fun x8 x9 => .d [(1, cI x8), (5, cI x9)] []) [0] [] .z) .z)))

def Z9 (p0 : Yab) (p1 : Int) : Option Int := (Z7 p0.events p1).bind fun r2 => cond (decide (r2 < 0)) (some (-1)) ((Z7 p0.parked r2).bind fun r5 => cond (decide (r5 < 0)) (some (-1)) (some r5))
instance Za (p0 : Yab) (p1 : Int) : Sp Tryz.prog 190 [C.agg [cI p0.room, cM Yap 9 p0.events, cM Yap 9 p0.parked], cI p1] (Z9 p0 p1) (fun r => cI r) := Sp.of (so Tryz.func190 rfl rfl fun r X h => gh .z)

def Zb (x16 : Int) : Option Int := some x16
def Zc (p0 : List Yab) (x8 : Int) (x9 : Int) : Option ((Int × Int) ⊕ (Int ⊕ Int)) := cond (decide (x9 < (p0.length : Int))) ((getI p0 x9).bind fun e11 => (Z9 e11 x8).bind fun r13 => cond (decide (r13 < 0)) (some (.inr (.inl (-1)))) (some (.inl (r13, (IntKind.i64.wrap (x9 + 1)))))) (some (.inr (.inr x8)))
def Zd (p0 : List Yab) (p1 : Int) : Option Int := cond (decide ((IntKind.i64.wrap (p1 - (p0.length : Int))) < 0)) (some (-1)) ((iter (fun z17 => Zc p0 z17.1 z17.2) big ((IntKind.i64.wrap (p1 - (p0.length : Int))), 0)).bind (fun z20 => match z20 with | .inl y18 => some y18 | .inr y19 => Zb y19))
instance Ze (p0 : List Yab) (p1 : Int) : Sp Tryz.prog 108 [cM Yaq 3 p0, cI p1] (Zd p0 p1) (fun r => cI r) := Sp.of (so Tryz.func108 rfl rfl fun r X h => gh (.b .z (.c1 (fun x16 => .d [(1, cI x16)] []) [] [] (.l2 (fun x8 x9 => .d [(1, cI x8), (5, cI x9)] []) [0] [] .z) .z)))

def Zf (p0 : List Yac) (p1 : Int) : Option Int := cond (decide ((IntKind.i64.wrap (p1 - (p0.length : Int))) < 0)) (some (-1)) (some (IntKind.i64.wrap (p1 - (p0.length : Int))))
instance Zg (p0 : List Yac) (p1 : Int) : Sp Tryz.prog 109 [cM Yar 2 p0, cI p1] (Zf p0 p1) (fun r => cI r) := Sp.of (so Tryz.func109 rfl rfl fun r X h => gh .z)

def Zh (p0 : THub) (p1 : Int) : Option Int := (Zd p0.rooms p1).bind fun r2 => cond (decide (r2 < 0)) (some (-1)) ((Zf p0.stream r2).bind fun r5 => cond (decide (r5 < 0)) (some (-1)) (some r5))
instance Zi (p0 : THub) (p1 : Int) : Sp Tryz.prog 57 [C.agg [cM Yaq 3 p0.rooms, cM Yar 2 p0.stream], cI p1] (Zh p0 p1) (fun r => cI r) := Sp.of (so Tryz.func57 rfl rfl fun r X h => gh .z)

def Zj (x16 : Int) : Option Int := some x16
def Zk (p0 : List THub) (x8 : Int) (x9 : Int) : Option ((Int × Int) ⊕ (Int ⊕ Int)) := cond (decide (x9 < (p0.length : Int))) ((getI p0 x9).bind fun e11 => (Zh e11 x8).bind fun r13 => cond (decide (r13 < 0)) (some (.inr (.inl (-1)))) (some (.inl (r13, (IntKind.i64.wrap (x9 + 1)))))) (some (.inr (.inr x8)))
def Zl (p0 : List THub) (p1 : Int) : Option Int := cond (decide ((IntKind.i64.wrap (p1 - (p0.length : Int))) < 0)) (some (-1)) ((iter (fun z17 => Zk p0 z17.1 z17.2) big ((IntKind.i64.wrap (p1 - (p0.length : Int))), 0)).bind (fun z20 => match z20 with | .inl y18 => some y18 | .inr y19 => Zj y19))
instance Zm (p0 : List THub) (p1 : Int) : Sp Tryz.prog 23 [cM kHub 2 p0, cI p1] (Zl p0 p1) (fun r => cI r) := Sp.of (so Tryz.func23 rfl rfl fun r X h => gh (.b .z (.c1 (fun x16 => .d [(1, cI x16)] []) [] [] (.l2 (fun x8 x9 => .d [(1, cI x8), (5, cI x9)] []) [0] [] .z) .z)))

def Zn (p0 : Yad) (p1 : Int) : Option Int := cond (decide ((IntKind.i64.wrap (p1 - (p0.text.size : Int))) < 0)) (some (-1)) (some (IntKind.i64.wrap (p1 - (p0.text.size : Int))))
instance Zo (p0 : Yad) (p1 : Int) : Sp Tryz.prog 58 [C.agg [cI p0.kind, cI p0.from_, cI p0.to_, cI p0.room, C.str p0.text], cI p1] (Zn p0 p1) (fun r => cI r) := Sp.of (so Tryz.func58 rfl rfl fun r X h => gh .z)

def Zp (x16 : Int) : Option Int := some x16
def Zq (p0 : List Yad) (x8 : Int) (x9 : Int) : Option ((Int × Int) ⊕ (Int ⊕ Int)) := cond (decide (x9 < (p0.length : Int))) ((getI p0 x9).bind fun e11 => (Zn e11 x8).bind fun r13 => cond (decide (r13 < 0)) (some (.inr (.inl (-1)))) (some (.inl (r13, (IntKind.i64.wrap (x9 + 1)))))) (some (.inr (.inr x8)))
def Zr (p0 : List Yad) (p1 : Int) : Option Int := cond (decide ((IntKind.i64.wrap (p1 - (p0.length : Int))) < 0)) (some (-1)) ((iter (fun z17 => Zq p0 z17.1 z17.2) big ((IntKind.i64.wrap (p1 - (p0.length : Int))), 0)).bind (fun z20 => match z20 with | .inl y18 => some y18 | .inr y19 => Zp y19))
instance Zs (p0 : List Yad) (p1 : Int) : Sp Tryz.prog 24 [cM Yas 5 p0, cI p1] (Zr p0 p1) (fun r => cI r) := Sp.of (so Tryz.func24 rfl rfl fun r X h => gh (.b .z (.c1 (fun x16 => .d [(1, cI x16)] []) [] [] (.l2 (fun x8 x9 => .d [(1, cI x8), (5, cI x9)] []) [0] [] .z) .z)))

def Zt (p0 : Yae) (p1 : Int) : Option Int := (Zl p0.hubs p1).bind fun r2 => cond (decide (r2 < 0)) (some (-1)) ((Zr p0.letters r2).bind fun r5 => cond (decide (r5 < 0)) (some (-1)) (some r5))
instance Zu (p0 : Yae) (p1 : Int) : Sp Tryz.prog 6 [C.agg [cM kHub 2 p0.hubs, cM Yas 5 p0.letters], cI p1] (Zt p0 p1) (fun r => cI r) := Sp.of (so Tryz.func6 rfl rfl fun r X h => gh .z)

def Zv (l16 : List Int) : Option (List Int) := some l16
def Zw (p0 : List Int) (l9 : List Int) (x10 : Int) : Option ((List Int × Int) ⊕ ((List Int))) := cond (decide (x10 < (p0.length : Int))) ((getI p0 x10).bind fun e12 => (getI l9 x10).bind fun e14 => some (.inl ((List.set l9 (Int.toNat x10) e12), (IntKind.i64.wrap (x10 + 1))))) (some (.inr l9))
def Zx (p0 : List Int) : Option (List Int) := (chk (decide (0 ≤ (p0.length : Int) ∧ (p0.length : Int) * 8 ≤ 140737488355328))).bind fun u2 => (iter (fun z18 => Zw p0 z18.1 z18.2) big ((List.replicate (Int.toNat (p0.length : Int)) 0), 0)).bind fun y19 => Zv y19
instance Zy (p0 : List Int) : SpO Tryz.prog 51 (Zx p0) (.d [cM kI64 1 p0] [] fun r => .x fun (v17 : Value) => .d (cV v17) [oA v17 2 kI64 1 r]) := ⟨so Tryz.func51 rfl rfl fun r X h => gh (.q 2 (.a 0 fun w0 => .c1 (fun l16 => .d [] [oA w0 2 kI64 1 l16]) [3] [] (.A 0 fun w0 => .l2 (fun l9 x10 => .d [(4, cI x10)] [oA w0 2 kI64 1 l9]) [0,3] [] .z) .z))⟩
instance Zy' (p0 : List Int) : Sp Tryz.prog 51 [cM kI64 1 p0] (Zx p0) (fun r => cM kI64 1 r) := ⟨fun r h => Ok.freeze ((Zy p0).h r h) (by rintro c qs ⟨v17, rfl, rfl⟩; exact Frz.arr)⟩

def Zz (p0 : Yaa) : Option Yaa := (Zx p0.prev).bind fun r4 => some (Yaa.mk p0.id p0.room p0.author p0.kind p0.key p0.n p0.text r4 p0.time)
instance Z10 (p0 : Yaa) : SpO Tryz.prog 19 (Zz p0) (.d [C.agg [cI p0.id, cI p0.room, cI p0.author, cI p0.kind, cI p0.key, cI p0.n, C.str p0.text, cM kI64 1 p0.prev, cI p0.time]] [] fun r => .x fun (v8 : Value) => .d (C.agg [cI r.id, cI r.room, cI r.author, cI r.kind, cI r.key, cI r.n, C.str r.text, cV v8, cI r.time]) [oA v8 2 kI64 1 r.prev]) := ⟨so Tryz.func19 rfl rfl fun r X h => gh (.k .z)⟩
instance Z10' (p0 : Yaa) : Sp Tryz.prog 19 [C.agg [cI p0.id, cI p0.room, cI p0.author, cI p0.kind, cI p0.key, cI p0.n, C.str p0.text, cM kI64 1 p0.prev, cI p0.time]] (Zz p0) (fun r => C.agg [cI r.id, cI r.room, cI r.author, cI r.kind, cI r.key, cI r.n, C.str r.text, cM kI64 1 r.prev, cI r.time]) := ⟨fun r h => Ok.freeze ((Z10 p0).h r h) (by rintro c qs ⟨v8, rfl, rfl⟩; exact Frz.agg (fS (fS (fS (fS (fS (fS (fS (FrzL.cons (os := [_]) (Frz.arr) (fS (FrzL.nil)))))))))))⟩

def Z11 (l22 : List Yaa) : Option (List Yaa) := some l22
def Z12 (p0 : List Yaa) (l12 : List Yaa) (x13 : Int) : Option ((List Yaa × Int) ⊕ ((List Yaa))) := cond (decide (x13 < (p0.length : Int))) ((getI p0 x13).bind fun e15 => (Zz e15).bind fun r17 => (getI l12 x13).bind fun e20 => some (.inl ((List.set l12 (Int.toNat x13) r17), (IntKind.i64.wrap (x13 + 1))))) (some (.inr l12))
def Z13 (p0 : List Yaa) : Option (List Yaa) := (chk (decide (0 ≤ (p0.length : Int) ∧ (p0.length : Int) * 96 ≤ 140737488355328))).bind fun u2 => (iter (fun z24 => Z12 p0 z24.1 z24.2) big ((List.replicate (Int.toNat (p0.length : Int)) (Yaa.mk 0 0 0 0 0 0 ByteArray.empty [] 0)), 0)).bind fun y25 => Z11 y25
theorem Z14 (p0 : List Yaa) (r : List Yaa) (h : Z13 p0 = some r) : Ok Tryz.prog 256 [cM Yap 9 p0] [] (fun c qs => ∃ (v23 : Value), c = cV v23 ∧ qs = [Obj.deep v23 47 Yat Yau 9 r]) := by
 refine Ok.of_body (rs := [.tmp 2]) Tryz.func256 rfl rfl rfl rfl rfl fun X => ?_
 unfold Z13 at h
 refine zw ?_
 refine ob' h fun u2 c1 h => ?_
 refine Ops.h (ns := []) rfl rfl (Y6n (k := Yat) (ob := Yau) (z := (Yaa.mk 0 0 0 0 0 0 ByteArray.empty [] 0)) (u0 := s0) Ycs Yca (Y4g rfl rfl) (fun _ _ => (Own.none_cons Y6k Own.none_nil)) rfl rfl (Y49 c1).1 (Y49 c1).2 (Y4a (by decide) c1) rfl) ?_
 rintro _ _ ⟨b3, rfl, rfl⟩
 refine Ops.v rfl (Ys rfl rfl) ?_
 refine Ops.nil ?_
 refine AW.seq ?_
 refine AW.cut (τ := List Yaa) (fun l22 => ⟨[(3, cV (sn b3 (p0.length : Int)))], [Obj.deep (sn b3 (p0.length : Int)) 47 Yat Yau 9 l22]⟩) (fun l22 => Z11 l22 = some r) ?_ ?_
 ·
  refine zw ?_
  refine ob' h fun o26 g27 q28 => ?_
  refine AW.loop (τ := List Yaa × Int) (x := ((List.replicate (Int.toNat (p0.length : Int)) (Yaa.mk 0 0 0 0 0 0 ByteArray.empty [] 0)), 0)) (fun (l12, x13) => ⟨[(0, cM Yap 9 p0), (3, cV (sn b3 (p0.length : Int))), (4, cI x13)], [Obj.deep (sn b3 (p0.length : Int)) 47 Yat Yau 9 l12]⟩) (fun k (l12, x13) => iter (fun z24 => Z12 p0 z24.1 z24.2) k (l12, x13) = some o26) g27 (Y25.both (ns := [0]) rfl rfl) ?_
  rintro k ⟨l12, x13⟩ i30
  refine Y4f (show iter (fun z24 => Z12 p0 z24.1 z24.2) k (l12, x13) = some o26 from i30) fun k29 y31 hlt_k29 h h32 => ?_
  replace h : Z12 p0 l12 x13 = some y31 := h
  unfold Z12 at h
  refine zw ?_
  refine cnd h (fun hb14 h => ?_) fun hb14 h => ?_
  ·
   refine AW.ct hb14 rfl ?_
   refine zw ?_
   refine oi h fun e15 g16 h => ?_
   refine zw ?_
   refine ob' h fun r17 g18 h => ?_
   refine Ops.h (ns := []) rfl rfl (Y27 ((Z10 _).h _ g18) rfl rfl) ?_
   rintro _ _ ⟨_, ⟨v19, rfl, rfl⟩, rfl⟩
   refine ob' h fun e20 g21 h => ?_
   refine Ops.v rfl (Y6f (p := 1) Ycx.h rfl rfl rfl g21 rfl) ?_
   refine Ops.hd (ns := [1, 0]) rfl rfl (Y6j (e' := r17) (u' := v19) Ycr.h rfl rfl rfl (Y2f g21).2.2 (fun _ => rfl) rfl rfl) ?_
   refine zw ?_
   obtain rfl := Wj h
   exact ⟨k29, ((List.set l12 (Int.toNat x13) r17), (IntKind.i64.wrap (x13 + 1))), hlt_k29, h32, Y25.both (ns := [0]) rfl rfl⟩
  refine AW.cf hb14 rfl ?_
  refine AW.exit ?_
  obtain rfl := Wj h
  obtain rfl := Wj h32
  replace h := q28
  exact ⟨l12, h, Y25.both (ns := [0]) rfl rfl⟩
 intro l22 h
 replace h : Z11 l22 = some r := h
 unfold Z11 at h
 refine zw ?_
 refine AW.ret ?_
 rw [← Wj h]
 exact finI ⟨[cV (sn b3 (p0.length : Int))], _, Y25.refl _, (.cons (.tmp rfl) .nil), [0], _, _, rfl, ⟨(sn b3 (p0.length : Int)), rfl, rfl⟩⟩
instance Z14' (p0 : List Yaa) : Sp Tryz.prog 256 [cM Yap 9 p0] (Z13 p0) (fun r => cM Yap 9 r) := ⟨fun r h => Ok.freeze (Z14 p0 r h) (by rintro c qs ⟨v23, rfl, rfl⟩; exact (Frz.deep Ycu))⟩
instance Z15 (p0 : List Yaa) : SpO Tryz.prog 256 (Z13 p0) (.d [cM Yap 9 p0] [] fun r => .x fun (v23 : Value) => .d (cV v23) [Obj.deep v23 47 Yat Yau 9 r]) := ⟨fun r h => Z14 p0 r h⟩

def Z16 (p0 : Yab) : Option Yaf := (Z13 p0.events).bind fun r4 => (Z13 p0.parked).bind fun r8 => some (Yaf.mk p0.room r4 r8)
instance Z17 (p0 : Yab) : SpO Tryz.prog 193 (Z16 p0) (.d [C.agg [cI p0.room, cM Yap 9 p0.events, cM Yap 9 p0.parked]] [] fun r => .x fun (v12 : Value) => .x fun (v13 : Value) => .d (C.agg [cI r.room, cV v12, cV v13]) [Obj.deep v12 47 Yat Yau 9 r.events, Obj.deep v13 47 Yat Yau 9 r.parked]) := ⟨so Tryz.func193 rfl rfl fun r X h => gh (.k (.k .z))⟩
instance Z17' (p0 : Yab) : Sp Tryz.prog 193 [C.agg [cI p0.room, cM Yap 9 p0.events, cM Yap 9 p0.parked]] (Z16 p0) (fun r => C.agg [cI r.room, cM Yap 9 r.events, cM Yap 9 r.parked]) := ⟨fun r h => Ok.freeze ((Z17 p0).h r h) (by rintro c qs ⟨v12, v13, rfl, rfl⟩; exact Frz.agg (fS (FrzL.cons (os := [_]) ((Frz.deep Ycu)) (FrzL.cons (os := [_]) ((Frz.deep Ycu)) (FrzL.nil)))))⟩

def Z18 (l24 : List Yaf) : Option (List Yaf) := some l24
def Z19 (p0 : List Yab) (l13 : List Yaf) (x14 : Int) : Option ((List Yaf × Int) ⊕ ((List Yaf))) := cond (decide (x14 < (p0.length : Int))) ((getI p0 x14).bind fun e16 => (Z16 e16).bind fun r18 => (getI l13 x14).bind fun e22 => some (.inl ((List.set l13 (Int.toNat x14) r18), (IntKind.i64.wrap (x14 + 1))))) (some (.inr l13))
def Z1a (p0 : List Yab) : Option (List Yaf) := (chk (decide (0 ≤ (p0.length : Int) ∧ (p0.length : Int) * 56 ≤ 140737488355328))).bind fun u2 => (iter (fun z26 => Z19 p0 z26.1 z26.2) big ((List.replicate (Int.toNat (p0.length : Int)) (Yaf.mk 0 [] [])), 0)).bind fun y27 => Z18 y27
theorem Z1b (p0 : List Yab) (r : List Yaf) (h : Z1a p0 = some r) : Ok Tryz.prog 115 [cM Yaq 3 p0] [] (fun c qs => ∃ (v25 : Value), c = cV v25 ∧ qs = [Obj.deep v25 114 Yaw Yax 3 r]) := by
 refine Ok.of_body (rs := [.tmp 2]) Tryz.func115 rfl rfl rfl rfl rfl fun X => ?_
 unfold Z1a at h
 refine zw ?_
 refine ob' h fun u2 c1 h => ?_
 refine Ops.h (ns := []) rfl rfl (Y6n (k := Yaw) (ob := Yax) (z := (Yaf.mk 0 [] [])) (u0 := (s0, s0)) Yd5 Ycy (Y4g rfl rfl) (fun _ _ => (Own.none_cons Y6l (Own.none_cons Y6l Own.none_nil))) rfl rfl (Y49 c1).1 (Y49 c1).2 (Y4a (by decide) c1) rfl) ?_
 rintro _ _ ⟨b3, rfl, rfl⟩
 refine Ops.v rfl (Ys rfl rfl) ?_
 refine Ops.nil ?_
 refine AW.seq ?_
 refine AW.cut (τ := List Yaf) (fun l24 => ⟨[(3, cV (sn b3 (p0.length : Int)))], [Obj.deep (sn b3 (p0.length : Int)) 114 Yaw Yax 3 l24]⟩) (fun l24 => Z18 l24 = some r) ?_ ?_
 ·
  refine zw ?_
  refine ob' h fun o28 g29 q30 => ?_
  refine AW.loop (τ := List Yaf × Int) (x := ((List.replicate (Int.toNat (p0.length : Int)) (Yaf.mk 0 [] [])), 0)) (fun (l13, x14) => ⟨[(0, cM Yaq 3 p0), (3, cV (sn b3 (p0.length : Int))), (4, cI x14)], [Obj.deep (sn b3 (p0.length : Int)) 114 Yaw Yax 3 l13]⟩) (fun k (l13, x14) => iter (fun z26 => Z19 p0 z26.1 z26.2) k (l13, x14) = some o28) g29 (Y25.both (ns := [0]) rfl rfl) ?_
  rintro k ⟨l13, x14⟩ i32
  refine Y4f (show iter (fun z26 => Z19 p0 z26.1 z26.2) k (l13, x14) = some o28 from i32) fun k31 y33 hlt_k31 h h34 => ?_
  replace h : Z19 p0 l13 x14 = some y33 := h
  unfold Z19 at h
  refine zw ?_
  refine cnd h (fun hb15 h => ?_) fun hb15 h => ?_
  ·
   refine AW.ct hb15 rfl ?_
   refine zw ?_
   refine oi h fun e16 g17 h => ?_
   refine zw ?_
   refine ob' h fun r18 g19 h => ?_
   refine Ops.h (ns := []) rfl rfl (Y27 ((Z17 _).h _ g19) rfl rfl) ?_
   rintro _ _ ⟨_, ⟨v20, v21, rfl, rfl⟩, rfl⟩
   refine ob' h fun e22 g23 h => ?_
   refine Ops.v rfl (Y6f (p := 2) Yd9.h rfl rfl rfl g23 rfl) ?_
   refine Ops.hd (ns := [2, 0, 0]) rfl rfl (Y6j (e' := r18) (u' := (v20, v21)) Yd4.h rfl rfl rfl (Y2f g23).2.2 (fun _ => rfl) rfl rfl) ?_
   refine zw ?_
   obtain rfl := Wj h
   exact ⟨k31, ((List.set l13 (Int.toNat x14) r18), (IntKind.i64.wrap (x14 + 1))), hlt_k31, h34, Y25.both (ns := [0]) rfl rfl⟩
  refine AW.cf hb15 rfl ?_
  refine AW.exit ?_
  obtain rfl := Wj h
  obtain rfl := Wj h34
  replace h := q30
  exact ⟨l13, h, Y25.both (ns := [0]) rfl rfl⟩
 intro l24 h
 replace h : Z18 l24 = some r := h
 unfold Z18 at h
 refine zw ?_
 refine AW.ret ?_
 rw [← Wj h]
 exact finI ⟨[cV (sn b3 (p0.length : Int))], _, Y25.refl _, (.cons (.tmp rfl) .nil), [0], _, _, rfl, ⟨(sn b3 (p0.length : Int)), rfl, rfl⟩⟩
instance Z1b' (p0 : List Yab) : Sp Tryz.prog 115 [cM Yaq 3 p0] (Z1a p0) (fun r => cM Yav 3 r) := ⟨fun r h => Ok.freeze (Z1b p0 r h) (by rintro c qs ⟨v25, rfl, rfl⟩; exact (Frz.deep Yd6))⟩
instance Z1c (p0 : List Yab) : SpO Tryz.prog 115 (Z1a p0) (.d [cM Yaq 3 p0] [] fun r => .x fun (v25 : Value) => .d (cV v25) [Obj.deep v25 114 Yaw Yax 3 r]) := ⟨fun r h => Z1b p0 r h⟩

def Z1d (p0 : Yac) : Option Yac := some p0
instance Z1e (p0 : Yac) : Sp Tryz.prog 194 [C.agg [cI p0.room, cI p0.id]] (Z1d p0) (fun r => C.agg [cI r.room, cI r.id]) := Sp.of (so Tryz.func194 rfl rfl fun r X h => gh .z)

def Z1f (l20 : List Yac) : Option (List Yac) := some l20
def Z1g (p0 : List Yac) (l11 : List Yac) (x12 : Int) : Option ((List Yac × Int) ⊕ ((List Yac))) := cond (decide (x12 < (p0.length : Int))) ((getI p0 x12).bind fun e14 => (Z1d e14).bind fun r16 => (getI l11 x12).bind fun e18 => some (.inl ((List.set l11 (Int.toNat x12) r16), (IntKind.i64.wrap (x12 + 1))))) (some (.inr l11))
def Z1h (p0 : List Yac) : Option (List Yac) := (chk (decide (0 ≤ (p0.length : Int) ∧ (p0.length : Int) * 16 ≤ 140737488355328))).bind fun u2 => (iter (fun z22 => Z1g p0 z22.1 z22.2) big ((List.replicate (Int.toNat (p0.length : Int)) (Yac.mk 0 0)), 0)).bind fun y23 => Z1f y23
instance Z1i (p0 : List Yac) : SpO Tryz.prog 116 (Z1h p0) (.d [cM Yar 2 p0] [] fun r => .x fun (v21 : Value) => .d (cV v21) [oA v21 191 Yar 2 r]) := ⟨so Tryz.func116 rfl rfl fun r X h => gh (.q 2 (.a 0 fun w0 => .c1 (fun l20 => .d [] [oA w0 191 Yar 2 l20]) [3] [] (.A 0 fun w0 => .l2 (fun l11 x12 => .d [(4, cI x12)] [oA w0 191 Yar 2 l11]) [0,3] [] .z) .z))⟩
instance Z1i' (p0 : List Yac) : Sp Tryz.prog 116 [cM Yar 2 p0] (Z1h p0) (fun r => cM Yar 2 r) := ⟨fun r h => Ok.freeze ((Z1i p0).h r h) (by rintro c qs ⟨v21, rfl, rfl⟩; exact Frz.arr)⟩

def Z1j (p0 : THub) : Option Yag := (Z1a p0.rooms).bind fun r4 => (Z1h p0.stream).bind fun r8 => some (Yag.mk r4 r8)
instance Z1k (p0 : THub) : SpO Tryz.prog 64 (Z1j p0) (.d [C.agg [cM Yaq 3 p0.rooms, cM Yar 2 p0.stream]] [] fun r => .x fun (v12 : Value) => .x fun (v13 : Value) => .d (C.agg [cV v12, cV v13]) [Obj.deep v12 114 Yaw Yax 3 r.rooms, oA v13 191 Yar 2 r.stream]) := ⟨so Tryz.func64 rfl rfl fun r X h => gh (.k (.k .z))⟩
instance Z1k' (p0 : THub) : Sp Tryz.prog 64 [C.agg [cM Yaq 3 p0.rooms, cM Yar 2 p0.stream]] (Z1j p0) (fun r => C.agg [cM Yav 3 r.rooms, cM Yar 2 r.stream]) := ⟨fun r h => Ok.freeze ((Z1k p0).h r h) (by rintro c qs ⟨v12, v13, rfl, rfl⟩; exact Frz.agg (FrzL.cons (os := [_]) ((Frz.deep Yd6)) (FrzL.cons (os := [_]) (Frz.arr) (FrzL.nil))))⟩

def Z1l (l24 : List Yag) : Option (List Yag) := some l24
def Z1m (p0 : List THub) (l13 : List Yag) (x14 : Int) : Option ((List Yag × Int) ⊕ ((List Yag))) := cond (decide (x14 < (p0.length : Int))) ((getI p0 x14).bind fun e16 => (Z1j e16).bind fun r18 => (getI l13 x14).bind fun e22 => some (.inl ((List.set l13 (Int.toNat x14) r18), (IntKind.i64.wrap (x14 + 1))))) (some (.inr l13))
def Z1n (p0 : List THub) : Option (List Yag) := (chk (decide (0 ≤ (p0.length : Int) ∧ (p0.length : Int) * 48 ≤ 140737488355328))).bind fun u2 => (iter (fun z26 => Z1m p0 z26.1 z26.2) big ((List.replicate (Int.toNat (p0.length : Int)) (Yag.mk [] [])), 0)).bind fun y27 => Z1l y27
theorem Z1o (p0 : List THub) (r : List Yag) (h : Z1n p0 = some r) : Ok Tryz.prog 31 [cM kHub 2 p0] [] (fun c qs => ∃ (v25 : Value), c = cV v25 ∧ qs = [Obj.deep v25 86 Yaz Yb0 2 r]) := by
 refine Ok.of_body (rs := [.tmp 2]) Tryz.func31 rfl rfl rfl rfl rfl fun X => ?_
 unfold Z1n at h
 refine zw ?_
 refine ob' h fun u2 c1 h => ?_
 refine Ops.h (ns := []) rfl rfl (Y6n (k := Yaz) (ob := Yb0) (z := (Yag.mk [] [])) (u0 := (s0, s0)) Ydp Ydj (Y4g rfl rfl) (fun _ _ => (Own.none_cons Y6l (Own.none_cons Y6k Own.none_nil))) rfl rfl (Y49 c1).1 (Y49 c1).2 (Y4a (by decide) c1) rfl) ?_
 rintro _ _ ⟨b3, rfl, rfl⟩
 refine Ops.v rfl (Ys rfl rfl) ?_
 refine Ops.nil ?_
 refine AW.seq ?_
 refine AW.cut (τ := List Yag) (fun l24 => ⟨[(3, cV (sn b3 (p0.length : Int)))], [Obj.deep (sn b3 (p0.length : Int)) 86 Yaz Yb0 2 l24]⟩) (fun l24 => Z1l l24 = some r) ?_ ?_
 ·
  refine zw ?_
  refine ob' h fun o28 g29 q30 => ?_
  refine AW.loop (τ := List Yag × Int) (x := ((List.replicate (Int.toNat (p0.length : Int)) (Yag.mk [] [])), 0)) (fun (l13, x14) => ⟨[(0, cM kHub 2 p0), (3, cV (sn b3 (p0.length : Int))), (4, cI x14)], [Obj.deep (sn b3 (p0.length : Int)) 86 Yaz Yb0 2 l13]⟩) (fun k (l13, x14) => iter (fun z26 => Z1m p0 z26.1 z26.2) k (l13, x14) = some o28) g29 (Y25.both (ns := [0]) rfl rfl) ?_
  rintro k ⟨l13, x14⟩ i32
  refine Y4f (show iter (fun z26 => Z1m p0 z26.1 z26.2) k (l13, x14) = some o28 from i32) fun k31 y33 hlt_k31 h h34 => ?_
  replace h : Z1m p0 l13 x14 = some y33 := h
  unfold Z1m at h
  refine zw ?_
  refine cnd h (fun hb15 h => ?_) fun hb15 h => ?_
  ·
   refine AW.ct hb15 rfl ?_
   refine zw ?_
   refine oi h fun e16 g17 h => ?_
   refine zw ?_
   refine ob' h fun r18 g19 h => ?_
   refine Ops.h (ns := []) rfl rfl (Y27 ((Z1k _).h _ g19) rfl rfl) ?_
   rintro _ _ ⟨_, ⟨v20, v21, rfl, rfl⟩, rfl⟩
   refine ob' h fun e22 g23 h => ?_
   refine Ops.v rfl (Y6f (p := 2) Ydu.h rfl rfl rfl g23 rfl) ?_
   refine Ops.hd (ns := [2, 0, 0]) rfl rfl (Y6j (e' := r18) (u' := (v20, v21)) Ydo.h rfl rfl rfl (Y2f g23).2.2 (fun _ => rfl) rfl rfl) ?_
   refine zw ?_
   obtain rfl := Wj h
   exact ⟨k31, ((List.set l13 (Int.toNat x14) r18), (IntKind.i64.wrap (x14 + 1))), hlt_k31, h34, Y25.both (ns := [0]) rfl rfl⟩
  refine AW.cf hb15 rfl ?_
  refine AW.exit ?_
  obtain rfl := Wj h
  obtain rfl := Wj h34
  replace h := q30
  exact ⟨l13, h, Y25.both (ns := [0]) rfl rfl⟩
 intro l24 h
 replace h : Z1l l24 = some r := h
 unfold Z1l at h
 refine zw ?_
 refine AW.ret ?_
 rw [← Wj h]
 exact finI ⟨[cV (sn b3 (p0.length : Int))], _, Y25.refl _, (.cons (.tmp rfl) .nil), [0], _, _, rfl, ⟨(sn b3 (p0.length : Int)), rfl, rfl⟩⟩
instance Z1o' (p0 : List THub) : Sp Tryz.prog 31 [cM kHub 2 p0] (Z1n p0) (fun r => cM Yay 2 r) := ⟨fun r h => Ok.freeze (Z1o p0 r h) (by rintro c qs ⟨v25, rfl, rfl⟩; exact (Frz.deep Ydr))⟩
instance Z1p (p0 : List THub) : SpO Tryz.prog 31 (Z1n p0) (.d [cM kHub 2 p0] [] fun r => .x fun (v25 : Value) => .d (cV v25) [Obj.deep v25 86 Yaz Yb0 2 r]) := ⟨fun r h => Z1o p0 r h⟩

def Z1q (p0 : Yad) : Option Yad := some p0
instance Z1r (p0 : Yad) : Sp Tryz.prog 65 [C.agg [cI p0.kind, cI p0.from_, cI p0.to_, cI p0.room, C.str p0.text]] (Z1q p0) (fun r => C.agg [cI r.kind, cI r.from_, cI r.to_, cI r.room, C.str r.text]) := Sp.of (so Tryz.func65 rfl rfl fun r X h => gh .z)

def Z1s (l20 : List Yad) : Option (List Yad) := some l20
def Z1t (p0 : List Yad) (l11 : List Yad) (x12 : Int) : Option ((List Yad × Int) ⊕ ((List Yad))) := cond (decide (x12 < (p0.length : Int))) ((getI p0 x12).bind fun e14 => (Z1q e14).bind fun r16 => (getI l11 x12).bind fun e18 => some (.inl ((List.set l11 (Int.toNat x12) r16), (IntKind.i64.wrap (x12 + 1))))) (some (.inr l11))
def Z1u (p0 : List Yad) : Option (List Yad) := (chk (decide (0 ≤ (p0.length : Int) ∧ (p0.length : Int) * 48 ≤ 140737488355328))).bind fun u2 => (iter (fun z22 => Z1t p0 z22.1 z22.2) big ((List.replicate (Int.toNat (p0.length : Int)) (Yad.mk 0 0 0 0 ByteArray.empty)), 0)).bind fun y23 => Z1s y23
instance Z1v (p0 : List Yad) : SpO Tryz.prog 32 (Z1u p0) (.d [cM Yas 5 p0] [] fun r => .x fun (v21 : Value) => .d (cV v21) [oA v21 60 Yas 5 r]) := ⟨so Tryz.func32 rfl rfl fun r X h => gh (.q 2 (.a 0 fun w0 => .c1 (fun l20 => .d [] [oA w0 60 Yas 5 l20]) [3] [] (.A 0 fun w0 => .l2 (fun l11 x12 => .d [(4, cI x12)] [oA w0 60 Yas 5 l11]) [0,3] [] .z) .z))⟩
instance Z1v' (p0 : List Yad) : Sp Tryz.prog 32 [cM Yas 5 p0] (Z1u p0) (fun r => cM Yas 5 r) := ⟨fun r h => Ok.freeze ((Z1v p0).h r h) (by rintro c qs ⟨v21, rfl, rfl⟩; exact Frz.arr)⟩

def Z1w (p0 : Yae) : Option Yah := (Z1n p0.hubs).bind fun r4 => (Z1u p0.letters).bind fun r8 => some (Yah.mk r4 r8)
instance Z1x (p0 : Yae) : SpO Tryz.prog 8 (Z1w p0) (.d [C.agg [cM kHub 2 p0.hubs, cM Yas 5 p0.letters]] [] fun r => .x fun (v12 : Value) => .x fun (v13 : Value) => .d (C.agg [cV v12, cV v13]) [Obj.deep v12 86 Yaz Yb0 2 r.hubs, oA v13 60 Yas 5 r.letters]) := ⟨so Tryz.func8 rfl rfl fun r X h => gh (.k (.k .z))⟩
instance Z1x' (p0 : Yae) : Sp Tryz.prog 8 [C.agg [cM kHub 2 p0.hubs, cM Yas 5 p0.letters]] (Z1w p0) (fun r => C.agg [cM Yay 2 r.hubs, cM Yas 5 r.letters]) := ⟨fun r h => Ok.freeze ((Z1x p0).h r h) (by rintro c qs ⟨v12, v13, rfl, rfl⟩; exact Frz.agg (FrzL.cons (os := [_]) ((Frz.deep Ydr)) (FrzL.cons (os := [_]) (Frz.arr) (FrzL.nil))))⟩

def Z1y (x2 : Bool) : Option Bool := some x2
def Z1z (p0 : Int) (p1 : Int) (p2 : Int) : Option Bool := cond (decide (p0 ≥ p1)) (Z1y (decide (p0 ≤ p2))) (Z1y false)
instance Z20 (p0 : Int) (p1 : Int) (p2 : Int) : Sp Tryz.prog 60 [cI p0, cI p1, cI p2] (Z1z p0 p1 p2) (fun r => C.bool r) := Sp.of (so Tryz.func60 rfl rfl fun r X h => gh (.q 1 (.c1 (fun x2 => .d [(6, C.bool x2)] []) [] [] .z .z)))

def Z21 (p0 : Int) : Option Bool := (Z1z p0 1 1000000).bind fun r1 => some r1
instance Z22 (p0 : Int) : Sp Tryz.prog 142 [cI p0] (Z21 p0) (fun r => C.bool r) := Sp.of (so Tryz.func142 rfl rfl fun r X h => gh .z)

def Z23 (p0 : Int) : Option Bool := (Z1z p0 1 6).bind fun r1 => some r1
instance Z24 (p0 : Int) : Sp Tryz.prog 165 [cI p0] (Z23 p0) (fun r => C.bool r) := Sp.of (so Tryz.func165 rfl rfl fun r X h => gh .z)

def Z25 (p0 : Int) : Option Bool := (Z1z p0 0 1000000).bind fun r1 => some r1
instance Z26 (p0 : Int) : Sp Tryz.prog 166 [cI p0] (Z25 p0) (fun r => C.bool r) := Sp.of (so Tryz.func166 rfl rfl fun r X h => gh .z)

def Z27 : Option Bool := some true
def Z28 (x14 : Int) (x25 : Bool) : Option (Int ⊕ (Bool ⊕ Unit)) := cond x25 (some (.inr (.inl false))) (some (.inl (IntKind.i64.wrap (x14 + 1))))
def Z29 (p0 : List Int) (p1 : Int) (x14 : Int) : Option (Int ⊕ (Bool ⊕ Unit)) := cond (decide (x14 < (p0.length : Int))) ((getI p0 x14).bind fun e16 => (Z21 e16).bind fun r18 => cond r18 (cond (e16 == p1) (Z28 x14 true) (cond (decide (x14 > 0)) ((getI p0 (IntKind.i64.wrap (x14 - 1))).bind fun e23 => Z28 x14 (decide (e23 ≥ e16))) (Z28 x14 false))) (Z28 x14 true)) (some (.inr (.inr ())))
def Z2a (p0 : List Int) (p1 : Int) : Option Bool := cond (decide ((p0.length : Int) > 4)) (some false) ((iter (Z29 p0 p1) big 0).bind (fun z28 => match z28 with | .inl y27 => some y27 | .inr () => Z27))
instance Z2b (p0 : List Int) (p1 : Int) : Sp Tryz.prog 167 [cM kI64 1 p0, cI p1] (Z2a p0 p1) (fun r => C.bool r) := Sp.of (so Tryz.func167 rfl rfl fun r X h => gh (.b .z (.c0 (.d [] []) [] [] (.l1 (fun x14 => .d [(5, cI x14)] []) [0,1] [] (.b (.q 1 (.c1 (fun x25 => .d [(44, C.bool x25)] []) [0,1,5] [] (.r [] [3,10,22,26] [] [0,4,8,13,18,20,24,28,32,36,41,44,48,52,56,60,64,68,72,76,80,84,89,92,96,100,105,108,112,116] .z) .z)) .z)) .z)))

def Z2c (x5 : Bool) : Option Bool := some x5
def Z2d (x13 : Bool) : Option Bool := some x13
def Z2e (x21 : Bool) : Option Bool := some x21
def Z2f (x25 : Bool) : Option Bool := some x25
def Z2g (x31 : Bool) : Option Bool := some x31
def Z2h (x37 : Bool) : Option Bool := some x37
def Z2i (x42 : Bool) : Option Bool := some x42
def Z2j (x48 : Bool) : Option Bool := some x48
def Z2k (p0 : Yaa) : Option Bool := cond (p0.kind == 1) (cond (p0.key == 0) (cond (p0.n == 0) (Z2c (p0.text.toList == ByteArray.empty.toList)) (Z2c false)) (Z2c false)) (cond (p0.kind == 2) ((Z23 p0.key).bind fun r7 => cond r7 ((Z1z p0.n 1 4).bind fun r10 => cond r10 (Z2d (p0.text.toList == ByteArray.empty.toList)) (Z2d false)) (Z2d false)) (cond (p0.kind == 3) ((Z23 p0.key).bind fun r15 => cond r15 ((Z1z p0.n 0 100).bind fun r18 => cond r18 (Z2e (p0.text.toList == ByteArray.empty.toList)) (Z2e false)) (Z2e false)) (cond (p0.kind == 4) (cond (p0.key == 0) (cond (p0.n == 0) (Z2f (decide ((p0.text.size : Int) ≤ 30))) (Z2f false)) (Z2f false)) (cond (p0.kind == 5) (cond (p0.key == 0) ((Z1z p0.n 1 2).bind fun r28 => cond r28 (Z2g (p0.text.toList == ByteArray.empty.toList)) (Z2g false)) (Z2g false)) (cond (p0.kind == 6) (cond (p0.key == 0) ((Z1z p0.n 1 3).bind fun r34 => cond r34 (Z2h (p0.text.toList == ByteArray.empty.toList)) (Z2h false)) (Z2h false)) (cond (p0.kind == 7) (cond (p0.key == 0) (cond (p0.n == 0) (cond (decide ((p0.text.size : Int) ≥ 1)) (Z2i (decide ((p0.text.size : Int) ≤ 30))) (Z2i false)) (Z2i false)) (Z2i false)) (cond (p0.kind == 8) ((Z21 p0.key).bind fun r44 => cond r44 (cond (p0.n == 0) (Z2j (p0.text.toList == ByteArray.empty.toList)) (Z2j false)) (Z2j false)) (some false))))))))
instance Z2l (p0 : Yaa) : Sp Tryz.prog 168 [C.agg [cI p0.id, cI p0.room, cI p0.author, cI p0.kind, cI p0.key, cI p0.n, C.str p0.text, cM kI64 1 p0.prev, cI p0.time]] (Z2k p0) (fun r => C.bool r) := Sp.of (so Tryz.func168 rfl rfl fun r X h => gh (.r [0] [1,4,7] [] [0,5,8,12,17,20,24,29,32,36,40,44] (.b (.c1 (fun x5 => .d [(2, C.bool x5)] []) [] [] .z .z) (.b (.c1 (fun x13 => .d [(2, C.bool x13)] []) [] [] .z .z) (.b (.c1 (fun x21 => .d [(2, C.bool x21)] []) [] [] .z .z) (.b (.c1 (fun x25 => .d [(2, C.bool x25)] []) [] [] .z .z) (.b (.c1 (fun x31 => .d [(2, C.bool x31)] []) [] [] .z .z) (.b (.c1 (fun x37 => .d [(2, C.bool x37)] []) [] [] .z .z) (.b (.c1 (fun x42 => .d [(2, C.bool x42)] []) [] [] .z .z) (.b (.c1 (fun x48 => .d [(2, C.bool x48)] []) [] [] .z .z) .z))))))))))

def Z2m (x20 : Bool) : Option Bool := some x20
def Z2n (p0 : Yaa) : Option Bool := (Z21 p0.id).bind fun r2 => cond r2 ((Z1z p0.room 1 3).bind fun r5 => cond r5 ((Z23 p0.author).bind fun r8 => cond r8 ((Z25 p0.time).bind fun r11 => cond r11 ((Z2a p0.prev p0.id).bind fun r14 => cond r14 (cond ((p0.kind == 1) == ((p0.prev.length : Int) == 0)) ((Z2k p0).bind fun r18 => Z2m r18) (Z2m false)) (Z2m false)) (Z2m false)) (Z2m false)) (Z2m false)) (Z2m false)
instance Z2o (p0 : Yaa) : Sp Tryz.prog 99 [C.agg [cI p0.id, cI p0.room, cI p0.author, cI p0.kind, cI p0.key, cI p0.n, C.str p0.text, cM kI64 1 p0.prev, cI p0.time]] (Z2n p0) (fun r => C.bool r) := Sp.of (so Tryz.func99 rfl rfl fun r X h => gh (.q 1 (.c1 (fun x20 => .d [(2, C.bool x20)] []) [] [] .z .z)))

def Z2p : Option Bool := some true
def Z2q (x14 : Int) (x25 : Bool) : Option (Int ⊕ (Bool ⊕ Unit)) := cond x25 (some (.inr (.inl false))) (some (.inl (IntKind.i64.wrap (x14 + 1))))
def Z2r (p0 : List Yaa) (p1 : Int) (x14 : Int) : Option (Int ⊕ (Bool ⊕ Unit)) := cond (decide (x14 < (p0.length : Int))) ((getI p0 x14).bind fun e16 => (Z2n e16).bind fun r18 => cond r18 (cond (e16.room != p1) (Z2q x14 true) (cond (decide (x14 > 0)) ((getI p0 (IntKind.i64.wrap (x14 - 1))).bind fun e23 => Z2q x14 (decide (e23.id ≥ e16.id))) (Z2q x14 false))) (Z2q x14 true)) (some (.inr (.inr ())))
def Z2s (p0 : List Yaa) (p1 : Int) (p2 : Int) : Option Bool := cond (decide ((p0.length : Int) > p2)) (some false) ((iter (Z2r p0 p1) big 0).bind (fun z28 => match z28 with | .inl y27 => some y27 | .inr () => Z2p))
instance Z2t (p0 : List Yaa) (p1 : Int) (p2 : Int) : Sp Tryz.prog 232 [cM Yap 9 p0, cI p1, cI p2] (Z2s p0 p1 p2) (fun r => C.bool r) := Sp.of (so Tryz.func232 rfl rfl fun r X h => gh (.b .z (.c0 (.d [] []) [] [] (.l1 (fun x14 => .d [(7, cI x14)] []) [0,1] [] (.b (.q 1 (.c1 (fun x25 => .d [(50, C.bool x25)] []) [0,1,7] [] (.r [] [3,11,24,29] [] [0,4,8,13,18,20,24,28,32,36,40,45,48,52,56,60,64,68,72,76,80,84,88,92,97,100,104,108,112,117,120,124,128] .z) .z)) .z)) .z)))

def Z2u : Option Int := some (-1)
def Z2v (p0 : List Yaa) (p1 : Int) (x5 : Int) : Option (Int ⊕ (Int ⊕ Unit)) := cond (decide (x5 < (p0.length : Int))) ((getI p0 x5).bind fun e7 => cond (e7.id == p1) (some (.inr (.inl x5))) (some (.inl (IntKind.i64.wrap (x5 + 1))))) (some (.inr (.inr ())))
def Z2w (p0 : List Yaa) (p1 : Int) : Option Int := (iter (Z2v p0 p1) big 0).bind (fun z11 => match z11 with | .inl y10 => some y10 | .inr () => Z2u)
instance Z2x (p0 : List Yaa) (p1 : Int) : Sp Tryz.prog 100 [cM Yap 9 p0, cI p1] (Z2w p0 p1) (fun r => cI r) := Sp.of (so Tryz.func100 rfl rfl fun r X h => gh (.q 1 (.c0 (.d [] []) [] [] (.l1 (fun x5 => .d [(5, cI x5)] []) [0,1] [] .z) .z)))

def Z2y : Option Bool := some true
def Z2z (p0 : List Yaa) (p1 : Yaa) (x8 : Int) : Option (Int ⊕ (Bool ⊕ Unit)) := cond (decide (x8 < (p1.prev.length : Int))) ((getI p1.prev x8).bind fun e10 => (Z2w p0 e10).bind fun r12 => cond (decide (r12 < 0)) (some (.inr (.inl false))) (some (.inl (IntKind.i64.wrap (x8 + 1))))) (some (.inr (.inr ())))
def Z30 (p0 : List Yaa) (p1 : Yaa) : Option Bool := (iter (Z2z p0 p1) big 0).bind (fun z16 => match z16 with | .inl y15 => some y15 | .inr () => Z2y)
instance Z31 (p0 : List Yaa) (p1 : Yaa) : Sp Tryz.prog 214 [cM Yap 9 p0, C.agg [cI p1.id, cI p1.room, cI p1.author, cI p1.kind, cI p1.key, cI p1.n, C.str p1.text, cM kI64 1 p1.prev, cI p1.time]] (Z30 p0 p1) (fun r => C.bool r) := Sp.of (so Tryz.func214 rfl rfl fun r X h => gh (.q 1 (.c0 (.d [] []) [] [] (.l1 (fun x8 => .d [(5, cI x8)] []) [0,3] [0] .z) .z)))

def Z32 (l161 : List Int) : Option (List Int) := some l161
def Z33 (x82 : Int) (l160 : List Int) : Option ((List Int × Int) ⊕ ((List Int))) := some (.inl (l160, (IntKind.i64.wrap (x82 + 1))))
def Z34 (x122 : Int) (l159 : List Int) : Option ((List Int × Int) ⊕ ((List Int))) := some (.inl (l159, (IntKind.i64.wrap (x122 + 1))))
def Z35 (l121 : List Int) (x122 : Int) (x156 : Int) (x157 : Bool) : Option ((List Int × Int) ⊕ ((List Int))) := cond x157 (Z34 x122 (List.set l121 (Int.toNat x122) (IntKind.i64.wrap (x156 + 1)))) (Z34 x122 l121)
def Z36 (x141 : Int) (x154 : Int) (x155 : Bool) : Option ((Int × Bool × Int) ⊕ ((Int × Bool))) := some (.inl (x154, x155, (IntKind.i64.wrap (x141 + 1))))
def Z37 (x139 : Int) (x141 : Int) (e149 : Int) (x152 : Bool) : Option ((Int × Bool × Int) ⊕ ((Int × Bool))) := cond (decide (e149 > x139)) (Z36 x141 e149 x152) (Z36 x141 x139 x152)
def Z38 (p0 : List Yaa) (l121 : List Int) (x122 : Int) (x139 : Int) (x140 : Bool) (x141 : Int) : Option ((Int × Bool × Int) ⊕ ((Int × Bool))) := (getI p0 x122).bind fun e142 => cond (decide (x141 < (e142.prev.length : Int))) ((getI e142.prev x141).bind fun e145 => (Z2w p0 e145).bind fun r147 => (getI l121 r147).bind fun e149 => cond x140 (Z37 x139 x141 e149 (decide (e149 > 0))) (Z37 x139 x141 e149 false)) (some (.inr (x139, x140)))
def Z39 (p0 : List Yaa) (l121 : List Int) (x122 : Int) : Option ((List Int × Int) ⊕ ((List Int))) := cond (decide (x122 < (p0.length : Int))) ((getI l121 x122).bind fun e124 => cond (decide (e124 > 0)) (Z34 x122 l121) ((iter (fun z163 => Z38 p0 l121 x122 z163.1 z163.2.1 z163.2.2) big (0, true, 0)).bind fun (y164, y165) => Z35 l121 x122 y164 y165)) (some (.inr l121))
def Z3a (p0 : List Yaa) (l81 : List Int) (x82 : Int) : Option ((List Int × Int) ⊕ ((List Int))) := cond (decide (x82 < (p0.length : Int))) ((iter (fun z166 => Z39 p0 z166.1 z166.2) big (l81, 0)).bind fun y167 => Z33 x82 y167) (some (.inr l81))
def Z3b (p0 : List Yaa) : Option (List Int) := (chk (decide (0 ≤ (p0.length : Int) ∧ (p0.length : Int) * 8 ≤ 140737488355328))).bind fun u2 => (iter (fun z168 => Z3a p0 z168.1 z168.2) big ((List.replicate (Int.toNat (p0.length : Int)) 0), 0)).bind fun y169 => Z32 y169
instance Z3c (p0 : List Yaa) : SpO Tryz.prog 218 (Z3b p0) (.d [cM Yap 9 p0] [] fun r => .x fun (v162 : Value) => .d (cV v162) [oA v162 2 kI64 1 r]) := ⟨so Tryz.func218 rfl rfl fun r X h => gh (.q 2 (.a 0 fun w0 => .c1 (fun l161 => .d [] [oA w0 2 kI64 1 l161]) [3] [] (.A 0 fun w0 => .l2 (fun l81 x82 => .d [(4, cI x82)] [oA w0 2 kI64 1 l81]) [0,3] [] (.b (.a 0 fun w0 => .c1 (fun l160 => .d [] [oA w0 2 kI64 1 l160]) [0,3,4] [] (.A 0 fun w0 => .l2 (fun l121 x122 => .d [(5, cI x122)] [oA w0 2 kI64 1 l121]) [0,3,4] [] (.b (.a 0 fun w0 => .c1 (fun l159 => .d [] [oA w0 2 kI64 1 l159]) [0,3,4,5] [] (.b .z (.q 2 (.c2 (fun x156 x157 => .d [(6, cI x156), (7, C.bool x157)] []) [0,3,4,5] [0] (.l3 (fun x139 x140 x141 => .d [(6, cI x139), (7, C.bool x140), (8, cI x141)] []) [0,3,4,5] [0] (.b (.c2 (fun x154 x155 => .d [(6, cI x154), (7, C.bool x155)] []) [0,3,4,5,8] [0] (.q 1 (.c1 (fun x152 => .d [(7, C.bool x152)] []) [0,3,4,5,6,8,9] [0] .z .z)) .z) .z)) .z))) .z) .z)) .z) .z)) .z))⟩
instance Z3c' (p0 : List Yaa) : Sp Tryz.prog 218 [cM Yap 9 p0] (Z3b p0) (fun r => cM kI64 1 r) := ⟨fun r h => Ok.freeze ((Z3c p0).h r h) (by rintro c qs ⟨v162, rfl, rfl⟩; exact Frz.arr)⟩

def Z3d : Option Bool := some true
def Z3e (r46 : List Int) (x52 : Int) : Option (Int ⊕ (Bool ⊕ Unit)) := cond (decide (x52 < (r46.length : Int))) ((getI r46 x52).bind fun e54 => cond (e54 == 0) (some (.inr (.inl false))) (some (.inl (IntKind.i64.wrap (x52 + 1))))) (some (.inr (.inr ())))
def Z3f (p0 : Yaf) : Option Bool := (Z3b p0.events).bind fun r46 => (iter (Z3e r46) big 0).bind (fun z58 => match z58 with | .inl y57 => some y57 | .inr () => Z3d)
def Z3g (p0 : Yaf) (x39 : Int) : Option (Int ⊕ (Bool ⊕ Unit)) := cond (decide (x39 < (p0.parked.length : Int))) ((getI p0.parked x39).bind fun e41 => (Z30 p0.events e41).bind fun r43 => cond r43 (some (.inr (.inl false))) (some (.inl (IntKind.i64.wrap (x39 + 1))))) (some (.inr (.inr ())))
def Z3h (p0 : Yaf) : Option Bool := (iter (Z3g p0) big 0).bind (fun z60 => match z60 with | .inl y59 => some y59 | .inr () => Z3f p0)
def Z3i (x22 : Int) (x31 : Bool) : Option (Int ⊕ (Bool ⊕ Unit)) := cond x31 (some (.inr (.inl false))) (some (.inl (IntKind.i64.wrap (x22 + 1))))
def Z3j (p0 : Yaf) (x22 : Int) : Option (Int ⊕ (Bool ⊕ Unit)) := cond (decide (x22 < (p0.events.length : Int))) ((getI p0.events x22).bind fun e24 => (Z30 p0.events e24).bind fun r26 => cond r26 ((Z2w p0.parked e24.id).bind fun r29 => Z3i x22 (decide (r29 ≥ 0))) (Z3i x22 true)) (some (.inr (.inr ())))
def Z3k (p0 : Yaf) (x10 : Bool) : Option Bool := cond x10 (some false) ((iter (Z3j p0) big 0).bind (fun z62 => match z62 with | .inl y61 => some y61 | .inr () => Z3h p0))
def Z3l (p0 : Yaf) : Option Bool := (Z1z p0.room 1 3).bind fun r2 => cond r2 ((Z2s p0.events p0.room 60).bind fun r5 => cond r5 ((Z2s p0.parked p0.room 20).bind fun r8 => Z3k p0 (!r8)) (Z3k p0 true)) (Z3k p0 true)
instance Z3m (p0 : Yaf) : Sp Tryz.prog 162 [C.agg [cI p0.room, cM Yap 9 p0.events, cM Yap 9 p0.parked]] (Z3l p0) (fun r => C.bool r) := Sp.of (so Tryz.func162 rfl rfl fun r X h => gh (.q 2 (.c1 (fun x10 => .d [(26, C.bool x10)] []) [1] [0] .z (.b .z (.c0 (.d [] []) [1] [0] (.l1 (fun x22 => .d [(3, cI x22)] []) [1] [0] (.b (.q 1 (.c1 (fun x31 => .d [(54, C.bool x31)] []) [1,3] [0] (.r [0] [1,3,6,11,13,17] [] [0,5,8,13,16,20,25,30,32,36,40,45,48,53,56,60,64,69,74,76,80] .z) .z)) .z)) (.c0 (.d [] []) [1] [0] (.l1 (fun x39 => .d [(4, cI x39)] []) [1] [0] (.b (.r [0] [1,3,6] [] [0,5,8,13,16,20,25,30] .z) .z)) (.q 1 (.c0 (.d [] []) [] [] (.l1 (fun x52 => .d [(6, cI x52)] []) [5] [] .z) .z))))))))

def Z3n (l69 : List Int) : Option (List Int) := some l69
def Z3o (x37 : Int) (l67 : List Int) : Option ((List Int × Int) ⊕ ((List Int))) := some (.inl (l67, (IntKind.i64.wrap (x37 + 1))))
def Z3p (x53 : Int) (l65 : List Int) : Option ((List Int × Int) ⊕ ((List Int))) := some (.inl (l65, (IntKind.i64.wrap (x53 + 1))))
def Z3q (p0 : Yaf) (r2 : List Int) (x37 : Int) (l52 : List Int) (x53 : Int) : Option ((List Int × Int) ⊕ ((List Int))) := cond (decide (x53 < (p0.events.length : Int))) ((getI r2 x53).bind fun e55 => cond (e55 == x37) ((getI p0.events x53).bind fun e58 => (chk (decide ((l52.length + [e58.id].length) * 8 ≤ 140737488355328))).bind fun u62 => Z3p x53 (l52 ++ [e58.id])) (Z3p x53 l52)) (some (.inr l52))
def Z3r (p0 : Yaf) (r2 : List Int) (l36 : List Int) (x37 : Int) : Option ((List Int × Int) ⊕ ((List Int))) := cond (decide ((l36.length : Int) < (p0.events.length : Int))) ((iter (fun z71 => Z3q p0 r2 x37 z71.1 z71.2) big (l36, 0)).bind fun y72 => Z3o x37 y72) (some (.inr l36))
def Z3s (p0 : Yaf) : Option (List Int) := (Z3b p0.events).bind fun r2 => (iter (fun z73 => Z3r p0 r2 z73.1 z73.2) big (([] : List Int), 1)).bind fun y74 => Z3n y74
instance Z3t (p0 : Yaf) : SpO Tryz.prog 143 (Z3s p0) (.d [C.agg [cI p0.room, cM Yap 9 p0.events, cM Yap 9 p0.parked]] [] fun r => .x fun (v70 : Value) => .d (cV v70) [oA v70 2 kI64 1 r]) := ⟨so Tryz.func143 rfl rfl fun r X h => gh (.q 3 (.c1 (fun l69 => .x fun v68 => .d [(4, cV v68)] [oA v68 2 kI64 1 l69]) [] [] (.l2 (fun l36 x37 => .x fun v35 => .d [(4, cV v35), (5, cI x37)] [oA v35 2 kI64 1 l36]) [1,3] [1] (.b (.c1 (fun l67 => .x fun v66 => .d [(4, cV v66)] [oA v66 2 kI64 1 l67]) [1,3,5] [1] (.l2 (fun l52 x53 => .x fun v51 => .d [(4, cV v51), (6, cI x53)] [oA v51 2 kI64 1 l52]) [1,3,5] [1] (.b (.c1 (fun l65 => .x fun v64 => .d [(4, cV v64)] [oA v64 2 kI64 1 l65]) [1,3,5,6] [1] .z .z) .z)) .z) .z)) .z))⟩
instance Z3t' (p0 : Yaf) : Sp Tryz.prog 143 [C.agg [cI p0.room, cM Yap 9 p0.events, cM Yap 9 p0.parked]] (Z3s p0) (fun r => cM kI64 1 r) := ⟨fun r h => Ok.freeze ((Z3t p0).h r h) (by rintro c qs ⟨v70, rfl, rfl⟩; exact Frz.arr)⟩

def Z3u : Option Int := some 0
def Z3v (p0 : List Yai) (x9 : Int) (x14 : Bool) : Option (Int ⊕ (Int ⊕ Unit)) := cond x14 ((getI p0 x9).bind fun e16 => some (.inr (.inl e16.id))) (some (.inl (IntKind.i64.wrap (x9 + 1))))
def Z3w (p0 : List Yai) (p1 : Int) (p2 : Int) (x9 : Int) : Option (Int ⊕ (Int ⊕ Unit)) := cond (decide (x9 < (p0.length : Int))) ((getI p0 x9).bind fun e11 => cond (e11.kind == p1) (Z3v p0 x9 (e11.key == p2)) (Z3v p0 x9 false)) (some (.inr (.inr ())))
def Z3x (p0 : List Yai) (p1 : Int) (p2 : Int) : Option Int := (iter (Z3w p0 p1 p2) big 0).bind (fun z19 => match z19 with | .inl y18 => some y18 | .inr () => Z3u)
instance Z3y (p0 : List Yai) (p1 : Int) (p2 : Int) : Sp Tryz.prog 169 [cM Yb1 3 p0, cI p1, cI p2] (Z3x p0 p1 p2) (fun r => cI r) := Sp.of (so Tryz.func169 rfl rfl fun r X h => gh (.q 1 (.c0 (.d [] []) [] [] (.l1 (fun x9 => .d [(7, cI x9)] []) [0,1,2] [] (.b (.q 1 (.c1 (fun x14 => .d [(29, C.bool x14)] []) [0,1,2,7] [] .z .z)) .z)) .z)))

def Z3z : Option Bool := some true
def Z40 (p0 : List (List Yai)) (p1 : Yai) (x8 : Int) : Option (Int ⊕ (Bool ⊕ Unit)) := cond (decide (x8 < (p0.length : Int))) ((getI p0 x8).bind fun e10 => (Z3x e10 p1.kind p1.key).bind fun r12 => cond (r12 != p1.id) (some (.inr (.inl false))) (some (.inl (IntKind.i64.wrap (x8 + 1))))) (some (.inr (.inr ())))
def Z41 (p0 : List (List Yai)) (p1 : Yai) : Option Bool := (iter (Z40 p0 p1) big 0).bind (fun z16 => match z16 with | .inl y15 => some y15 | .inr () => Z3z)
instance Z42 (p0 : List (List Yai)) (p1 : Yai) : Sp Tryz.prog 175 [cM Yb2 1 p0, C.agg [cI p1.kind, cI p1.key, cI p1.id]] (Z41 p0 p1) (fun r => C.bool r) := Sp.of (so Tryz.func175 rfl rfl fun r X h => gh (.q 1 (.c0 (.d [] []) [] [] (.l1 (fun x8 => .d [(5, cI x8)] []) [0,3] [0] (.b (.r [0] [3,5,7,10] [] [0,4,8,13,16,21,24,29,36,41,34,44] .z) .z)) .z)))

def Z43 (l35 : List Yai) : Option (List Yai) := some l35
def Z44 (x19 : Int) (l33 : List Yai) : Option ((List Yai × Int) ⊕ ((List Yai))) := some (.inl (l33, (IntKind.i64.wrap (x19 + 1))))
def Z45 (p0 : List Yai) (l18 : List Yai) (x19 : Int) (x24 : Bool) : Option ((List Yai × Int) ⊕ ((List Yai))) := cond x24 ((getI p0 x19).bind fun e26 => (chk (decide ((l18.length + [e26].length) * 24 ≤ 140737488355328))).bind fun u30 => Z44 x19 (l18 ++ [e26])) (Z44 x19 l18)
def Z46 (p0 : List Yai) (p1 : Yai) (l18 : List Yai) (x19 : Int) : Option ((List Yai × Int) ⊕ ((List Yai))) := cond (decide (x19 < (p0.length : Int))) ((getI p0 x19).bind fun e21 => cond (e21.kind != p1.kind) (Z45 p0 l18 x19 true) (Z45 p0 l18 x19 (e21.key != p1.key))) (some (.inr l18))
def Z47 (p0 : List Yai) (p1 : Yai) : Option (List Yai) := (iter (fun z37 => Z46 p0 p1 z37.1 z37.2) big (([] : List Yai), 0)).bind fun y38 => Z43 y38
instance Z48 (p0 : List Yai) (p1 : Yai) : SpO Tryz.prog 235 (Z47 p0 p1) (.d [cM Yb1 3 p0, C.agg [cI p1.kind, cI p1.key, cI p1.id]] [] fun r => .x fun (v36 : Value) => .d (cV v36) [oA v36 235 Yb1 3 r]) := ⟨so Tryz.func235 rfl rfl fun r X h => gh (.q 2 (.c1 (fun l35 => .x fun v34 => .d [(5, cV v34)] [oA v34 235 Yb1 3 l35]) [] [] (.l2 (fun l18 x19 => .x fun v17 => .d [(5, cV v17), (6, cI x19)] [oA v17 235 Yb1 3 l18]) [0,3] [1] (.b (.c1 (fun l33 => .x fun v32 => .d [(5, cV v32)] [oA v32 235 Yb1 3 l33]) [0,3,6] [1] (.c1 (fun x24 => .d [(31, C.bool x24)] []) [0,3,5,6] [1,0] (.r [0,0] [4,6,13,15] [] [0,4,8,12,17,20,25,28,32,36,40,44,48,53,56,61,64,68] .z) .z) .z) .z)) .z))⟩
instance Z48' (p0 : List Yai) (p1 : Yai) : Sp Tryz.prog 235 [cM Yb1 3 p0, C.agg [cI p1.kind, cI p1.key, cI p1.id]] (Z47 p0 p1) (fun r => cM Yb1 3 r) := ⟨fun r h => Ok.freeze ((Z48 p0 p1).h r h) (by rintro c qs ⟨v36, rfl, rfl⟩; exact Frz.arr)⟩

def Z49 (x5 : Bool) : Option Bool := some x5
def Z4a (p0 : Yai) (p1 : Yai) : Option Bool := cond (decide (p0.kind < p1.kind)) (Z49 true) (cond (p0.kind == p1.kind) (Z49 (decide (p0.key < p1.key))) (Z49 false))
instance Z4b (p0 : Yai) (p1 : Yai) : Sp Tryz.prog 236 [C.agg [cI p0.kind, cI p0.key, cI p0.id], C.agg [cI p1.kind, cI p1.key, cI p1.id]] (Z4a p0 p1) (fun r => C.bool r) := Sp.of (so Tryz.func236 rfl rfl fun r X h => gh (.q 1 (.c1 (fun x5 => .d [(4, C.bool x5)] []) [] [] .z .z)))

def Z4c (p1 : Yai) (r2 : List Yai) (x19 : Int) : Option (List Yai) := (Y2d r2 0 x19).bind fun s21 => (chk (decide ((([] : List Yai).length + s21.length) * 24 ≤ 140737488355328))).bind fun u24 => (chk (decide (((([] : List Yai) ++ s21).length + [p1].length) * 24 ≤ 140737488355328))).bind fun u28 => (Y2d r2 x19 (r2.length : Int)).bind fun s30 => (chk (decide ((((([] : List Yai) ++ s21) ++ [p1]).length + s30.length) * 24 ≤ 140737488355328))).bind fun u33 => some (((([] : List Yai) ++ s21) ++ [p1]) ++ s30)
def Z4d (x11 : Int) (x17 : Bool) : Option (Int ⊕ (Int)) := cond x17 (some (.inl (IntKind.i64.wrap (x11 + 1)))) (some (.inr x11))
def Z4e (p1 : Yai) (r2 : List Yai) (x11 : Int) : Option (Int ⊕ (Int)) := cond (decide (x11 < (r2.length : Int))) ((getI r2 x11).bind fun e13 => (Z4a e13 p1).bind fun r15 => Z4d x11 r15) (Z4d x11 false)
def Z4f (p0 : List Yai) (p1 : Yai) : Option (List Yai) := (Z47 p0 p1).bind fun r2 => (iter (Z4e p1 r2) big 0).bind fun y36 => Z4c p1 r2 y36
instance Z4g (p0 : List Yai) (p1 : Yai) : SpO Tryz.prog 176 (Z4f p0 p1) (.d [cM Yb1 3 p0, C.agg [cI p1.kind, cI p1.key, cI p1.id]] [] fun r => .x fun (v35 : Value) => .d (cV v35) [oA v35 235 Yb1 3 r]) := ⟨so Tryz.func176 rfl rfl fun r X h => gh (.q 3 (.c1 (fun x19 => .d [(6, cI x19)] []) [3,5] [0] (.l1 (fun x11 => .d [(6, cI x11)] []) [3,5] [0] (.q 1 (.c1 (fun x17 => .d [(22, C.bool x17)] []) [3,5,6] [0] (.r [0] [8,9] [] [0,4,8,12,16,20,24,28,33,37,42,44] .z) .z))) .z))⟩
instance Z4g' (p0 : List Yai) (p1 : Yai) : Sp Tryz.prog 176 [cM Yb1 3 p0, C.agg [cI p1.kind, cI p1.key, cI p1.id]] (Z4f p0 p1) (fun r => cM Yb1 3 r) := ⟨fun r h => Ok.freeze ((Z4g p0 p1).h r h) (by rintro c qs ⟨v35, rfl, rfl⟩; exact Frz.arr)⟩

def Z4h (p0 : List Int) (p1 : Int) (x12 : Int) (x16 : Bool) : Option (List Int) := cond x16 (some p0) ((Y2d p0 0 x12).bind fun s19 => (chk (decide ((([] : List Int).length + s19.length) * 8 ≤ 140737488355328))).bind fun u22 => (chk (decide (((([] : List Int) ++ s19).length + [p1].length) * 8 ≤ 140737488355328))).bind fun u26 => (Y2d p0 x12 (p0.length : Int)).bind fun s28 => (chk (decide ((((([] : List Int) ++ s19) ++ [p1]).length + s28.length) * 8 ≤ 140737488355328))).bind fun u31 => some (((([] : List Int) ++ s19) ++ [p1]) ++ s28))
def Z4i (p0 : List Int) (p1 : Int) (x12 : Int) : Option (List Int) := cond (decide (x12 < (p0.length : Int))) ((getI p0 x12).bind fun e14 => Z4h p0 p1 x12 (e14 == p1)) (Z4h p0 p1 x12 false)
def Z4j (x6 : Int) (x10 : Bool) : Option (Int ⊕ (Int)) := cond x10 (some (.inl (IntKind.i64.wrap (x6 + 1)))) (some (.inr x6))
def Z4k (p0 : List Int) (p1 : Int) (x6 : Int) : Option (Int ⊕ (Int)) := cond (decide (x6 < (p0.length : Int))) ((getI p0 x6).bind fun e8 => Z4j x6 (decide (e8 < p1))) (Z4j x6 false)
def Z4l (p0 : List Int) (p1 : Int) : Option (List Int) := (iter (Z4k p0 p1) big 0).bind fun y33 => Z4i p0 p1 y33
instance Z4m (p0 : List Int) (p1 : Int) : Sp Tryz.prog 113 [cM kI64 1 p0, cI p1] (Z4l p0 p1) (fun r => cM kI64 1 r) := Sp.of (so Tryz.func113 rfl rfl fun r X h => gh (.q 2 (.c1 (fun x12 => .d [(5, cI x12)] []) [0,1] [] (.l1 (fun x6 => .d [(5, cI x6)] []) [0,1] [] (.q 1 (.c1 (fun x10 => .d [(18, C.bool x10)] []) [0,1,5] [] .z .z))) (.q 1 (.c1 (fun x16 => .d [(32, C.bool x16)] []) [0,1,5] [] .z .z)))))

def Z4n (x6 : Bool) : Option Bool := some x6
def Z4o (p0 : Yaa) : Option Bool := cond (p0.kind == 1) (Z4n true) (cond (p0.kind == 3) (Z4n true) (cond (p0.kind == 5) (Z4n true) (cond (p0.kind == 2) (Z4n (p0.key != p0.author)) (Z4n false))))
instance Z4p (p0 : Yaa) : Sp Tryz.prog 237 [C.agg [cI p0.id, cI p0.room, cI p0.author, cI p0.kind, cI p0.key, cI p0.n, C.str p0.text, cM kI64 1 p0.prev, cI p0.time]] (Z4o p0) (fun r => C.bool r) := Sp.of (so Tryz.func237 rfl rfl fun r X h => gh (.q 1 (.c1 (fun x6 => .d [(2, C.bool x6)] []) [] [] .z .z)))

end Go.Proofs.YtnoknphekhclcaaGreat
