/- Printed by gen.py: plain functions for Go functions, and that the walks keep to them. -/
import Derived.Test.YtomachnjepgpbaaGreatEBI
import Derived.Test.YtomachnjepgpbaaGreatESorts
import Derived.Test.YtomachnjepgpbaaGreatEX
import Derived.Test.YtomachnjepgpbaaGreatEL
import Derived.Test.YtomachnjepgpbaaGreatChecked
set_option autoImplicit false
set_option linter.unusedVariables false
set_option linter.unusedSimpArgs false
set_option maxHeartbeats 8000000
set_option maxRecDepth 100000
namespace Go.Proofs.YtomachnjepgpbaaGreat
open Go Go.Abs
attribute [local irreducible] AW Ops OpsD Y3z VoK HoK GhF UsC Go.Abs.Fin PkK LenT LenL Y98 BldK FzK FzLK
structure Y9i where
  b : List Int
  at_ : Int
  mix : Int
  size : Int
structure Y9j where
  id : Int
  room : Int
  author : Int
  kind : Int
  key : Int
  n : Int
  text : ByteArray
  prev : List Int
  time : Int
structure Y9k where
  room : Int
  events : List Y9j
  parked : List Y9j
structure Y9l where
  graph : Y9k
  added : List Int
  code : Int
structure Y9m where
  kind : Int
  key : Int
  id : Int
structure Y9n where
  graph : Y9k
  depth : List (Int × Int)
  before : List (Int × List Y9m)
  after : List (Int × List Y9m)
  refused : List (Int × Int)
structure Y9o where
  event : Y9j
  code : Int
structure Y9p where
  depths : List Int
  ahead : List (List Y9m)
  behind : List (List Y9m)
  code : List Int
def kU8 (x : Int) : List C := [cV (.int .u8 x)]
def kStr (x : ByteArray) : List C := [C.str x]
def kI64 (x : Int) : List C := [cI x]
def Y9q (x : Y9j) : List C := [cI x.id, cI x.room, cI x.author, cI x.kind, cI x.key, cI x.n, C.str x.text, cM kI64 1 x.prev, cI x.time]
abbrev Y9r (x : Int) : C := cI x
def Y9s (x : Y9m) : List C := [cI x.kind, cI x.key, cI x.id]
def Y9t (x : List Y9m) : List C := [cM Y9s 3 x]
abbrev Y9u (x : List Y9m) : C := cM Y9s 3 x
abbrev Y9v (x : Bool) : C := C.bool x
def Y9w (x : Bool) : List C := [C.bool x]
def Y9x (x : Y9i) : List C := [cM kU8 1 x.b, cI x.at_, cV (.int .u64 x.mix), cI x.size]
def Y9y (x : Y9l) : List C := [cI x.graph.room, cM Y9q 9 x.graph.events, cM Y9q 9 x.graph.parked, cM kI64 1 x.added, cI x.code]
def Y9z (x : Y9k) : List C := [cI x.room, cM Y9q 9 x.events, cM Y9q 9 x.parked]
def Ya0 (x : List Int) : List C := [cM kI64 1 x]
def Ya1 (x : Y9n) : List C := [cI x.graph.room, cM Y9q 9 x.graph.events, cM Y9q 9 x.graph.parked, C.imap .i64 Y9r x.depth, C.imap .i64 Y9u x.before, C.imap .i64 Y9u x.after, C.imap .i64 Y9r x.refused]
def Ya2 (x : Y9o) : List C := [cI x.event.id, cI x.event.room, cI x.event.author, cI x.event.kind, cI x.event.key, cI x.event.n, C.str x.event.text, cM kI64 1 x.event.prev, cI x.event.time, cI x.code]
def Ya3 (x : Y9p) : List C := [cM kI64 1 x.depths, cM Y9t 1 x.ahead, cM Y9t 1 x.behind, cM kI64 1 x.code]
theorem Ya4 : places Tryz.prog 159 = some [(0, 1), (1, 1), (2, 1), (3, 1)] := by kernel_rfl
instance : PlI Tryz.prog 159 [(0, 1), (1, 1), (2, 1), (3, 1)] := ⟨Ya4⟩
theorem Ya5 : Y1c Tryz.prog 159 = some [.slice none 0 0, .int .i64 0, .int .u64 0, .int .i64 0] := by kernel_rfl
instance : AlI Tryz.prog 159 [.slice none 0 0, .int .i64 0, .int .u64 0, .int .i64 0] [cV s0, cV (.int .i64 0), cV (.int .u64 0), cV (.int .i64 0)] := ⟨Ya5, Y4g rfl rfl⟩
instance Ya6 : SlI Tryz.prog 22 5 1 1 := ⟨by kernel_rfl⟩
instance Ya7 : FldI Tryz.prog 159 2 2 := ⟨by kernel_rfl⟩
instance Ya8 : LdI Tryz.prog 157 false 1 := ⟨by kernel_rfl⟩
instance ld_5 : LdI Tryz.prog 5 false 1 := ⟨by kernel_rfl⟩
theorem un_5 : Tryz.prog.underlying 5 = some (.int .u8) := by kernel_rfl
instance : UnI Tryz.prog 5 (.int .u8) := ⟨un_5⟩
theorem Ya9 : Tryz.prog.underlying 157 = some (.int .u64) := by kernel_rfl
instance : UnI Tryz.prog 157 (.int .u64) := ⟨Ya9⟩
instance Yaa : FldI Tryz.prog 159 3 3 := ⟨by kernel_rfl⟩
instance ld_2 : LdI Tryz.prog 2 false 1 := ⟨by kernel_rfl⟩
instance Yab : FldI Tryz.prog 159 1 1 := ⟨by kernel_rfl⟩
instance ld_3 : LdI Tryz.prog 3 false 1 := ⟨by kernel_rfl⟩
instance Yac : FldI Tryz.prog 159 0 0 := ⟨by kernel_rfl⟩
instance Yad : LdI Tryz.prog 22 false 1 := ⟨by kernel_rfl⟩
theorem un_2 : Tryz.prog.underlying 2 = some (.int .i64) := by kernel_rfl
instance : UnI Tryz.prog 2 (.int .i64) := ⟨un_2⟩
theorem Yae : Y30 Tryz.prog 22 = some (5, 1, 1) := by kernel_rfl
theorem Yaf : Y73 Tryz.prog 22 = true := by kernel_rfl
theorem un_9 : Tryz.prog.underlying 9 = some .string := by kernel_rfl
instance : UnI Tryz.prog 9 .string := ⟨un_9⟩
instance Yag : SlI Tryz.prog 244 9 1 16 := ⟨by kernel_rfl⟩
instance ld_9 : LdI Tryz.prog 9 false 1 := ⟨by kernel_rfl⟩
theorem Yah : Y1c Tryz.prog 42 = some [.int .i64 0, .int .i64 0, .int .i64 0, .int .i64 0, .int .i64 0, .int .i64 0, .string ByteArray.empty, .slice none 0 0, .int .i64 0] := by kernel_rfl
instance : AlI Tryz.prog 42 [.int .i64 0, .int .i64 0, .int .i64 0, .int .i64 0, .int .i64 0, .int .i64 0, .string ByteArray.empty, .slice none 0 0, .int .i64 0] [cV (.int .i64 0), cV (.int .i64 0), cV (.int .i64 0), cV (.int .i64 0), cV (.int .i64 0), cV (.int .i64 0), cV (.string ByteArray.empty), cV s0, cV (.int .i64 0)] := ⟨Yah, Y4g rfl rfl⟩
theorem Yai : Y30 Tryz.prog 39 = some (2, 1, 8) := by kernel_rfl
instance Yaj : SlI Tryz.prog 39 2 1 8 := ⟨by kernel_rfl⟩
instance Yak : FldI Tryz.prog 42 3 3 := ⟨by kernel_rfl⟩
instance Yal : FldI Tryz.prog 42 4 4 := ⟨by kernel_rfl⟩
instance Yam : FldI Tryz.prog 42 5 5 := ⟨by kernel_rfl⟩
instance Yan : FldI Tryz.prog 42 2 2 := ⟨by kernel_rfl⟩
instance Yao : FldI Tryz.prog 42 6 6 := ⟨by kernel_rfl⟩
theorem Yap : Y30 Tryz.prog 244 = some (9, 1, 16) := by kernel_rfl
instance Yaq : LdI Tryz.prog 42 true 9 := ⟨by kernel_rfl⟩
instance Yar : SlI Tryz.prog 23 42 9 96 := ⟨by kernel_rfl⟩
instance Yas : FldI Tryz.prog 42 0 0 := ⟨by kernel_rfl⟩
theorem Yat : places Tryz.prog 42 = some [(0, 1), (1, 1), (2, 1), (3, 1), (4, 1), (5, 1), (6, 1), (7, 1), (8, 1)] := by kernel_rfl
instance : PlI Tryz.prog 42 [(0, 1), (1, 1), (2, 1), (3, 1), (4, 1), (5, 1), (6, 1), (7, 1), (8, 1)] := ⟨Yat⟩
theorem Yau : Y30 Tryz.prog 23 = some (42, 9, 96) := by kernel_rfl
instance Yav : FldI Tryz.prog 42 8 8 := ⟨by kernel_rfl⟩
instance Yaw : FldI Tryz.prog 42 7 7 := ⟨by kernel_rfl⟩
instance Yax : LdI Tryz.prog 39 false 1 := ⟨by kernel_rfl⟩
instance Yay : FldI Tryz.prog 42 1 1 := ⟨by kernel_rfl⟩
theorem un_4 : Tryz.prog.underlying 4 = some .bool := by kernel_rfl
instance : UnI Tryz.prog 4 .bool := ⟨un_4⟩
theorem ze_2 : Y1c Tryz.prog 2 = some [.int .i64 0] := by kernel_rfl
instance : AlI Tryz.prog 2 [.int .i64 0] [cV (.int .i64 0)] := ⟨ze_2, Y4g rfl rfl⟩
instance Yaz : FldI Tryz.prog 25 0 0 := ⟨by kernel_rfl⟩
instance Yb0 : FldI Tryz.prog 25 1 1 := ⟨by kernel_rfl⟩
instance Yb1 : LdI Tryz.prog 23 false 1 := ⟨by kernel_rfl⟩
instance Yb2 : FldI Tryz.prog 25 2 2 := ⟨by kernel_rfl⟩
theorem Yb3 : Y1c Tryz.prog 53 = some [.int .i64 0, .slice none 0 0, .slice none 0 0, .slice none 0 0, .int .i64 0] := by kernel_rfl
instance : AlI Tryz.prog 53 [.int .i64 0, .slice none 0 0, .slice none 0 0, .slice none 0 0, .int .i64 0] [cV (.int .i64 0), cV s0, cV s0, cV s0, cV (.int .i64 0)] := ⟨Yb3, Y4g rfl rfl⟩
theorem Yb4 : places Tryz.prog 53 = some [(0, 3), (3, 1), (4, 1)] := by kernel_rfl
instance : PlI Tryz.prog 53 [(0, 3), (3, 1), (4, 1)] := ⟨Yb4⟩
instance Yb5 : LdI Tryz.prog 53 true 5 := ⟨by kernel_rfl⟩
theorem Yb6 : Y1c Tryz.prog 25 = some [.int .i64 0, .slice none 0 0, .slice none 0 0] := by kernel_rfl
instance : AlI Tryz.prog 25 [.int .i64 0, .slice none 0 0, .slice none 0 0] [cV (.int .i64 0), cV s0, cV s0] := ⟨Yb6, Y4g rfl rfl⟩
theorem Yb7 : places Tryz.prog 25 = some [(0, 1), (1, 1), (2, 1)] := by kernel_rfl
instance : PlI Tryz.prog 25 [(0, 1), (1, 1), (2, 1)] := ⟨Yb7⟩
instance Yb8 : LdI Tryz.prog 25 true 3 := ⟨by kernel_rfl⟩
instance Yb9 : FldI Tryz.prog 53 0 0 := ⟨by kernel_rfl⟩
instance Yba : FldI Tryz.prog 53 1 3 := ⟨by kernel_rfl⟩
theorem ze_5 : Y1c Tryz.prog 5 = some [.int .u8 0] := by kernel_rfl
instance : AlI Tryz.prog 5 [.int .u8 0] [cV (.int .u8 0)] := ⟨ze_5, Y4g rfl rfl⟩
instance Ybb : FldI Tryz.prog 53 2 4 := ⟨by kernel_rfl⟩
theorem un_3 : Tryz.prog.underlying 3 = some (.int .i64) := by kernel_rfl
instance : UnI Tryz.prog 3 (.int .i64) := ⟨un_3⟩
theorem Ybc : Tryz.prog.underlying 163 = some (.int .u64) := by kernel_rfl
instance : UnI Tryz.prog 163 (.int .u64) := ⟨Ybc⟩
theorem Ybd : Y1c Tryz.prog 39 = some [.slice none 0 0] := by kernel_rfl
instance : AlI Tryz.prog 39 [.slice none 0 0] [cV s0] := ⟨Ybd, Y4g rfl rfl⟩
theorem Ybe : Y30 Tryz.prog 142 = some (3, 1, 8) := by kernel_rfl
instance Ybf : SlI Tryz.prog 142 3 1 8 := ⟨by kernel_rfl⟩
theorem Ybg : Y30 Tryz.prog 26 = some (29, 1, 24) := by kernel_rfl
instance Ybh : FldI Tryz.prog 100 3 5 := ⟨by kernel_rfl⟩
instance Ybi : LdI Tryz.prog 98 false 1 := ⟨by kernel_rfl⟩
theorem Ybj : Y6g Tryz.prog 98 = some (.i64, 29) := by kernel_rfl
theorem Ybk : Y6i Tryz.prog 29 = some s0 := by kernel_rfl
instance Ybl : SlI Tryz.prog 29 96 3 24 := ⟨by kernel_rfl⟩
instance Ybm : LdI Tryz.prog 96 true 3 := ⟨by kernel_rfl⟩
theorem Ybn : Y5u Tryz.prog 96 = some [0, 0, 0] := by kernel_rfl
instance Ybo : FldI Tryz.prog 96 0 0 := ⟨by kernel_rfl⟩
instance Ybp : FldI Tryz.prog 96 1 1 := ⟨by kernel_rfl⟩
theorem Ybq : places Tryz.prog 96 = some [(0, 1), (1, 1), (2, 1)] := by kernel_rfl
instance : PlI Tryz.prog 96 [(0, 1), (1, 1), (2, 1)] := ⟨Ybq⟩
theorem Ybr : Y1c Tryz.prog 96 = some [.int .i64 0, .int .i64 0, .int .i64 0] := by kernel_rfl
instance : AlI Tryz.prog 96 [.int .i64 0, .int .i64 0, .int .i64 0] [cV (.int .i64 0), cV (.int .i64 0), cV (.int .i64 0)] := ⟨Ybr, Y4g rfl rfl⟩
instance Ybs : FldI Tryz.prog 96 2 2 := ⟨by kernel_rfl⟩
theorem Ybt : Y30 Tryz.prog 29 = some (96, 3, 24) := by kernel_rfl
instance Ybu : SlI Tryz.prog 26 29 1 24 := ⟨by kernel_rfl⟩
instance Ybv : LdI Tryz.prog 29 false 1 := ⟨by kernel_rfl⟩
theorem Ybw : Y6g Tryz.prog 177 = some (.i64, 4) := by kernel_rfl
theorem zv_4 : Y6i Tryz.prog 4 = some (.bool false) := by kernel_rfl
instance Ybx : LdI Tryz.prog 91 false 1 := ⟨by kernel_rfl⟩
instance Yby : FldI Tryz.prog 100 0 0 := ⟨by kernel_rfl⟩
instance Ybz : FldI Tryz.prog 100 1 3 := ⟨by kernel_rfl⟩
instance Yc0 : LdI Tryz.prog 97 false 1 := ⟨by kernel_rfl⟩
theorem Yc1 : Y6g Tryz.prog 97 = some (.i64, 2) := by kernel_rfl
theorem zv_2 : Y6i Tryz.prog 2 = some (.int .i64 0) := by kernel_rfl
theorem Yc2 : ∀ x, Y4j (Y9s x) := fun x => (Y4j.cons (Y4i.val _) (Y4j.cons (Y4i.val _) (Y4j.cons (Y4i.val _) (Y4j.nil))) : Y4j [cI x.kind, cI x.key, cI x.id])
instance Yc3 : FldI Tryz.prog 100 2 4 := ⟨by kernel_rfl⟩
instance Yc4 : FldI Tryz.prog 100 4 6 := ⟨by kernel_rfl⟩
theorem Yc5 : places Tryz.prog 100 = some [(0, 3), (3, 1), (4, 1), (5, 1), (6, 1)] := by kernel_rfl
instance : PlI Tryz.prog 100 [(0, 3), (3, 1), (4, 1), (5, 1), (6, 1)] := ⟨Yc5⟩
theorem Yc6 : Y1c Tryz.prog 100 = some [.int .i64 0, .slice none 0 0, .slice none 0 0, .map none, .map none, .map none, .map none] := by kernel_rfl
instance : AlI Tryz.prog 100 [.int .i64 0, .slice none 0 0, .slice none 0 0, .map none, .map none, .map none, .map none] [cV (.int .i64 0), cV s0, cV s0, cV (.map none), cV (.map none), cV (.map none), cV (.map none)] := ⟨Yc6, Y4g rfl rfl⟩
theorem Yc7 : Y1c Tryz.prog 49 = some [.int .i64 0, .int .i64 0, .int .i64 0, .int .i64 0, .int .i64 0, .int .i64 0, .string ByteArray.empty, .slice none 0 0, .int .i64 0, .int .i64 0] := by kernel_rfl
instance : AlI Tryz.prog 49 [.int .i64 0, .int .i64 0, .int .i64 0, .int .i64 0, .int .i64 0, .int .i64 0, .string ByteArray.empty, .slice none 0 0, .int .i64 0, .int .i64 0] [cV (.int .i64 0), cV (.int .i64 0), cV (.int .i64 0), cV (.int .i64 0), cV (.int .i64 0), cV (.int .i64 0), cV (.string ByteArray.empty), cV s0, cV (.int .i64 0), cV (.int .i64 0)] := ⟨Yc7, Y4g rfl rfl⟩
theorem Yc8 : places Tryz.prog 49 = some [(0, 9), (9, 1)] := by kernel_rfl
instance : PlI Tryz.prog 49 [(0, 9), (9, 1)] := ⟨Yc8⟩
instance Yc9 : LdI Tryz.prog 49 true 10 := ⟨by kernel_rfl⟩
theorem Yca : Y6y Tryz.prog 42 5 = some (5, 1, false) := by kernel_rfl
theorem Ycb : Y6y Tryz.prog 42 2 = some (2, 1, false) := by kernel_rfl
theorem Ycc : Y30 Tryz.prog 111 = some (4, 1, 1) := by kernel_rfl
theorem ze_4 : Y1c Tryz.prog 4 = some [.bool false] := by kernel_rfl
instance : AlI Tryz.prog 4 [.bool false] [cV (.bool false)] := ⟨ze_4, Y4g rfl rfl⟩
theorem Ycd : Y6y Tryz.prog 42 7 = some (7, 1, false) := by kernel_rfl
instance Yce : SlI Tryz.prog 111 4 1 1 := ⟨by kernel_rfl⟩
instance ld_4 : LdI Tryz.prog 4 false 1 := ⟨by kernel_rfl⟩
theorem Ycf : Y1c Tryz.prog 29 = some [.slice none 0 0] := by kernel_rfl
instance : AlI Tryz.prog 29 [.slice none 0 0] [cV s0] := ⟨Ycf, Y4g rfl rfl⟩
theorem Ycg : places Tryz.prog 106 = some [(0, 1), (1, 1), (2, 1), (3, 1)] := by kernel_rfl
instance : PlI Tryz.prog 106 [(0, 1), (1, 1), (2, 1), (3, 1)] := ⟨Ycg⟩
theorem Ych : Y1c Tryz.prog 106 = some [.slice none 0 0, .slice none 0 0, .slice none 0 0, .slice none 0 0] := by kernel_rfl
instance : AlI Tryz.prog 106 [.slice none 0 0, .slice none 0 0, .slice none 0 0, .slice none 0 0] [cV s0, cV s0, cV s0, cV s0] := ⟨Ych, Y4g rfl rfl⟩
instance Yci : FldI Tryz.prog 106 2 2 := ⟨by kernel_rfl⟩
instance Ycj : LdI Tryz.prog 26 false 1 := ⟨by kernel_rfl⟩
instance Yck : FldI Tryz.prog 106 1 1 := ⟨by kernel_rfl⟩
instance Ycl : FldI Tryz.prog 106 0 0 := ⟨by kernel_rfl⟩
instance Ycm : FldI Tryz.prog 106 3 3 := ⟨by kernel_rfl⟩
instance Ycn : FldI Tryz.prog 49 1 9 := ⟨by kernel_rfl⟩
instance Yco : FldI Tryz.prog 49 0 0 := ⟨by kernel_rfl⟩
theorem Ycp : Y6y Tryz.prog 42 3 = some (3, 1, false) := by kernel_rfl
theorem Ycq : Y6y Tryz.prog 42 4 = some (4, 1, false) := by kernel_rfl
instance : ZeK Tryz.prog 159 Y9x [.slice none 0 0, .int .i64 0, .int .u64 0, .int .i64 0] (Y9i.mk [] 0 0 0) := ⟨Ya5, (fun w F => Imps.cells (.cons (Imp.nil kU8 1) (.cons (Imp.refl _) (.cons (Imp.refl _) (.cons (Imp.refl _) .nil)))) (Y4g (cs := [cV s0, cV (.int .i64 0), cV (.int .u64 0), cV (.int .i64 0)]) rfl rfl w F))⟩
instance : ArT Tryz.prog 22 5 1 1 kU8 := ⟨Yae⟩
instance : ByI Tryz.prog 22 := ⟨Yaf⟩
instance : ZeK Tryz.prog 42 Y9q [.int .i64 0, .int .i64 0, .int .i64 0, .int .i64 0, .int .i64 0, .int .i64 0, .string ByteArray.empty, .slice none 0 0, .int .i64 0] (Y9j.mk 0 0 0 0 0 0 ByteArray.empty [] 0) := ⟨Yah, (fun w F => Imps.cells (.cons (Imp.refl _) (.cons (Imp.refl _) (.cons (Imp.refl _) (.cons (Imp.refl _) (.cons (Imp.refl _) (.cons (Imp.refl _) (.cons (Imp.refl _) (.cons (Imp.nil kI64 1) (.cons (Imp.refl _) .nil))))))))) (Y4g (cs := [cV (.int .i64 0), cV (.int .i64 0), cV (.int .i64 0), cV (.int .i64 0), cV (.int .i64 0), cV (.int .i64 0), cV (.string ByteArray.empty), cV s0, cV (.int .i64 0)]) rfl rfl w F))⟩
instance : ArT Tryz.prog 39 2 1 8 kI64 := ⟨Yai⟩
instance : ArT Tryz.prog 244 9 1 16 kStr := ⟨Yap⟩
instance : ArT Tryz.prog 23 42 9 96 Y9q := ⟨Yau⟩
instance : ZeK Tryz.prog 2 kI64 [.int .i64 0] 0 := ⟨ze_2, (Y4g rfl rfl)⟩
instance : ZeK Tryz.prog 53 Y9y [.int .i64 0, .slice none 0 0, .slice none 0 0, .slice none 0 0, .int .i64 0] (Y9l.mk (Y9k.mk 0 [] []) [] 0) := ⟨Yb3, (fun w F => Imps.cells (.cons (Imp.refl _) (.cons (Imp.nil Y9q 9) (.cons (Imp.nil Y9q 9) (.cons (Imp.nil kI64 1) (.cons (Imp.refl _) .nil))))) (Y4g (cs := [cV (.int .i64 0), cV s0, cV s0, cV s0, cV (.int .i64 0)]) rfl rfl w F))⟩
instance : ZeK Tryz.prog 25 Y9z [.int .i64 0, .slice none 0 0, .slice none 0 0] (Y9k.mk 0 [] []) := ⟨Yb6, (fun w F => Imps.cells (.cons (Imp.refl _) (.cons (Imp.nil Y9q 9) (.cons (Imp.nil Y9q 9) .nil))) (Y4g (cs := [cV (.int .i64 0), cV s0, cV s0]) rfl rfl w F))⟩
instance : ZeK Tryz.prog 5 kU8 [.int .u8 0] 0 := ⟨ze_5, (Y4g rfl rfl)⟩
instance : ZeK Tryz.prog 39 Ya0 [.slice none 0 0] [] := ⟨Ybd, (fun w F => Imps.cells (.cons (Imp.nil kI64 1) .nil) (Y4g (cs := [cV s0]) rfl rfl w F))⟩
instance : ArT Tryz.prog 142 3 1 8 kI64 := ⟨Ybe⟩
instance : ArT Tryz.prog 26 29 1 24 Y9t := ⟨Ybg⟩
instance : MpT Tryz.prog 98 .i64 Y9u 29 s0 ([] : List Y9m) := ⟨Ybj, Ybk, (fun w F => Imp.nil Y9s 3 w F _ rfl)⟩
instance : EqK Tryz.prog 96 [0, 0, 0] := ⟨Ybn⟩
instance : ZeK Tryz.prog 96 Y9s [.int .i64 0, .int .i64 0, .int .i64 0] (Y9m.mk 0 0 0) := ⟨Ybr, (Y4g rfl rfl)⟩
instance : ArT Tryz.prog 29 96 3 24 Y9s := ⟨Ybt⟩
instance : MpT Tryz.prog 177 .i64 Y9v 4 (.bool false) false := ⟨Ybw, zv_4, (fun _ _ => rfl)⟩
instance : MpT Tryz.prog 97 .i64 Y9r 2 (.int .i64 0) 0 := ⟨Yc1, zv_2, (fun _ _ => rfl)⟩
instance : PnK Y9s := ⟨Yc2⟩
instance : ZeK Tryz.prog 49 Ya2 [.int .i64 0, .int .i64 0, .int .i64 0, .int .i64 0, .int .i64 0, .int .i64 0, .string ByteArray.empty, .slice none 0 0, .int .i64 0, .int .i64 0] (Y9o.mk (Y9j.mk 0 0 0 0 0 0 ByteArray.empty [] 0) 0) := ⟨Yc7, (fun w F => Imps.cells (.cons (Imp.refl _) (.cons (Imp.refl _) (.cons (Imp.refl _) (.cons (Imp.refl _) (.cons (Imp.refl _) (.cons (Imp.refl _) (.cons (Imp.refl _) (.cons (Imp.nil kI64 1) (.cons (Imp.refl _) (.cons (Imp.refl _) .nil)))))))))) (Y4g (cs := [cV (.int .i64 0), cV (.int .i64 0), cV (.int .i64 0), cV (.int .i64 0), cV (.int .i64 0), cV (.int .i64 0), cV (.string ByteArray.empty), cV s0, cV (.int .i64 0), cV (.int .i64 0)]) rfl rfl w F))⟩
instance : FiI Tryz.prog 42 5 5 1 false := ⟨Yca⟩
instance : FiI Tryz.prog 42 2 2 1 false := ⟨Ycb⟩
instance : ArT Tryz.prog 111 4 1 1 Y9w := ⟨Ycc⟩
instance : ZeK Tryz.prog 4 Y9w [.bool false] false := ⟨ze_4, (Y4g rfl rfl)⟩
instance : FiI Tryz.prog 42 7 7 1 false := ⟨Ycd⟩
instance : ZeK Tryz.prog 29 Y9t [.slice none 0 0] [] := ⟨Ycf, (fun w F => Imps.cells (.cons (Imp.nil Y9s 3) .nil) (Y4g (cs := [cV s0]) rfl rfl w F))⟩
instance : ZeK Tryz.prog 106 Ya3 [.slice none 0 0, .slice none 0 0, .slice none 0 0, .slice none 0 0] (Y9p.mk [] [] [] []) := ⟨Ych, (fun w F => Imps.cells (.cons (Imp.nil kI64 1) (.cons (Imp.nil Y9t 1) (.cons (Imp.nil Y9t 1) (.cons (Imp.nil kI64 1) .nil)))) (Y4g (cs := [cV s0, cV s0, cV s0, cV s0]) rfl rfl w F))⟩
instance : FiI Tryz.prog 42 3 3 1 false := ⟨Ycp⟩
instance : FiI Tryz.prog 42 4 4 1 false := ⟨Ycq⟩
instance : SrI Tryz.prog 152 9 := ⟨Y9g⟩
instance : SrJ Tryz.prog 256 := ⟨Y9h⟩
instance {a1 : List Int} {a2 : Int} {a3 : Int} {a4 : Int} : Mk Y9x [cM kU8 1 a1, cI a2, cV (.int .u64 a3), cI a4] (Y9i.mk a1 a2 a3 a4) := ⟨rfl⟩
instance {a1 : Int} {a2 : Int} {a3 : Int} {a4 : Int} {a5 : Int} {a6 : Int} {a7 : ByteArray} {a8 : List Int} {a9 : Int} : Mk Y9q [cI a1, cI a2, cI a3, cI a4, cI a5, cI a6, C.str a7, cM kI64 1 a8, cI a9] (Y9j.mk a1 a2 a3 a4 a5 a6 a7 a8 a9) := ⟨rfl⟩
instance {a1 : Int} {a2 : List Y9j} {a3 : List Y9j} : Mk Y9z [cI a1, cM Y9q 9 a2, cM Y9q 9 a3] (Y9k.mk a1 a2 a3) := ⟨rfl⟩
instance {a1 : Int} {a2 : List Y9j} {a3 : List Y9j} {a4 : List Int} {a5 : Int} : Mk Y9y [cI a1, cM Y9q 9 a2, cM Y9q 9 a3, cM kI64 1 a4, cI a5] (Y9l.mk (Y9k.mk a1 a2 a3) a4 a5) := ⟨rfl⟩
instance {a1 : Int} {a2 : List Y9j} {a3 : List Y9j} {a4 : List (Int × Int)} {a5 : List (Int × List Y9m)} {a6 : List (Int × List Y9m)} {a7 : List (Int × Int)} : Mk Ya1 [cI a1, cM Y9q 9 a2, cM Y9q 9 a3, C.imap .i64 Y9r a4, C.imap .i64 Y9u a5, C.imap .i64 Y9u a6, C.imap .i64 Y9r a7] (Y9n.mk (Y9k.mk a1 a2 a3) a4 a5 a6 a7) := ⟨rfl⟩
instance {a1 : Int} {a2 : Int} {a3 : Int} : Mk Y9s [cI a1, cI a2, cI a3] (Y9m.mk a1 a2 a3) := ⟨rfl⟩
instance {a1 : Int} {a2 : Int} {a3 : Int} {a4 : Int} {a5 : Int} {a6 : Int} {a7 : ByteArray} {a8 : List Int} {a9 : Int} {a10 : Int} : Mk Ya2 [cI a1, cI a2, cI a3, cI a4, cI a5, cI a6, C.str a7, cM kI64 1 a8, cI a9, cI a10] (Y9o.mk (Y9j.mk a1 a2 a3 a4 a5 a6 a7 a8 a9) a10) := ⟨rfl⟩
instance {a1 : List Int} {a2 : List (List Y9m)} {a3 : List (List Y9m)} {a4 : List Int} : Mk Ya3 [cM kI64 1 a1, cM Y9t 1 a2, cM Y9t 1 a3, cM kI64 1 a4] (Y9p.mk a1 a2 a3 a4) := ⟨rfl⟩
instance {x : Int} : Mk kU8 [cV (.int .u8 x)] x := ⟨rfl⟩
instance {x : ByteArray} : Mk kStr [C.str x] x := ⟨rfl⟩
instance {x : Int} : Mk kI64 [cI x] x := ⟨rfl⟩
instance {x : Int} : Mc Y9r (cI x) x := ⟨rfl⟩
instance {x : List Y9m} : Mk Y9t [cM Y9s 3 x] x := ⟨rfl⟩
instance {x : List Y9m} : Mc Y9u (cM Y9s 3 x) x := ⟨rfl⟩
instance {x : Bool} : Mc Y9v (C.bool x) x := ⟨rfl⟩
instance {x : Bool} : Mk Y9w [C.bool x] x := ⟨rfl⟩
instance {x : List Int} : Mk Ya0 [cM kI64 1 x] x := ⟨rfl⟩

def Z1 (p0 : List Int) (x14 : Int) (x16 : Int) : Option Y9i := some (Y9i.mk p0 0 x14 x16)
def Z2 (p0 : List Int) (x14 : Int) : Option Y9i := cond (decide ((IntKind.i64.wrap (Int.tdiv (p0.length : Int) 20)) > 12)) (Z1 p0 x14 12) (Z1 p0 x14 (IntKind.i64.wrap (Int.tdiv (p0.length : Int) 20)))
def Z3 (p0 : List Int) (x7 : Int) (x8 : Int) (x10 : Bool) : Option ((Int × Int) ⊕ (Int)) := cond x10 ((getI p0 x8).bind fun e12 => some (.inl ((IntKind.u64.wrap ((Y4c .u64 x7 (IntKind.u64.wrap e12)) * 1099511628211)), (IntKind.i64.wrap (x8 + 1))))) (some (.inr x7))
def Z4 (p0 : List Int) (x7 : Int) (x8 : Int) : Option ((Int × Int) ⊕ (Int)) := cond (decide (x8 < (p0.length : Int))) (Z3 p0 x7 x8 (decide (x8 < 64))) (Z3 p0 x7 x8 false)
def Z5 (p0 : List Int) : Option Y9i := (iter (fun z18 => Z4 p0 z18.1 z18.2) big (88172645463325252, 0)).bind fun y19 => Z2 p0 y19
theorem Z6 (p0 : List Int) (r : Y9i) (h : Z5 p0 = some r) : Ok Tryz.prog 66 [cM kU8 1 p0] [] (fun c qs => ∃ (b17 : Nat), c = pt b17 ∧ qs = [oB b17 159 [cM kU8 1 r.b, cI r.at_, cV (.int .u64 r.mix), cI r.size]]) := by
 refine Ok.of_body (rs := [.tmp 2]) Tryz.func66 rfl rfl rfl rfl rfl fun X => ?_
 unfold Z5 at h
 refine AW.seq ?_
 refine AW.region ?_
 refine Ops.v rfl (Ys rfl rfl) ?_
 refine Ops.nil ?_
 refine AW.seq ?_
 refine AW.region ?_
 refine Ops.v rfl (Yr rfl rfl) ?_
 refine Ops.v rfl (Y3k (ds := [cM kU8 1 p0, cI 0, cV (.int .u64 88172645463325252), cI 0]) Ya4 Ya5 (Y4g rfl rfl) (.one rfl One.im rfl rfl (.one rfl (One.val rfl) rfl rfl .nil)) rfl) ?_
 refine ox fun b1 => ?_
 refine Ops.v rfl (Ys rfl rfl) ?_
 refine Ops.nil ?_
 refine AW.seq ?_
 refine AW.cut (τ := Int) (fun x14 => ⟨[(0, cM kU8 1 p0), (3, pt b1)], [oB b1 159 [cM kU8 1 p0, cI 0, cV (.int .u64 x14), cI 0]]⟩) (fun x14 => Z2 p0 x14 = some r) ?_ ?_
 ·
  refine zw ?_
  refine ob' h fun o20 g21 q22 => ?_
  refine AW.loop (τ := Int × Int) (x := (88172645463325252, 0)) (fun (x7, x8) => ⟨[(0, cM kU8 1 p0), (3, pt b1), (4, cI x8)], [oB b1 159 [cM kU8 1 p0, cI 0, cV (.int .u64 x7), cI 0]]⟩) (fun k (x7, x8) => iter (fun z18 => Z4 p0 z18.1 z18.2) k (x7, x8) = some o20) g21 (Y25.both (ns := [0]) rfl rfl) ?_
  rintro k ⟨x7, x8⟩ i24
  refine Y4f (show iter (fun z18 => Z4 p0 z18.1 z18.2) k (x7, x8) = some o20 from i24) fun k23 y25 hlt_k23 h h26 => ?_
  replace h : Z4 p0 x7 x8 = some y25 := h
  unfold Z4 at h
  refine AW.seq ?_
  refine AW.seq ?_
  refine AW.cut (τ := Bool) (fun x10 => ⟨[(0, cM kU8 1 p0), (3, pt b1), (4, cI x8), (15, C.bool x10)], [oB b1 159 [cM kU8 1 p0, cI 0, cV (.int .u64 x7), cI 0]]⟩) (fun x10 => Z3 p0 x7 x8 x10 = some y25) ?_ ?_
  ·
   refine zw ?_
   refine cnd h (fun hb9 h => ?_) fun hb9 h => ?_
   ·
    refine zw ?_
    exact ⟨decide (x8 < 64), h, Y25.both (ns := [0]) rfl rfl⟩
   refine zw ?_
   exact ⟨false, h, Y25.both (ns := [0]) rfl rfl⟩
  intro x10 h
  replace h : Z3 p0 x7 x8 x10 = some y25 := h
  unfold Z3 at h
  refine cnd h (fun hb11 h => ?_) fun hb11 h => ?_
  ·
   refine AW.ct hb11 rfl ?_
   refine zw ?_
   refine rD [0] [4,8] [14] [0,4,8,12,17,20,24,28,33,36,40,44,48,52,59] ?_
   refine zw ?_
   refine di h fun e12 g13 h => ?_
   refine zw ?_
   refine OpsD.v rfl rfl (Y16 un_5 Ya9 rfl rfl) ?_
   refine OpsD.v rfl rfl (Y11 rfl rfl rfl rfl) ?_
   refine zw ?_
   obtain rfl := Wj h
   exact ⟨k23, ((IntKind.u64.wrap ((Y4c .u64 x7 (IntKind.u64.wrap e12)) * 1099511628211)), (IntKind.i64.wrap (x8 + 1))), hlt_k23, h26, Y25.both (ns := [0]) rfl rfl⟩
  refine AW.cf hb11 rfl ?_
  refine AW.exit ?_
  obtain rfl := Wj h
  obtain rfl := Wj h26
  replace h := q22
  exact ⟨x7, h, Y25.both (ns := [0]) rfl rfl⟩
 intro x14 h
 replace h : Z2 p0 x14 = some r := h
 unfold Z2 at h
 refine zw ?_
 refine Ops.v rfl (Yz rfl rfl (by decide) rfl) ?_
 refine Ops.v rfl (Y18 rfl rfl) ?_
 refine Ops.v rfl (Y1f Yaa.h rfl rfl) ?_
 refine Ops.s1 ld_2.h rfl rfl on inferInstance rfl ?_
 refine Ops.nil ?_
 refine AW.seq ?_
 refine AW.cut (τ := Int) (fun x16 => ⟨[(3, pt b1)], [oB b1 159 [cM kU8 1 p0, cI 0, cV (.int .u64 x14), cI x16]]⟩) (fun x16 => Z1 p0 x14 x16 = some r) ?_ ?_
 ·
  refine zw ?_
  refine cnd h (fun hb15 h => ?_) fun hb15 h => ?_
  ·
   refine AW.ct hb15 rfl ?_
   refine zw ?_
   exact ⟨12, h, Y25.both (ns := [0]) rfl rfl⟩
  refine AW.cf hb15 rfl ?_
  refine zw ?_
  exact ⟨(IntKind.i64.wrap (Int.tdiv (p0.length : Int) 20)), h, Y25.both (ns := [0]) rfl rfl⟩
 intro x16 h
 replace h : Z1 p0 x14 x16 = some r := h
 unfold Z1 at h
 refine zw ?_
 refine AW.ret ?_
 rw [← Wj h]
 exact finI ⟨[pt b1], _, Y25.refl _, (.cons (.tmp rfl) .nil), [0], _, _, rfl, ⟨b1, rfl, rfl⟩⟩
instance Z6' (p0 : List Int) : Sp Tryz.prog 66 [cM kU8 1 p0] (Z5 p0) (fun r => C.ip [cM kU8 1 r.b, cI r.at_, cV (.int .u64 r.mix), cI r.size]) := ⟨fun r h => Ok.freeze (Z6 p0 r h) (by rintro c qs ⟨b17, rfl, rfl⟩; exact Frz.box (fS (fS (fS (fS (FrzL.nil))))))⟩
instance Z7 (p0 : List Int) : SpO Tryz.prog 66 (Z5 p0) (.d [cM kU8 1 p0] [] fun r => .x fun (b17 : Nat) => .d (pt b17) [oB b17 159 [cM kU8 1 r.b, cI r.at_, cV (.int .u64 r.mix), cI r.size]]) := ⟨fun r h => Z6 p0 r h⟩

def Z8 (p0 : Y9i) (p1 : Int) (x5 : Int) (x6 : Int) : Option (Int × Y9i) := (chk ((IntKind.u64.wrap p1) != 0)).bind fun u7 => some ((IntKind.i64.wrap (Int.tmod (IntKind.u64.wrap (x6 + (shrI .u64 (Y4c .u64 (Y4c .u64 (Y4c .u64 p0.mix (shlI .u64 p0.mix 13)) (shrI .u64 (Y4c .u64 p0.mix (shlI .u64 p0.mix 13)) 7)) (shlI .u64 (Y4c .u64 (Y4c .u64 p0.mix (shlI .u64 p0.mix 13)) (shrI .u64 (Y4c .u64 p0.mix (shlI .u64 p0.mix 13)) 7)) 17)) 20))) (IntKind.u64.wrap p1))), (Y9i.mk p0.b x5 (Y4c .u64 (Y4c .u64 (Y4c .u64 p0.mix (shlI .u64 p0.mix 13)) (shrI .u64 (Y4c .u64 p0.mix (shlI .u64 p0.mix 13)) 7)) (shlI .u64 (Y4c .u64 (Y4c .u64 p0.mix (shlI .u64 p0.mix 13)) (shrI .u64 (Y4c .u64 p0.mix (shlI .u64 p0.mix 13)) 7)) 17)) p0.size))
def Z9 (p0 : Y9i) (p1 : Int) : Option (Int × Y9i) := cond (decide (p1 ≤ 1)) (some (0, p0)) (cond (decide (p0.at_ < (p0.b.length : Int))) ((getI p0.b p0.at_).bind fun e3 => Z8 p0 p1 (IntKind.i64.wrap (p0.at_ + 1)) (IntKind.u64.wrap e3)) (Z8 p0 p1 p0.at_ 0))
theorem Za {b00 : Nat} (p0 : Y9i) (p1 : Int) (r : Int × Y9i) (h : Z9 p0 p1 = some r) : Ok Tryz.prog 68 [pt b00, cI p1] [oB b00 159 [cM kU8 1 p0.b, cI p0.at_, cV (.int .u64 p0.mix), cI p0.size]] (fun c qs => c = cI r.1 ∧ qs = [oB b00 159 [cM kU8 1 r.2.b, cI r.2.at_, cV (.int .u64 r.2.mix), cI r.2.size]]) := by
 refine Ok.of_body (rs := [.tmp 4]) Tryz.func68 rfl rfl rfl rfl rfl fun X => ?_
 unfold Z9 at h
 refine zw ?_
 refine cnd h (fun hb1 h => ?_) fun hb1 h => ?_
 ·
  refine AW.ct hb1 rfl ?_
  refine zw ?_
  refine AW.ret ?_
  rw [← Wj h]
  exact finI ⟨[cI 0], _, Y25.refl _, (.cons (.tmp rfl) .nil), [0], _, _, rfl, ⟨rfl, rfl⟩⟩
 refine AW.cf hb1 rfl ?_
 refine AW.skip ?_
 refine AW.seq ?_
 refine AW.region ?_
 refine Ops.v rfl (Ys rfl rfl) ?_
 refine Ops.nil ?_
 refine AW.seq ?_
 refine AW.cut (τ := Int × Int) (fun (x5, x6) => ⟨[(0, pt b00), (1, cI p1), (5, cV (.int .u64 x6))], [oB b00 159 [cM kU8 1 p0.b, cI x5, cV (.int .u64 p0.mix), cI p0.size]]⟩) (fun (x5, x6) => Z8 p0 p1 x5 x6 = some r) ?_ ?_
 ·
  refine zw ?_
  refine rD [0] [3,7] [] [0,4,8,13,16,20,24,29,32,36] ?_
  refine zw ?_
  refine cnd h (fun hb2 h => ?_) fun hb2 h => ?_
  ·
   refine AW.ct hb2 rfl ?_
   refine zw ?_
   refine rD [0] [3,7,9] [] [0,4,8,13,16,20,24,29,32,37,40,44] ?_
   refine zw ?_
   refine di h fun e3 g4 h => ?_
   refine zw ?_
   refine OpsD.v rfl rfl (Y16 un_5 Ya9 rfl rfl) ?_
   refine zw ?_
   exact ⟨((IntKind.i64.wrap (p0.at_ + 1)), (IntKind.u64.wrap e3)), h, Y25.both (ns := [0]) rfl rfl⟩
  refine AW.cf hb2 rfl ?_
  refine zw ?_
  exact ⟨(p0.at_, 0), h, Y25.both (ns := [0]) rfl rfl⟩
 rintro ⟨x5, x6⟩ h
 replace h : Z8 p0 p1 x5 x6 = some r := h
 unfold Z8 at h
 refine zw ?_
 refine rD [0] [4,8] [13] [0,4,8,12,17,20,24,28,33,36,40,44,48,55] ?_
 refine zw ?_
 refine OpsD.v rfl rfl (Y13 rfl rfl rfl rfl) ?_
 refine OpsD.v rfl rfl (Y11 rfl rfl rfl rfl) ?_
 refine zw ?_
 refine rD [0] [4,8] [13] [0,4,8,12,17,20,24,28,33,36,40,44,48,55] ?_
 refine zw ?_
 refine OpsD.v rfl rfl (Y13 rfl rfl rfl rfl) ?_
 refine OpsD.v rfl rfl (Y11 rfl rfl rfl rfl) ?_
 refine zw ?_
 refine rD [0] [4,8] [13] [0,4,8,12,17,20,24,28,33,36,40,44,48,55] ?_
 refine zw ?_
 refine OpsD.v rfl rfl (Y13 rfl rfl rfl rfl) ?_
 refine OpsD.v rfl rfl (Y11 rfl rfl rfl rfl) ?_
 refine zw ?_
 refine Ops.v rfl (Y13 rfl rfl rfl rfl) ?_
 refine zw ?_
 refine Ops.v rfl (Y16 un_2 Ya9 rfl rfl) ?_
 refine ob' h fun u7 c8 h => ?_
 refine Ops.v rfl (Yy rfl rfl (Y48 c8) rfl) ?_
 refine Ops.v rfl (Y16 Ya9 un_2 rfl rfl) ?_
 refine zw ?_
 refine AW.ret ?_
 rw [← Wj h]
 exact finI ⟨[cI (IntKind.i64.wrap (Int.tmod (IntKind.u64.wrap (x6 + (shrI .u64 (Y4c .u64 (Y4c .u64 (Y4c .u64 p0.mix (shlI .u64 p0.mix 13)) (shrI .u64 (Y4c .u64 p0.mix (shlI .u64 p0.mix 13)) 7)) (shlI .u64 (Y4c .u64 (Y4c .u64 p0.mix (shlI .u64 p0.mix 13)) (shrI .u64 (Y4c .u64 p0.mix (shlI .u64 p0.mix 13)) 7)) 17)) 20))) (IntKind.u64.wrap p1)))], _, Y25.refl _, (.cons (.tmp rfl) .nil), [0], _, _, rfl, ⟨rfl, rfl⟩⟩
instance Zb (p0 : Y9i) (p1 : Int) : SpO Tryz.prog 68 (Z9 p0 p1) (.x fun (b00 : Nat) => .d [pt b00, cI p1] [oB b00 159 [cM kU8 1 p0.b, cI p0.at_, cV (.int .u64 p0.mix), cI p0.size]] fun r => .d (cI r.1) [oB b00 159 [cM kU8 1 r.2.b, cI r.2.at_, cV (.int .u64 r.2.mix), cI r.2.size]]) := ⟨fun b00 r h => Za p0 p1 r h⟩

def Zc (p0 : Y9i) (p1 : Int) : Option (Bool × Y9i) := (Z9 p0 p1).bind fun r1 => some ((r1.1 == 0), r1.2)
instance Zd (p0 : Y9i) (p1 : Int) : SpO Tryz.prog 70 (Zc p0 p1) (.x fun (b00 : Nat) => .d [pt b00, cI p1] [oB b00 159 [cM kU8 1 p0.b, cI p0.at_, cV (.int .u64 p0.mix), cI p0.size]] fun r => .d (C.bool r.1) [oB b00 159 [cM kU8 1 r.2.b, cI r.2.at_, cV (.int .u64 r.2.mix), cI r.2.size]]) := ⟨fun b00 => so Tryz.func70 rfl rfl fun r X h => gh .z⟩

def Ze (l24 : List Int) (l25 : List Int) (x26 : Int) (x27 : Int) (x28 : Int) : Option (ByteArray × Y9i) := some ((Y72 l24), (Y9i.mk l25 x26 x27 x28))
def Zf (p1 : Int) (l9 : List Int) (x10 : Int) (x11 : Int) (x12 : Int) (l14 : List Int) (x15 : Int) : Option ((List Int × Int × Int × Int × List Int × Int) ⊕ ((List Int × List Int × Int × Int × Int))) := cond (decide (x15 < p1)) ((Z9 (Y9i.mk l9 x10 x11 x12) 256).bind fun r17 => (chk (decide ((l14.length + [(IntKind.u8.wrap r17.1)].length) * 1 ≤ 140737488355328))).bind fun u21 => some (.inl (r17.2.b, r17.2.at_, r17.2.mix, r17.2.size, (l14 ++ [(IntKind.u8.wrap r17.1)]), (IntKind.i64.wrap (x15 + 1))))) (some (.inr (l14, l9, x10, x11, x12)))
def Zg (p0 : Y9i) (p1 : Int) : Option (ByteArray × Y9i) := (iter (fun z29 => Zf p1 z29.1 z29.2.1 z29.2.2.1 z29.2.2.2.1 z29.2.2.2.2.1 z29.2.2.2.2.2) big (p0.b, p0.at_, p0.mix, p0.size, ([] : List Int), 0)).bind fun (y30, y31, y32, y33, y34) => Ze y30 y31 y32 y33 y34
theorem Zh {b00 : Nat} (p0 : Y9i) (p1 : Int) (r : ByteArray × Y9i) (h : Zg p0 p1 = some r) : Ok Tryz.prog 240 [pt b00, cI p1] [oB b00 159 [cM kU8 1 p0.b, cI p0.at_, cV (.int .u64 p0.mix), cI p0.size]] (fun c qs => c = C.str r.1 ∧ qs = [oB b00 159 [cM kU8 1 r.2.b, cI r.2.at_, cV (.int .u64 r.2.mix), cI r.2.size]]) := by
 refine Ok.of_body (rs := [.tmp 4]) Tryz.func240 rfl rfl rfl rfl rfl fun X => ?_
 unfold Zg at h
 refine zw ?_
 refine Ops.h (ns := []) rfl rfl (Y3l (k := kU8) (ys := ([] : List Int)) Yae .nil rfl rfl rfl) ?_
 rintro _ _ ⟨b1, rfl, rfl⟩
 refine Ops.v rfl (Ys rfl rfl) ?_
 refine Ops.nil ?_
 refine AW.seq ?_
 refine AW.cut (τ := List Int × List Int × Int × Int × Int × Value) (fun (l24, l25, x26, x27, x28, v23) => ⟨[(5, cV v23)], [oA v23 5 kU8 1 l24, oB b00 159 [cM kU8 1 l25, cI x26, cV (.int .u64 x27), cI x28]]⟩) (fun (l24, l25, x26, x27, x28, v23) => Ze l24 l25 x26 x27 x28 = some r) ?_ ?_
 ·
  refine zw ?_
  refine ob' h fun o35 g36 q37 => ?_
  refine AW.loop (τ := List Int × Int × Int × Int × List Int × Int × Value) (x := (p0.b, p0.at_, p0.mix, p0.size, ([] : List Int), 0, (sv b1 0 0))) (fun (l9, x10, x11, x12, l14, x15, v13) => ⟨[(0, pt b00), (1, cI p1), (5, cV v13), (6, cI x15)], [oB b00 159 [cM kU8 1 l9, cI x10, cV (.int .u64 x11), cI x12], oA v13 5 kU8 1 l14]⟩) (fun k (l9, x10, x11, x12, l14, x15, v13) => iter (fun z29 => Zf p1 z29.1 z29.2.1 z29.2.2.1 z29.2.2.2.1 z29.2.2.2.2.1 z29.2.2.2.2.2) k (l9, x10, x11, x12, l14, x15) = some o35) g36 (Y25.both (ns := [1, 0]) rfl rfl) ?_
  rintro k ⟨l9, x10, x11, x12, l14, x15, v13⟩ i39
  refine Y4f (show iter (fun z29 => Zf p1 z29.1 z29.2.1 z29.2.2.1 z29.2.2.2.1 z29.2.2.2.2.1 z29.2.2.2.2.2) k (l9, x10, x11, x12, l14, x15) = some o35 from i39) fun k38 y40 hlt_k38 h h41 => ?_
  replace h : Zf p1 l9 x10 x11 x12 l14 x15 = some y40 := h
  unfold Zf at h
  refine zw ?_
  refine cnd h (fun hb16 h => ?_) fun hb16 h => ?_
  ·
   refine AW.ct hb16 rfl ?_
   refine zw ?_
   refine ob' h fun r17 g18 h => ?_
   refine Ops.hd (ns := [0]) rfl rfl (Y28 (Za (Y9i.mk l9 x10 x11 x12) 256 _ g18) rfl rfl) ?_
   refine Ops.v rfl (Y16 un_2 un_5 rfl rfl) ?_
   refine Ops.h (ns := []) rfl rfl (Y3l (k := kU8) (ys := [(IntKind.u8.wrap r17.1)]) Yae (.one rfl (One.val rfl) rfl rfl .nil) rfl rfl rfl) ?_
   rintro _ _ ⟨b19, rfl, rfl⟩
   refine ob' h fun u21 c20 h => ?_
   refine Ops.h (ns := [2, 0]) rfl rfl (Y34 Yae rfl rfl (Wo (Y45 c20)) (Y49 (by decide) c20) rfl) ?_
   rintro _ _ ⟨v22, rfl, rfl⟩
   refine zw ?_
   obtain rfl := Wj h
   exact ⟨k38, (r17.2.b, r17.2.at_, r17.2.mix, r17.2.size, (l14 ++ [(IntKind.u8.wrap r17.1)]), (IntKind.i64.wrap (x15 + 1)), v22), hlt_k38, h41, Y25.both (ns := [1, 0]) rfl rfl⟩
  refine AW.cf hb16 rfl ?_
  refine AW.exit ?_
  obtain rfl := Wj h
  obtain rfl := Wj h41
  replace h := q37
  exact ⟨(l14, l9, x10, x11, x12, v13), h, Y25.both (ns := [1, 0]) rfl rfl⟩
 rintro ⟨l24, l25, x26, x27, x28, v23⟩ h
 replace h : Ze l24 l25 x26 x27 x28 = some r := h
 unfold Ze at h
 refine zw ?_
 refine Ops.v rfl (Y76 (p := 0) Yaf un_9 (fun _ => rfl) rfl rfl rfl) ?_
 refine zw ?_
 refine AW.ret ?_
 rw [← Wj h]
 exact finI ⟨[C.str (Y72 l24)], _, Y25.refl _, (.cons (.tmp rfl) .nil), [1], _, _, rfl, ⟨rfl, rfl⟩⟩
instance Zi (p0 : Y9i) (p1 : Int) : SpO Tryz.prog 240 (Zg p0 p1) (.x fun (b00 : Nat) => .d [pt b00, cI p1] [oB b00 159 [cM kU8 1 p0.b, cI p0.at_, cV (.int .u64 p0.mix), cI p0.size]] fun r => .d (C.str r.1) [oB b00 159 [cM kU8 1 r.2.b, cI r.2.at_, cV (.int .u64 r.2.mix), cI r.2.size]]) := ⟨fun b00 r h => Zh p0 p1 r h⟩

def Zj (p0 : Y9i) (p1 : List ByteArray) : Option (ByteArray × Y9i) := (Z9 p0 (p1.length : Int)).bind fun r1 => (getI p1 r1.1).bind fun e3 => some (e3, r1.2)
instance Zk (p0 : Y9i) (p1 : List ByteArray) : SpO Tryz.prog 241 (Zj p0 p1) (.x fun (b00 : Nat) => .d [pt b00, cM kStr 1 p1] [oB b00 159 [cM kU8 1 p0.b, cI p0.at_, cV (.int .u64 p0.mix), cI p0.size]] fun r => .d (C.str r.1) [oB b00 159 [cM kU8 1 r.2.b, cI r.2.at_, cV (.int .u64 r.2.mix), cI r.2.size]]) := ⟨fun b00 => so Tryz.func241 rfl rfl fun r X h => gh .z⟩

def Zl (p1 : Y9j) (e6 : Int) (x44 : Int) (x45 : Int) (x46 : ByteArray) (l47 : List Int) (x48 : Int) (x49 : Int) (x50 : Int) : Option (Y9j × Y9i) := some ((Y9j.mk p1.id p1.room p1.author e6 x44 x45 x46 p1.prev p1.time), (Y9i.mk l47 x48 x49 x50))
def Zm (p0 : Y9i) (p1 : Y9j) : Option (Y9j × Y9i) := (Z9 p0 11).bind fun r4 => (getI [2, 2, 2, 3, 4, 5, 6, 7, 7, 7, 8] r4.1).bind fun e6 => cond (e6 == 2) ((Z9 r4.2 4).bind fun r9 => (Z9 r9.2 4).bind fun r11 => (Zc r11.2 2).bind fun r13 => cond r13.1 ((Z9 r13.2 2).bind fun r16 => Zl p1 e6 p1.author (IntKind.i64.wrap (1 + r16.1)) p1.text r16.2.b r16.2.at_ r16.2.mix r16.2.size) (Zl p1 e6 (IntKind.i64.wrap (1 + r9.1)) (IntKind.i64.wrap (1 + r11.1)) p1.text r13.2.b r13.2.at_ r13.2.mix r13.2.size)) (cond (e6 == 3) ((Z9 r4.2 4).bind fun r19 => (Z9 r19.2 4).bind fun r22 => (getI [0, 50, 60, 100] r22.1).bind fun e24 => Zl p1 e6 (IntKind.i64.wrap (1 + r19.1)) e24 p1.text r22.2.b r22.2.at_ r22.2.mix r22.2.size) (cond (e6 == 4) ((Z9 r4.2 4).bind fun r27 => (Zg r27.2 r27.1).bind fun r29 => Zl p1 e6 p1.key p1.n r29.1 r29.2.b r29.2.at_ r29.2.mix r29.2.size) (cond (e6 == 5) ((Z9 r4.2 2).bind fun r32 => Zl p1 e6 p1.key (IntKind.i64.wrap (1 + r32.1)) p1.text r32.2.b r32.2.at_ r32.2.mix r32.2.size) (cond (e6 == 6) ((Z9 r4.2 3).bind fun r35 => Zl p1 e6 p1.key (IntKind.i64.wrap (1 + r35.1)) p1.text r35.2.b r35.2.at_ r35.2.mix r35.2.size) (cond (e6 == 7) ((Zj r4.2 [(ByteArray.mk #[97]), (ByteArray.mk #[104, 101, 108, 108, 111]), (ByteArray.mk #[98, 121, 101, 32, 110, 111, 119]), (ByteArray.mk #[120, 32, 121])]).bind fun r39 => Zl p1 e6 p1.key p1.n r39.1 r39.2.b r39.2.at_ r39.2.mix r39.2.size) (cond (e6 == 8) ((Z9 r4.2 12).bind fun r42 => Zl p1 e6 (IntKind.i64.wrap (1 + r42.1)) p1.n p1.text r42.2.b r42.2.at_ r42.2.mix r42.2.size) (Zl p1 e6 p1.key p1.n p1.text r4.2.b r4.2.at_ r4.2.mix r4.2.size)))))))
theorem Zn {b00 : Nat} {w01 : Value} (p0 : Y9i) (p1 : Y9j) (r : Y9j × Y9i) (h : Zm p0 p1 = some r) : Ok Tryz.prog 201 [pt b00, C.agg [cI p1.id, cI p1.room, cI p1.author, cI p1.kind, cI p1.key, cI p1.n, C.str p1.text, cV w01, cI p1.time]] [oB b00 159 [cM kU8 1 p0.b, cI p0.at_, cV (.int .u64 p0.mix), cI p0.size], oA w01 2 kI64 1 p1.prev] (fun c qs => ∃ (v51 : Value), c = C.agg [cI r.1.id, cI r.1.room, cI r.1.author, cI r.1.kind, cI r.1.key, cI r.1.n, C.str r.1.text, cV v51, cI r.1.time] ∧ qs = [oA v51 2 kI64 1 r.1.prev, oB b00 159 [cM kU8 1 r.2.b, cI r.2.at_, cV (.int .u64 r.2.mix), cI r.2.size]]) := by
 refine Ok.of_body (rs := [.cell 4 42]) Tryz.func201 rfl rfl rfl rfl rfl fun X => ?_
 unfold Zm at h
 refine zw ?_
 refine ox fun b1 => ?_
 refine al fun b2 => ?_
 refine zw ?_
 refine Ops.h (ns := []) rfl rfl (Y3l (k := kI64) (ys := [2, 2, 2, 3, 4, 5, 6, 7, 7, 7, 8]) Yai (.one rfl (One.val rfl) rfl rfl (.one rfl (One.val rfl) rfl rfl (.one rfl (One.val rfl) rfl rfl (.one rfl (One.val rfl) rfl rfl (.one rfl (One.val rfl) rfl rfl (.one rfl (One.val rfl) rfl rfl (.one rfl (One.val rfl) rfl rfl (.one rfl (One.val rfl) rfl rfl (.one rfl (One.val rfl) rfl rfl (.one rfl (One.val rfl) rfl rfl (.one rfl (One.val rfl) rfl rfl .nil))))))))))) rfl rfl rfl) ?_
 rintro _ _ ⟨b3, rfl, rfl⟩
 refine zw ?_
 refine ob' h fun r4 g5 h => ?_
 refine Ops.hd (ns := [3]) rfl rfl (Y28 (Za p0 11 _ g5) rfl rfl) ?_
 refine ob' h fun e6 g7 h => ?_
 refine Ops.v rfl (Y39 (p := 1) Yaj.h rfl rfl rfl g7 rfl) ?_
 refine Ops.v rfl (Y3c (p := 1) ld_2.h rfl rfl (Y2f g7).2.2 rfl rfl) ?_
 refine Ops.v rfl (Y1f Yak.h rfl rfl) ?_
 refine Ops.s1 ld_2.h rfl rfl on inferInstance rfl ?_
 refine Ops.nil ?_
 refine AW.seq ?_
 refine AW.cut (τ := Int × Int × ByteArray × List Int × Int × Int × Int) (fun (x44, x45, x46, l47, x48, x49, x50) => ⟨[(3, pt b1), (4, pt b2)], [oB b1 42 [cI p1.id, cI p1.room, cI p1.author, cI e6, cI x44, cI x45, C.str x46, cV w01, cI p1.time], oB b00 159 [cM kU8 1 l47, cI x48, cV (.int .u64 x49), cI x50], oA w01 2 kI64 1 p1.prev, oB b2 42 [cI 0, cI 0, cI 0, cI 0, cI 0, cI 0, C.str ByteArray.empty, cV s0, cI 0]]⟩) (fun (x44, x45, x46, l47, x48, x49, x50) => Zl p1 e6 x44 x45 x46 l47 x48 x49 x50 = some r) ?_ ?_
 ·
  refine zw ?_
  refine cnd h (fun hb8 h => ?_) fun hb8 h => ?_
  ·
   refine AW.ct hb8 rfl ?_
   refine zw ?_
   refine ob' h fun r9 g10 h => ?_
   refine Ops.hd (ns := [1]) rfl rfl (Y28 (Za r4.2 4 _ g10) rfl rfl) ?_
   refine zw ?_
   refine ob' h fun r11 g12 h => ?_
   refine Ops.hd (ns := [1]) rfl rfl (Y28 (Za r9.2 4 _ g12) rfl rfl) ?_
   refine zw ?_
   refine ob' h fun r13 g14 h => ?_
   refine Ops.hd (ns := [1]) rfl rfl (Y28 ((Zd r11.2 2).h _ _ g14) rfl rfl) ?_
   refine zw ?_
   refine cnd h (fun hb15 h => ?_) fun hb15 h => ?_
   ·
    refine AW.ct hb15 rfl ?_
    refine zw ?_
    refine ob' h fun r16 g17 h => ?_
    refine Ops.hd (ns := [1]) rfl rfl (Y28 (Za r13.2 2 _ g17) rfl rfl) ?_
    refine zw ?_
    exact ⟨(p1.author, (IntKind.i64.wrap (1 + r16.1)), p1.text, r16.2.b, r16.2.at_, r16.2.mix, r16.2.size), h, Y25.both (ns := [0, 0, 2, 1]) rfl rfl⟩
   refine AW.cf hb15 rfl ?_
   refine zw ?_
   exact ⟨((IntKind.i64.wrap (1 + r9.1)), (IntKind.i64.wrap (1 + r11.1)), p1.text, r13.2.b, r13.2.at_, r13.2.mix, r13.2.size), h, Y25.both (ns := [1, 0, 2, 1]) rfl rfl⟩
  refine AW.cf hb8 rfl ?_
  refine zw ?_
  refine cnd h (fun hb18 h => ?_) fun hb18 h => ?_
  ·
   refine AW.ct hb18 rfl ?_
   refine zw ?_
   refine ob' h fun r19 g20 h => ?_
   refine Ops.hd (ns := [1]) rfl rfl (Y28 (Za r4.2 4 _ g20) rfl rfl) ?_
   refine zw ?_
   refine Ops.h (ns := []) rfl rfl (Y3l (k := kI64) (ys := [0, 50, 60, 100]) Yai (.one rfl (One.val rfl) rfl rfl (.one rfl (One.val rfl) rfl rfl (.one rfl (One.val rfl) rfl rfl (.one rfl (One.val rfl) rfl rfl .nil)))) rfl rfl rfl) ?_
   rintro _ _ ⟨b21, rfl, rfl⟩
   refine zw ?_
   refine ob' h fun r22 g23 h => ?_
   refine Ops.hd (ns := [2]) rfl rfl (Y28 (Za r19.2 4 _ g23) rfl rfl) ?_
   refine ob' h fun e24 g25 h => ?_
   refine zw ?_
   exact ⟨((IntKind.i64.wrap (1 + r19.1)), e24, p1.text, r22.2.b, r22.2.at_, r22.2.mix, r22.2.size), h, Y25.both (ns := [0, 0, 3, 2]) rfl rfl⟩
  refine AW.cf hb18 rfl ?_
  refine zw ?_
  refine cnd h (fun hb26 h => ?_) fun hb26 h => ?_
  ·
   refine AW.ct hb26 rfl ?_
   refine zw ?_
   refine ob' h fun r27 g28 h => ?_
   refine Ops.hd (ns := [1]) rfl rfl (Y28 (Za r4.2 4 _ g28) rfl rfl) ?_
   refine ob' h fun r29 g30 h => ?_
   refine Ops.hd (ns := [0]) rfl rfl (Y28 (Zh r27.2 r27.1 _ g30) rfl rfl) ?_
   refine zw ?_
   exact ⟨(p1.key, p1.n, r29.1, r29.2.b, r29.2.at_, r29.2.mix, r29.2.size), h, Y25.both (ns := [0, 0, 2, 1]) rfl rfl⟩
  refine AW.cf hb26 rfl ?_
  refine zw ?_
  refine cnd h (fun hb31 h => ?_) fun hb31 h => ?_
  ·
   refine AW.ct hb31 rfl ?_
   refine zw ?_
   refine ob' h fun r32 g33 h => ?_
   refine Ops.hd (ns := [1]) rfl rfl (Y28 (Za r4.2 2 _ g33) rfl rfl) ?_
   refine zw ?_
   exact ⟨(p1.key, (IntKind.i64.wrap (1 + r32.1)), p1.text, r32.2.b, r32.2.at_, r32.2.mix, r32.2.size), h, Y25.both (ns := [0, 0, 2, 1]) rfl rfl⟩
  refine AW.cf hb31 rfl ?_
  refine zw ?_
  refine cnd h (fun hb34 h => ?_) fun hb34 h => ?_
  ·
   refine AW.ct hb34 rfl ?_
   refine zw ?_
   refine ob' h fun r35 g36 h => ?_
   refine Ops.hd (ns := [1]) rfl rfl (Y28 (Za r4.2 3 _ g36) rfl rfl) ?_
   refine zw ?_
   exact ⟨(p1.key, (IntKind.i64.wrap (1 + r35.1)), p1.text, r35.2.b, r35.2.at_, r35.2.mix, r35.2.size), h, Y25.both (ns := [0, 0, 2, 1]) rfl rfl⟩
  refine AW.cf hb34 rfl ?_
  refine zw ?_
  refine cnd h (fun hb37 h => ?_) fun hb37 h => ?_
  ·
   refine AW.ct hb37 rfl ?_
   refine zw ?_
   refine Ops.h (ns := []) rfl rfl (Y3l (k := kStr) (ys := [(ByteArray.mk #[97]), (ByteArray.mk #[104, 101, 108, 108, 111]), (ByteArray.mk #[98, 121, 101, 32, 110, 111, 119]), (ByteArray.mk #[120, 32, 121])]) Yap (.one rfl (One.val rfl) rfl rfl (.one rfl (One.val rfl) rfl rfl (.one rfl (One.val rfl) rfl rfl (.one rfl (One.val rfl) rfl rfl .nil)))) rfl rfl rfl) ?_
   rintro _ _ ⟨b38, rfl, rfl⟩
   refine ob' h fun r39 g40 h => ?_
   refine Ops.hd (ns := [0, 1]) rfl rfl (HOp.frz (t := 66) rfl Frz.arr (Y28 ((Zk r4.2 [(ByteArray.mk #[97]), (ByteArray.mk #[104, 101, 108, 108, 111]), (ByteArray.mk #[98, 121, 101, 32, 110, 111, 119]), (ByteArray.mk #[120, 32, 121])]).h _ _ g40) rfl rfl)) ?_
   refine zw ?_
   exact ⟨(p1.key, p1.n, r39.1, r39.2.b, r39.2.at_, r39.2.mix, r39.2.size), h, Y25.both (ns := [0, 0, 2, 1]) rfl rfl⟩
  refine AW.cf hb37 rfl ?_
  refine zw ?_
  refine cnd h (fun hb41 h => ?_) fun hb41 h => ?_
  ·
   refine AW.ct hb41 rfl ?_
   refine zw ?_
   refine ob' h fun r42 g43 h => ?_
   refine Ops.hd (ns := [1]) rfl rfl (Y28 (Za r4.2 12 _ g43) rfl rfl) ?_
   refine zw ?_
   exact ⟨((IntKind.i64.wrap (1 + r42.1)), p1.n, p1.text, r42.2.b, r42.2.at_, r42.2.mix, r42.2.size), h, Y25.both (ns := [0, 0, 2, 1]) rfl rfl⟩
  refine AW.cf hb41 rfl ?_
  refine zw ?_
  exact ⟨(p1.key, p1.n, p1.text, r4.2.b, r4.2.at_, r4.2.mix, r4.2.size), h, Y25.both (ns := [0, 0, 2, 1]) rfl rfl⟩
 rintro ⟨x44, x45, x46, l47, x48, x49, x50⟩ h
 replace h : Zl p1 e6 x44 x45 x46 l47 x48 x49 x50 = some r := h
 unfold Zl at h
 refine zw ?_
 refine AW.ret ?_
 rw [← Wj h]
 exact finI ⟨[C.agg [cI p1.id, cI p1.room, cI p1.author, cI e6, cI x44, cI x45, C.str x46, cV w01, cI p1.time]], _, Y25.refl _, (.cons (.cell (p := 0) rfl rfl Yaq.h rfl) .nil), [3, 2], _, _, rfl, ⟨w01, rfl, rfl⟩⟩
instance Zo (p0 : Y9i) (p1 : Y9j) : SpO Tryz.prog 201 (Zm p0 p1) (.x fun (b00 : Nat) => .x fun (w01 : Value) => .d [pt b00, C.agg [cI p1.id, cI p1.room, cI p1.author, cI p1.kind, cI p1.key, cI p1.n, C.str p1.text, cV w01, cI p1.time]] [oB b00 159 [cM kU8 1 p0.b, cI p0.at_, cV (.int .u64 p0.mix), cI p0.size], oA w01 2 kI64 1 p1.prev] fun r => .x fun (v51 : Value) => .d (C.agg [cI r.1.id, cI r.1.room, cI r.1.author, cI r.1.kind, cI r.1.key, cI r.1.n, C.str r.1.text, cV v51, cI r.1.time]) [oA v51 2 kI64 1 r.1.prev, oB b00 159 [cM kU8 1 r.2.b, cI r.2.at_, cV (.int .u64 r.2.mix), cI r.2.size]]) := ⟨fun b00 w01 r h => Zn p0 p1 r h⟩

def Zp : Option Int := some (-1)
def Zq (p0 : List Y9j) (p1 : Int) (x5 : Int) : Option (Int ⊕ (Int ⊕ Unit)) := cond (decide (x5 < (p0.length : Int))) ((getI p0 x5).bind fun e7 => cond (e7.id == p1) (some (.inr (.inl x5))) (some (.inl (IntKind.i64.wrap (x5 + 1))))) (some (.inr (.inr ())))
def Zr (p0 : List Y9j) (p1 : Int) : Option Int := (iter (Zq p0 p1) big 0).bind (fun z11 => match z11 with | .inl y10 => some y10 | .inr () => Zp)
instance Zs (p0 : List Y9j) (p1 : Int) : Sp Tryz.prog 87 [cM Y9q 9 p0, cI p1] (Zr p0 p1) (fun r => cI r) := Sp.of (so Tryz.func87 rfl rfl fun r X h => gh (.q 1 (.c0 (.d [] []) [] [] (.l1 (fun x5 => .d [(5, cI x5)] []) [0,1] [] .z) .z)))

def Zt (p0 : List Int) (p1 : Int) (x12 : Int) (x16 : Bool) : Option (List Int) := cond x16 (some p0) ((Y2d p0 0 x12).bind fun s19 => (chk (decide ((([] : List Int).length + s19.length) * 8 ≤ 140737488355328))).bind fun u22 => (chk (decide (((([] : List Int) ++ s19).length + [p1].length) * 8 ≤ 140737488355328))).bind fun u26 => (Y2d p0 x12 (p0.length : Int)).bind fun s28 => (chk (decide ((((([] : List Int) ++ s19) ++ [p1]).length + s28.length) * 8 ≤ 140737488355328))).bind fun u31 => some (((([] : List Int) ++ s19) ++ [p1]) ++ s28))
def Zu (p0 : List Int) (p1 : Int) (x12 : Int) : Option (List Int) := cond (decide (x12 < (p0.length : Int))) ((getI p0 x12).bind fun e14 => Zt p0 p1 x12 (e14 == p1)) (Zt p0 p1 x12 false)
def Zv (x6 : Int) (x10 : Bool) : Option (Int ⊕ (Int)) := cond x10 (some (.inl (IntKind.i64.wrap (x6 + 1)))) (some (.inr x6))
def Zw (p0 : List Int) (p1 : Int) (x6 : Int) : Option (Int ⊕ (Int)) := cond (decide (x6 < (p0.length : Int))) ((getI p0 x6).bind fun e8 => Zv x6 (decide (e8 < p1))) (Zv x6 false)
def Zx (p0 : List Int) (p1 : Int) : Option (List Int) := (iter (Zw p0 p1) big 0).bind fun y33 => Zu p0 p1 y33
instance Zy (p0 : List Int) (p1 : Int) : Sp Tryz.prog 166 [cM kI64 1 p0, cI p1] (Zx p0 p1) (fun r => cM kI64 1 r) := Sp.of (so Tryz.func166 rfl rfl fun r X h => gh (.q 2 (.c1 (fun x12 => .d [(5, cI x12)] []) [0,1] [] (.l1 (fun x6 => .d [(5, cI x6)] []) [0,1] [] (.q 1 (.c1 (fun x10 => .d [(18, C.bool x10)] []) [0,1,5] [] .z .z))) (.q 1 (.c1 (fun x16 => .d [(32, C.bool x16)] []) [0,1,5] [] .z .z)))))

end Go.Proofs.YtomachnjepgpbaaGreat
