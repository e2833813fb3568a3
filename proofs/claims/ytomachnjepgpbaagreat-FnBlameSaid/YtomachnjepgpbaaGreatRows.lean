/-
  No cell of these rows narrows 'for every input' (looked for: loops, veiled, ifaces, maps, wideKeys, modest, calm, conditions, laid).
  DERIVED. THE GIVEN ROWS OF THIS SEAT. 4 by the template 'for every input the law returns true; each argument reads behind the call as it read before'; 0 by the template 'total and deterministic' (their statements: YtomachnjepgpbaaGreatTotals.lean).
  GIVEN WITH THE SEED: the statements are not yours to turn. If you find one false, say at which input.
  Laid BY PROGRAM, IN A SANDBOX (cutbox-rows.mjs): the forced cells as the released guide's own fill.sh prints them over the translation 3a65ebe3350ffab6… (all of the seat's roots in one cut). By AI agents, Wed Nov 11 2026. No macro, syntax, notation, axiom, sorry.
-/
import Derived.Test.YtomachnjepgpbaaGreatChecked
import GoSem.Claim
import GoSem.ClaimJoined
import GoSem.ClaimMapViews
import Derived.JoinedTies
import Derived.KernelRfl
namespace Go.Proofs.YtomachnjepgpbaaGreat
/- THE CELL 'sum', in the pinned program and in every row, IS THE sha256 OF THE DUMP (.gsa) THAT YtomachnjepgpbaaGreatProg.lean LOADS. Nothing in Lean hashes anything: it is a label: what it is worth is what the hold of that sum in a sandbox is worth. -/
noncomputable def Tryz.pinned : Pinned := { name := "ytomachnjepgpbaagreat", sum := "3a65ebe3350ffab680c04deaadb1fa997b801c3105a37cf44d5daf3f64ab8665", checked := Tryz.checked }
namespace Rows
def none {H : Type} : Left H := { results := [], args := [] }

/-- 'laws.FnResolve': WHATEVER THE INPUT: true; the input reads as it did. -/
def fnResolveSpec : ChangeSpec := { name := "fnResolve", fn := fun _ => fun
  | [d1, d2] => { results := [.lit (.bool true)], args := [d1, d2] }
  | _ => none }
def fnResolveRow : OpenClaim := { program := "ytomachnjepgpbaagreat", sum := "3a65ebe3350ffab680c04deaadb1fa997b801c3105a37cf44d5daf3f64ab8665", func := "loop.example/g00683/laws.FnResolve", spec := "fnResolve", inPlace := ["slices.overlaps[loop.example/g00683/impl.Entry]"], unfollowed := true, recurses := true, plainKeys := false, apart := false }
def FnResolveSaid : Prop := fnResolveRow.holds Tryz.pinned (OpenSpec.ofChange fnResolveSpec)

/-- ITS FALSE NEIGHBOUR: 'it returns false'. Refute it at one input. -/
def fnResolveWrong : ChangeSpec := { name := "fnResolve", fn := fun _ => fun
  | [d1, d2] => { results := [.lit (.bool false)], args := [d1, d2] }
  | _ => none }
def FnResolveWrongFalsely : Prop := fnResolveRow.holds Tryz.pinned (OpenSpec.ofChange fnResolveWrong)

/-- 'laws.FnBlame': WHATEVER THE INPUT: true; the input reads as it did. -/
def fnBlameSpec : ChangeSpec := { name := "fnBlame", fn := fun _ => fun
  | [d1, d2] => { results := [.lit (.bool true)], args := [d1, d2] }
  | _ => none }
def fnBlameRow : OpenClaim := { program := "ytomachnjepgpbaagreat", sum := "3a65ebe3350ffab680c04deaadb1fa997b801c3105a37cf44d5daf3f64ab8665", func := "loop.example/g00683/laws.FnBlame", spec := "fnBlame", inPlace := ["slices.overlaps[loop.example/g00683/impl.Entry]"], unfollowed := true, recurses := true, plainKeys := false, apart := false }
def FnBlameSaid : Prop := fnBlameRow.holds Tryz.pinned (OpenSpec.ofChange fnBlameSpec)

/-- ITS FALSE NEIGHBOUR: 'it returns false'. Refute it at one input. -/
def fnBlameWrong : ChangeSpec := { name := "fnBlame", fn := fun _ => fun
  | [d1, d2] => { results := [.lit (.bool false)], args := [d1, d2] }
  | _ => none }
def FnBlameWrongFalsely : Prop := fnBlameRow.holds Tryz.pinned (OpenSpec.ofChange fnBlameWrong)

/-- 'laws.FnSees': WHATEVER THE INPUT: true; the input reads as it did. -/
def fnSeesSpec : ChangeSpec := { name := "fnSees", fn := fun _ => fun
  | [d1, d2] => { results := [.lit (.bool true)], args := [d1, d2] }
  | _ => none }
def fnSeesRow : OpenClaim := { program := "ytomachnjepgpbaagreat", sum := "3a65ebe3350ffab680c04deaadb1fa997b801c3105a37cf44d5daf3f64ab8665", func := "loop.example/g00683/laws.FnSees", spec := "fnSees", inPlace := ["slices.overlaps[loop.example/g00683/impl.Entry]"], unfollowed := true, recurses := true, plainKeys := false, apart := false }
def FnSeesSaid : Prop := fnSeesRow.holds Tryz.pinned (OpenSpec.ofChange fnSeesSpec)

/-- ITS FALSE NEIGHBOUR: 'it returns false'. Refute it at one input. -/
def fnSeesWrong : ChangeSpec := { name := "fnSees", fn := fun _ => fun
  | [d1, d2] => { results := [.lit (.bool false)], args := [d1, d2] }
  | _ => none }
def FnSeesWrongFalsely : Prop := fnSeesRow.holds Tryz.pinned (OpenSpec.ofChange fnSeesWrong)

/-- 'laws.FnPage': WHATEVER THE INPUT: true; the input reads as it did. -/
def fnPageSpec : ChangeSpec := { name := "fnPage", fn := fun _ => fun
  | [d1, d2] => { results := [.lit (.bool true)], args := [d1, d2] }
  | _ => none }
def fnPageRow : OpenClaim := { program := "ytomachnjepgpbaagreat", sum := "3a65ebe3350ffab680c04deaadb1fa997b801c3105a37cf44d5daf3f64ab8665", func := "loop.example/g00683/laws.FnPage", spec := "fnPage", inPlace := ["slices.overlaps[loop.example/g00683/impl.Entry]"], unfollowed := true, recurses := true, plainKeys := false, apart := false }
def FnPageSaid : Prop := fnPageRow.holds Tryz.pinned (OpenSpec.ofChange fnPageSpec)

/-- ITS FALSE NEIGHBOUR: 'it returns false'. Refute it at one input. -/
def fnPageWrong : ChangeSpec := { name := "fnPage", fn := fun _ => fun
  | [d1, d2] => { results := [.lit (.bool false)], args := [d1, d2] }
  | _ => none }
def FnPageWrongFalsely : Prop := fnPageRow.holds Tryz.pinned (OpenSpec.ofChange fnPageWrong)

/- THE SECOND FORM. 'bulk': how many values and letters a reading holds, each counted each time it is reached (what is shared counts as often as it is met; a slice's spare places count too). A statement '..UptoSaid' is the law's where the arguments, and the package variables that the reading takes, are together of bulk at most 1048576: NARROWER than '..Said'. Prove '..Said' where nothing that the law and all that it calls make is longer than what came in: it says more and counts as full. Else prove '..UptoSaid'. A law counts once. -/
mutual
def uptoBulk {H : Type} : DataW H → Nat
  | .lit (.string bytes) => bytes.length + 1
  | .lit _ => 1
  | .nil => 1
  | .ptr d => uptoBulk d + 1
  | .slice elems spare => uptoBulkAll elems + uptoBulkAll spare + 1
  | .agg parts => uptoBulkAll parts + 1
  | .iface _ d => uptoBulk d + 1
  | .map entries => uptoBulkEntries entries + 1
  | .held _ => 1
def uptoBulkAll {H : Type} : List (DataW H) → Nat
  | [] => 0
  | d :: r => uptoBulk d + uptoBulkAll r
def uptoBulkEntries {H : Type} : List (Lit × DataW H) → Nat
  | [] => 0
  | x :: r => uptoBulkEntry x + uptoBulkEntries r
def uptoBulkEntry {H : Type} : Lit × DataW H → Nat
  | (.string bytes, d) => bytes.length + uptoBulk d + 1
  | (_, d) => uptoBulk d + 1
 end
def uptoSmall : (H : Type) → List (DataW H) → Bool := fun _ ds => decide (uptoBulkAll ds ≤ 1048576)
def OpenSpec.upto (s : _root_.Go.ChangeSpec) : _root_.Go.OpenSpec := { _root_.Go.OpenSpec.ofChange s with cond := some uptoSmall }

/-- 'laws.FnResolve', WHERE WHAT IT READS IS OF BULK AT MOST 1048576: true; the input reads as it did. -/
def fnResolveUptoRow : OpenClaim := { program := "ytomachnjepgpbaagreat", sum := "3a65ebe3350ffab680c04deaadb1fa997b801c3105a37cf44d5daf3f64ab8665", func := "loop.example/g00683/laws.FnResolve", spec := "fnResolve", inPlace := ["slices.overlaps[loop.example/g00683/impl.Entry]"], unfollowed := true, recurses := true, plainKeys := false, apart := false, narrowed := true }
def FnResolveUptoSaid : Prop := fnResolveUptoRow.holds Tryz.pinned (OpenSpec.upto fnResolveSpec)

/-- 'laws.FnBlame', WHERE WHAT IT READS IS OF BULK AT MOST 1048576: true; the input reads as it did. -/
def fnBlameUptoRow : OpenClaim := { program := "ytomachnjepgpbaagreat", sum := "3a65ebe3350ffab680c04deaadb1fa997b801c3105a37cf44d5daf3f64ab8665", func := "loop.example/g00683/laws.FnBlame", spec := "fnBlame", inPlace := ["slices.overlaps[loop.example/g00683/impl.Entry]"], unfollowed := true, recurses := true, plainKeys := false, apart := false, narrowed := true }
def FnBlameUptoSaid : Prop := fnBlameUptoRow.holds Tryz.pinned (OpenSpec.upto fnBlameSpec)

/-- 'laws.FnSees', WHERE WHAT IT READS IS OF BULK AT MOST 1048576: true; the input reads as it did. -/
def fnSeesUptoRow : OpenClaim := { program := "ytomachnjepgpbaagreat", sum := "3a65ebe3350ffab680c04deaadb1fa997b801c3105a37cf44d5daf3f64ab8665", func := "loop.example/g00683/laws.FnSees", spec := "fnSees", inPlace := ["slices.overlaps[loop.example/g00683/impl.Entry]"], unfollowed := true, recurses := true, plainKeys := false, apart := false, narrowed := true }
def FnSeesUptoSaid : Prop := fnSeesUptoRow.holds Tryz.pinned (OpenSpec.upto fnSeesSpec)

/-- 'laws.FnPage', WHERE WHAT IT READS IS OF BULK AT MOST 1048576: true; the input reads as it did. -/
def fnPageUptoRow : OpenClaim := { program := "ytomachnjepgpbaagreat", sum := "3a65ebe3350ffab680c04deaadb1fa997b801c3105a37cf44d5daf3f64ab8665", func := "loop.example/g00683/laws.FnPage", spec := "fnPage", inPlace := ["slices.overlaps[loop.example/g00683/impl.Entry]"], unfollowed := true, recurses := true, plainKeys := false, apart := false, narrowed := true }
def FnPageUptoSaid : Prop := fnPageUptoRow.holds Tryz.pinned (OpenSpec.upto fnPageSpec)

end Rows
end Go.Proofs.YtomachnjepgpbaaGreat
