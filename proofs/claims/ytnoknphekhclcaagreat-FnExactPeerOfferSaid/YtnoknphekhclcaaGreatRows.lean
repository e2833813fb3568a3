/-
  No cell of these rows narrows 'for every input' (looked for: loops, veiled, ifaces, maps, wideKeys, modest, calm, conditions, laid).
  DERIVED. THE GIVEN ROWS OF THIS SEAT. 3 by the template 'for every input the law returns true; each argument reads behind the call as it read before'; 0 by the template 'total and deterministic' (their statements: YtnoknphekhclcaaGreatTotals.lean).
  GIVEN WITH THE SEED: the statements are not yours to turn. If you find one false, say at which input.
  Laid BY PROGRAM, IN A SANDBOX (cutbox-rows.mjs): the forced cells as the released guide's own fill.sh prints them over the translation 08ec3e8c31e52f2b… (all of the seat's roots in one cut). By AI agents, Wed Nov 11 2026. No macro, syntax, notation, axiom, sorry.
-/
import Derived.Test.YtnoknphekhclcaaGreatChecked
import GoSem.Claim
import GoSem.ClaimJoined
import GoSem.ClaimMapViews
import Derived.JoinedTies
import Derived.KernelRfl
namespace Go.Proofs.YtnoknphekhclcaaGreat
/- THE CELL 'sum', in the pinned program and in every row, IS THE sha256 OF THE DUMP (.gsa) THAT YtnoknphekhclcaaGreatProg.lean LOADS. Nothing in Lean hashes anything: it is a label: what it is worth is what the hold of that sum in a sandbox is worth. -/
noncomputable def Tryz.pinned : Pinned := { name := "ytnoknphekhclcaagreat", sum := "08ec3e8c31e52f2b3dc2ec636afb9cb34d0adac6c9c4f39e3f16a99520418cf8", checked := Tryz.checked }
namespace Rows
def none {H : Type} : Left H := { results := [], args := [] }

/-- 'laws.FnExactPeerOffer': WHATEVER THE INPUT: true; the input reads as it did. -/
def fnExactPeerOfferSpec : ChangeSpec := { name := "fnExactPeerOffer", fn := fun _ => fun
  | [d1, d2, d3, d4] => { results := [.lit (.bool true)], args := [d1, d2, d3, d4] }
  | _ => none }
def fnExactPeerOfferRow : OpenClaim := { program := "ytnoknphekhclcaagreat", sum := "08ec3e8c31e52f2b3dc2ec636afb9cb34d0adac6c9c4f39e3f16a99520418cf8", func := "loop.example/g00683/laws.FnExactPeerOffer", spec := "fnExactPeerOffer", inPlace := ["slices.overlaps[loop.example/g00683/impl.Entry]"], unfollowed := true, recurses := true, plainKeys := false, apart := false }
def FnExactPeerOfferSaid : Prop := fnExactPeerOfferRow.holds Tryz.pinned (OpenSpec.ofChange fnExactPeerOfferSpec)

/-- ITS FALSE NEIGHBOUR: 'it returns false'. Refute it at one input. -/
def fnExactPeerOfferWrong : ChangeSpec := { name := "fnExactPeerOffer", fn := fun _ => fun
  | [d1, d2, d3, d4] => { results := [.lit (.bool false)], args := [d1, d2, d3, d4] }
  | _ => none }
def FnExactPeerOfferWrongFalsely : Prop := fnExactPeerOfferRow.holds Tryz.pinned (OpenSpec.ofChange fnExactPeerOfferWrong)

/-- 'laws.FnExactPeerDeliver': WHATEVER THE INPUT: true; the input reads as it did. -/
def fnExactPeerDeliverSpec : ChangeSpec := { name := "fnExactPeerDeliver", fn := fun _ => fun
  | [d1, d2] => { results := [.lit (.bool true)], args := [d1, d2] }
  | _ => none }
def fnExactPeerDeliverRow : OpenClaim := { program := "ytnoknphekhclcaagreat", sum := "08ec3e8c31e52f2b3dc2ec636afb9cb34d0adac6c9c4f39e3f16a99520418cf8", func := "loop.example/g00683/laws.FnExactPeerDeliver", spec := "fnExactPeerDeliver", inPlace := ["slices.overlaps[loop.example/g00683/impl.Entry]", "slices.overlaps[loop.example/g00683/impl.Event]"], unfollowed := true, recurses := true, plainKeys := false, apart := false }
def FnExactPeerDeliverSaid : Prop := fnExactPeerDeliverRow.holds Tryz.pinned (OpenSpec.ofChange fnExactPeerDeliverSpec)

/-- ITS FALSE NEIGHBOUR: 'it returns false'. Refute it at one input. -/
def fnExactPeerDeliverWrong : ChangeSpec := { name := "fnExactPeerDeliver", fn := fun _ => fun
  | [d1, d2] => { results := [.lit (.bool false)], args := [d1, d2] }
  | _ => none }
def FnExactPeerDeliverWrongFalsely : Prop := fnExactPeerDeliverRow.holds Tryz.pinned (OpenSpec.ofChange fnExactPeerDeliverWrong)

/-- 'laws.FnExactPeerMake': WHATEVER THE INPUT: true; the input reads as it did. -/
def fnExactPeerMakeSpec : ChangeSpec := { name := "fnExactPeerMake", fn := fun _ => fun
  | [d1, d2, d3] => { results := [.lit (.bool true)], args := [d1, d2, d3] }
  | _ => none }
def fnExactPeerMakeRow : OpenClaim := { program := "ytnoknphekhclcaagreat", sum := "08ec3e8c31e52f2b3dc2ec636afb9cb34d0adac6c9c4f39e3f16a99520418cf8", func := "loop.example/g00683/laws.FnExactPeerMake", spec := "fnExactPeerMake", inPlace := ["slices.overlaps[loop.example/g00683/impl.Entry]", "slices.overlaps[loop.example/g00683/impl.Event]"], unfollowed := true, recurses := true, plainKeys := false, apart := false }
def FnExactPeerMakeSaid : Prop := fnExactPeerMakeRow.holds Tryz.pinned (OpenSpec.ofChange fnExactPeerMakeSpec)

/-- ITS FALSE NEIGHBOUR: 'it returns false'. Refute it at one input. -/
def fnExactPeerMakeWrong : ChangeSpec := { name := "fnExactPeerMake", fn := fun _ => fun
  | [d1, d2, d3] => { results := [.lit (.bool false)], args := [d1, d2, d3] }
  | _ => none }
def FnExactPeerMakeWrongFalsely : Prop := fnExactPeerMakeRow.holds Tryz.pinned (OpenSpec.ofChange fnExactPeerMakeWrong)

/- THE SECOND FORM. 'bulk': how many values and letters a reading holds, each counted each time it is reached (what is shared counts as often as it is met; a slice's spare places count too). A statement '..UptoSaid' is the law's where the arguments, and the package variables that the reading takes, are together of bulk at most 1048576: NARROWER than '..Said'. Prove '..Said' where nothing that the law and all that it calls make is longer than what came in: it says more and counts as full. Else prove '..UptoSaid'. A law counts once. -/
mutual
def uptoBulk {H : Type} : DataW H → Nat
  | .lit (.string bytes) => bytes.length + 1
  | .lit _ => 1
  | .nil => 1
  | .ptr d => uptoBulk d + 1
  | .slice elems spare => uptoBulkAll elems + uptoBulkAll spare + 1
  | .agg parts => uptoBulkAll parts + 1
  | .iface _ d => uptoBulk d + 1
  | .map entries => uptoBulkEntries entries + 1
  | .held _ => 1
def uptoBulkAll {H : Type} : List (DataW H) → Nat
  | [] => 0
  | d :: r => uptoBulk d + uptoBulkAll r
def uptoBulkEntries {H : Type} : List (Lit × DataW H) → Nat
  | [] => 0
  | x :: r => uptoBulkEntry x + uptoBulkEntries r
def uptoBulkEntry {H : Type} : Lit × DataW H → Nat
  | (.string bytes, d) => bytes.length + uptoBulk d + 1
  | (_, d) => uptoBulk d + 1
 end
def uptoSmall : (H : Type) → List (DataW H) → Bool := fun _ ds => decide (uptoBulkAll ds ≤ 1048576)
def OpenSpec.upto (s : _root_.Go.ChangeSpec) : _root_.Go.OpenSpec := { _root_.Go.OpenSpec.ofChange s with cond := some uptoSmall }

/-- 'laws.FnExactPeerOffer', WHERE WHAT IT READS IS OF BULK AT MOST 1048576: true; the input reads as it did. -/
def fnExactPeerOfferUptoRow : OpenClaim := { program := "ytnoknphekhclcaagreat", sum := "08ec3e8c31e52f2b3dc2ec636afb9cb34d0adac6c9c4f39e3f16a99520418cf8", func := "loop.example/g00683/laws.FnExactPeerOffer", spec := "fnExactPeerOffer", inPlace := ["slices.overlaps[loop.example/g00683/impl.Entry]"], unfollowed := true, recurses := true, plainKeys := false, apart := false, narrowed := true }
def FnExactPeerOfferUptoSaid : Prop := fnExactPeerOfferUptoRow.holds Tryz.pinned (OpenSpec.upto fnExactPeerOfferSpec)

/-- 'laws.FnExactPeerDeliver', WHERE WHAT IT READS IS OF BULK AT MOST 1048576: true; the input reads as it did. -/
def fnExactPeerDeliverUptoRow : OpenClaim := { program := "ytnoknphekhclcaagreat", sum := "08ec3e8c31e52f2b3dc2ec636afb9cb34d0adac6c9c4f39e3f16a99520418cf8", func := "loop.example/g00683/laws.FnExactPeerDeliver", spec := "fnExactPeerDeliver", inPlace := ["slices.overlaps[loop.example/g00683/impl.Entry]", "slices.overlaps[loop.example/g00683/impl.Event]"], unfollowed := true, recurses := true, plainKeys := false, apart := false, narrowed := true }
def FnExactPeerDeliverUptoSaid : Prop := fnExactPeerDeliverUptoRow.holds Tryz.pinned (OpenSpec.upto fnExactPeerDeliverSpec)

/-- 'laws.FnExactPeerMake', WHERE WHAT IT READS IS OF BULK AT MOST 1048576: true; the input reads as it did. -/
def fnExactPeerMakeUptoRow : OpenClaim := { program := "ytnoknphekhclcaagreat", sum := "08ec3e8c31e52f2b3dc2ec636afb9cb34d0adac6c9c4f39e3f16a99520418cf8", func := "loop.example/g00683/laws.FnExactPeerMake", spec := "fnExactPeerMake", inPlace := ["slices.overlaps[loop.example/g00683/impl.Entry]", "slices.overlaps[loop.example/g00683/impl.Event]"], unfollowed := true, recurses := true, plainKeys := false, apart := false, narrowed := true }
def FnExactPeerMakeUptoSaid : Prop := fnExactPeerMakeUptoRow.holds Tryz.pinned (OpenSpec.upto fnExactPeerMakeSpec)

end Rows
end Go.Proofs.YtnoknphekhclcaaGreat
