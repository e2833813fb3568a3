/-
  No cell of these rows narrows 'for every input' (looked for: loops, veiled, ifaces, maps, wideKeys, modest, calm, conditions, laid).
  DERIVED. THE GIVEN ROWS OF THIS SEAT. 6 by the template 'for every input the law returns true; each argument reads behind the call as it read before'; 0 by the template 'total and deterministic' (their statements: YtiajhengifcljaaTotals.lean).
  GIVEN WITH THE SEED: the statements are not yours to turn. If you find one false, say at which input.
  Laid BY PROGRAM, IN A SANDBOX (cutbox-rows.mjs): the forced cells as the released guide's own fill.sh prints them over the translation 124b07f1077eeb06… (all of the seat's roots in one cut). By AI agents, Wed Nov 11 2026. No macro, syntax, notation, axiom, sorry.
-/
import Derived.Test.YtiajhengifcljaaChecked
import GoSem.Claim
import GoSem.ClaimJoined
import GoSem.ClaimMapViews
import Derived.JoinedTies
import Derived.KernelRfl
namespace Go.Proofs.Ytiajhengifcljaa
/- THE CELL 'sum', in the pinned program and in every row, IS THE sha256 OF THE DUMP (.gsa) THAT YtiajhengifcljaaProg.lean LOADS. Nothing in Lean hashes anything: it is a label: what it is worth is what the hold of that sum in a sandbox is worth. -/
noncomputable def Try.pinned : Pinned := { name := "ytiajhengifcljaa", sum := "124b07f1077eeb06c683f833c7e63a6ac403151b7d7c48fdf3035c0be2fd6a12", checked := Try.checked }
namespace Rows
def none {H : Type} : Left H := { results := [], args := [] }

/-- 'laws.FnExactLiveRight': WHATEVER THE INPUT: true; the input reads as it did. -/
def fnExactLiveRightSpec : ChangeSpec := { name := "fnExactLiveRight", fn := fun _ => fun
  | [d] => { results := [.lit (.bool true)], args := [d] }
  | _ => none }
def fnExactLiveRightRow : OpenClaim := { program := "ytiajhengifcljaa", sum := "124b07f1077eeb06c683f833c7e63a6ac403151b7d7c48fdf3035c0be2fd6a12", func := "loop.example/g00683/laws.FnExactLiveRight", spec := "fnExactLiveRight", apart := false }
def FnExactLiveRightSaid : Prop := fnExactLiveRightRow.holds Try.pinned (OpenSpec.ofChange fnExactLiveRightSpec)

/-- ITS FALSE NEIGHBOUR: 'it returns false'. Refute it at one input. -/
def fnExactLiveRightWrong : ChangeSpec := { name := "fnExactLiveRight", fn := fun _ => fun
  | [d] => { results := [.lit (.bool false)], args := [d] }
  | _ => none }
def FnExactLiveRightWrongFalsely : Prop := fnExactLiveRightRow.holds Try.pinned (OpenSpec.ofChange fnExactLiveRightWrong)

/-- 'laws.FnExactLiveNext': WHATEVER THE INPUT: true; the input reads as it did. -/
def fnExactLiveNextSpec : ChangeSpec := { name := "fnExactLiveNext", fn := fun _ => fun
  | [d1, d2] => { results := [.lit (.bool true)], args := [d1, d2] }
  | _ => none }
def fnExactLiveNextRow : OpenClaim := { program := "ytiajhengifcljaa", sum := "124b07f1077eeb06c683f833c7e63a6ac403151b7d7c48fdf3035c0be2fd6a12", func := "loop.example/g00683/laws.FnExactLiveNext", spec := "fnExactLiveNext", apart := false }
def FnExactLiveNextSaid : Prop := fnExactLiveNextRow.holds Try.pinned (OpenSpec.ofChange fnExactLiveNextSpec)

/-- ITS FALSE NEIGHBOUR: 'it returns false'. Refute it at one input. -/
def fnExactLiveNextWrong : ChangeSpec := { name := "fnExactLiveNext", fn := fun _ => fun
  | [d1, d2] => { results := [.lit (.bool false)], args := [d1, d2] }
  | _ => none }
def FnExactLiveNextWrongFalsely : Prop := fnExactLiveNextRow.holds Try.pinned (OpenSpec.ofChange fnExactLiveNextWrong)

/-- 'laws.FnExactLiveAt': WHATEVER THE INPUT: true; the input reads as it did. -/
def fnExactLiveAtSpec : ChangeSpec := { name := "fnExactLiveAt", fn := fun _ => fun
  | [d1, d2] => { results := [.lit (.bool true)], args := [d1, d2] }
  | _ => none }
def fnExactLiveAtRow : OpenClaim := { program := "ytiajhengifcljaa", sum := "124b07f1077eeb06c683f833c7e63a6ac403151b7d7c48fdf3035c0be2fd6a12", func := "loop.example/g00683/laws.FnExactLiveAt", spec := "fnExactLiveAt", apart := false }
def FnExactLiveAtSaid : Prop := fnExactLiveAtRow.holds Try.pinned (OpenSpec.ofChange fnExactLiveAtSpec)

/-- ITS FALSE NEIGHBOUR: 'it returns false'. Refute it at one input. -/
def fnExactLiveAtWrong : ChangeSpec := { name := "fnExactLiveAt", fn := fun _ => fun
  | [d1, d2] => { results := [.lit (.bool false)], args := [d1, d2] }
  | _ => none }
def FnExactLiveAtWrongFalsely : Prop := fnExactLiveAtRow.holds Try.pinned (OpenSpec.ofChange fnExactLiveAtWrong)

/-- 'laws.FnExactLiveSet': WHATEVER THE INPUT: true; the input reads as it did. -/
def fnExactLiveSetSpec : ChangeSpec := { name := "fnExactLiveSet", fn := fun _ => fun
  | [d1, d2, d3] => { results := [.lit (.bool true)], args := [d1, d2, d3] }
  | _ => none }
def fnExactLiveSetRow : OpenClaim := { program := "ytiajhengifcljaa", sum := "124b07f1077eeb06c683f833c7e63a6ac403151b7d7c48fdf3035c0be2fd6a12", func := "loop.example/g00683/laws.FnExactLiveSet", spec := "fnExactLiveSet", inPlace := ["slices.overlaps[loop.example/g00683/impl.Live]"], unfollowed := true, recurses := true, apart := false }
def FnExactLiveSetSaid : Prop := fnExactLiveSetRow.holds Try.pinned (OpenSpec.ofChange fnExactLiveSetSpec)

/-- ITS FALSE NEIGHBOUR: 'it returns false'. Refute it at one input. -/
def fnExactLiveSetWrong : ChangeSpec := { name := "fnExactLiveSet", fn := fun _ => fun
  | [d1, d2, d3] => { results := [.lit (.bool false)], args := [d1, d2, d3] }
  | _ => none }
def FnExactLiveSetWrongFalsely : Prop := fnExactLiveSetRow.holds Try.pinned (OpenSpec.ofChange fnExactLiveSetWrong)

/-- 'laws.FnExactLiveJoin': WHATEVER THE INPUT: true; the input reads as it did. -/
def fnExactLiveJoinSpec : ChangeSpec := { name := "fnExactLiveJoin", fn := fun _ => fun
  | [d1, d2] => { results := [.lit (.bool true)], args := [d1, d2] }
  | _ => none }
def fnExactLiveJoinRow : OpenClaim := { program := "ytiajhengifcljaa", sum := "124b07f1077eeb06c683f833c7e63a6ac403151b7d7c48fdf3035c0be2fd6a12", func := "loop.example/g00683/laws.FnExactLiveJoin", spec := "fnExactLiveJoin", inPlace := ["slices.overlaps[loop.example/g00683/impl.Live]"], unfollowed := true, recurses := true, apart := false }
def FnExactLiveJoinSaid : Prop := fnExactLiveJoinRow.holds Try.pinned (OpenSpec.ofChange fnExactLiveJoinSpec)

/-- ITS FALSE NEIGHBOUR: 'it returns false'. Refute it at one input. -/
def fnExactLiveJoinWrong : ChangeSpec := { name := "fnExactLiveJoin", fn := fun _ => fun
  | [d1, d2] => { results := [.lit (.bool false)], args := [d1, d2] }
  | _ => none }
def FnExactLiveJoinWrongFalsely : Prop := fnExactLiveJoinRow.holds Try.pinned (OpenSpec.ofChange fnExactLiveJoinWrong)

/-- 'laws.FnLive': WHATEVER THE INPUT: true; the input reads as it did. -/
def fnLiveSpec : ChangeSpec := { name := "fnLive", fn := fun _ => fun
  | [d1, d2] => { results := [.lit (.bool true)], args := [d1, d2] }
  | _ => none }
def fnLiveRow : OpenClaim := { program := "ytiajhengifcljaa", sum := "124b07f1077eeb06c683f833c7e63a6ac403151b7d7c48fdf3035c0be2fd6a12", func := "loop.example/g00683/laws.FnLive", spec := "fnLive", inPlace := ["slices.overlaps[loop.example/g00683/impl.Live]"], unfollowed := true, recurses := true, apart := false }
def FnLiveSaid : Prop := fnLiveRow.holds Try.pinned (OpenSpec.ofChange fnLiveSpec)

/-- ITS FALSE NEIGHBOUR: 'it returns false'. Refute it at one input. -/
def fnLiveWrong : ChangeSpec := { name := "fnLive", fn := fun _ => fun
  | [d1, d2] => { results := [.lit (.bool false)], args := [d1, d2] }
  | _ => none }
def FnLiveWrongFalsely : Prop := fnLiveRow.holds Try.pinned (OpenSpec.ofChange fnLiveWrong)

/- THE SECOND FORM. 'bulk': how many values and letters a reading holds, each counted each time it is reached (what is shared counts as often as it is met; a slice's spare places count too). A statement '..UptoSaid' is the law's where the arguments, and the package variables that the reading takes, are together of bulk at most 1048576: NARROWER than '..Said'. Prove '..Said' where nothing that the law and all that it calls make is longer than what came in: it says more and counts as full. Else prove '..UptoSaid'. A law counts once. -/
mutual
def uptoBulk {H : Type} : DataW H → Nat
  | .lit (.string bytes) => bytes.length + 1
  | .lit _ => 1
  | .nil => 1
  | .ptr d => uptoBulk d + 1
  | .slice elems spare => uptoBulkAll elems + uptoBulkAll spare + 1
  | .agg parts => uptoBulkAll parts + 1
  | .iface _ d => uptoBulk d + 1
  | .map entries => uptoBulkEntries entries + 1
  | .held _ => 1
def uptoBulkAll {H : Type} : List (DataW H) → Nat
  | [] => 0
  | d :: r => uptoBulk d + uptoBulkAll r
def uptoBulkEntries {H : Type} : List (Lit × DataW H) → Nat
  | [] => 0
  | x :: r => uptoBulkEntry x + uptoBulkEntries r
def uptoBulkEntry {H : Type} : Lit × DataW H → Nat
  | (.string bytes, d) => bytes.length + uptoBulk d + 1
  | (_, d) => uptoBulk d + 1
 end
def uptoSmall : (H : Type) → List (DataW H) → Bool := fun _ ds => decide (uptoBulkAll ds ≤ 1048576)
def OpenSpec.upto (s : _root_.Go.ChangeSpec) : _root_.Go.OpenSpec := { _root_.Go.OpenSpec.ofChange s with cond := some uptoSmall }

/-- 'laws.FnExactLiveRight', WHERE WHAT IT READS IS OF BULK AT MOST 1048576: true; the input reads as it did. -/
def fnExactLiveRightUptoRow : OpenClaim := { program := "ytiajhengifcljaa", sum := "124b07f1077eeb06c683f833c7e63a6ac403151b7d7c48fdf3035c0be2fd6a12", func := "loop.example/g00683/laws.FnExactLiveRight", spec := "fnExactLiveRight", apart := false, narrowed := true }
def FnExactLiveRightUptoSaid : Prop := fnExactLiveRightUptoRow.holds Try.pinned (OpenSpec.upto fnExactLiveRightSpec)

/-- 'laws.FnExactLiveNext', WHERE WHAT IT READS IS OF BULK AT MOST 1048576: true; the input reads as it did. -/
def fnExactLiveNextUptoRow : OpenClaim := { program := "ytiajhengifcljaa", sum := "124b07f1077eeb06c683f833c7e63a6ac403151b7d7c48fdf3035c0be2fd6a12", func := "loop.example/g00683/laws.FnExactLiveNext", spec := "fnExactLiveNext", apart := false, narrowed := true }
def FnExactLiveNextUptoSaid : Prop := fnExactLiveNextUptoRow.holds Try.pinned (OpenSpec.upto fnExactLiveNextSpec)

/-- 'laws.FnExactLiveAt', WHERE WHAT IT READS IS OF BULK AT MOST 1048576: true; the input reads as it did. -/
def fnExactLiveAtUptoRow : OpenClaim := { program := "ytiajhengifcljaa", sum := "124b07f1077eeb06c683f833c7e63a6ac403151b7d7c48fdf3035c0be2fd6a12", func := "loop.example/g00683/laws.FnExactLiveAt", spec := "fnExactLiveAt", apart := false, narrowed := true }
def FnExactLiveAtUptoSaid : Prop := fnExactLiveAtUptoRow.holds Try.pinned (OpenSpec.upto fnExactLiveAtSpec)

/-- 'laws.FnExactLiveSet', WHERE WHAT IT READS IS OF BULK AT MOST 1048576: true; the input reads as it did. -/
def fnExactLiveSetUptoRow : OpenClaim := { program := "ytiajhengifcljaa", sum := "124b07f1077eeb06c683f833c7e63a6ac403151b7d7c48fdf3035c0be2fd6a12", func := "loop.example/g00683/laws.FnExactLiveSet", spec := "fnExactLiveSet", inPlace := ["slices.overlaps[loop.example/g00683/impl.Live]"], unfollowed := true, recurses := true, apart := false, narrowed := true }
def FnExactLiveSetUptoSaid : Prop := fnExactLiveSetUptoRow.holds Try.pinned (OpenSpec.upto fnExactLiveSetSpec)

/-- 'laws.FnExactLiveJoin', WHERE WHAT IT READS IS OF BULK AT MOST 1048576: true; the input reads as it did. -/
def fnExactLiveJoinUptoRow : OpenClaim := { program := "ytiajhengifcljaa", sum := "124b07f1077eeb06c683f833c7e63a6ac403151b7d7c48fdf3035c0be2fd6a12", func := "loop.example/g00683/laws.FnExactLiveJoin", spec := "fnExactLiveJoin", inPlace := ["slices.overlaps[loop.example/g00683/impl.Live]"], unfollowed := true, recurses := true, apart := false, narrowed := true }
def FnExactLiveJoinUptoSaid : Prop := fnExactLiveJoinUptoRow.holds Try.pinned (OpenSpec.upto fnExactLiveJoinSpec)

/-- 'laws.FnLive', WHERE WHAT IT READS IS OF BULK AT MOST 1048576: true; the input reads as it did. -/
def fnLiveUptoRow : OpenClaim := { program := "ytiajhengifcljaa", sum := "124b07f1077eeb06c683f833c7e63a6ac403151b7d7c48fdf3035c0be2fd6a12", func := "loop.example/g00683/laws.FnLive", spec := "fnLive", inPlace := ["slices.overlaps[loop.example/g00683/impl.Live]"], unfollowed := true, recurses := true, apart := false, narrowed := true }
def FnLiveUptoSaid : Prop := fnLiveUptoRow.holds Try.pinned (OpenSpec.upto fnLiveSpec)

end Rows
end Go.Proofs.Ytiajhengifcljaa
