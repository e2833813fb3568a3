/-
  No cell of these rows narrows 'for every input' (looked for: loops, veiled, ifaces, maps, wideKeys, modest, calm, conditions, laid).
  DERIVED. THE GIVEN ROWS OF THIS SEAT. 10 by the template 'for every input the law returns true; each argument reads behind the call as it read before'; 0 by the template 'total and deterministic' (their statements: YtbgichfjcnibpaaGreatTotals.lean).
  GIVEN WITH THE SEED: the statements are not yours to turn. If you find one false, say at which input.
  Laid BY PROGRAM, IN A SANDBOX (cutbox-rows.mjs): the forced cells as the released guide's own fill.sh prints them over the translation 825aed2b06431eeb… (all of the seat's roots in one cut). By AI agents, Wed Nov 11 2026. No macro, syntax, notation, axiom, sorry.
-/
import Derived.Test.YtbgichfjcnibpaaGreatChecked
import GoSem.Claim
import GoSem.ClaimJoined
import GoSem.ClaimMapViews
import Derived.JoinedTies
import Derived.KernelRfl
namespace Go.Proofs.YtbgichfjcnibpaaGreat
/- THE CELL 'sum', in the pinned program and in every row, IS THE sha256 OF THE DUMP (.gsa) THAT YtbgichfjcnibpaaGreatProg.lean LOADS. Nothing in Lean hashes anything: it is a label: what it is worth is what the hold of that sum in a sandbox is worth. -/
noncomputable def Tryz.pinned : Pinned := { name := "ytbgichfjcnibpaagreat", sum := "825aed2b06431eeb9dc381568e14f7569cc5bc77437334b66b9d355544997c86", checked := Tryz.checked }
namespace Rows
def none {H : Type} : Left H := { results := [], args := [] }

/-- 'laws.FnExactCurrentAt': WHATEVER THE INPUT: true; the input reads as it did. -/
def fnExactCurrentAtSpec : ChangeSpec := { name := "fnExactCurrentAt", fn := fun _ => fun
  | [d1, d2, d3] => { results := [.lit (.bool true)], args := [d1, d2, d3] }
  | _ => none }
def fnExactCurrentAtRow : OpenClaim := { program := "ytbgichfjcnibpaagreat", sum := "825aed2b06431eeb9dc381568e14f7569cc5bc77437334b66b9d355544997c86", func := "loop.example/g00683/laws.FnExactCurrentAt", spec := "fnExactCurrentAt", inPlace := ["slices.overlaps[loop.example/g00683/impl.Entry]"], unfollowed := true, recurses := true, plainKeys := false, apart := false }
def FnExactCurrentAtSaid : Prop := fnExactCurrentAtRow.holds Tryz.pinned (OpenSpec.ofChange fnExactCurrentAtSpec)

/-- ITS FALSE NEIGHBOUR: 'it returns false'. Refute it at one input. -/
def fnExactCurrentAtWrong : ChangeSpec := { name := "fnExactCurrentAt", fn := fun _ => fun
  | [d1, d2, d3] => { results := [.lit (.bool false)], args := [d1, d2, d3] }
  | _ => none }
def FnExactCurrentAtWrongFalsely : Prop := fnExactCurrentAtRow.holds Tryz.pinned (OpenSpec.ofChange fnExactCurrentAtWrong)

/-- 'laws.FnExactPeerTwice': WHATEVER THE INPUT: true; the input reads as it did. -/
def fnExactPeerTwiceSpec : ChangeSpec := { name := "fnExactPeerTwice", fn := fun _ => fun
  | [d1, d2] => { results := [.lit (.bool true)], args := [d1, d2] }
  | _ => none }
def fnExactPeerTwiceRow : OpenClaim := { program := "ytbgichfjcnibpaagreat", sum := "825aed2b06431eeb9dc381568e14f7569cc5bc77437334b66b9d355544997c86", func := "loop.example/g00683/laws.FnExactPeerTwice", spec := "fnExactPeerTwice", inPlace := ["slices.overlaps[loop.example/g00683/impl.Entry]"], unfollowed := true, recurses := true, plainKeys := false, apart := false }
def FnExactPeerTwiceSaid : Prop := fnExactPeerTwiceRow.holds Tryz.pinned (OpenSpec.ofChange fnExactPeerTwiceSpec)

/-- ITS FALSE NEIGHBOUR: 'it returns false'. Refute it at one input. -/
def fnExactPeerTwiceWrong : ChangeSpec := { name := "fnExactPeerTwice", fn := fun _ => fun
  | [d1, d2] => { results := [.lit (.bool false)], args := [d1, d2] }
  | _ => none }
def FnExactPeerTwiceWrongFalsely : Prop := fnExactPeerTwiceRow.holds Tryz.pinned (OpenSpec.ofChange fnExactPeerTwiceWrong)

/-- 'laws.FnExactPeerLose': WHATEVER THE INPUT: true; the input reads as it did. -/
def fnExactPeerLoseSpec : ChangeSpec := { name := "fnExactPeerLose", fn := fun _ => fun
  | [d1, d2] => { results := [.lit (.bool true)], args := [d1, d2] }
  | _ => none }
def fnExactPeerLoseRow : OpenClaim := { program := "ytbgichfjcnibpaagreat", sum := "825aed2b06431eeb9dc381568e14f7569cc5bc77437334b66b9d355544997c86", func := "loop.example/g00683/laws.FnExactPeerLose", spec := "fnExactPeerLose", inPlace := ["slices.overlaps[loop.example/g00683/impl.Entry]"], unfollowed := true, recurses := true, plainKeys := false, apart := false }
def FnExactPeerLoseSaid : Prop := fnExactPeerLoseRow.holds Tryz.pinned (OpenSpec.ofChange fnExactPeerLoseSpec)

/-- ITS FALSE NEIGHBOUR: 'it returns false'. Refute it at one input. -/
def fnExactPeerLoseWrong : ChangeSpec := { name := "fnExactPeerLose", fn := fun _ => fun
  | [d1, d2] => { results := [.lit (.bool false)], args := [d1, d2] }
  | _ => none }
def FnExactPeerLoseWrongFalsely : Prop := fnExactPeerLoseRow.holds Tryz.pinned (OpenSpec.ofChange fnExactPeerLoseWrong)

/-- 'laws.FnExactVisibleOf': WHATEVER THE INPUT: true; the input reads as it did. -/
def fnExactVisibleOfSpec : ChangeSpec := { name := "fnExactVisibleOf", fn := fun _ => fun
  | [d1, d2, d3] => { results := [.lit (.bool true)], args := [d1, d2, d3] }
  | _ => none }
def fnExactVisibleOfRow : OpenClaim := { program := "ytbgichfjcnibpaagreat", sum := "825aed2b06431eeb9dc381568e14f7569cc5bc77437334b66b9d355544997c86", func := "loop.example/g00683/laws.FnExactVisibleOf", spec := "fnExactVisibleOf", inPlace := ["slices.overlaps[loop.example/g00683/impl.Entry]"], unfollowed := true, recurses := true, plainKeys := false, apart := false }
def FnExactVisibleOfSaid : Prop := fnExactVisibleOfRow.holds Tryz.pinned (OpenSpec.ofChange fnExactVisibleOfSpec)

/-- ITS FALSE NEIGHBOUR: 'it returns false'. Refute it at one input. -/
def fnExactVisibleOfWrong : ChangeSpec := { name := "fnExactVisibleOf", fn := fun _ => fun
  | [d1, d2, d3] => { results := [.lit (.bool false)], args := [d1, d2, d3] }
  | _ => none }
def FnExactVisibleOfWrongFalsely : Prop := fnExactVisibleOfRow.holds Tryz.pinned (OpenSpec.ofChange fnExactVisibleOfWrong)

/-- 'laws.FnExactUnread': WHATEVER THE INPUT: true; the input reads as it did. -/
def fnExactUnreadSpec : ChangeSpec := { name := "fnExactUnread", fn := fun _ => fun
  | [d1, d2, d3] => { results := [.lit (.bool true)], args := [d1, d2, d3] }
  | _ => none }
def fnExactUnreadRow : OpenClaim := { program := "ytbgichfjcnibpaagreat", sum := "825aed2b06431eeb9dc381568e14f7569cc5bc77437334b66b9d355544997c86", func := "loop.example/g00683/laws.FnExactUnread", spec := "fnExactUnread", inPlace := ["slices.overlaps[loop.example/g00683/impl.Entry]"], unfollowed := true, recurses := true, plainKeys := false, apart := false }
def FnExactUnreadSaid : Prop := fnExactUnreadRow.holds Tryz.pinned (OpenSpec.ofChange fnExactUnreadSpec)

/-- ITS FALSE NEIGHBOUR: 'it returns false'. Refute it at one input. -/
def fnExactUnreadWrong : ChangeSpec := { name := "fnExactUnread", fn := fun _ => fun
  | [d1, d2, d3] => { results := [.lit (.bool false)], args := [d1, d2, d3] }
  | _ => none }
def FnExactUnreadWrongFalsely : Prop := fnExactUnreadRow.holds Tryz.pinned (OpenSpec.ofChange fnExactUnreadWrong)

/-- 'laws.FnExactMarkRead': WHATEVER THE INPUT: true; the input reads as it did. -/
def fnExactMarkReadSpec : ChangeSpec := { name := "fnExactMarkRead", fn := fun _ => fun
  | [d1, d2, d3, d4] => { results := [.lit (.bool true)], args := [d1, d2, d3, d4] }
  | _ => none }
def fnExactMarkReadRow : OpenClaim := { program := "ytbgichfjcnibpaagreat", sum := "825aed2b06431eeb9dc381568e14f7569cc5bc77437334b66b9d355544997c86", func := "loop.example/g00683/laws.FnExactMarkRead", spec := "fnExactMarkRead", inPlace := ["slices.overlaps[loop.example/g00683/impl.Entry]"], unfollowed := true, recurses := true, plainKeys := false, apart := false }
def FnExactMarkReadSaid : Prop := fnExactMarkReadRow.holds Tryz.pinned (OpenSpec.ofChange fnExactMarkReadSpec)

/-- ITS FALSE NEIGHBOUR: 'it returns false'. Refute it at one input. -/
def fnExactMarkReadWrong : ChangeSpec := { name := "fnExactMarkRead", fn := fun _ => fun
  | [d1, d2, d3, d4] => { results := [.lit (.bool false)], args := [d1, d2, d3, d4] }
  | _ => none }
def FnExactMarkReadWrongFalsely : Prop := fnExactMarkReadRow.holds Tryz.pinned (OpenSpec.ofChange fnExactMarkReadWrong)

/-- 'laws.FnExactFind': WHATEVER THE INPUT: true; the input reads as it did. -/
def fnExactFindSpec : ChangeSpec := { name := "fnExactFind", fn := fun _ => fun
  | [d1, d2, d3] => { results := [.lit (.bool true)], args := [d1, d2, d3] }
  | _ => none }
def fnExactFindRow : OpenClaim := { program := "ytbgichfjcnibpaagreat", sum := "825aed2b06431eeb9dc381568e14f7569cc5bc77437334b66b9d355544997c86", func := "loop.example/g00683/laws.FnExactFind", spec := "fnExactFind", inPlace := ["slices.overlaps[loop.example/g00683/impl.Entry]", "internal/bytealg.IndexByteString", "internal/bytealg.IndexString"], unfollowed := true, recurses := true, named := ["internal/bytealg.MaxLen"], plainKeys := false, apart := false }
def FnExactFindSaid : Prop := fnExactFindRow.holds Tryz.pinned (OpenSpec.ofChange fnExactFindSpec)

/-- ITS FALSE NEIGHBOUR: 'it returns false'. Refute it at one input. -/
def fnExactFindWrong : ChangeSpec := { name := "fnExactFind", fn := fun _ => fun
  | [d1, d2, d3] => { results := [.lit (.bool false)], args := [d1, d2, d3] }
  | _ => none }
def FnExactFindWrongFalsely : Prop := fnExactFindRow.holds Tryz.pinned (OpenSpec.ofChange fnExactFindWrong)

/-- 'laws.FnExactBackAll': WHATEVER THE INPUT: true; the input reads as it did. -/
def fnExactBackAllSpec : ChangeSpec := { name := "fnExactBackAll", fn := fun _ => fun
  | [d1, d2, d3, d4, d5] => { results := [.lit (.bool true)], args := [d1, d2, d3, d4, d5] }
  | _ => none }
def fnExactBackAllRow : OpenClaim := { program := "ytbgichfjcnibpaagreat", sum := "825aed2b06431eeb9dc381568e14f7569cc5bc77437334b66b9d355544997c86", func := "loop.example/g00683/laws.FnExactBackAll", spec := "fnExactBackAll", inPlace := ["slices.overlaps[loop.example/g00683/impl.Entry]"], unfollowed := true, recurses := true, plainKeys := false, apart := false }
def FnExactBackAllSaid : Prop := fnExactBackAllRow.holds Tryz.pinned (OpenSpec.ofChange fnExactBackAllSpec)

/-- ITS FALSE NEIGHBOUR: 'it returns false'. Refute it at one input. -/
def fnExactBackAllWrong : ChangeSpec := { name := "fnExactBackAll", fn := fun _ => fun
  | [d1, d2, d3, d4, d5] => { results := [.lit (.bool false)], args := [d1, d2, d3, d4, d5] }
  | _ => none }
def FnExactBackAllWrongFalsely : Prop := fnExactBackAllRow.holds Tryz.pinned (OpenSpec.ofChange fnExactBackAllWrong)

/-- 'laws.FnExactForth': WHATEVER THE INPUT: true; the input reads as it did. -/
def fnExactForthSpec : ChangeSpec := { name := "fnExactForth", fn := fun _ => fun
  | [d1, d2, d3, d4, d5] => { results := [.lit (.bool true)], args := [d1, d2, d3, d4, d5] }
  | _ => none }
def fnExactForthRow : OpenClaim := { program := "ytbgichfjcnibpaagreat", sum := "825aed2b06431eeb9dc381568e14f7569cc5bc77437334b66b9d355544997c86", func := "loop.example/g00683/laws.FnExactForth", spec := "fnExactForth", inPlace := ["slices.overlaps[loop.example/g00683/impl.Entry]"], unfollowed := true, recurses := true, plainKeys := false, apart := false }
def FnExactForthSaid : Prop := fnExactForthRow.holds Tryz.pinned (OpenSpec.ofChange fnExactForthSpec)

/-- ITS FALSE NEIGHBOUR: 'it returns false'. Refute it at one input. -/
def fnExactForthWrong : ChangeSpec := { name := "fnExactForth", fn := fun _ => fun
  | [d1, d2, d3, d4, d5] => { results := [.lit (.bool false)], args := [d1, d2, d3, d4, d5] }
  | _ => none }
def FnExactForthWrongFalsely : Prop := fnExactForthRow.holds Tryz.pinned (OpenSpec.ofChange fnExactForthWrong)

/-- 'laws.FnExactBack': WHATEVER THE INPUT: true; the input reads as it did. -/
def fnExactBackSpec : ChangeSpec := { name := "fnExactBack", fn := fun _ => fun
  | [d1, d2, d3, d4, d5] => { results := [.lit (.bool true)], args := [d1, d2, d3, d4, d5] }
  | _ => none }
def fnExactBackRow : OpenClaim := { program := "ytbgichfjcnibpaagreat", sum := "825aed2b06431eeb9dc381568e14f7569cc5bc77437334b66b9d355544997c86", func := "loop.example/g00683/laws.FnExactBack", spec := "fnExactBack", inPlace := ["slices.overlaps[loop.example/g00683/impl.Entry]"], unfollowed := true, recurses := true, plainKeys := false, apart := false }
def FnExactBackSaid : Prop := fnExactBackRow.holds Tryz.pinned (OpenSpec.ofChange fnExactBackSpec)

/-- ITS FALSE NEIGHBOUR: 'it returns false'. Refute it at one input. -/
def fnExactBackWrong : ChangeSpec := { name := "fnExactBack", fn := fun _ => fun
  | [d1, d2, d3, d4, d5] => { results := [.lit (.bool false)], args := [d1, d2, d3, d4, d5] }
  | _ => none }
def FnExactBackWrongFalsely : Prop := fnExactBackRow.holds Tryz.pinned (OpenSpec.ofChange fnExactBackWrong)

/- THE SECOND FORM. 'bulk': how many values and letters a reading holds, each counted each time it is reached (what is shared counts as often as it is met; a slice's spare places count too). A statement '..UptoSaid' is the law's where the arguments, and the package variables that the reading takes, are together of bulk at most 1048576: NARROWER than '..Said'. Prove '..Said' where nothing that the law and all that it calls make is longer than what came in: it says more and counts as full. Else prove '..UptoSaid'. A law counts once. -/
mutual
def uptoBulk {H : Type} : DataW H → Nat
  | .lit (.string bytes) => bytes.length + 1
  | .lit _ => 1
  | .nil => 1
  | .ptr d => uptoBulk d + 1
  | .slice elems spare => uptoBulkAll elems + uptoBulkAll spare + 1
  | .agg parts => uptoBulkAll parts + 1
  | .iface _ d => uptoBulk d + 1
  | .map entries => uptoBulkEntries entries + 1
  | .held _ => 1
def uptoBulkAll {H : Type} : List (DataW H) → Nat
  | [] => 0
  | d :: r => uptoBulk d + uptoBulkAll r
def uptoBulkEntries {H : Type} : List (Lit × DataW H) → Nat
  | [] => 0
  | x :: r => uptoBulkEntry x + uptoBulkEntries r
def uptoBulkEntry {H : Type} : Lit × DataW H → Nat
  | (.string bytes, d) => bytes.length + uptoBulk d + 1
  | (_, d) => uptoBulk d + 1
 end
def uptoSmall : (H : Type) → List (DataW H) → Bool := fun _ ds => decide (uptoBulkAll ds ≤ 1048576)
def OpenSpec.upto (s : _root_.Go.ChangeSpec) : _root_.Go.OpenSpec := { _root_.Go.OpenSpec.ofChange s with cond := some uptoSmall }

/-- 'laws.FnExactCurrentAt', WHERE WHAT IT READS IS OF BULK AT MOST 1048576: true; the input reads as it did. -/
def fnExactCurrentAtUptoRow : OpenClaim := { program := "ytbgichfjcnibpaagreat", sum := "825aed2b06431eeb9dc381568e14f7569cc5bc77437334b66b9d355544997c86", func := "loop.example/g00683/laws.FnExactCurrentAt", spec := "fnExactCurrentAt", inPlace := ["slices.overlaps[loop.example/g00683/impl.Entry]"], unfollowed := true, recurses := true, plainKeys := false, apart := false, narrowed := true }
def FnExactCurrentAtUptoSaid : Prop := fnExactCurrentAtUptoRow.holds Tryz.pinned (OpenSpec.upto fnExactCurrentAtSpec)

/-- 'laws.FnExactPeerTwice', WHERE WHAT IT READS IS OF BULK AT MOST 1048576: true; the input reads as it did. -/
def fnExactPeerTwiceUptoRow : OpenClaim := { program := "ytbgichfjcnibpaagreat", sum := "825aed2b06431eeb9dc381568e14f7569cc5bc77437334b66b9d355544997c86", func := "loop.example/g00683/laws.FnExactPeerTwice", spec := "fnExactPeerTwice", inPlace := ["slices.overlaps[loop.example/g00683/impl.Entry]"], unfollowed := true, recurses := true, plainKeys := false, apart := false, narrowed := true }
def FnExactPeerTwiceUptoSaid : Prop := fnExactPeerTwiceUptoRow.holds Tryz.pinned (OpenSpec.upto fnExactPeerTwiceSpec)

/-- 'laws.FnExactPeerLose', WHERE WHAT IT READS IS OF BULK AT MOST 1048576: true; the input reads as it did. -/
def fnExactPeerLoseUptoRow : OpenClaim := { program := "ytbgichfjcnibpaagreat", sum := "825aed2b06431eeb9dc381568e14f7569cc5bc77437334b66b9d355544997c86", func := "loop.example/g00683/laws.FnExactPeerLose", spec := "fnExactPeerLose", inPlace := ["slices.overlaps[loop.example/g00683/impl.Entry]"], unfollowed := true, recurses := true, plainKeys := false, apart := false, narrowed := true }
def FnExactPeerLoseUptoSaid : Prop := fnExactPeerLoseUptoRow.holds Tryz.pinned (OpenSpec.upto fnExactPeerLoseSpec)

/-- 'laws.FnExactVisibleOf', WHERE WHAT IT READS IS OF BULK AT MOST 1048576: true; the input reads as it did. -/
def fnExactVisibleOfUptoRow : OpenClaim := { program := "ytbgichfjcnibpaagreat", sum := "825aed2b06431eeb9dc381568e14f7569cc5bc77437334b66b9d355544997c86", func := "loop.example/g00683/laws.FnExactVisibleOf", spec := "fnExactVisibleOf", inPlace := ["slices.overlaps[loop.example/g00683/impl.Entry]"], unfollowed := true, recurses := true, plainKeys := false, apart := false, narrowed := true }
def FnExactVisibleOfUptoSaid : Prop := fnExactVisibleOfUptoRow.holds Tryz.pinned (OpenSpec.upto fnExactVisibleOfSpec)

/-- 'laws.FnExactUnread', WHERE WHAT IT READS IS OF BULK AT MOST 1048576: true; the input reads as it did. -/
def fnExactUnreadUptoRow : OpenClaim := { program := "ytbgichfjcnibpaagreat", sum := "825aed2b06431eeb9dc381568e14f7569cc5bc77437334b66b9d355544997c86", func := "loop.example/g00683/laws.FnExactUnread", spec := "fnExactUnread", inPlace := ["slices.overlaps[loop.example/g00683/impl.Entry]"], unfollowed := true, recurses := true, plainKeys := false, apart := false, narrowed := true }
def FnExactUnreadUptoSaid : Prop := fnExactUnreadUptoRow.holds Tryz.pinned (OpenSpec.upto fnExactUnreadSpec)

/-- 'laws.FnExactMarkRead', WHERE WHAT IT READS IS OF BULK AT MOST 1048576: true; the input reads as it did. -/
def fnExactMarkReadUptoRow : OpenClaim := { program := "ytbgichfjcnibpaagreat", sum := "825aed2b06431eeb9dc381568e14f7569cc5bc77437334b66b9d355544997c86", func := "loop.example/g00683/laws.FnExactMarkRead", spec := "fnExactMarkRead", inPlace := ["slices.overlaps[loop.example/g00683/impl.Entry]"], unfollowed := true, recurses := true, plainKeys := false, apart := false, narrowed := true }
def FnExactMarkReadUptoSaid : Prop := fnExactMarkReadUptoRow.holds Tryz.pinned (OpenSpec.upto fnExactMarkReadSpec)

/-- 'laws.FnExactFind', WHERE WHAT IT READS IS OF BULK AT MOST 1048576: true; the input reads as it did. -/
def fnExactFindUptoRow : OpenClaim := { program := "ytbgichfjcnibpaagreat", sum := "825aed2b06431eeb9dc381568e14f7569cc5bc77437334b66b9d355544997c86", func := "loop.example/g00683/laws.FnExactFind", spec := "fnExactFind", inPlace := ["slices.overlaps[loop.example/g00683/impl.Entry]", "internal/bytealg.IndexByteString", "internal/bytealg.IndexString"], unfollowed := true, recurses := true, named := ["internal/bytealg.MaxLen"], plainKeys := false, apart := false, narrowed := true }
def FnExactFindUptoSaid : Prop := fnExactFindUptoRow.holds Tryz.pinned (OpenSpec.upto fnExactFindSpec)

/-- 'laws.FnExactBackAll', WHERE WHAT IT READS IS OF BULK AT MOST 1048576: true; the input reads as it did. -/
def fnExactBackAllUptoRow : OpenClaim := { program := "ytbgichfjcnibpaagreat", sum := "825aed2b06431eeb9dc381568e14f7569cc5bc77437334b66b9d355544997c86", func := "loop.example/g00683/laws.FnExactBackAll", spec := "fnExactBackAll", inPlace := ["slices.overlaps[loop.example/g00683/impl.Entry]"], unfollowed := true, recurses := true, plainKeys := false, apart := false, narrowed := true }
def FnExactBackAllUptoSaid : Prop := fnExactBackAllUptoRow.holds Tryz.pinned (OpenSpec.upto fnExactBackAllSpec)

/-- 'laws.FnExactForth', WHERE WHAT IT READS IS OF BULK AT MOST 1048576: true; the input reads as it did. -/
def fnExactForthUptoRow : OpenClaim := { program := "ytbgichfjcnibpaagreat", sum := "825aed2b06431eeb9dc381568e14f7569cc5bc77437334b66b9d355544997c86", func := "loop.example/g00683/laws.FnExactForth", spec := "fnExactForth", inPlace := ["slices.overlaps[loop.example/g00683/impl.Entry]"], unfollowed := true, recurses := true, plainKeys := false, apart := false, narrowed := true }
def FnExactForthUptoSaid : Prop := fnExactForthUptoRow.holds Tryz.pinned (OpenSpec.upto fnExactForthSpec)

/-- 'laws.FnExactBack', WHERE WHAT IT READS IS OF BULK AT MOST 1048576: true; the input reads as it did. -/
def fnExactBackUptoRow : OpenClaim := { program := "ytbgichfjcnibpaagreat", sum := "825aed2b06431eeb9dc381568e14f7569cc5bc77437334b66b9d355544997c86", func := "loop.example/g00683/laws.FnExactBack", spec := "fnExactBack", inPlace := ["slices.overlaps[loop.example/g00683/impl.Entry]"], unfollowed := true, recurses := true, plainKeys := false, apart := false, narrowed := true }
def FnExactBackUptoSaid : Prop := fnExactBackUptoRow.holds Tryz.pinned (OpenSpec.upto fnExactBackSpec)

end Rows
end Go.Proofs.YtbgichfjcnibpaaGreat
