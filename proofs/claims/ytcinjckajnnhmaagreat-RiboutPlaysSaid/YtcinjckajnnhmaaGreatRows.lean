/-
  No cell of these rows narrows 'for every input' (looked for: loops, veiled, ifaces, maps, wideKeys, modest, calm, conditions, laid).
  DERIVED. THE GIVEN ROWS OF THIS SEAT. 7 by the template 'for every input the law returns true; each argument reads behind the call as it read before'; 0 by the template 'total and deterministic' (their statements: YtcinjckajnnhmaaGreatTotals.lean).
  GIVEN WITH THE SEED: the statements are not yours to turn. If you find one false, say at which input.
  Laid BY PROGRAM, IN A SANDBOX (cutbox-rows.mjs): the forced cells as the released guide's own fill.sh prints them over the translation 337d0db6808e9b7c… (all of the seat's roots in one cut). By AI agents, Wed Nov 11 2026. No macro, syntax, notation, axiom, sorry.
-/
import Derived.Test.YtcinjckajnnhmaaGreatChecked
import GoSem.Claim
import GoSem.ClaimJoined
import GoSem.ClaimMapViews
import Derived.JoinedTies
import Derived.KernelRfl
namespace Go.Proofs.YtcinjckajnnhmaaGreat
/- THE CELL 'sum', in the pinned program and in every row, IS THE sha256 OF THE DUMP (.gsa) THAT YtcinjckajnnhmaaGreatProg.lean LOADS. Nothing in Lean hashes anything: it is a label: what it is worth is what the hold of that sum in a sandbox is worth. -/
noncomputable def Tryz.pinned : Pinned := { name := "ytcinjckajnnhmaagreat", sum := "337d0db6808e9b7c3d02257c884097070e7b4f895b6fbf73a79fcfe19baa4269", checked := Tryz.checked }
namespace Rows
def none {H : Type} : Left H := { results := [], args := [] }

/-- 'confluencelaw33.CondNone': WHATEVER THE INPUT: true; the input reads as it did. -/
def condNoneSpec : ChangeSpec := { name := "condNone", fn := fun _ => fun
  | [d1, d2] => { results := [.lit (.bool true)], args := [d1, d2] }
  | _ => none }
def condNoneRow : OpenClaim := { program := "ytcinjckajnnhmaagreat", sum := "337d0db6808e9b7c3d02257c884097070e7b4f895b6fbf73a79fcfe19baa4269", func := "confluence/confluencelaw33.CondNone", spec := "condNone", unfollowed := true, recurses := true, apart := false }
def CondNoneSaid : Prop := condNoneRow.holds Tryz.pinned (OpenSpec.ofChange condNoneSpec)

/-- ITS FALSE NEIGHBOUR: 'it returns false'. Refute it at one input. -/
def condNoneWrong : ChangeSpec := { name := "condNone", fn := fun _ => fun
  | [d1, d2] => { results := [.lit (.bool false)], args := [d1, d2] }
  | _ => none }
def CondNoneWrongFalsely : Prop := condNoneRow.holds Tryz.pinned (OpenSpec.ofChange condNoneWrong)

/-- 'confluencelaw36.RiboutSettles': WHATEVER THE INPUT: true; the input reads as it did. -/
def riboutSettlesSpec : ChangeSpec := { name := "riboutSettles", fn := fun _ => fun
  | [d1, d2, d3] => { results := [.lit (.bool true)], args := [d1, d2, d3] }
  | _ => none }
def riboutSettlesRow : OpenClaim := { program := "ytcinjckajnnhmaagreat", sum := "337d0db6808e9b7c3d02257c884097070e7b4f895b6fbf73a79fcfe19baa4269", func := "confluence/confluencelaw36.RiboutSettles", spec := "riboutSettles", unfollowed := true, recurses := true, apart := false }
def RiboutSettlesSaid : Prop := riboutSettlesRow.holds Tryz.pinned (OpenSpec.ofChange riboutSettlesSpec)

/-- ITS FALSE NEIGHBOUR: 'it returns false'. Refute it at one input. -/
def riboutSettlesWrong : ChangeSpec := { name := "riboutSettles", fn := fun _ => fun
  | [d1, d2, d3] => { results := [.lit (.bool false)], args := [d1, d2, d3] }
  | _ => none }
def RiboutSettlesWrongFalsely : Prop := riboutSettlesRow.holds Tryz.pinned (OpenSpec.ofChange riboutSettlesWrong)

/-- 'confluencelaw36.RiboutPlays': WHATEVER THE INPUT: true; the input reads as it did. -/
def riboutPlaysSpec : ChangeSpec := { name := "riboutPlays", fn := fun _ => fun
  | [d1, d2] => { results := [.lit (.bool true)], args := [d1, d2] }
  | _ => none }
def riboutPlaysRow : OpenClaim := { program := "ytcinjckajnnhmaagreat", sum := "337d0db6808e9b7c3d02257c884097070e7b4f895b6fbf73a79fcfe19baa4269", func := "confluence/confluencelaw36.RiboutPlays", spec := "riboutPlays", unfollowed := true, recurses := true, apart := false }
def RiboutPlaysSaid : Prop := riboutPlaysRow.holds Tryz.pinned (OpenSpec.ofChange riboutPlaysSpec)

/-- ITS FALSE NEIGHBOUR: 'it returns false'. Refute it at one input. -/
def riboutPlaysWrong : ChangeSpec := { name := "riboutPlays", fn := fun _ => fun
  | [d1, d2] => { results := [.lit (.bool false)], args := [d1, d2] }
  | _ => none }
def RiboutPlaysWrongFalsely : Prop := riboutPlaysRow.holds Tryz.pinned (OpenSpec.ofChange riboutPlaysWrong)

/-- 'confluencelaw27.RibinLast': WHATEVER THE INPUT: true; the input reads as it did. -/
def ribinLastSpec : ChangeSpec := { name := "ribinLast", fn := fun _ => fun
  | [d1, d2, d3] => { results := [.lit (.bool true)], args := [d1, d2, d3] }
  | _ => none }
def ribinLastRow : OpenClaim := { program := "ytcinjckajnnhmaagreat", sum := "337d0db6808e9b7c3d02257c884097070e7b4f895b6fbf73a79fcfe19baa4269", func := "confluence/confluencelaw27.RibinLast", spec := "ribinLast", unfollowed := true, recurses := true, apart := false }
def RibinLastSaid : Prop := ribinLastRow.holds Tryz.pinned (OpenSpec.ofChange ribinLastSpec)

/-- ITS FALSE NEIGHBOUR: 'it returns false'. Refute it at one input. -/
def ribinLastWrong : ChangeSpec := { name := "ribinLast", fn := fun _ => fun
  | [d1, d2, d3] => { results := [.lit (.bool false)], args := [d1, d2, d3] }
  | _ => none }
def RibinLastWrongFalsely : Prop := ribinLastRow.holds Tryz.pinned (OpenSpec.ofChange ribinLastWrong)

/-- 'confluencelaw30.ContribGone': WHATEVER THE INPUT: true; the input reads as it did. -/
def contribGoneSpec : ChangeSpec := { name := "contribGone", fn := fun _ => fun
  | [d1, d2, d3] => { results := [.lit (.bool true)], args := [d1, d2, d3] }
  | _ => none }
def contribGoneRow : OpenClaim := { program := "ytcinjckajnnhmaagreat", sum := "337d0db6808e9b7c3d02257c884097070e7b4f895b6fbf73a79fcfe19baa4269", func := "confluence/confluencelaw30.ContribGone", spec := "contribGone", unfollowed := true, recurses := true, apart := false }
def ContribGoneSaid : Prop := contribGoneRow.holds Tryz.pinned (OpenSpec.ofChange contribGoneSpec)

/-- ITS FALSE NEIGHBOUR: 'it returns false'. Refute it at one input. -/
def contribGoneWrong : ChangeSpec := { name := "contribGone", fn := fun _ => fun
  | [d1, d2, d3] => { results := [.lit (.bool false)], args := [d1, d2, d3] }
  | _ => none }
def ContribGoneWrongFalsely : Prop := contribGoneRow.holds Tryz.pinned (OpenSpec.ofChange contribGoneWrong)

/-- 'confluencelaw30.ContribNone': WHATEVER THE INPUT: true; the input reads as it did. -/
def contribNoneSpec : ChangeSpec := { name := "contribNone", fn := fun _ => fun
  | [d] => { results := [.lit (.bool true)], args := [d] }
  | _ => none }
def contribNoneRow : OpenClaim := { program := "ytcinjckajnnhmaagreat", sum := "337d0db6808e9b7c3d02257c884097070e7b4f895b6fbf73a79fcfe19baa4269", func := "confluence/confluencelaw30.ContribNone", spec := "contribNone", unfollowed := true, recurses := true, apart := false }
def ContribNoneSaid : Prop := contribNoneRow.holds Tryz.pinned (OpenSpec.ofChange contribNoneSpec)

/-- ITS FALSE NEIGHBOUR: 'it returns false'. Refute it at one input. -/
def contribNoneWrong : ChangeSpec := { name := "contribNone", fn := fun _ => fun
  | [d] => { results := [.lit (.bool false)], args := [d] }
  | _ => none }
def ContribNoneWrongFalsely : Prop := contribNoneRow.holds Tryz.pinned (OpenSpec.ofChange contribNoneWrong)

/-- 'confluencelaw27.RibinNone': WHATEVER THE INPUT: true; the input reads as it did. -/
def ribinNoneSpec : ChangeSpec := { name := "ribinNone", fn := fun _ => fun
  | [d1, d2] => { results := [.lit (.bool true)], args := [d1, d2] }
  | _ => none }
def ribinNoneRow : OpenClaim := { program := "ytcinjckajnnhmaagreat", sum := "337d0db6808e9b7c3d02257c884097070e7b4f895b6fbf73a79fcfe19baa4269", func := "confluence/confluencelaw27.RibinNone", spec := "ribinNone", unfollowed := true, recurses := true, apart := false }
def RibinNoneSaid : Prop := ribinNoneRow.holds Tryz.pinned (OpenSpec.ofChange ribinNoneSpec)

/-- ITS FALSE NEIGHBOUR: 'it returns false'. Refute it at one input. -/
def ribinNoneWrong : ChangeSpec := { name := "ribinNone", fn := fun _ => fun
  | [d1, d2] => { results := [.lit (.bool false)], args := [d1, d2] }
  | _ => none }
def RibinNoneWrongFalsely : Prop := ribinNoneRow.holds Tryz.pinned (OpenSpec.ofChange ribinNoneWrong)

/- THE SECOND FORM. 'bulk': how many values and letters a reading holds, each counted each time it is reached (what is shared counts as often as it is met; a slice's spare places count too). A statement '..UptoSaid' is the law's where the arguments, and the package variables that the reading takes, are together of bulk at most 1048576: NARROWER than '..Said'. Prove '..Said' where nothing that the law and all that it calls make is longer than what came in: it says more and counts as full. Else prove '..UptoSaid'. A law counts once. -/
mutual
def uptoBulk {H : Type} : DataW H → Nat
  | .lit (.string bytes) => bytes.length + 1
  | .lit _ => 1
  | .nil => 1
  | .ptr d => uptoBulk d + 1
  | .slice elems spare => uptoBulkAll elems + uptoBulkAll spare + 1
  | .agg parts => uptoBulkAll parts + 1
  | .iface _ d => uptoBulk d + 1
  | .map entries => uptoBulkEntries entries + 1
  | .held _ => 1
def uptoBulkAll {H : Type} : List (DataW H) → Nat
  | [] => 0
  | d :: r => uptoBulk d + uptoBulkAll r
def uptoBulkEntries {H : Type} : List (Lit × DataW H) → Nat
  | [] => 0
  | x :: r => uptoBulkEntry x + uptoBulkEntries r
def uptoBulkEntry {H : Type} : Lit × DataW H → Nat
  | (.string bytes, d) => bytes.length + uptoBulk d + 1
  | (_, d) => uptoBulk d + 1
 end
def uptoSmall : (H : Type) → List (DataW H) → Bool := fun _ ds => decide (uptoBulkAll ds ≤ 1048576)
def OpenSpec.upto (s : _root_.Go.ChangeSpec) : _root_.Go.OpenSpec := { _root_.Go.OpenSpec.ofChange s with cond := some uptoSmall }

/-- 'confluencelaw33.CondNone', WHERE WHAT IT READS IS OF BULK AT MOST 1048576: true; the input reads as it did. -/
def condNoneUptoRow : OpenClaim := { program := "ytcinjckajnnhmaagreat", sum := "337d0db6808e9b7c3d02257c884097070e7b4f895b6fbf73a79fcfe19baa4269", func := "confluence/confluencelaw33.CondNone", spec := "condNone", unfollowed := true, recurses := true, apart := false, narrowed := true }
def CondNoneUptoSaid : Prop := condNoneUptoRow.holds Tryz.pinned (OpenSpec.upto condNoneSpec)

/-- 'confluencelaw36.RiboutSettles', WHERE WHAT IT READS IS OF BULK AT MOST 1048576: true; the input reads as it did. -/
def riboutSettlesUptoRow : OpenClaim := { program := "ytcinjckajnnhmaagreat", sum := "337d0db6808e9b7c3d02257c884097070e7b4f895b6fbf73a79fcfe19baa4269", func := "confluence/confluencelaw36.RiboutSettles", spec := "riboutSettles", unfollowed := true, recurses := true, apart := false, narrowed := true }
def RiboutSettlesUptoSaid : Prop := riboutSettlesUptoRow.holds Tryz.pinned (OpenSpec.upto riboutSettlesSpec)

/-- 'confluencelaw36.RiboutPlays', WHERE WHAT IT READS IS OF BULK AT MOST 1048576: true; the input reads as it did. -/
def riboutPlaysUptoRow : OpenClaim := { program := "ytcinjckajnnhmaagreat", sum := "337d0db6808e9b7c3d02257c884097070e7b4f895b6fbf73a79fcfe19baa4269", func := "confluence/confluencelaw36.RiboutPlays", spec := "riboutPlays", unfollowed := true, recurses := true, apart := false, narrowed := true }
def RiboutPlaysUptoSaid : Prop := riboutPlaysUptoRow.holds Tryz.pinned (OpenSpec.upto riboutPlaysSpec)

/-- 'confluencelaw27.RibinLast', WHERE WHAT IT READS IS OF BULK AT MOST 1048576: true; the input reads as it did. -/
def ribinLastUptoRow : OpenClaim := { program := "ytcinjckajnnhmaagreat", sum := "337d0db6808e9b7c3d02257c884097070e7b4f895b6fbf73a79fcfe19baa4269", func := "confluence/confluencelaw27.RibinLast", spec := "ribinLast", unfollowed := true, recurses := true, apart := false, narrowed := true }
def RibinLastUptoSaid : Prop := ribinLastUptoRow.holds Tryz.pinned (OpenSpec.upto ribinLastSpec)

/-- 'confluencelaw30.ContribGone', WHERE WHAT IT READS IS OF BULK AT MOST 1048576: true; the input reads as it did. -/
def contribGoneUptoRow : OpenClaim := { program := "ytcinjckajnnhmaagreat", sum := "337d0db6808e9b7c3d02257c884097070e7b4f895b6fbf73a79fcfe19baa4269", func := "confluence/confluencelaw30.ContribGone", spec := "contribGone", unfollowed := true, recurses := true, apart := false, narrowed := true }
def ContribGoneUptoSaid : Prop := contribGoneUptoRow.holds Tryz.pinned (OpenSpec.upto contribGoneSpec)

/-- 'confluencelaw30.ContribNone', WHERE WHAT IT READS IS OF BULK AT MOST 1048576: true; the input reads as it did. -/
def contribNoneUptoRow : OpenClaim := { program := "ytcinjckajnnhmaagreat", sum := "337d0db6808e9b7c3d02257c884097070e7b4f895b6fbf73a79fcfe19baa4269", func := "confluence/confluencelaw30.ContribNone", spec := "contribNone", unfollowed := true, recurses := true, apart := false, narrowed := true }
def ContribNoneUptoSaid : Prop := contribNoneUptoRow.holds Tryz.pinned (OpenSpec.upto contribNoneSpec)

/-- 'confluencelaw27.RibinNone', WHERE WHAT IT READS IS OF BULK AT MOST 1048576: true; the input reads as it did. -/
def ribinNoneUptoRow : OpenClaim := { program := "ytcinjckajnnhmaagreat", sum := "337d0db6808e9b7c3d02257c884097070e7b4f895b6fbf73a79fcfe19baa4269", func := "confluence/confluencelaw27.RibinNone", spec := "ribinNone", unfollowed := true, recurses := true, apart := false, narrowed := true }
def RibinNoneUptoSaid : Prop := ribinNoneUptoRow.holds Tryz.pinned (OpenSpec.upto ribinNoneSpec)

end Rows
end Go.Proofs.YtcinjckajnnhmaaGreat
