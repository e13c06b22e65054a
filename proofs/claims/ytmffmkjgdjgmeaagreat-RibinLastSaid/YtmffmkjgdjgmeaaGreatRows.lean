/-
  No cell of these rows narrows 'for every input' (looked for: loops, veiled, ifaces, maps, wideKeys, modest, calm, conditions, laid).
  DERIVED. THE GIVEN ROWS OF THIS SEAT. 6 by the template 'for every input the law returns true; each argument reads behind the call as it read before'; 0 by the template 'total and deterministic' (their statements: YtmffmkjgdjgmeaaGreatTotals.lean).
  GIVEN WITH THE SEED: the statements are not yours to turn. If you find one false, say at which input.
  Laid BY PROGRAM, IN A SANDBOX (cutbox-rows.mjs): the forced cells as the released guide's own fill.sh prints them over the translation 992a952f61cb196a… (all of the seat's roots in one cut). By AI agents, Wed Nov 11 2026. No macro, syntax, notation, axiom, sorry.
-/
import Derived.Test.YtmffmkjgdjgmeaaGreatChecked
import GoSem.Claim
import GoSem.ClaimJoined
import GoSem.ClaimMapViews
import Derived.JoinedTies
import Derived.KernelRfl
namespace Go.Proofs.YtmffmkjgdjgmeaaGreat
/- THE CELL 'sum', in the pinned program and in every row, IS THE sha256 OF THE DUMP (.gsa) THAT YtmffmkjgdjgmeaaGreatProg.lean LOADS. Nothing in Lean hashes anything: it is a label: what it is worth is what the hold of that sum in a sandbox is worth. -/
noncomputable def Tryz.pinned : Pinned := { name := "ytmffmkjgdjgmeaagreat", sum := "992a952f61cb196ac636cff7f786058ba28308a4c35dc3b4df1b43f0611a0e5a", checked := Tryz.checked }
namespace Rows
def none {H : Type} : Left H := { results := [], args := [] }

/-- 'confluencelaw32.AggNone': WHATEVER THE INPUT: true; the input reads as it did. -/
def aggNoneSpec : ChangeSpec := { name := "aggNone", fn := fun _ => fun
  | [d] => { results := [.lit (.bool true)], args := [d] }
  | _ => none }
def aggNoneRow : OpenClaim := { program := "ytmffmkjgdjgmeaagreat", sum := "992a952f61cb196ac636cff7f786058ba28308a4c35dc3b4df1b43f0611a0e5a", func := "confluence/confluencelaw32.AggNone", spec := "aggNone", unfollowed := true, recurses := true, apart := false }
def AggNoneSaid : Prop := aggNoneRow.holds Tryz.pinned (OpenSpec.ofChange aggNoneSpec)

/-- ITS FALSE NEIGHBOUR: 'it returns false'. Refute it at one input. -/
def aggNoneWrong : ChangeSpec := { name := "aggNone", fn := fun _ => fun
  | [d] => { results := [.lit (.bool false)], args := [d] }
  | _ => none }
def AggNoneWrongFalsely : Prop := aggNoneRow.holds Tryz.pinned (OpenSpec.ofChange aggNoneWrong)

/-- 'confluencelaw35.TargetNone': WHATEVER THE INPUT: true; the input reads as it did. -/
def targetNoneSpec : ChangeSpec := { name := "targetNone", fn := fun _ => fun
  | [d1, d2] => { results := [.lit (.bool true)], args := [d1, d2] }
  | _ => none }
def targetNoneRow : OpenClaim := { program := "ytmffmkjgdjgmeaagreat", sum := "992a952f61cb196ac636cff7f786058ba28308a4c35dc3b4df1b43f0611a0e5a", func := "confluence/confluencelaw35.TargetNone", spec := "targetNone", unfollowed := true, recurses := true, apart := false }
def TargetNoneSaid : Prop := targetNoneRow.holds Tryz.pinned (OpenSpec.ofChange targetNoneSpec)

/-- ITS FALSE NEIGHBOUR: 'it returns false'. Refute it at one input. -/
def targetNoneWrong : ChangeSpec := { name := "targetNone", fn := fun _ => fun
  | [d1, d2] => { results := [.lit (.bool false)], args := [d1, d2] }
  | _ => none }
def TargetNoneWrongFalsely : Prop := targetNoneRow.holds Tryz.pinned (OpenSpec.ofChange targetNoneWrong)

/-- 'confluencelaw27.RibinLast': WHATEVER THE INPUT: true; the input reads as it did. -/
def ribinLastSpec : ChangeSpec := { name := "ribinLast", fn := fun _ => fun
  | [d1, d2, d3] => { results := [.lit (.bool true)], args := [d1, d2, d3] }
  | _ => none }
def ribinLastRow : OpenClaim := { program := "ytmffmkjgdjgmeaagreat", sum := "992a952f61cb196ac636cff7f786058ba28308a4c35dc3b4df1b43f0611a0e5a", func := "confluence/confluencelaw27.RibinLast", spec := "ribinLast", unfollowed := true, recurses := true, apart := false }
def RibinLastSaid : Prop := ribinLastRow.holds Tryz.pinned (OpenSpec.ofChange ribinLastSpec)

/-- ITS FALSE NEIGHBOUR: 'it returns false'. Refute it at one input. -/
def ribinLastWrong : ChangeSpec := { name := "ribinLast", fn := fun _ => fun
  | [d1, d2, d3] => { results := [.lit (.bool false)], args := [d1, d2, d3] }
  | _ => none }
def RibinLastWrongFalsely : Prop := ribinLastRow.holds Tryz.pinned (OpenSpec.ofChange ribinLastWrong)

/-- 'confluencelaw30.ContribGone': WHATEVER THE INPUT: true; the input reads as it did. -/
def contribGoneSpec : ChangeSpec := { name := "contribGone", fn := fun _ => fun
  | [d1, d2, d3] => { results := [.lit (.bool true)], args := [d1, d2, d3] }
  | _ => none }
def contribGoneRow : OpenClaim := { program := "ytmffmkjgdjgmeaagreat", sum := "992a952f61cb196ac636cff7f786058ba28308a4c35dc3b4df1b43f0611a0e5a", func := "confluence/confluencelaw30.ContribGone", spec := "contribGone", unfollowed := true, recurses := true, apart := false }
def ContribGoneSaid : Prop := contribGoneRow.holds Tryz.pinned (OpenSpec.ofChange contribGoneSpec)

/-- ITS FALSE NEIGHBOUR: 'it returns false'. Refute it at one input. -/
def contribGoneWrong : ChangeSpec := { name := "contribGone", fn := fun _ => fun
  | [d1, d2, d3] => { results := [.lit (.bool false)], args := [d1, d2, d3] }
  | _ => none }
def ContribGoneWrongFalsely : Prop := contribGoneRow.holds Tryz.pinned (OpenSpec.ofChange contribGoneWrong)

/-- 'confluencelaw20.RmapGood': WHATEVER THE INPUT: true; the input reads as it did. -/
def rmapGoodSpec : ChangeSpec := { name := "rmapGood", fn := fun _ => fun
  | [d1, d2] => { results := [.lit (.bool true)], args := [d1, d2] }
  | _ => none }
def rmapGoodRow : OpenClaim := { program := "ytmffmkjgdjgmeaagreat", sum := "992a952f61cb196ac636cff7f786058ba28308a4c35dc3b4df1b43f0611a0e5a", func := "confluence/confluencelaw20.RmapGood", spec := "rmapGood", unfollowed := true, recurses := true, apart := false }
def RmapGoodSaid : Prop := rmapGoodRow.holds Tryz.pinned (OpenSpec.ofChange rmapGoodSpec)

/-- ITS FALSE NEIGHBOUR: 'it returns false'. Refute it at one input. -/
def rmapGoodWrong : ChangeSpec := { name := "rmapGood", fn := fun _ => fun
  | [d1, d2] => { results := [.lit (.bool false)], args := [d1, d2] }
  | _ => none }
def RmapGoodWrongFalsely : Prop := rmapGoodRow.holds Tryz.pinned (OpenSpec.ofChange rmapGoodWrong)

/-- 'confluencelaw34.ExportKeeps': WHATEVER THE INPUT: true; the input reads as it did. -/
def exportKeepsSpec : ChangeSpec := { name := "exportKeeps", fn := fun _ => fun
  | [d1, d2, d3] => { results := [.lit (.bool true)], args := [d1, d2, d3] }
  | _ => none }
def exportKeepsRow : OpenClaim := { program := "ytmffmkjgdjgmeaagreat", sum := "992a952f61cb196ac636cff7f786058ba28308a4c35dc3b4df1b43f0611a0e5a", func := "confluence/confluencelaw34.ExportKeeps", spec := "exportKeeps", unfollowed := true, recurses := true, apart := false }
def ExportKeepsSaid : Prop := exportKeepsRow.holds Tryz.pinned (OpenSpec.ofChange exportKeepsSpec)

/-- ITS FALSE NEIGHBOUR: 'it returns false'. Refute it at one input. -/
def exportKeepsWrong : ChangeSpec := { name := "exportKeeps", fn := fun _ => fun
  | [d1, d2, d3] => { results := [.lit (.bool false)], args := [d1, d2, d3] }
  | _ => none }
def ExportKeepsWrongFalsely : Prop := exportKeepsRow.holds Tryz.pinned (OpenSpec.ofChange exportKeepsWrong)

/- THE SECOND FORM. 'bulk': how many values and letters a reading holds, each counted each time it is reached (what is shared counts as often as it is met; a slice's spare places count too). A statement '..UptoSaid' is the law's where the arguments, and the package variables that the reading takes, are together of bulk at most 1048576: NARROWER than '..Said'. Prove '..Said' where nothing that the law and all that it calls make is longer than what came in: it says more and counts as full. Else prove '..UptoSaid'. A law counts once. -/
mutual
def uptoBulk {H : Type} : DataW H → Nat
  | .lit (.string bytes) => bytes.length + 1
  | .lit _ => 1
  | .nil => 1
  | .ptr d => uptoBulk d + 1
  | .slice elems spare => uptoBulkAll elems + uptoBulkAll spare + 1
  | .agg parts => uptoBulkAll parts + 1
  | .iface _ d => uptoBulk d + 1
  | .map entries => uptoBulkEntries entries + 1
  | .held _ => 1
def uptoBulkAll {H : Type} : List (DataW H) → Nat
  | [] => 0
  | d :: r => uptoBulk d + uptoBulkAll r
def uptoBulkEntries {H : Type} : List (Lit × DataW H) → Nat
  | [] => 0
  | x :: r => uptoBulkEntry x + uptoBulkEntries r
def uptoBulkEntry {H : Type} : Lit × DataW H → Nat
  | (.string bytes, d) => bytes.length + uptoBulk d + 1
  | (_, d) => uptoBulk d + 1
 end
def uptoSmall : (H : Type) → List (DataW H) → Bool := fun _ ds => decide (uptoBulkAll ds ≤ 1048576)
def OpenSpec.upto (s : _root_.Go.ChangeSpec) : _root_.Go.OpenSpec := { _root_.Go.OpenSpec.ofChange s with cond := some uptoSmall }

/-- 'confluencelaw32.AggNone', WHERE WHAT IT READS IS OF BULK AT MOST 1048576: true; the input reads as it did. -/
def aggNoneUptoRow : OpenClaim := { program := "ytmffmkjgdjgmeaagreat", sum := "992a952f61cb196ac636cff7f786058ba28308a4c35dc3b4df1b43f0611a0e5a", func := "confluence/confluencelaw32.AggNone", spec := "aggNone", unfollowed := true, recurses := true, apart := false, narrowed := true }
def AggNoneUptoSaid : Prop := aggNoneUptoRow.holds Tryz.pinned (OpenSpec.upto aggNoneSpec)

/-- 'confluencelaw35.TargetNone', WHERE WHAT IT READS IS OF BULK AT MOST 1048576: true; the input reads as it did. -/
def targetNoneUptoRow : OpenClaim := { program := "ytmffmkjgdjgmeaagreat", sum := "992a952f61cb196ac636cff7f786058ba28308a4c35dc3b4df1b43f0611a0e5a", func := "confluence/confluencelaw35.TargetNone", spec := "targetNone", unfollowed := true, recurses := true, apart := false, narrowed := true }
def TargetNoneUptoSaid : Prop := targetNoneUptoRow.holds Tryz.pinned (OpenSpec.upto targetNoneSpec)

/-- 'confluencelaw27.RibinLast', WHERE WHAT IT READS IS OF BULK AT MOST 1048576: true; the input reads as it did. -/
def ribinLastUptoRow : OpenClaim := { program := "ytmffmkjgdjgmeaagreat", sum := "992a952f61cb196ac636cff7f786058ba28308a4c35dc3b4df1b43f0611a0e5a", func := "confluence/confluencelaw27.RibinLast", spec := "ribinLast", unfollowed := true, recurses := true, apart := false, narrowed := true }
def RibinLastUptoSaid : Prop := ribinLastUptoRow.holds Tryz.pinned (OpenSpec.upto ribinLastSpec)

/-- 'confluencelaw30.ContribGone', WHERE WHAT IT READS IS OF BULK AT MOST 1048576: true; the input reads as it did. -/
def contribGoneUptoRow : OpenClaim := { program := "ytmffmkjgdjgmeaagreat", sum := "992a952f61cb196ac636cff7f786058ba28308a4c35dc3b4df1b43f0611a0e5a", func := "confluence/confluencelaw30.ContribGone", spec := "contribGone", unfollowed := true, recurses := true, apart := false, narrowed := true }
def ContribGoneUptoSaid : Prop := contribGoneUptoRow.holds Tryz.pinned (OpenSpec.upto contribGoneSpec)

/-- 'confluencelaw20.RmapGood', WHERE WHAT IT READS IS OF BULK AT MOST 1048576: true; the input reads as it did. -/
def rmapGoodUptoRow : OpenClaim := { program := "ytmffmkjgdjgmeaagreat", sum := "992a952f61cb196ac636cff7f786058ba28308a4c35dc3b4df1b43f0611a0e5a", func := "confluence/confluencelaw20.RmapGood", spec := "rmapGood", unfollowed := true, recurses := true, apart := false, narrowed := true }
def RmapGoodUptoSaid : Prop := rmapGoodUptoRow.holds Tryz.pinned (OpenSpec.upto rmapGoodSpec)

/-- 'confluencelaw34.ExportKeeps', WHERE WHAT IT READS IS OF BULK AT MOST 1048576: true; the input reads as it did. -/
def exportKeepsUptoRow : OpenClaim := { program := "ytmffmkjgdjgmeaagreat", sum := "992a952f61cb196ac636cff7f786058ba28308a4c35dc3b4df1b43f0611a0e5a", func := "confluence/confluencelaw34.ExportKeeps", spec := "exportKeeps", unfollowed := true, recurses := true, apart := false, narrowed := true }
def ExportKeepsUptoSaid : Prop := exportKeepsUptoRow.holds Tryz.pinned (OpenSpec.upto exportKeepsSpec)

end Rows
end Go.Proofs.YtmffmkjgdjgmeaaGreat
