/-
  NARROWER THAN 'FOR EVERY INPUT', by the rows' own cells (each row's printed sentence says how): LookForms: loops · LookWays: loops · LookProves: loops.
  DERIVED. THE GIVEN ROWS OF THIS SEAT. 15 by the template 'for every input the law returns true; each argument reads behind the call as it read before'; 0 by the template 'total and deterministic' (their statements: YtbglklaocjifhaaGreatTotals.lean).
  GIVEN WITH THE SEED: the statements are not yours to turn. If you find one false, say at which input.
  Laid BY PROGRAM, IN A SANDBOX (cutbox-rows.mjs): the forced cells as the released guide's own fill.sh prints them over the translation 154483b990418b95… (all of the seat's roots in one cut). By AI agents, Wed Nov 11 2026. No macro, syntax, notation, axiom, sorry.
-/
import Derived.Test.YtbglklaocjifhaaGreatChecked
import GoSem.Claim
import GoSem.ClaimJoined
import GoSem.ClaimMapViews
import Derived.JoinedTies
import Derived.KernelRfl
namespace Go.Proofs.YtbglklaocjifhaaGreat
/- THE CELL 'sum', in the pinned program and in every row, IS THE sha256 OF THE DUMP (.gsa) THAT YtbglklaocjifhaaGreatProg.lean LOADS. Nothing in Lean hashes anything: it is a label: what it is worth is what the hold of that sum in a sandbox is worth. -/
noncomputable def Tryz.pinned : Pinned := { name := "ytbglklaocjifhaagreat", sum := "154483b990418b95e4f2961138eb63cea8738aa006ba7439b009f41e2f083f3f", checked := Tryz.checked }
namespace Rows
def none {H : Type} : Left H := { results := [], args := [] }

/-- 'mistlaw24.LookBest': WHATEVER THE INPUT: true; the input reads as it did. -/
def lookBestSpec : ChangeSpec := { name := "lookBest", fn := fun _ => fun
  | [d] => { results := [.lit (.bool true)], args := [d] }
  | _ => none }
def lookBestRow : OpenClaim := { program := "ytbglklaocjifhaagreat", sum := "154483b990418b95e4f2961138eb63cea8738aa006ba7439b009f41e2f083f3f", func := "mist/mistlaw24.LookBest", spec := "lookBest", inPlace := ["slices.overlaps[mist/api.Diagram]"], unfollowed := true, recurses := true, plainKeys := false, apart := false }
def LookBestSaid : Prop := lookBestRow.holds Tryz.pinned (OpenSpec.ofChange lookBestSpec)

/-- ITS FALSE NEIGHBOUR: 'it returns false'. Refute it at one input. -/
def lookBestWrong : ChangeSpec := { name := "lookBest", fn := fun _ => fun
  | [d] => { results := [.lit (.bool false)], args := [d] }
  | _ => none }
def LookBestWrongFalsely : Prop := lookBestRow.holds Tryz.pinned (OpenSpec.ofChange lookBestWrong)

/-- 'mistlaw24.LookWorth': WHATEVER THE INPUT: true; the input reads as it did. -/
def lookWorthSpec : ChangeSpec := { name := "lookWorth", fn := fun _ => fun
  | [d] => { results := [.lit (.bool true)], args := [d] }
  | _ => none }
def lookWorthRow : OpenClaim := { program := "ytbglklaocjifhaagreat", sum := "154483b990418b95e4f2961138eb63cea8738aa006ba7439b009f41e2f083f3f", func := "mist/mistlaw24.LookWorth", spec := "lookWorth", inPlace := ["slices.overlaps[mist/api.Diagram]"], unfollowed := true, recurses := true, plainKeys := false, apart := false }
def LookWorthSaid : Prop := lookWorthRow.holds Tryz.pinned (OpenSpec.ofChange lookWorthSpec)

/-- ITS FALSE NEIGHBOUR: 'it returns false'. Refute it at one input. -/
def lookWorthWrong : ChangeSpec := { name := "lookWorth", fn := fun _ => fun
  | [d] => { results := [.lit (.bool false)], args := [d] }
  | _ => none }
def LookWorthWrongFalsely : Prop := lookWorthRow.holds Tryz.pinned (OpenSpec.ofChange lookWorthWrong)

/-- 'mistlaw24.LookApart': WHATEVER THE INPUT: true; the input reads as it did. -/
def lookApartSpec : ChangeSpec := { name := "lookApart", fn := fun _ => fun
  | [d] => { results := [.lit (.bool true)], args := [d] }
  | _ => none }
def lookApartRow : OpenClaim := { program := "ytbglklaocjifhaagreat", sum := "154483b990418b95e4f2961138eb63cea8738aa006ba7439b009f41e2f083f3f", func := "mist/mistlaw24.LookApart", spec := "lookApart", inPlace := ["slices.overlaps[mist/api.Diagram]"], unfollowed := true, recurses := true, plainKeys := false, apart := false }
def LookApartSaid : Prop := lookApartRow.holds Tryz.pinned (OpenSpec.ofChange lookApartSpec)

/-- ITS FALSE NEIGHBOUR: 'it returns false'. Refute it at one input. -/
def lookApartWrong : ChangeSpec := { name := "lookApart", fn := fun _ => fun
  | [d] => { results := [.lit (.bool false)], args := [d] }
  | _ => none }
def LookApartWrongFalsely : Prop := lookApartRow.holds Tryz.pinned (OpenSpec.ofChange lookApartWrong)

/-- 'mistlaw24.LookForms': WHATEVER THE INPUT: true; the input reads as it did. -/
def lookFormsSpec : ChangeSpec := { name := "lookForms", fn := fun _ => fun
  | [d] => { results := [.lit (.bool true)], args := [d] }
  | _ => none }
def lookFormsRow : OpenClaim := { program := "ytbglklaocjifhaagreat", sum := "154483b990418b95e4f2961138eb63cea8738aa006ba7439b009f41e2f083f3f", func := "mist/mistlaw24.LookForms", spec := "lookForms", inPlace := ["slices.overlaps[mist/api.Diagram]"], unfollowed := true, recurses := true, loops := true, plainKeys := false, apart := false }
def LookFormsSaid : Prop := lookFormsRow.holds Tryz.pinned (OpenSpec.ofChange lookFormsSpec)

/-- ITS FALSE NEIGHBOUR: 'it returns false'. Refute it at one input. -/
def lookFormsWrong : ChangeSpec := { name := "lookForms", fn := fun _ => fun
  | [d] => { results := [.lit (.bool false)], args := [d] }
  | _ => none }
def LookFormsWrongFalsely : Prop := lookFormsRow.holds Tryz.pinned (OpenSpec.ofChange lookFormsWrong)

/-- 'mistlaw24.LookWays': WHATEVER THE INPUT: true; the input reads as it did. -/
def lookWaysSpec : ChangeSpec := { name := "lookWays", fn := fun _ => fun
  | [d1, d2, d3] => { results := [.lit (.bool true)], args := [d1, d2, d3] }
  | _ => none }
def lookWaysRow : OpenClaim := { program := "ytbglklaocjifhaagreat", sum := "154483b990418b95e4f2961138eb63cea8738aa006ba7439b009f41e2f083f3f", func := "mist/mistlaw24.LookWays", spec := "lookWays", inPlace := ["slices.overlaps[mist/api.Diagram]"], unfollowed := true, recurses := true, loops := true, plainKeys := false, apart := false }
def LookWaysSaid : Prop := lookWaysRow.holds Tryz.pinned (OpenSpec.ofChange lookWaysSpec)

/-- ITS FALSE NEIGHBOUR: 'it returns false'. Refute it at one input. -/
def lookWaysWrong : ChangeSpec := { name := "lookWays", fn := fun _ => fun
  | [d1, d2, d3] => { results := [.lit (.bool false)], args := [d1, d2, d3] }
  | _ => none }
def LookWaysWrongFalsely : Prop := lookWaysRow.holds Tryz.pinned (OpenSpec.ofChange lookWaysWrong)

/-- 'mistlaw24.LookProves': WHATEVER THE INPUT: true; the input reads as it did. -/
def lookProvesSpec : ChangeSpec := { name := "lookProves", fn := fun _ => fun
  | [d1, d2] => { results := [.lit (.bool true)], args := [d1, d2] }
  | _ => none }
def lookProvesRow : OpenClaim := { program := "ytbglklaocjifhaagreat", sum := "154483b990418b95e4f2961138eb63cea8738aa006ba7439b009f41e2f083f3f", func := "mist/mistlaw24.LookProves", spec := "lookProves", inPlace := ["slices.overlaps[mist/api.Diagram]"], unfollowed := true, recurses := true, loops := true, plainKeys := false, apart := false }
def LookProvesSaid : Prop := lookProvesRow.holds Tryz.pinned (OpenSpec.ofChange lookProvesSpec)

/-- ITS FALSE NEIGHBOUR: 'it returns false'. Refute it at one input. -/
def lookProvesWrong : ChangeSpec := { name := "lookProves", fn := fun _ => fun
  | [d1, d2] => { results := [.lit (.bool false)], args := [d1, d2] }
  | _ => none }
def LookProvesWrongFalsely : Prop := lookProvesRow.holds Tryz.pinned (OpenSpec.ofChange lookProvesWrong)

/-- 'mistlaw24.LookDecides': WHATEVER THE INPUT: true; the input reads as it did. -/
def lookDecidesSpec : ChangeSpec := { name := "lookDecides", fn := fun _ => fun
  | [d1, d2] => { results := [.lit (.bool true)], args := [d1, d2] }
  | _ => none }
def lookDecidesRow : OpenClaim := { program := "ytbglklaocjifhaagreat", sum := "154483b990418b95e4f2961138eb63cea8738aa006ba7439b009f41e2f083f3f", func := "mist/mistlaw24.LookDecides", spec := "lookDecides", inPlace := ["slices.overlaps[mist/api.Diagram]"], unfollowed := true, recurses := true, plainKeys := false, apart := false }
def LookDecidesSaid : Prop := lookDecidesRow.holds Tryz.pinned (OpenSpec.ofChange lookDecidesSpec)

/-- ITS FALSE NEIGHBOUR: 'it returns false'. Refute it at one input. -/
def lookDecidesWrong : ChangeSpec := { name := "lookDecides", fn := fun _ => fun
  | [d1, d2] => { results := [.lit (.bool false)], args := [d1, d2] }
  | _ => none }
def LookDecidesWrongFalsely : Prop := lookDecidesRow.holds Tryz.pinned (OpenSpec.ofChange lookDecidesWrong)

/-- 'mistlaw24.LookNoBetter': WHATEVER THE INPUT: true; the input reads as it did. -/
def lookNoBetterSpec : ChangeSpec := { name := "lookNoBetter", fn := fun _ => fun
  | [d1, d2] => { results := [.lit (.bool true)], args := [d1, d2] }
  | _ => none }
def lookNoBetterRow : OpenClaim := { program := "ytbglklaocjifhaagreat", sum := "154483b990418b95e4f2961138eb63cea8738aa006ba7439b009f41e2f083f3f", func := "mist/mistlaw24.LookNoBetter", spec := "lookNoBetter", inPlace := ["slices.overlaps[mist/api.Diagram]"], unfollowed := true, recurses := true, plainKeys := false, apart := false }
def LookNoBetterSaid : Prop := lookNoBetterRow.holds Tryz.pinned (OpenSpec.ofChange lookNoBetterSpec)

/-- ITS FALSE NEIGHBOUR: 'it returns false'. Refute it at one input. -/
def lookNoBetterWrong : ChangeSpec := { name := "lookNoBetter", fn := fun _ => fun
  | [d1, d2] => { results := [.lit (.bool false)], args := [d1, d2] }
  | _ => none }
def LookNoBetterWrongFalsely : Prop := lookNoBetterRow.holds Tryz.pinned (OpenSpec.ofChange lookNoBetterWrong)

/-- 'mistlaw24.LookFewer': WHATEVER THE INPUT: true; the input reads as it did. -/
def lookFewerSpec : ChangeSpec := { name := "lookFewer", fn := fun _ => fun
  | [d1, d2] => { results := [.lit (.bool true)], args := [d1, d2] }
  | _ => none }
def lookFewerRow : OpenClaim := { program := "ytbglklaocjifhaagreat", sum := "154483b990418b95e4f2961138eb63cea8738aa006ba7439b009f41e2f083f3f", func := "mist/mistlaw24.LookFewer", spec := "lookFewer", inPlace := ["slices.overlaps[mist/api.Diagram]"], unfollowed := true, recurses := true, plainKeys := false, apart := false }
def LookFewerSaid : Prop := lookFewerRow.holds Tryz.pinned (OpenSpec.ofChange lookFewerSpec)

/-- ITS FALSE NEIGHBOUR: 'it returns false'. Refute it at one input. -/
def lookFewerWrong : ChangeSpec := { name := "lookFewer", fn := fun _ => fun
  | [d1, d2] => { results := [.lit (.bool false)], args := [d1, d2] }
  | _ => none }
def LookFewerWrongFalsely : Prop := lookFewerRow.holds Tryz.pinned (OpenSpec.ofChange lookFewerWrong)

/-- 'mistlaw24.LookWorthy': WHATEVER THE INPUT: true; the input reads as it did. -/
def lookWorthySpec : ChangeSpec := { name := "lookWorthy", fn := fun _ => fun
  | [d1, d2] => { results := [.lit (.bool true)], args := [d1, d2] }
  | _ => none }
def lookWorthyRow : OpenClaim := { program := "ytbglklaocjifhaagreat", sum := "154483b990418b95e4f2961138eb63cea8738aa006ba7439b009f41e2f083f3f", func := "mist/mistlaw24.LookWorthy", spec := "lookWorthy", inPlace := ["slices.overlaps[mist/api.Diagram]"], unfollowed := true, recurses := true, plainKeys := false, apart := false }
def LookWorthySaid : Prop := lookWorthyRow.holds Tryz.pinned (OpenSpec.ofChange lookWorthySpec)

/-- ITS FALSE NEIGHBOUR: 'it returns false'. Refute it at one input. -/
def lookWorthyWrong : ChangeSpec := { name := "lookWorthy", fn := fun _ => fun
  | [d1, d2] => { results := [.lit (.bool false)], args := [d1, d2] }
  | _ => none }
def LookWorthyWrongFalsely : Prop := lookWorthyRow.holds Tryz.pinned (OpenSpec.ofChange lookWorthyWrong)

/-- 'mistlaw24.LookTurned': WHATEVER THE INPUT: true; the input reads as it did. -/
def lookTurnedSpec : ChangeSpec := { name := "lookTurned", fn := fun _ => fun
  | [d1, d2] => { results := [.lit (.bool true)], args := [d1, d2] }
  | _ => none }
def lookTurnedRow : OpenClaim := { program := "ytbglklaocjifhaagreat", sum := "154483b990418b95e4f2961138eb63cea8738aa006ba7439b009f41e2f083f3f", func := "mist/mistlaw24.LookTurned", spec := "lookTurned", inPlace := ["slices.overlaps[mist/api.Diagram]"], unfollowed := true, recurses := true, plainKeys := false, apart := false }
def LookTurnedSaid : Prop := lookTurnedRow.holds Tryz.pinned (OpenSpec.ofChange lookTurnedSpec)

/-- ITS FALSE NEIGHBOUR: 'it returns false'. Refute it at one input. -/
def lookTurnedWrong : ChangeSpec := { name := "lookTurned", fn := fun _ => fun
  | [d1, d2] => { results := [.lit (.bool false)], args := [d1, d2] }
  | _ => none }
def LookTurnedWrongFalsely : Prop := lookTurnedRow.holds Tryz.pinned (OpenSpec.ofChange lookTurnedWrong)

/-- 'mistlaw24.LookChecks': WHATEVER THE INPUT: true; the input reads as it did. -/
def lookChecksSpec : ChangeSpec := { name := "lookChecks", fn := fun _ => fun
  | [d1, d2] => { results := [.lit (.bool true)], args := [d1, d2] }
  | _ => none }
def lookChecksRow : OpenClaim := { program := "ytbglklaocjifhaagreat", sum := "154483b990418b95e4f2961138eb63cea8738aa006ba7439b009f41e2f083f3f", func := "mist/mistlaw24.LookChecks", spec := "lookChecks", inPlace := ["slices.overlaps[mist/api.Diagram]"], unfollowed := true, recurses := true, plainKeys := false, apart := false }
def LookChecksSaid : Prop := lookChecksRow.holds Tryz.pinned (OpenSpec.ofChange lookChecksSpec)

/-- ITS FALSE NEIGHBOUR: 'it returns false'. Refute it at one input. -/
def lookChecksWrong : ChangeSpec := { name := "lookChecks", fn := fun _ => fun
  | [d1, d2] => { results := [.lit (.bool false)], args := [d1, d2] }
  | _ => none }
def LookChecksWrongFalsely : Prop := lookChecksRow.holds Tryz.pinned (OpenSpec.ofChange lookChecksWrong)

/-- 'mistlaw24.LookNames': WHATEVER THE INPUT: true; the input reads as it did. -/
def lookNamesSpec : ChangeSpec := { name := "lookNames", fn := fun _ => fun
  | [] => { results := [.lit (.bool true)], args := [] }
  | _ => none }
def lookNamesRow : OpenClaim := { program := "ytbglklaocjifhaagreat", sum := "154483b990418b95e4f2961138eb63cea8738aa006ba7439b009f41e2f083f3f", func := "mist/mistlaw24.LookNames", spec := "lookNames", inPlace := ["slices.overlaps[mist/api.Diagram]"], unfollowed := true, recurses := true, plainKeys := false, apart := false }
def LookNamesSaid : Prop := lookNamesRow.holds Tryz.pinned (OpenSpec.ofChange lookNamesSpec)

/-- ITS FALSE NEIGHBOUR: 'it returns false'. Refute it at one input. -/
def lookNamesWrong : ChangeSpec := { name := "lookNames", fn := fun _ => fun
  | [] => { results := [.lit (.bool false)], args := [] }
  | _ => none }
def LookNamesWrongFalsely : Prop := lookNamesRow.holds Tryz.pinned (OpenSpec.ofChange lookNamesWrong)

/-- 'mistlaw24.LookNone': WHATEVER THE INPUT: true; the input reads as it did. -/
def lookNoneSpec : ChangeSpec := { name := "lookNone", fn := fun _ => fun
  | [d] => { results := [.lit (.bool true)], args := [d] }
  | _ => none }
def lookNoneRow : OpenClaim := { program := "ytbglklaocjifhaagreat", sum := "154483b990418b95e4f2961138eb63cea8738aa006ba7439b009f41e2f083f3f", func := "mist/mistlaw24.LookNone", spec := "lookNone", inPlace := ["slices.overlaps[mist/api.Diagram]"], unfollowed := true, recurses := true, plainKeys := false, apart := false }
def LookNoneSaid : Prop := lookNoneRow.holds Tryz.pinned (OpenSpec.ofChange lookNoneSpec)

/-- ITS FALSE NEIGHBOUR: 'it returns false'. Refute it at one input. -/
def lookNoneWrong : ChangeSpec := { name := "lookNone", fn := fun _ => fun
  | [d] => { results := [.lit (.bool false)], args := [d] }
  | _ => none }
def LookNoneWrongFalsely : Prop := lookNoneRow.holds Tryz.pinned (OpenSpec.ofChange lookNoneWrong)

/-- 'mistlaw24.LookSplits': WHATEVER THE INPUT: true; the input reads as it did. -/
def lookSplitsSpec : ChangeSpec := { name := "lookSplits", fn := fun _ => fun
  | [d1, d2] => { results := [.lit (.bool true)], args := [d1, d2] }
  | _ => none }
def lookSplitsRow : OpenClaim := { program := "ytbglklaocjifhaagreat", sum := "154483b990418b95e4f2961138eb63cea8738aa006ba7439b009f41e2f083f3f", func := "mist/mistlaw24.LookSplits", spec := "lookSplits", inPlace := ["slices.overlaps[mist/api.Diagram]"], unfollowed := true, recurses := true, plainKeys := false, apart := false }
def LookSplitsSaid : Prop := lookSplitsRow.holds Tryz.pinned (OpenSpec.ofChange lookSplitsSpec)

/-- ITS FALSE NEIGHBOUR: 'it returns false'. Refute it at one input. -/
def lookSplitsWrong : ChangeSpec := { name := "lookSplits", fn := fun _ => fun
  | [d1, d2] => { results := [.lit (.bool false)], args := [d1, d2] }
  | _ => none }
def LookSplitsWrongFalsely : Prop := lookSplitsRow.holds Tryz.pinned (OpenSpec.ofChange lookSplitsWrong)

/- THE SECOND FORM. 'bulk': how many values and letters a reading holds, each counted each time it is reached (what is shared counts as often as it is met; a slice's spare places count too). A statement '..UptoSaid' is the law's where the arguments, and the package variables that the reading takes, are together of bulk at most 1048576: NARROWER than '..Said'. Prove '..Said' where nothing that the law and all that it calls make is longer than what came in: it says more and counts as full. Else prove '..UptoSaid'. A law counts once. -/
mutual
def uptoBulk {H : Type} : DataW H → Nat
  | .lit (.string bytes) => bytes.length + 1
  | .lit _ => 1
  | .nil => 1
  | .ptr d => uptoBulk d + 1
  | .slice elems spare => uptoBulkAll elems + uptoBulkAll spare + 1
  | .agg parts => uptoBulkAll parts + 1
  | .iface _ d => uptoBulk d + 1
  | .map entries => uptoBulkEntries entries + 1
  | .held _ => 1
def uptoBulkAll {H : Type} : List (DataW H) → Nat
  | [] => 0
  | d :: r => uptoBulk d + uptoBulkAll r
def uptoBulkEntries {H : Type} : List (Lit × DataW H) → Nat
  | [] => 0
  | x :: r => uptoBulkEntry x + uptoBulkEntries r
def uptoBulkEntry {H : Type} : Lit × DataW H → Nat
  | (.string bytes, d) => bytes.length + uptoBulk d + 1
  | (_, d) => uptoBulk d + 1
 end
def uptoSmall : (H : Type) → List (DataW H) → Bool := fun _ ds => decide (uptoBulkAll ds ≤ 1048576)
def OpenSpec.upto (s : _root_.Go.ChangeSpec) : _root_.Go.OpenSpec := { _root_.Go.OpenSpec.ofChange s with cond := some uptoSmall }

/-- 'mistlaw24.LookBest', WHERE WHAT IT READS IS OF BULK AT MOST 1048576: true; the input reads as it did. -/
def lookBestUptoRow : OpenClaim := { program := "ytbglklaocjifhaagreat", sum := "154483b990418b95e4f2961138eb63cea8738aa006ba7439b009f41e2f083f3f", func := "mist/mistlaw24.LookBest", spec := "lookBest", inPlace := ["slices.overlaps[mist/api.Diagram]"], unfollowed := true, recurses := true, plainKeys := false, apart := false, narrowed := true }
def LookBestUptoSaid : Prop := lookBestUptoRow.holds Tryz.pinned (OpenSpec.upto lookBestSpec)

/-- 'mistlaw24.LookWorth', WHERE WHAT IT READS IS OF BULK AT MOST 1048576: true; the input reads as it did. -/
def lookWorthUptoRow : OpenClaim := { program := "ytbglklaocjifhaagreat", sum := "154483b990418b95e4f2961138eb63cea8738aa006ba7439b009f41e2f083f3f", func := "mist/mistlaw24.LookWorth", spec := "lookWorth", inPlace := ["slices.overlaps[mist/api.Diagram]"], unfollowed := true, recurses := true, plainKeys := false, apart := false, narrowed := true }
def LookWorthUptoSaid : Prop := lookWorthUptoRow.holds Tryz.pinned (OpenSpec.upto lookWorthSpec)

/-- 'mistlaw24.LookApart', WHERE WHAT IT READS IS OF BULK AT MOST 1048576: true; the input reads as it did. -/
def lookApartUptoRow : OpenClaim := { program := "ytbglklaocjifhaagreat", sum := "154483b990418b95e4f2961138eb63cea8738aa006ba7439b009f41e2f083f3f", func := "mist/mistlaw24.LookApart", spec := "lookApart", inPlace := ["slices.overlaps[mist/api.Diagram]"], unfollowed := true, recurses := true, plainKeys := false, apart := false, narrowed := true }
def LookApartUptoSaid : Prop := lookApartUptoRow.holds Tryz.pinned (OpenSpec.upto lookApartSpec)

/-- 'mistlaw24.LookForms', WHERE WHAT IT READS IS OF BULK AT MOST 1048576: true; the input reads as it did. -/
def lookFormsUptoRow : OpenClaim := { program := "ytbglklaocjifhaagreat", sum := "154483b990418b95e4f2961138eb63cea8738aa006ba7439b009f41e2f083f3f", func := "mist/mistlaw24.LookForms", spec := "lookForms", inPlace := ["slices.overlaps[mist/api.Diagram]"], unfollowed := true, recurses := true, loops := true, plainKeys := false, apart := false, narrowed := true }
def LookFormsUptoSaid : Prop := lookFormsUptoRow.holds Tryz.pinned (OpenSpec.upto lookFormsSpec)

/-- 'mistlaw24.LookWays', WHERE WHAT IT READS IS OF BULK AT MOST 1048576: true; the input reads as it did. -/
def lookWaysUptoRow : OpenClaim := { program := "ytbglklaocjifhaagreat", sum := "154483b990418b95e4f2961138eb63cea8738aa006ba7439b009f41e2f083f3f", func := "mist/mistlaw24.LookWays", spec := "lookWays", inPlace := ["slices.overlaps[mist/api.Diagram]"], unfollowed := true, recurses := true, loops := true, plainKeys := false, apart := false, narrowed := true }
def LookWaysUptoSaid : Prop := lookWaysUptoRow.holds Tryz.pinned (OpenSpec.upto lookWaysSpec)

/-- 'mistlaw24.LookProves', WHERE WHAT IT READS IS OF BULK AT MOST 1048576: true; the input reads as it did. -/
def lookProvesUptoRow : OpenClaim := { program := "ytbglklaocjifhaagreat", sum := "154483b990418b95e4f2961138eb63cea8738aa006ba7439b009f41e2f083f3f", func := "mist/mistlaw24.LookProves", spec := "lookProves", inPlace := ["slices.overlaps[mist/api.Diagram]"], unfollowed := true, recurses := true, loops := true, plainKeys := false, apart := false, narrowed := true }
def LookProvesUptoSaid : Prop := lookProvesUptoRow.holds Tryz.pinned (OpenSpec.upto lookProvesSpec)

/-- 'mistlaw24.LookDecides', WHERE WHAT IT READS IS OF BULK AT MOST 1048576: true; the input reads as it did. -/
def lookDecidesUptoRow : OpenClaim := { program := "ytbglklaocjifhaagreat", sum := "154483b990418b95e4f2961138eb63cea8738aa006ba7439b009f41e2f083f3f", func := "mist/mistlaw24.LookDecides", spec := "lookDecides", inPlace := ["slices.overlaps[mist/api.Diagram]"], unfollowed := true, recurses := true, plainKeys := false, apart := false, narrowed := true }
def LookDecidesUptoSaid : Prop := lookDecidesUptoRow.holds Tryz.pinned (OpenSpec.upto lookDecidesSpec)

/-- 'mistlaw24.LookNoBetter', WHERE WHAT IT READS IS OF BULK AT MOST 1048576: true; the input reads as it did. -/
def lookNoBetterUptoRow : OpenClaim := { program := "ytbglklaocjifhaagreat", sum := "154483b990418b95e4f2961138eb63cea8738aa006ba7439b009f41e2f083f3f", func := "mist/mistlaw24.LookNoBetter", spec := "lookNoBetter", inPlace := ["slices.overlaps[mist/api.Diagram]"], unfollowed := true, recurses := true, plainKeys := false, apart := false, narrowed := true }
def LookNoBetterUptoSaid : Prop := lookNoBetterUptoRow.holds Tryz.pinned (OpenSpec.upto lookNoBetterSpec)

/-- 'mistlaw24.LookFewer', WHERE WHAT IT READS IS OF BULK AT MOST 1048576: true; the input reads as it did. -/
def lookFewerUptoRow : OpenClaim := { program := "ytbglklaocjifhaagreat", sum := "154483b990418b95e4f2961138eb63cea8738aa006ba7439b009f41e2f083f3f", func := "mist/mistlaw24.LookFewer", spec := "lookFewer", inPlace := ["slices.overlaps[mist/api.Diagram]"], unfollowed := true, recurses := true, plainKeys := false, apart := false, narrowed := true }
def LookFewerUptoSaid : Prop := lookFewerUptoRow.holds Tryz.pinned (OpenSpec.upto lookFewerSpec)

/-- 'mistlaw24.LookWorthy', WHERE WHAT IT READS IS OF BULK AT MOST 1048576: true; the input reads as it did. -/
def lookWorthyUptoRow : OpenClaim := { program := "ytbglklaocjifhaagreat", sum := "154483b990418b95e4f2961138eb63cea8738aa006ba7439b009f41e2f083f3f", func := "mist/mistlaw24.LookWorthy", spec := "lookWorthy", inPlace := ["slices.overlaps[mist/api.Diagram]"], unfollowed := true, recurses := true, plainKeys := false, apart := false, narrowed := true }
def LookWorthyUptoSaid : Prop := lookWorthyUptoRow.holds Tryz.pinned (OpenSpec.upto lookWorthySpec)

/-- 'mistlaw24.LookTurned', WHERE WHAT IT READS IS OF BULK AT MOST 1048576: true; the input reads as it did. -/
def lookTurnedUptoRow : OpenClaim := { program := "ytbglklaocjifhaagreat", sum := "154483b990418b95e4f2961138eb63cea8738aa006ba7439b009f41e2f083f3f", func := "mist/mistlaw24.LookTurned", spec := "lookTurned", inPlace := ["slices.overlaps[mist/api.Diagram]"], unfollowed := true, recurses := true, plainKeys := false, apart := false, narrowed := true }
def LookTurnedUptoSaid : Prop := lookTurnedUptoRow.holds Tryz.pinned (OpenSpec.upto lookTurnedSpec)

/-- 'mistlaw24.LookChecks', WHERE WHAT IT READS IS OF BULK AT MOST 1048576: true; the input reads as it did. -/
def lookChecksUptoRow : OpenClaim := { program := "ytbglklaocjifhaagreat", sum := "154483b990418b95e4f2961138eb63cea8738aa006ba7439b009f41e2f083f3f", func := "mist/mistlaw24.LookChecks", spec := "lookChecks", inPlace := ["slices.overlaps[mist/api.Diagram]"], unfollowed := true, recurses := true, plainKeys := false, apart := false, narrowed := true }
def LookChecksUptoSaid : Prop := lookChecksUptoRow.holds Tryz.pinned (OpenSpec.upto lookChecksSpec)

/-- 'mistlaw24.LookNames', WHERE WHAT IT READS IS OF BULK AT MOST 1048576: true; the input reads as it did. -/
def lookNamesUptoRow : OpenClaim := { program := "ytbglklaocjifhaagreat", sum := "154483b990418b95e4f2961138eb63cea8738aa006ba7439b009f41e2f083f3f", func := "mist/mistlaw24.LookNames", spec := "lookNames", inPlace := ["slices.overlaps[mist/api.Diagram]"], unfollowed := true, recurses := true, plainKeys := false, apart := false, narrowed := true }
def LookNamesUptoSaid : Prop := lookNamesUptoRow.holds Tryz.pinned (OpenSpec.upto lookNamesSpec)

/-- 'mistlaw24.LookNone', WHERE WHAT IT READS IS OF BULK AT MOST 1048576: true; the input reads as it did. -/
def lookNoneUptoRow : OpenClaim := { program := "ytbglklaocjifhaagreat", sum := "154483b990418b95e4f2961138eb63cea8738aa006ba7439b009f41e2f083f3f", func := "mist/mistlaw24.LookNone", spec := "lookNone", inPlace := ["slices.overlaps[mist/api.Diagram]"], unfollowed := true, recurses := true, plainKeys := false, apart := false, narrowed := true }
def LookNoneUptoSaid : Prop := lookNoneUptoRow.holds Tryz.pinned (OpenSpec.upto lookNoneSpec)

/-- 'mistlaw24.LookSplits', WHERE WHAT IT READS IS OF BULK AT MOST 1048576: true; the input reads as it did. -/
def lookSplitsUptoRow : OpenClaim := { program := "ytbglklaocjifhaagreat", sum := "154483b990418b95e4f2961138eb63cea8738aa006ba7439b009f41e2f083f3f", func := "mist/mistlaw24.LookSplits", spec := "lookSplits", inPlace := ["slices.overlaps[mist/api.Diagram]"], unfollowed := true, recurses := true, plainKeys := false, apart := false, narrowed := true }
def LookSplitsUptoSaid : Prop := lookSplitsUptoRow.holds Tryz.pinned (OpenSpec.upto lookSplitsSpec)

end Rows
end Go.Proofs.YtbglklaocjifhaaGreat
