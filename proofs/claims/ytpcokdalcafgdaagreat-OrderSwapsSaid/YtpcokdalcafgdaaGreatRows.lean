/-
  No cell of these rows narrows 'for every input' (looked for: loops, veiled, ifaces, maps, wideKeys, modest, calm, conditions, laid).
  DERIVED. THE GIVEN ROWS OF THIS SEAT. 13 by the template 'for every input the law returns true; each argument reads behind the call as it read before'; 0 by the template 'total and deterministic' (their statements: YtpcokdalcafgdaaGreatTotals.lean).
  GIVEN WITH THE SEED: the statements are not yours to turn. If you find one false, say at which input.
  Laid BY PROGRAM, IN A SANDBOX (cutbox-rows.mjs): the forced cells as the released guide's own fill.sh prints them over the translation 277b94c430d05259… (all of the seat's roots in one cut). By AI agents, Wed Nov 11 2026. No macro, syntax, notation, axiom, sorry.
-/
import Derived.Test.YtpcokdalcafgdaaGreatChecked
import GoSem.Claim
import GoSem.ClaimJoined
import GoSem.ClaimMapViews
import Derived.JoinedTies
import Derived.KernelRfl
namespace Go.Proofs.YtpcokdalcafgdaaGreat
/- THE CELL 'sum', in the pinned program and in every row, IS THE sha256 OF THE DUMP (.gsa) THAT YtpcokdalcafgdaaGreatProg.lean LOADS. Nothing in Lean hashes anything: it is a label: what it is worth is what the hold of that sum in a sandbox is worth. -/
noncomputable def Tryz.pinned : Pinned := { name := "ytpcokdalcafgdaagreat", sum := "277b94c430d05259e8199d2d4f5539c9de7c1d04fc5f3e17dfc4c7013bdf2747", checked := Tryz.checked }
namespace Rows
def none {H : Type} : Left H := { results := [], args := [] }

/-- 'mistlaw16.OrderCosts': WHATEVER THE INPUT: true; the input reads as it did. -/
def orderCostsSpec : ChangeSpec := { name := "orderCosts", fn := fun _ => fun
  | [d] => { results := [.lit (.bool true)], args := [d] }
  | _ => none }
def orderCostsRow : OpenClaim := { program := "ytpcokdalcafgdaagreat", sum := "277b94c430d05259e8199d2d4f5539c9de7c1d04fc5f3e17dfc4c7013bdf2747", func := "mist/mistlaw16.OrderCosts", spec := "orderCosts", inPlace := ["slices.overlaps[int]"], unfollowed := true, recurses := true, plainKeys := false, apart := false }
def OrderCostsSaid : Prop := orderCostsRow.holds Tryz.pinned (OpenSpec.ofChange orderCostsSpec)

/-- ITS FALSE NEIGHBOUR: 'it returns false'. Refute it at one input. -/
def orderCostsWrong : ChangeSpec := { name := "orderCosts", fn := fun _ => fun
  | [d] => { results := [.lit (.bool false)], args := [d] }
  | _ => none }
def OrderCostsWrongFalsely : Prop := orderCostsRow.holds Tryz.pinned (OpenSpec.ofChange orderCostsWrong)

/-- 'mistlaw16.OrderSifts': WHATEVER THE INPUT: true; the input reads as it did. -/
def orderSiftsSpec : ChangeSpec := { name := "orderSifts", fn := fun _ => fun
  | [d] => { results := [.lit (.bool true)], args := [d] }
  | _ => none }
def orderSiftsRow : OpenClaim := { program := "ytpcokdalcafgdaagreat", sum := "277b94c430d05259e8199d2d4f5539c9de7c1d04fc5f3e17dfc4c7013bdf2747", func := "mist/mistlaw16.OrderSifts", spec := "orderSifts", inPlace := ["slices.overlaps[int]"], unfollowed := true, recurses := true, plainKeys := false, apart := false }
def OrderSiftsSaid : Prop := orderSiftsRow.holds Tryz.pinned (OpenSpec.ofChange orderSiftsSpec)

/-- ITS FALSE NEIGHBOUR: 'it returns false'. Refute it at one input. -/
def orderSiftsWrong : ChangeSpec := { name := "orderSifts", fn := fun _ => fun
  | [d] => { results := [.lit (.bool false)], args := [d] }
  | _ => none }
def OrderSiftsWrongFalsely : Prop := orderSiftsRow.holds Tryz.pinned (OpenSpec.ofChange orderSiftsWrong)

/-- 'mistlaw16.OrderBest': WHATEVER THE INPUT: true; the input reads as it did. -/
def orderBestSpec : ChangeSpec := { name := "orderBest", fn := fun _ => fun
  | [d] => { results := [.lit (.bool true)], args := [d] }
  | _ => none }
def orderBestRow : OpenClaim := { program := "ytpcokdalcafgdaagreat", sum := "277b94c430d05259e8199d2d4f5539c9de7c1d04fc5f3e17dfc4c7013bdf2747", func := "mist/mistlaw16.OrderBest", spec := "orderBest", inPlace := ["slices.overlaps[int]"], unfollowed := true, recurses := true, plainKeys := false, apart := false }
def OrderBestSaid : Prop := orderBestRow.holds Tryz.pinned (OpenSpec.ofChange orderBestSpec)

/-- ITS FALSE NEIGHBOUR: 'it returns false'. Refute it at one input. -/
def orderBestWrong : ChangeSpec := { name := "orderBest", fn := fun _ => fun
  | [d] => { results := [.lit (.bool false)], args := [d] }
  | _ => none }
def OrderBestWrongFalsely : Prop := orderBestRow.holds Tryz.pinned (OpenSpec.ofChange orderBestWrong)

/-- 'mistlaw16.OrderUses': WHATEVER THE INPUT: true; the input reads as it did. -/
def orderUsesSpec : ChangeSpec := { name := "orderUses", fn := fun _ => fun
  | [d] => { results := [.lit (.bool true)], args := [d] }
  | _ => none }
def orderUsesRow : OpenClaim := { program := "ytpcokdalcafgdaagreat", sum := "277b94c430d05259e8199d2d4f5539c9de7c1d04fc5f3e17dfc4c7013bdf2747", func := "mist/mistlaw16.OrderUses", spec := "orderUses", inPlace := ["slices.overlaps[int]"], unfollowed := true, recurses := true, plainKeys := false, apart := false }
def OrderUsesSaid : Prop := orderUsesRow.holds Tryz.pinned (OpenSpec.ofChange orderUsesSpec)

/-- ITS FALSE NEIGHBOUR: 'it returns false'. Refute it at one input. -/
def orderUsesWrong : ChangeSpec := { name := "orderUses", fn := fun _ => fun
  | [d] => { results := [.lit (.bool false)], args := [d] }
  | _ => none }
def OrderUsesWrongFalsely : Prop := orderUsesRow.holds Tryz.pinned (OpenSpec.ofChange orderUsesWrong)

/-- 'mistlaw16.OrderSums': WHATEVER THE INPUT: true; the input reads as it did. -/
def orderSumsSpec : ChangeSpec := { name := "orderSums", fn := fun _ => fun
  | [d] => { results := [.lit (.bool true)], args := [d] }
  | _ => none }
def orderSumsRow : OpenClaim := { program := "ytpcokdalcafgdaagreat", sum := "277b94c430d05259e8199d2d4f5539c9de7c1d04fc5f3e17dfc4c7013bdf2747", func := "mist/mistlaw16.OrderSums", spec := "orderSums", inPlace := ["slices.overlaps[int]"], unfollowed := true, recurses := true, plainKeys := false, apart := false }
def OrderSumsSaid : Prop := orderSumsRow.holds Tryz.pinned (OpenSpec.ofChange orderSumsSpec)

/-- ITS FALSE NEIGHBOUR: 'it returns false'. Refute it at one input. -/
def orderSumsWrong : ChangeSpec := { name := "orderSums", fn := fun _ => fun
  | [d] => { results := [.lit (.bool false)], args := [d] }
  | _ => none }
def OrderSumsWrongFalsely : Prop := orderSumsRow.holds Tryz.pinned (OpenSpec.ofChange orderSumsWrong)

/-- 'mistlaw16.OrderSwaps': WHATEVER THE INPUT: true; the input reads as it did. -/
def orderSwapsSpec : ChangeSpec := { name := "orderSwaps", fn := fun _ => fun
  | [d1, d2] => { results := [.lit (.bool true)], args := [d1, d2] }
  | _ => none }
def orderSwapsRow : OpenClaim := { program := "ytpcokdalcafgdaagreat", sum := "277b94c430d05259e8199d2d4f5539c9de7c1d04fc5f3e17dfc4c7013bdf2747", func := "mist/mistlaw16.OrderSwaps", spec := "orderSwaps", inPlace := ["slices.overlaps[int]"], unfollowed := true, recurses := true, plainKeys := false, apart := false }
def OrderSwapsSaid : Prop := orderSwapsRow.holds Tryz.pinned (OpenSpec.ofChange orderSwapsSpec)

/-- ITS FALSE NEIGHBOUR: 'it returns false'. Refute it at one input. -/
def orderSwapsWrong : ChangeSpec := { name := "orderSwaps", fn := fun _ => fun
  | [d1, d2] => { results := [.lit (.bool false)], args := [d1, d2] }
  | _ => none }
def OrderSwapsWrongFalsely : Prop := orderSwapsRow.holds Tryz.pinned (OpenSpec.ofChange orderSwapsWrong)

/-- 'mistlaw16.OrderMoves': WHATEVER THE INPUT: true; the input reads as it did. -/
def orderMovesSpec : ChangeSpec := { name := "orderMoves", fn := fun _ => fun
  | [d1, d2, d3] => { results := [.lit (.bool true)], args := [d1, d2, d3] }
  | _ => none }
def orderMovesRow : OpenClaim := { program := "ytpcokdalcafgdaagreat", sum := "277b94c430d05259e8199d2d4f5539c9de7c1d04fc5f3e17dfc4c7013bdf2747", func := "mist/mistlaw16.OrderMoves", spec := "orderMoves", inPlace := ["slices.overlaps[int]"], unfollowed := true, recurses := true, plainKeys := false, apart := false }
def OrderMovesSaid : Prop := orderMovesRow.holds Tryz.pinned (OpenSpec.ofChange orderMovesSpec)

/-- ITS FALSE NEIGHBOUR: 'it returns false'. Refute it at one input. -/
def orderMovesWrong : ChangeSpec := { name := "orderMoves", fn := fun _ => fun
  | [d1, d2, d3] => { results := [.lit (.bool false)], args := [d1, d2, d3] }
  | _ => none }
def OrderMovesWrongFalsely : Prop := orderMovesRow.holds Tryz.pinned (OpenSpec.ofChange orderMovesWrong)

/-- 'mistlaw16.OrderLess': WHATEVER THE INPUT: true; the input reads as it did. -/
def orderLessSpec : ChangeSpec := { name := "orderLess", fn := fun _ => fun
  | [d] => { results := [.lit (.bool true)], args := [d] }
  | _ => none }
def orderLessRow : OpenClaim := { program := "ytpcokdalcafgdaagreat", sum := "277b94c430d05259e8199d2d4f5539c9de7c1d04fc5f3e17dfc4c7013bdf2747", func := "mist/mistlaw16.OrderLess", spec := "orderLess", inPlace := ["slices.overlaps[int]"], unfollowed := true, recurses := true, plainKeys := false, apart := false }
def OrderLessSaid : Prop := orderLessRow.holds Tryz.pinned (OpenSpec.ofChange orderLessSpec)

/-- ITS FALSE NEIGHBOUR: 'it returns false'. Refute it at one input. -/
def orderLessWrong : ChangeSpec := { name := "orderLess", fn := fun _ => fun
  | [d] => { results := [.lit (.bool false)], args := [d] }
  | _ => none }
def OrderLessWrongFalsely : Prop := orderLessRow.holds Tryz.pinned (OpenSpec.ofChange orderLessWrong)

/-- 'mistlaw16.OrderAdded': WHATEVER THE INPUT: true; the input reads as it did. -/
def orderAddedSpec : ChangeSpec := { name := "orderAdded", fn := fun _ => fun
  | [d1, d2] => { results := [.lit (.bool true)], args := [d1, d2] }
  | _ => none }
def orderAddedRow : OpenClaim := { program := "ytpcokdalcafgdaagreat", sum := "277b94c430d05259e8199d2d4f5539c9de7c1d04fc5f3e17dfc4c7013bdf2747", func := "mist/mistlaw16.OrderAdded", spec := "orderAdded", inPlace := ["slices.overlaps[int]"], unfollowed := true, recurses := true, plainKeys := false, apart := false }
def OrderAddedSaid : Prop := orderAddedRow.holds Tryz.pinned (OpenSpec.ofChange orderAddedSpec)

/-- ITS FALSE NEIGHBOUR: 'it returns false'. Refute it at one input. -/
def orderAddedWrong : ChangeSpec := { name := "orderAdded", fn := fun _ => fun
  | [d1, d2] => { results := [.lit (.bool false)], args := [d1, d2] }
  | _ => none }
def OrderAddedWrongFalsely : Prop := orderAddedRow.holds Tryz.pinned (OpenSpec.ofChange orderAddedWrong)

/-- 'mistlaw16.OrderChanges': WHATEVER THE INPUT: true; the input reads as it did. -/
def orderChangesSpec : ChangeSpec := { name := "orderChanges", fn := fun _ => fun
  | [d1, d2, d3] => { results := [.lit (.bool true)], args := [d1, d2, d3] }
  | _ => none }
def orderChangesRow : OpenClaim := { program := "ytpcokdalcafgdaagreat", sum := "277b94c430d05259e8199d2d4f5539c9de7c1d04fc5f3e17dfc4c7013bdf2747", func := "mist/mistlaw16.OrderChanges", spec := "orderChanges", inPlace := ["slices.overlaps[int]"], unfollowed := true, recurses := true, plainKeys := false, apart := false }
def OrderChangesSaid : Prop := orderChangesRow.holds Tryz.pinned (OpenSpec.ofChange orderChangesSpec)

/-- ITS FALSE NEIGHBOUR: 'it returns false'. Refute it at one input. -/
def orderChangesWrong : ChangeSpec := { name := "orderChanges", fn := fun _ => fun
  | [d1, d2, d3] => { results := [.lit (.bool false)], args := [d1, d2, d3] }
  | _ => none }
def OrderChangesWrongFalsely : Prop := orderChangesRow.holds Tryz.pinned (OpenSpec.ofChange orderChangesWrong)

/-- 'mistlaw16.OrderNames': WHATEVER THE INPUT: true; the input reads as it did. -/
def orderNamesSpec : ChangeSpec := { name := "orderNames", fn := fun _ => fun
  | [] => { results := [.lit (.bool true)], args := [] }
  | _ => none }
def orderNamesRow : OpenClaim := { program := "ytpcokdalcafgdaagreat", sum := "277b94c430d05259e8199d2d4f5539c9de7c1d04fc5f3e17dfc4c7013bdf2747", func := "mist/mistlaw16.OrderNames", spec := "orderNames", inPlace := ["slices.overlaps[int]"], unfollowed := true, recurses := true, plainKeys := false, apart := false }
def OrderNamesSaid : Prop := orderNamesRow.holds Tryz.pinned (OpenSpec.ofChange orderNamesSpec)

/-- ITS FALSE NEIGHBOUR: 'it returns false'. Refute it at one input. -/
def orderNamesWrong : ChangeSpec := { name := "orderNames", fn := fun _ => fun
  | [] => { results := [.lit (.bool false)], args := [] }
  | _ => none }
def OrderNamesWrongFalsely : Prop := orderNamesRow.holds Tryz.pinned (OpenSpec.ofChange orderNamesWrong)

/-- 'mistlaw16.OrderSame': WHATEVER THE INPUT: true; the input reads as it did. -/
def orderSameSpec : ChangeSpec := { name := "orderSame", fn := fun _ => fun
  | [d1, d2] => { results := [.lit (.bool true)], args := [d1, d2] }
  | _ => none }
def orderSameRow : OpenClaim := { program := "ytpcokdalcafgdaagreat", sum := "277b94c430d05259e8199d2d4f5539c9de7c1d04fc5f3e17dfc4c7013bdf2747", func := "mist/mistlaw16.OrderSame", spec := "orderSame", inPlace := ["slices.overlaps[int]"], unfollowed := true, recurses := true, plainKeys := false, apart := false }
def OrderSameSaid : Prop := orderSameRow.holds Tryz.pinned (OpenSpec.ofChange orderSameSpec)

/-- ITS FALSE NEIGHBOUR: 'it returns false'. Refute it at one input. -/
def orderSameWrong : ChangeSpec := { name := "orderSame", fn := fun _ => fun
  | [d1, d2] => { results := [.lit (.bool false)], args := [d1, d2] }
  | _ => none }
def OrderSameWrongFalsely : Prop := orderSameRow.holds Tryz.pinned (OpenSpec.ofChange orderSameWrong)

/-- 'mistlaw16.OrderNoBetter': WHATEVER THE INPUT: true; the input reads as it did. -/
def orderNoBetterSpec : ChangeSpec := { name := "orderNoBetter", fn := fun _ => fun
  | [d1, d2] => { results := [.lit (.bool true)], args := [d1, d2] }
  | _ => none }
def orderNoBetterRow : OpenClaim := { program := "ytpcokdalcafgdaagreat", sum := "277b94c430d05259e8199d2d4f5539c9de7c1d04fc5f3e17dfc4c7013bdf2747", func := "mist/mistlaw16.OrderNoBetter", spec := "orderNoBetter", inPlace := ["slices.overlaps[int]"], unfollowed := true, recurses := true, plainKeys := false, apart := false }
def OrderNoBetterSaid : Prop := orderNoBetterRow.holds Tryz.pinned (OpenSpec.ofChange orderNoBetterSpec)

/-- ITS FALSE NEIGHBOUR: 'it returns false'. Refute it at one input. -/
def orderNoBetterWrong : ChangeSpec := { name := "orderNoBetter", fn := fun _ => fun
  | [d1, d2] => { results := [.lit (.bool false)], args := [d1, d2] }
  | _ => none }
def OrderNoBetterWrongFalsely : Prop := orderNoBetterRow.holds Tryz.pinned (OpenSpec.ofChange orderNoBetterWrong)

/- THE SECOND FORM. 'bulk': how many values and letters a reading holds, each counted each time it is reached (what is shared counts as often as it is met; a slice's spare places count too). A statement '..UptoSaid' is the law's where the arguments, and the package variables that the reading takes, are together of bulk at most 1048576: NARROWER than '..Said'. Prove '..Said' where nothing that the law and all that it calls make is longer than what came in: it says more and counts as full. Else prove '..UptoSaid'. A law counts once. -/
mutual
def uptoBulk {H : Type} : DataW H → Nat
  | .lit (.string bytes) => bytes.length + 1
  | .lit _ => 1
  | .nil => 1
  | .ptr d => uptoBulk d + 1
  | .slice elems spare => uptoBulkAll elems + uptoBulkAll spare + 1
  | .agg parts => uptoBulkAll parts + 1
  | .iface _ d => uptoBulk d + 1
  | .map entries => uptoBulkEntries entries + 1
  | .held _ => 1
def uptoBulkAll {H : Type} : List (DataW H) → Nat
  | [] => 0
  | d :: r => uptoBulk d + uptoBulkAll r
def uptoBulkEntries {H : Type} : List (Lit × DataW H) → Nat
  | [] => 0
  | x :: r => uptoBulkEntry x + uptoBulkEntries r
def uptoBulkEntry {H : Type} : Lit × DataW H → Nat
  | (.string bytes, d) => bytes.length + uptoBulk d + 1
  | (_, d) => uptoBulk d + 1
 end
def uptoSmall : (H : Type) → List (DataW H) → Bool := fun _ ds => decide (uptoBulkAll ds ≤ 1048576)
def OpenSpec.upto (s : _root_.Go.ChangeSpec) : _root_.Go.OpenSpec := { _root_.Go.OpenSpec.ofChange s with cond := some uptoSmall }

/-- 'mistlaw16.OrderCosts', WHERE WHAT IT READS IS OF BULK AT MOST 1048576: true; the input reads as it did. -/
def orderCostsUptoRow : OpenClaim := { program := "ytpcokdalcafgdaagreat", sum := "277b94c430d05259e8199d2d4f5539c9de7c1d04fc5f3e17dfc4c7013bdf2747", func := "mist/mistlaw16.OrderCosts", spec := "orderCosts", inPlace := ["slices.overlaps[int]"], unfollowed := true, recurses := true, plainKeys := false, apart := false, narrowed := true }
def OrderCostsUptoSaid : Prop := orderCostsUptoRow.holds Tryz.pinned (OpenSpec.upto orderCostsSpec)

/-- 'mistlaw16.OrderSifts', WHERE WHAT IT READS IS OF BULK AT MOST 1048576: true; the input reads as it did. -/
def orderSiftsUptoRow : OpenClaim := { program := "ytpcokdalcafgdaagreat", sum := "277b94c430d05259e8199d2d4f5539c9de7c1d04fc5f3e17dfc4c7013bdf2747", func := "mist/mistlaw16.OrderSifts", spec := "orderSifts", inPlace := ["slices.overlaps[int]"], unfollowed := true, recurses := true, plainKeys := false, apart := false, narrowed := true }
def OrderSiftsUptoSaid : Prop := orderSiftsUptoRow.holds Tryz.pinned (OpenSpec.upto orderSiftsSpec)

/-- 'mistlaw16.OrderBest', WHERE WHAT IT READS IS OF BULK AT MOST 1048576: true; the input reads as it did. -/
def orderBestUptoRow : OpenClaim := { program := "ytpcokdalcafgdaagreat", sum := "277b94c430d05259e8199d2d4f5539c9de7c1d04fc5f3e17dfc4c7013bdf2747", func := "mist/mistlaw16.OrderBest", spec := "orderBest", inPlace := ["slices.overlaps[int]"], unfollowed := true, recurses := true, plainKeys := false, apart := false, narrowed := true }
def OrderBestUptoSaid : Prop := orderBestUptoRow.holds Tryz.pinned (OpenSpec.upto orderBestSpec)

/-- 'mistlaw16.OrderUses', WHERE WHAT IT READS IS OF BULK AT MOST 1048576: true; the input reads as it did. -/
def orderUsesUptoRow : OpenClaim := { program := "ytpcokdalcafgdaagreat", sum := "277b94c430d05259e8199d2d4f5539c9de7c1d04fc5f3e17dfc4c7013bdf2747", func := "mist/mistlaw16.OrderUses", spec := "orderUses", inPlace := ["slices.overlaps[int]"], unfollowed := true, recurses := true, plainKeys := false, apart := false, narrowed := true }
def OrderUsesUptoSaid : Prop := orderUsesUptoRow.holds Tryz.pinned (OpenSpec.upto orderUsesSpec)

/-- 'mistlaw16.OrderSums', WHERE WHAT IT READS IS OF BULK AT MOST 1048576: true; the input reads as it did. -/
def orderSumsUptoRow : OpenClaim := { program := "ytpcokdalcafgdaagreat", sum := "277b94c430d05259e8199d2d4f5539c9de7c1d04fc5f3e17dfc4c7013bdf2747", func := "mist/mistlaw16.OrderSums", spec := "orderSums", inPlace := ["slices.overlaps[int]"], unfollowed := true, recurses := true, plainKeys := false, apart := false, narrowed := true }
def OrderSumsUptoSaid : Prop := orderSumsUptoRow.holds Tryz.pinned (OpenSpec.upto orderSumsSpec)

/-- 'mistlaw16.OrderSwaps', WHERE WHAT IT READS IS OF BULK AT MOST 1048576: true; the input reads as it did. -/
def orderSwapsUptoRow : OpenClaim := { program := "ytpcokdalcafgdaagreat", sum := "277b94c430d05259e8199d2d4f5539c9de7c1d04fc5f3e17dfc4c7013bdf2747", func := "mist/mistlaw16.OrderSwaps", spec := "orderSwaps", inPlace := ["slices.overlaps[int]"], unfollowed := true, recurses := true, plainKeys := false, apart := false, narrowed := true }
def OrderSwapsUptoSaid : Prop := orderSwapsUptoRow.holds Tryz.pinned (OpenSpec.upto orderSwapsSpec)

/-- 'mistlaw16.OrderMoves', WHERE WHAT IT READS IS OF BULK AT MOST 1048576: true; the input reads as it did. -/
def orderMovesUptoRow : OpenClaim := { program := "ytpcokdalcafgdaagreat", sum := "277b94c430d05259e8199d2d4f5539c9de7c1d04fc5f3e17dfc4c7013bdf2747", func := "mist/mistlaw16.OrderMoves", spec := "orderMoves", inPlace := ["slices.overlaps[int]"], unfollowed := true, recurses := true, plainKeys := false, apart := false, narrowed := true }
def OrderMovesUptoSaid : Prop := orderMovesUptoRow.holds Tryz.pinned (OpenSpec.upto orderMovesSpec)

/-- 'mistlaw16.OrderLess', WHERE WHAT IT READS IS OF BULK AT MOST 1048576: true; the input reads as it did. -/
def orderLessUptoRow : OpenClaim := { program := "ytpcokdalcafgdaagreat", sum := "277b94c430d05259e8199d2d4f5539c9de7c1d04fc5f3e17dfc4c7013bdf2747", func := "mist/mistlaw16.OrderLess", spec := "orderLess", inPlace := ["slices.overlaps[int]"], unfollowed := true, recurses := true, plainKeys := false, apart := false, narrowed := true }
def OrderLessUptoSaid : Prop := orderLessUptoRow.holds Tryz.pinned (OpenSpec.upto orderLessSpec)

/-- 'mistlaw16.OrderAdded', WHERE WHAT IT READS IS OF BULK AT MOST 1048576: true; the input reads as it did. -/
def orderAddedUptoRow : OpenClaim := { program := "ytpcokdalcafgdaagreat", sum := "277b94c430d05259e8199d2d4f5539c9de7c1d04fc5f3e17dfc4c7013bdf2747", func := "mist/mistlaw16.OrderAdded", spec := "orderAdded", inPlace := ["slices.overlaps[int]"], unfollowed := true, recurses := true, plainKeys := false, apart := false, narrowed := true }
def OrderAddedUptoSaid : Prop := orderAddedUptoRow.holds Tryz.pinned (OpenSpec.upto orderAddedSpec)

/-- 'mistlaw16.OrderChanges', WHERE WHAT IT READS IS OF BULK AT MOST 1048576: true; the input reads as it did. -/
def orderChangesUptoRow : OpenClaim := { program := "ytpcokdalcafgdaagreat", sum := "277b94c430d05259e8199d2d4f5539c9de7c1d04fc5f3e17dfc4c7013bdf2747", func := "mist/mistlaw16.OrderChanges", spec := "orderChanges", inPlace := ["slices.overlaps[int]"], unfollowed := true, recurses := true, plainKeys := false, apart := false, narrowed := true }
def OrderChangesUptoSaid : Prop := orderChangesUptoRow.holds Tryz.pinned (OpenSpec.upto orderChangesSpec)

/-- 'mistlaw16.OrderNames', WHERE WHAT IT READS IS OF BULK AT MOST 1048576: true; the input reads as it did. -/
def orderNamesUptoRow : OpenClaim := { program := "ytpcokdalcafgdaagreat", sum := "277b94c430d05259e8199d2d4f5539c9de7c1d04fc5f3e17dfc4c7013bdf2747", func := "mist/mistlaw16.OrderNames", spec := "orderNames", inPlace := ["slices.overlaps[int]"], unfollowed := true, recurses := true, plainKeys := false, apart := false, narrowed := true }
def OrderNamesUptoSaid : Prop := orderNamesUptoRow.holds Tryz.pinned (OpenSpec.upto orderNamesSpec)

/-- 'mistlaw16.OrderSame', WHERE WHAT IT READS IS OF BULK AT MOST 1048576: true; the input reads as it did. -/
def orderSameUptoRow : OpenClaim := { program := "ytpcokdalcafgdaagreat", sum := "277b94c430d05259e8199d2d4f5539c9de7c1d04fc5f3e17dfc4c7013bdf2747", func := "mist/mistlaw16.OrderSame", spec := "orderSame", inPlace := ["slices.overlaps[int]"], unfollowed := true, recurses := true, plainKeys := false, apart := false, narrowed := true }
def OrderSameUptoSaid : Prop := orderSameUptoRow.holds Tryz.pinned (OpenSpec.upto orderSameSpec)

/-- 'mistlaw16.OrderNoBetter', WHERE WHAT IT READS IS OF BULK AT MOST 1048576: true; the input reads as it did. -/
def orderNoBetterUptoRow : OpenClaim := { program := "ytpcokdalcafgdaagreat", sum := "277b94c430d05259e8199d2d4f5539c9de7c1d04fc5f3e17dfc4c7013bdf2747", func := "mist/mistlaw16.OrderNoBetter", spec := "orderNoBetter", inPlace := ["slices.overlaps[int]"], unfollowed := true, recurses := true, plainKeys := false, apart := false, narrowed := true }
def OrderNoBetterUptoSaid : Prop := orderNoBetterUptoRow.holds Tryz.pinned (OpenSpec.upto orderNoBetterSpec)

end Rows
end Go.Proofs.YtpcokdalcafgdaaGreat
