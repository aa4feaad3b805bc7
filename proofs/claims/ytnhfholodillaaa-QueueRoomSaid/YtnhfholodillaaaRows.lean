/-
  No cell of these rows narrows 'for every input' (looked for: loops, veiled, ifaces, maps, wideKeys, modest, calm, conditions, laid).
  DERIVED. THE GIVEN ROWS OF THIS SEAT. 9 by the template 'for every input the law returns true; each argument reads behind the call as it read before'; 0 by the template 'total and deterministic' (their statements: YtnhfholodillaaaTotals.lean).
  GIVEN WITH THE SEED: the statements are not yours to turn. If you find one false, say at which input.
  Laid BY PROGRAM, IN A SANDBOX (cutbox-rows.mjs): the forced cells as the released guide's own fill.sh prints them over the translation 74c4985cff119d55… (all of the seat's roots in one cut). By AI agents, Wed Nov 11 2026. No macro, syntax, notation, axiom, sorry.
-/
import Derived.Test.YtnhfholodillaaaChecked
import GoSem.Claim
import GoSem.ClaimJoined
import GoSem.ClaimMapViews
import Derived.JoinedTies
import Derived.KernelRfl
namespace Go.Proofs.Ytnhfholodillaaa
/- THE CELL 'sum', in the pinned program and in every row, IS THE sha256 OF THE DUMP (.gsa) THAT YtnhfholodillaaaProg.lean LOADS. Nothing in Lean hashes anything: it is a label: what it is worth is what the hold of that sum in a sandbox is worth. -/
noncomputable def Try.pinned : Pinned := { name := "ytnhfholodillaaa", sum := "74c4985cff119d5572508f937086a3d8732cc77ed32c738ef4690df696059e49", checked := Try.checked }
namespace Rows
def none {H : Type} : Left H := { results := [], args := [] }

/-- 'saucierlaw24.TxidRows': WHATEVER THE INPUT: true; the input reads as it did. -/
def txidRowsSpec : ChangeSpec := { name := "txidRows", fn := fun _ => fun
  | [d1, d2] => { results := [.lit (.bool true)], args := [d1, d2] }
  | _ => none }
def txidRowsRow : OpenClaim := { program := "ytnhfholodillaaa", sum := "74c4985cff119d5572508f937086a3d8732cc77ed32c738ef4690df696059e49", func := "saucier/saucierlaw24.TxidRows", spec := "txidRows", unfollowed := true, recurses := true, apart := false }
def TxidRowsSaid : Prop := txidRowsRow.holds Try.pinned (OpenSpec.ofChange txidRowsSpec)

/-- ITS FALSE NEIGHBOUR: 'it returns false'. Refute it at one input. -/
def txidRowsWrong : ChangeSpec := { name := "txidRows", fn := fun _ => fun
  | [d1, d2] => { results := [.lit (.bool false)], args := [d1, d2] }
  | _ => none }
def TxidRowsWrongFalsely : Prop := txidRowsRow.holds Try.pinned (OpenSpec.ofChange txidRowsWrong)

/-- 'saucierlaw18.LeaseTells': WHATEVER THE INPUT: true; the input reads as it did. -/
def leaseTellsSpec : ChangeSpec := { name := "leaseTells", fn := fun _ => fun
  | [d1, d2, d3] => { results := [.lit (.bool true)], args := [d1, d2, d3] }
  | _ => none }
def leaseTellsRow : OpenClaim := { program := "ytnhfholodillaaa", sum := "74c4985cff119d5572508f937086a3d8732cc77ed32c738ef4690df696059e49", func := "saucier/saucierlaw18.LeaseTells", spec := "leaseTells", apart := false }
def LeaseTellsSaid : Prop := leaseTellsRow.holds Try.pinned (OpenSpec.ofChange leaseTellsSpec)

/-- ITS FALSE NEIGHBOUR: 'it returns false'. Refute it at one input. -/
def leaseTellsWrong : ChangeSpec := { name := "leaseTells", fn := fun _ => fun
  | [d1, d2, d3] => { results := [.lit (.bool false)], args := [d1, d2, d3] }
  | _ => none }
def LeaseTellsWrongFalsely : Prop := leaseTellsRow.holds Try.pinned (OpenSpec.ofChange leaseTellsWrong)

/-- 'saucierlaw18.LeaseOne': WHATEVER THE INPUT: true; the input reads as it did. -/
def leaseOneSpec : ChangeSpec := { name := "leaseOne", fn := fun _ => fun
  | [d] => { results := [.lit (.bool true)], args := [d] }
  | _ => none }
def leaseOneRow : OpenClaim := { program := "ytnhfholodillaaa", sum := "74c4985cff119d5572508f937086a3d8732cc77ed32c738ef4690df696059e49", func := "saucier/saucierlaw18.LeaseOne", spec := "leaseOne", apart := false }
def LeaseOneSaid : Prop := leaseOneRow.holds Try.pinned (OpenSpec.ofChange leaseOneSpec)

/-- ITS FALSE NEIGHBOUR: 'it returns false'. Refute it at one input. -/
def leaseOneWrong : ChangeSpec := { name := "leaseOne", fn := fun _ => fun
  | [d] => { results := [.lit (.bool false)], args := [d] }
  | _ => none }
def LeaseOneWrongFalsely : Prop := leaseOneRow.holds Try.pinned (OpenSpec.ofChange leaseOneWrong)

/-- 'saucierlaw18.LeaseEnds': WHATEVER THE INPUT: true; the input reads as it did. -/
def leaseEndsSpec : ChangeSpec := { name := "leaseEnds", fn := fun _ => fun
  | [d1, d2, d3, d4] => { results := [.lit (.bool true)], args := [d1, d2, d3, d4] }
  | _ => none }
def leaseEndsRow : OpenClaim := { program := "ytnhfholodillaaa", sum := "74c4985cff119d5572508f937086a3d8732cc77ed32c738ef4690df696059e49", func := "saucier/saucierlaw18.LeaseEnds", spec := "leaseEnds", apart := false }
def LeaseEndsSaid : Prop := leaseEndsRow.holds Try.pinned (OpenSpec.ofChange leaseEndsSpec)

/-- ITS FALSE NEIGHBOUR: 'it returns false'. Refute it at one input. -/
def leaseEndsWrong : ChangeSpec := { name := "leaseEnds", fn := fun _ => fun
  | [d1, d2, d3, d4] => { results := [.lit (.bool false)], args := [d1, d2, d3, d4] }
  | _ => none }
def LeaseEndsWrongFalsely : Prop := leaseEndsRow.holds Try.pinned (OpenSpec.ofChange leaseEndsWrong)

/-- 'saucierlaw18.LeaseHolds': WHATEVER THE INPUT: true; the input reads as it did. -/
def leaseHoldsSpec : ChangeSpec := { name := "leaseHolds", fn := fun _ => fun
  | [d1, d2, d3] => { results := [.lit (.bool true)], args := [d1, d2, d3] }
  | _ => none }
def leaseHoldsRow : OpenClaim := { program := "ytnhfholodillaaa", sum := "74c4985cff119d5572508f937086a3d8732cc77ed32c738ef4690df696059e49", func := "saucier/saucierlaw18.LeaseHolds", spec := "leaseHolds", apart := false }
def LeaseHoldsSaid : Prop := leaseHoldsRow.holds Try.pinned (OpenSpec.ofChange leaseHoldsSpec)

/-- ITS FALSE NEIGHBOUR: 'it returns false'. Refute it at one input. -/
def leaseHoldsWrong : ChangeSpec := { name := "leaseHolds", fn := fun _ => fun
  | [d1, d2, d3] => { results := [.lit (.bool false)], args := [d1, d2, d3] }
  | _ => none }
def LeaseHoldsWrongFalsely : Prop := leaseHoldsRow.holds Try.pinned (OpenSpec.ofChange leaseHoldsWrong)

/-- 'saucierlaw18.LeaseOdd': WHATEVER THE INPUT: true; the input reads as it did. -/
def leaseOddSpec : ChangeSpec := { name := "leaseOdd", fn := fun _ => fun
  | [d1, d2, d3] => { results := [.lit (.bool true)], args := [d1, d2, d3] }
  | _ => none }
def leaseOddRow : OpenClaim := { program := "ytnhfholodillaaa", sum := "74c4985cff119d5572508f937086a3d8732cc77ed32c738ef4690df696059e49", func := "saucier/saucierlaw18.LeaseOdd", spec := "leaseOdd", apart := false }
def LeaseOddSaid : Prop := leaseOddRow.holds Try.pinned (OpenSpec.ofChange leaseOddSpec)

/-- ITS FALSE NEIGHBOUR: 'it returns false'. Refute it at one input. -/
def leaseOddWrong : ChangeSpec := { name := "leaseOdd", fn := fun _ => fun
  | [d1, d2, d3] => { results := [.lit (.bool false)], args := [d1, d2, d3] }
  | _ => none }
def LeaseOddWrongFalsely : Prop := leaseOddRow.holds Try.pinned (OpenSpec.ofChange leaseOddWrong)

/-- 'saucierlaw26.QueueOrder': WHATEVER THE INPUT: true; the input reads as it did. -/
def queueOrderSpec : ChangeSpec := { name := "queueOrder", fn := fun _ => fun
  | [d1, d2] => { results := [.lit (.bool true)], args := [d1, d2] }
  | _ => none }
def queueOrderRow : OpenClaim := { program := "ytnhfholodillaaa", sum := "74c4985cff119d5572508f937086a3d8732cc77ed32c738ef4690df696059e49", func := "saucier/saucierlaw26.QueueOrder", spec := "queueOrder", apart := false }
def QueueOrderSaid : Prop := queueOrderRow.holds Try.pinned (OpenSpec.ofChange queueOrderSpec)

/-- ITS FALSE NEIGHBOUR: 'it returns false'. Refute it at one input. -/
def queueOrderWrong : ChangeSpec := { name := "queueOrder", fn := fun _ => fun
  | [d1, d2] => { results := [.lit (.bool false)], args := [d1, d2] }
  | _ => none }
def QueueOrderWrongFalsely : Prop := queueOrderRow.holds Try.pinned (OpenSpec.ofChange queueOrderWrong)

/-- 'saucierlaw26.QueueRoom': WHATEVER THE INPUT: true; the input reads as it did. -/
def queueRoomSpec : ChangeSpec := { name := "queueRoom", fn := fun _ => fun
  | [d1, d2, d3] => { results := [.lit (.bool true)], args := [d1, d2, d3] }
  | _ => none }
def queueRoomRow : OpenClaim := { program := "ytnhfholodillaaa", sum := "74c4985cff119d5572508f937086a3d8732cc77ed32c738ef4690df696059e49", func := "saucier/saucierlaw26.QueueRoom", spec := "queueRoom", apart := false }
def QueueRoomSaid : Prop := queueRoomRow.holds Try.pinned (OpenSpec.ofChange queueRoomSpec)

/-- ITS FALSE NEIGHBOUR: 'it returns false'. Refute it at one input. -/
def queueRoomWrong : ChangeSpec := { name := "queueRoom", fn := fun _ => fun
  | [d1, d2, d3] => { results := [.lit (.bool false)], args := [d1, d2, d3] }
  | _ => none }
def QueueRoomWrongFalsely : Prop := queueRoomRow.holds Try.pinned (OpenSpec.ofChange queueRoomWrong)

/-- 'saucierlaw26.QueueNone': WHATEVER THE INPUT: true; the input reads as it did. -/
def queueNoneSpec : ChangeSpec := { name := "queueNone", fn := fun _ => fun
  | [d1, d2] => { results := [.lit (.bool true)], args := [d1, d2] }
  | _ => none }
def queueNoneRow : OpenClaim := { program := "ytnhfholodillaaa", sum := "74c4985cff119d5572508f937086a3d8732cc77ed32c738ef4690df696059e49", func := "saucier/saucierlaw26.QueueNone", spec := "queueNone", apart := false }
def QueueNoneSaid : Prop := queueNoneRow.holds Try.pinned (OpenSpec.ofChange queueNoneSpec)

/-- ITS FALSE NEIGHBOUR: 'it returns false'. Refute it at one input. -/
def queueNoneWrong : ChangeSpec := { name := "queueNone", fn := fun _ => fun
  | [d1, d2] => { results := [.lit (.bool false)], args := [d1, d2] }
  | _ => none }
def QueueNoneWrongFalsely : Prop := queueNoneRow.holds Try.pinned (OpenSpec.ofChange queueNoneWrong)

/- THE SECOND FORM. 'bulk': how many values and letters a reading holds, each counted each time it is reached (what is shared counts as often as it is met; a slice's spare places count too). A statement '..UptoSaid' is the law's where the arguments, and the package variables that the reading takes, are together of bulk at most 1048576: NARROWER than '..Said'. Prove '..Said' where nothing that the law and all that it calls make is longer than what came in: it says more and counts as full. Else prove '..UptoSaid'. A law counts once. -/
mutual
def uptoBulk {H : Type} : DataW H → Nat
  | .lit (.string bytes) => bytes.length + 1
  | .lit _ => 1
  | .nil => 1
  | .ptr d => uptoBulk d + 1
  | .slice elems spare => uptoBulkAll elems + uptoBulkAll spare + 1
  | .agg parts => uptoBulkAll parts + 1
  | .iface _ d => uptoBulk d + 1
  | .map entries => uptoBulkEntries entries + 1
  | .held _ => 1
def uptoBulkAll {H : Type} : List (DataW H) → Nat
  | [] => 0
  | d :: r => uptoBulk d + uptoBulkAll r
def uptoBulkEntries {H : Type} : List (Lit × DataW H) → Nat
  | [] => 0
  | x :: r => uptoBulkEntry x + uptoBulkEntries r
def uptoBulkEntry {H : Type} : Lit × DataW H → Nat
  | (.string bytes, d) => bytes.length + uptoBulk d + 1
  | (_, d) => uptoBulk d + 1
 end
def uptoSmall : (H : Type) → List (DataW H) → Bool := fun _ ds => decide (uptoBulkAll ds ≤ 1048576)
def OpenSpec.upto (s : _root_.Go.ChangeSpec) : _root_.Go.OpenSpec := { _root_.Go.OpenSpec.ofChange s with cond := some uptoSmall }

/-- 'saucierlaw24.TxidRows', WHERE WHAT IT READS IS OF BULK AT MOST 1048576: true; the input reads as it did. -/
def txidRowsUptoRow : OpenClaim := { program := "ytnhfholodillaaa", sum := "74c4985cff119d5572508f937086a3d8732cc77ed32c738ef4690df696059e49", func := "saucier/saucierlaw24.TxidRows", spec := "txidRows", unfollowed := true, recurses := true, apart := false, narrowed := true }
def TxidRowsUptoSaid : Prop := txidRowsUptoRow.holds Try.pinned (OpenSpec.upto txidRowsSpec)

/-- 'saucierlaw18.LeaseTells', WHERE WHAT IT READS IS OF BULK AT MOST 1048576: true; the input reads as it did. -/
def leaseTellsUptoRow : OpenClaim := { program := "ytnhfholodillaaa", sum := "74c4985cff119d5572508f937086a3d8732cc77ed32c738ef4690df696059e49", func := "saucier/saucierlaw18.LeaseTells", spec := "leaseTells", apart := false, narrowed := true }
def LeaseTellsUptoSaid : Prop := leaseTellsUptoRow.holds Try.pinned (OpenSpec.upto leaseTellsSpec)

/-- 'saucierlaw18.LeaseOne', WHERE WHAT IT READS IS OF BULK AT MOST 1048576: true; the input reads as it did. -/
def leaseOneUptoRow : OpenClaim := { program := "ytnhfholodillaaa", sum := "74c4985cff119d5572508f937086a3d8732cc77ed32c738ef4690df696059e49", func := "saucier/saucierlaw18.LeaseOne", spec := "leaseOne", apart := false, narrowed := true }
def LeaseOneUptoSaid : Prop := leaseOneUptoRow.holds Try.pinned (OpenSpec.upto leaseOneSpec)

/-- 'saucierlaw18.LeaseEnds', WHERE WHAT IT READS IS OF BULK AT MOST 1048576: true; the input reads as it did. -/
def leaseEndsUptoRow : OpenClaim := { program := "ytnhfholodillaaa", sum := "74c4985cff119d5572508f937086a3d8732cc77ed32c738ef4690df696059e49", func := "saucier/saucierlaw18.LeaseEnds", spec := "leaseEnds", apart := false, narrowed := true }
def LeaseEndsUptoSaid : Prop := leaseEndsUptoRow.holds Try.pinned (OpenSpec.upto leaseEndsSpec)

/-- 'saucierlaw18.LeaseHolds', WHERE WHAT IT READS IS OF BULK AT MOST 1048576: true; the input reads as it did. -/
def leaseHoldsUptoRow : OpenClaim := { program := "ytnhfholodillaaa", sum := "74c4985cff119d5572508f937086a3d8732cc77ed32c738ef4690df696059e49", func := "saucier/saucierlaw18.LeaseHolds", spec := "leaseHolds", apart := false, narrowed := true }
def LeaseHoldsUptoSaid : Prop := leaseHoldsUptoRow.holds Try.pinned (OpenSpec.upto leaseHoldsSpec)

/-- 'saucierlaw18.LeaseOdd', WHERE WHAT IT READS IS OF BULK AT MOST 1048576: true; the input reads as it did. -/
def leaseOddUptoRow : OpenClaim := { program := "ytnhfholodillaaa", sum := "74c4985cff119d5572508f937086a3d8732cc77ed32c738ef4690df696059e49", func := "saucier/saucierlaw18.LeaseOdd", spec := "leaseOdd", apart := false, narrowed := true }
def LeaseOddUptoSaid : Prop := leaseOddUptoRow.holds Try.pinned (OpenSpec.upto leaseOddSpec)

/-- 'saucierlaw26.QueueOrder', WHERE WHAT IT READS IS OF BULK AT MOST 1048576: true; the input reads as it did. -/
def queueOrderUptoRow : OpenClaim := { program := "ytnhfholodillaaa", sum := "74c4985cff119d5572508f937086a3d8732cc77ed32c738ef4690df696059e49", func := "saucier/saucierlaw26.QueueOrder", spec := "queueOrder", apart := false, narrowed := true }
def QueueOrderUptoSaid : Prop := queueOrderUptoRow.holds Try.pinned (OpenSpec.upto queueOrderSpec)

/-- 'saucierlaw26.QueueRoom', WHERE WHAT IT READS IS OF BULK AT MOST 1048576: true; the input reads as it did. -/
def queueRoomUptoRow : OpenClaim := { program := "ytnhfholodillaaa", sum := "74c4985cff119d5572508f937086a3d8732cc77ed32c738ef4690df696059e49", func := "saucier/saucierlaw26.QueueRoom", spec := "queueRoom", apart := false, narrowed := true }
def QueueRoomUptoSaid : Prop := queueRoomUptoRow.holds Try.pinned (OpenSpec.upto queueRoomSpec)

/-- 'saucierlaw26.QueueNone', WHERE WHAT IT READS IS OF BULK AT MOST 1048576: true; the input reads as it did. -/
def queueNoneUptoRow : OpenClaim := { program := "ytnhfholodillaaa", sum := "74c4985cff119d5572508f937086a3d8732cc77ed32c738ef4690df696059e49", func := "saucier/saucierlaw26.QueueNone", spec := "queueNone", apart := false, narrowed := true }
def QueueNoneUptoSaid : Prop := queueNoneUptoRow.holds Try.pinned (OpenSpec.upto queueNoneSpec)

end Rows
end Go.Proofs.Ytnhfholodillaaa
