/-
  No cell of these rows narrows 'for every input' (looked for: loops, veiled, ifaces, maps, wideKeys, modest, calm, conditions, laid).
  DERIVED. THE GIVEN ROWS OF THIS SEAT. 12 by the template 'for every input the law returns true; each argument reads behind the call as it read before'; 0 by the template 'total and deterministic' (their statements: YthgaphfelpnclaaTotals.lean).
  GIVEN WITH THE SEED: the statements are not yours to turn. If you find one false, say at which input.
  Laid BY PROGRAM, IN A SANDBOX (cutbox-rows.mjs): the forced cells as the released guide's own fill.sh prints them over the translation 957ee586b599a57d… (all of the seat's roots in one cut). By AI agents, Wed Nov 11 2026. No macro, syntax, notation, axiom, sorry.
-/
import Derived.Test.YthgaphfelpnclaaChecked
import GoSem.Claim
import GoSem.ClaimJoined
import GoSem.ClaimMapViews
import Derived.JoinedTies
import Derived.KernelRfl
namespace Go.Proofs.Ythgaphfelpnclaa
/- THE CELL 'sum', in the pinned program and in every row, IS THE sha256 OF THE DUMP (.gsa) THAT YthgaphfelpnclaaProg.lean LOADS. Nothing in Lean hashes anything: it is a label: what it is worth is what the hold of that sum in a sandbox is worth. -/
noncomputable def Try.pinned : Pinned := { name := "ythgaphfelpnclaa", sum := "957ee586b599a57dfd1f9013f37f5c4a6ed4b5e8db7376e9f195b144f04b9a1f", checked := Try.checked }
namespace Rows
def none {H : Type} : Left H := { results := [], args := [] }

/-- 'saucierlaw10.NvlogBack': WHATEVER THE INPUT: true; the input reads as it did. -/
def nvlogBackSpec : ChangeSpec := { name := "nvlogBack", fn := fun _ => fun
  | [d1, d2, d3] => { results := [.lit (.bool true)], args := [d1, d2, d3] }
  | _ => none }
def nvlogBackRow : OpenClaim := { program := "ythgaphfelpnclaa", sum := "957ee586b599a57dfd1f9013f37f5c4a6ed4b5e8db7376e9f195b144f04b9a1f", func := "saucier/saucierlaw10.NvlogBack", spec := "nvlogBack", apart := false }
def NvlogBackSaid : Prop := nvlogBackRow.holds Try.pinned (OpenSpec.ofChange nvlogBackSpec)

/-- ITS FALSE NEIGHBOUR: 'it returns false'. Refute it at one input. -/
def nvlogBackWrong : ChangeSpec := { name := "nvlogBack", fn := fun _ => fun
  | [d1, d2, d3] => { results := [.lit (.bool false)], args := [d1, d2, d3] }
  | _ => none }
def NvlogBackWrongFalsely : Prop := nvlogBackRow.holds Try.pinned (OpenSpec.ofChange nvlogBackWrong)

/-- 'saucierlaw10.NvlogBursts': WHATEVER THE INPUT: true; the input reads as it did. -/
def nvlogBurstsSpec : ChangeSpec := { name := "nvlogBursts", fn := fun _ => fun
  | [d1, d2, d3] => { results := [.lit (.bool true)], args := [d1, d2, d3] }
  | _ => none }
def nvlogBurstsRow : OpenClaim := { program := "ythgaphfelpnclaa", sum := "957ee586b599a57dfd1f9013f37f5c4a6ed4b5e8db7376e9f195b144f04b9a1f", func := "saucier/saucierlaw10.NvlogBursts", spec := "nvlogBursts", apart := false }
def NvlogBurstsSaid : Prop := nvlogBurstsRow.holds Try.pinned (OpenSpec.ofChange nvlogBurstsSpec)

/-- ITS FALSE NEIGHBOUR: 'it returns false'. Refute it at one input. -/
def nvlogBurstsWrong : ChangeSpec := { name := "nvlogBursts", fn := fun _ => fun
  | [d1, d2, d3] => { results := [.lit (.bool false)], args := [d1, d2, d3] }
  | _ => none }
def NvlogBurstsWrongFalsely : Prop := nvlogBurstsRow.holds Try.pinned (OpenSpec.ofChange nvlogBurstsWrong)

/-- 'saucierlaw09.DiskApart': WHATEVER THE INPUT: true; the input reads as it did. -/
def diskApartSpec : ChangeSpec := { name := "diskApart", fn := fun _ => fun
  | [d] => { results := [.lit (.bool true)], args := [d] }
  | _ => none }
def diskApartRow : OpenClaim := { program := "ythgaphfelpnclaa", sum := "957ee586b599a57dfd1f9013f37f5c4a6ed4b5e8db7376e9f195b144f04b9a1f", func := "saucier/saucierlaw09.DiskApart", spec := "diskApart", unfollowed := true, recurses := true, apart := false }
def DiskApartSaid : Prop := diskApartRow.holds Try.pinned (OpenSpec.ofChange diskApartSpec)

/-- ITS FALSE NEIGHBOUR: 'it returns false'. Refute it at one input. -/
def diskApartWrong : ChangeSpec := { name := "diskApart", fn := fun _ => fun
  | [d] => { results := [.lit (.bool false)], args := [d] }
  | _ => none }
def DiskApartWrongFalsely : Prop := diskApartRow.holds Try.pinned (OpenSpec.ofChange diskApartWrong)

/-- 'saucierlaw09.DiskSparks': WHATEVER THE INPUT: true; the input reads as it did. -/
def diskSparksSpec : ChangeSpec := { name := "diskSparks", fn := fun _ => fun
  | [d1, d2] => { results := [.lit (.bool true)], args := [d1, d2] }
  | _ => none }
def diskSparksRow : OpenClaim := { program := "ythgaphfelpnclaa", sum := "957ee586b599a57dfd1f9013f37f5c4a6ed4b5e8db7376e9f195b144f04b9a1f", func := "saucier/saucierlaw09.DiskSparks", spec := "diskSparks", unfollowed := true, recurses := true, apart := false }
def DiskSparksSaid : Prop := diskSparksRow.holds Try.pinned (OpenSpec.ofChange diskSparksSpec)

/-- ITS FALSE NEIGHBOUR: 'it returns false'. Refute it at one input. -/
def diskSparksWrong : ChangeSpec := { name := "diskSparks", fn := fun _ => fun
  | [d1, d2] => { results := [.lit (.bool false)], args := [d1, d2] }
  | _ => none }
def DiskSparksWrongFalsely : Prop := diskSparksRow.holds Try.pinned (OpenSpec.ofChange diskSparksWrong)

/-- 'saucierlaw09.DiskTells': WHATEVER THE INPUT: true; the input reads as it did. -/
def diskTellsSpec : ChangeSpec := { name := "diskTells", fn := fun _ => fun
  | [d1, d2] => { results := [.lit (.bool true)], args := [d1, d2] }
  | _ => none }
def diskTellsRow : OpenClaim := { program := "ythgaphfelpnclaa", sum := "957ee586b599a57dfd1f9013f37f5c4a6ed4b5e8db7376e9f195b144f04b9a1f", func := "saucier/saucierlaw09.DiskTells", spec := "diskTells", unfollowed := true, recurses := true, apart := false }
def DiskTellsSaid : Prop := diskTellsRow.holds Try.pinned (OpenSpec.ofChange diskTellsSpec)

/-- ITS FALSE NEIGHBOUR: 'it returns false'. Refute it at one input. -/
def diskTellsWrong : ChangeSpec := { name := "diskTells", fn := fun _ => fun
  | [d1, d2] => { results := [.lit (.bool false)], args := [d1, d2] }
  | _ => none }
def DiskTellsWrongFalsely : Prop := diskTellsRow.holds Try.pinned (OpenSpec.ofChange diskTellsWrong)

/-- 'saucierlaw09.DiskKeeps': WHATEVER THE INPUT: true; the input reads as it did. -/
def diskKeepsSpec : ChangeSpec := { name := "diskKeeps", fn := fun _ => fun
  | [d1, d2] => { results := [.lit (.bool true)], args := [d1, d2] }
  | _ => none }
def diskKeepsRow : OpenClaim := { program := "ythgaphfelpnclaa", sum := "957ee586b599a57dfd1f9013f37f5c4a6ed4b5e8db7376e9f195b144f04b9a1f", func := "saucier/saucierlaw09.DiskKeeps", spec := "diskKeeps", unfollowed := true, recurses := true, apart := false }
def DiskKeepsSaid : Prop := diskKeepsRow.holds Try.pinned (OpenSpec.ofChange diskKeepsSpec)

/-- ITS FALSE NEIGHBOUR: 'it returns false'. Refute it at one input. -/
def diskKeepsWrong : ChangeSpec := { name := "diskKeeps", fn := fun _ => fun
  | [d1, d2] => { results := [.lit (.bool false)], args := [d1, d2] }
  | _ => none }
def DiskKeepsWrongFalsely : Prop := diskKeepsRow.holds Try.pinned (OpenSpec.ofChange diskKeepsWrong)

/-- 'saucierlaw09.DiskNone': WHATEVER THE INPUT: true; the input reads as it did. -/
def diskNoneSpec : ChangeSpec := { name := "diskNone", fn := fun _ => fun
  | [d] => { results := [.lit (.bool true)], args := [d] }
  | _ => none }
def diskNoneRow : OpenClaim := { program := "ythgaphfelpnclaa", sum := "957ee586b599a57dfd1f9013f37f5c4a6ed4b5e8db7376e9f195b144f04b9a1f", func := "saucier/saucierlaw09.DiskNone", spec := "diskNone", unfollowed := true, recurses := true, apart := false }
def DiskNoneSaid : Prop := diskNoneRow.holds Try.pinned (OpenSpec.ofChange diskNoneSpec)

/-- ITS FALSE NEIGHBOUR: 'it returns false'. Refute it at one input. -/
def diskNoneWrong : ChangeSpec := { name := "diskNone", fn := fun _ => fun
  | [d] => { results := [.lit (.bool false)], args := [d] }
  | _ => none }
def DiskNoneWrongFalsely : Prop := diskNoneRow.holds Try.pinned (OpenSpec.ofChange diskNoneWrong)

/-- 'saucierlaw10.NvlogKeeps': WHATEVER THE INPUT: true; the input reads as it did. -/
def nvlogKeepsSpec : ChangeSpec := { name := "nvlogKeeps", fn := fun _ => fun
  | [d] => { results := [.lit (.bool true)], args := [d] }
  | _ => none }
def nvlogKeepsRow : OpenClaim := { program := "ythgaphfelpnclaa", sum := "957ee586b599a57dfd1f9013f37f5c4a6ed4b5e8db7376e9f195b144f04b9a1f", func := "saucier/saucierlaw10.NvlogKeeps", spec := "nvlogKeeps", unfollowed := true, recurses := true, apart := false }
def NvlogKeepsSaid : Prop := nvlogKeepsRow.holds Try.pinned (OpenSpec.ofChange nvlogKeepsSpec)

/-- ITS FALSE NEIGHBOUR: 'it returns false'. Refute it at one input. -/
def nvlogKeepsWrong : ChangeSpec := { name := "nvlogKeeps", fn := fun _ => fun
  | [d] => { results := [.lit (.bool false)], args := [d] }
  | _ => none }
def NvlogKeepsWrongFalsely : Prop := nvlogKeepsRow.holds Try.pinned (OpenSpec.ofChange nvlogKeepsWrong)

/-- 'saucierlaw10.NvlogNone': WHATEVER THE INPUT: true; the input reads as it did. -/
def nvlogNoneSpec : ChangeSpec := { name := "nvlogNone", fn := fun _ => fun
  | [d] => { results := [.lit (.bool true)], args := [d] }
  | _ => none }
def nvlogNoneRow : OpenClaim := { program := "ythgaphfelpnclaa", sum := "957ee586b599a57dfd1f9013f37f5c4a6ed4b5e8db7376e9f195b144f04b9a1f", func := "saucier/saucierlaw10.NvlogNone", spec := "nvlogNone", unfollowed := true, recurses := true, apart := false }
def NvlogNoneSaid : Prop := nvlogNoneRow.holds Try.pinned (OpenSpec.ofChange nvlogNoneSpec)

/-- ITS FALSE NEIGHBOUR: 'it returns false'. Refute it at one input. -/
def nvlogNoneWrong : ChangeSpec := { name := "nvlogNone", fn := fun _ => fun
  | [d] => { results := [.lit (.bool false)], args := [d] }
  | _ => none }
def NvlogNoneWrongFalsely : Prop := nvlogNoneRow.holds Try.pinned (OpenSpec.ofChange nvlogNoneWrong)

/-- 'saucierlaw10.NvlogFull': WHATEVER THE INPUT: true; the input reads as it did. -/
def nvlogFullSpec : ChangeSpec := { name := "nvlogFull", fn := fun _ => fun
  | [d1, d2] => { results := [.lit (.bool true)], args := [d1, d2] }
  | _ => none }
def nvlogFullRow : OpenClaim := { program := "ythgaphfelpnclaa", sum := "957ee586b599a57dfd1f9013f37f5c4a6ed4b5e8db7376e9f195b144f04b9a1f", func := "saucier/saucierlaw10.NvlogFull", spec := "nvlogFull", unfollowed := true, recurses := true, apart := false }
def NvlogFullSaid : Prop := nvlogFullRow.holds Try.pinned (OpenSpec.ofChange nvlogFullSpec)

/-- ITS FALSE NEIGHBOUR: 'it returns false'. Refute it at one input. -/
def nvlogFullWrong : ChangeSpec := { name := "nvlogFull", fn := fun _ => fun
  | [d1, d2] => { results := [.lit (.bool false)], args := [d1, d2] }
  | _ => none }
def NvlogFullWrongFalsely : Prop := nvlogFullRow.holds Try.pinned (OpenSpec.ofChange nvlogFullWrong)

/-- 'saucierlaw10.NvlogTells': WHATEVER THE INPUT: true; the input reads as it did. -/
def nvlogTellsSpec : ChangeSpec := { name := "nvlogTells", fn := fun _ => fun
  | [d1, d2, d3, d4] => { results := [.lit (.bool true)], args := [d1, d2, d3, d4] }
  | _ => none }
def nvlogTellsRow : OpenClaim := { program := "ythgaphfelpnclaa", sum := "957ee586b599a57dfd1f9013f37f5c4a6ed4b5e8db7376e9f195b144f04b9a1f", func := "saucier/saucierlaw10.NvlogTells", spec := "nvlogTells", unfollowed := true, recurses := true, apart := false }
def NvlogTellsSaid : Prop := nvlogTellsRow.holds Try.pinned (OpenSpec.ofChange nvlogTellsSpec)

/-- ITS FALSE NEIGHBOUR: 'it returns false'. Refute it at one input. -/
def nvlogTellsWrong : ChangeSpec := { name := "nvlogTells", fn := fun _ => fun
  | [d1, d2, d3, d4] => { results := [.lit (.bool false)], args := [d1, d2, d3, d4] }
  | _ => none }
def NvlogTellsWrongFalsely : Prop := nvlogTellsRow.holds Try.pinned (OpenSpec.ofChange nvlogTellsWrong)

/-- 'saucierlaw24.TxidOnce': WHATEVER THE INPUT: true; the input reads as it did. -/
def txidOnceSpec : ChangeSpec := { name := "txidOnce", fn := fun _ => fun
  | [d1, d2] => { results := [.lit (.bool true)], args := [d1, d2] }
  | _ => none }
def txidOnceRow : OpenClaim := { program := "ythgaphfelpnclaa", sum := "957ee586b599a57dfd1f9013f37f5c4a6ed4b5e8db7376e9f195b144f04b9a1f", func := "saucier/saucierlaw24.TxidOnce", spec := "txidOnce", unfollowed := true, recurses := true, apart := false }
def TxidOnceSaid : Prop := txidOnceRow.holds Try.pinned (OpenSpec.ofChange txidOnceSpec)

/-- ITS FALSE NEIGHBOUR: 'it returns false'. Refute it at one input. -/
def txidOnceWrong : ChangeSpec := { name := "txidOnce", fn := fun _ => fun
  | [d1, d2] => { results := [.lit (.bool false)], args := [d1, d2] }
  | _ => none }
def TxidOnceWrongFalsely : Prop := txidOnceRow.holds Try.pinned (OpenSpec.ofChange txidOnceWrong)

/- THE SECOND FORM. 'bulk': how many values and letters a reading holds, each counted each time it is reached (what is shared counts as often as it is met; a slice's spare places count too). A statement '..UptoSaid' is the law's where the arguments, and the package variables that the reading takes, are together of bulk at most 1048576: NARROWER than '..Said'. Prove '..Said' where nothing that the law and all that it calls make is longer than what came in: it says more and counts as full. Else prove '..UptoSaid'. A law counts once. -/
mutual
def uptoBulk {H : Type} : DataW H → Nat
  | .lit (.string bytes) => bytes.length + 1
  | .lit _ => 1
  | .nil => 1
  | .ptr d => uptoBulk d + 1
  | .slice elems spare => uptoBulkAll elems + uptoBulkAll spare + 1
  | .agg parts => uptoBulkAll parts + 1
  | .iface _ d => uptoBulk d + 1
  | .map entries => uptoBulkEntries entries + 1
  | .held _ => 1
def uptoBulkAll {H : Type} : List (DataW H) → Nat
  | [] => 0
  | d :: r => uptoBulk d + uptoBulkAll r
def uptoBulkEntries {H : Type} : List (Lit × DataW H) → Nat
  | [] => 0
  | x :: r => uptoBulkEntry x + uptoBulkEntries r
def uptoBulkEntry {H : Type} : Lit × DataW H → Nat
  | (.string bytes, d) => bytes.length + uptoBulk d + 1
  | (_, d) => uptoBulk d + 1
 end
def uptoSmall : (H : Type) → List (DataW H) → Bool := fun _ ds => decide (uptoBulkAll ds ≤ 1048576)
def OpenSpec.upto (s : _root_.Go.ChangeSpec) : _root_.Go.OpenSpec := { _root_.Go.OpenSpec.ofChange s with cond := some uptoSmall }

/-- 'saucierlaw10.NvlogBack', WHERE WHAT IT READS IS OF BULK AT MOST 1048576: true; the input reads as it did. -/
def nvlogBackUptoRow : OpenClaim := { program := "ythgaphfelpnclaa", sum := "957ee586b599a57dfd1f9013f37f5c4a6ed4b5e8db7376e9f195b144f04b9a1f", func := "saucier/saucierlaw10.NvlogBack", spec := "nvlogBack", apart := false, narrowed := true }
def NvlogBackUptoSaid : Prop := nvlogBackUptoRow.holds Try.pinned (OpenSpec.upto nvlogBackSpec)

/-- 'saucierlaw10.NvlogBursts', WHERE WHAT IT READS IS OF BULK AT MOST 1048576: true; the input reads as it did. -/
def nvlogBurstsUptoRow : OpenClaim := { program := "ythgaphfelpnclaa", sum := "957ee586b599a57dfd1f9013f37f5c4a6ed4b5e8db7376e9f195b144f04b9a1f", func := "saucier/saucierlaw10.NvlogBursts", spec := "nvlogBursts", apart := false, narrowed := true }
def NvlogBurstsUptoSaid : Prop := nvlogBurstsUptoRow.holds Try.pinned (OpenSpec.upto nvlogBurstsSpec)

/-- 'saucierlaw09.DiskApart', WHERE WHAT IT READS IS OF BULK AT MOST 1048576: true; the input reads as it did. -/
def diskApartUptoRow : OpenClaim := { program := "ythgaphfelpnclaa", sum := "957ee586b599a57dfd1f9013f37f5c4a6ed4b5e8db7376e9f195b144f04b9a1f", func := "saucier/saucierlaw09.DiskApart", spec := "diskApart", unfollowed := true, recurses := true, apart := false, narrowed := true }
def DiskApartUptoSaid : Prop := diskApartUptoRow.holds Try.pinned (OpenSpec.upto diskApartSpec)

/-- 'saucierlaw09.DiskSparks', WHERE WHAT IT READS IS OF BULK AT MOST 1048576: true; the input reads as it did. -/
def diskSparksUptoRow : OpenClaim := { program := "ythgaphfelpnclaa", sum := "957ee586b599a57dfd1f9013f37f5c4a6ed4b5e8db7376e9f195b144f04b9a1f", func := "saucier/saucierlaw09.DiskSparks", spec := "diskSparks", unfollowed := true, recurses := true, apart := false, narrowed := true }
def DiskSparksUptoSaid : Prop := diskSparksUptoRow.holds Try.pinned (OpenSpec.upto diskSparksSpec)

/-- 'saucierlaw09.DiskTells', WHERE WHAT IT READS IS OF BULK AT MOST 1048576: true; the input reads as it did. -/
def diskTellsUptoRow : OpenClaim := { program := "ythgaphfelpnclaa", sum := "957ee586b599a57dfd1f9013f37f5c4a6ed4b5e8db7376e9f195b144f04b9a1f", func := "saucier/saucierlaw09.DiskTells", spec := "diskTells", unfollowed := true, recurses := true, apart := false, narrowed := true }
def DiskTellsUptoSaid : Prop := diskTellsUptoRow.holds Try.pinned (OpenSpec.upto diskTellsSpec)

/-- 'saucierlaw09.DiskKeeps', WHERE WHAT IT READS IS OF BULK AT MOST 1048576: true; the input reads as it did. -/
def diskKeepsUptoRow : OpenClaim := { program := "ythgaphfelpnclaa", sum := "957ee586b599a57dfd1f9013f37f5c4a6ed4b5e8db7376e9f195b144f04b9a1f", func := "saucier/saucierlaw09.DiskKeeps", spec := "diskKeeps", unfollowed := true, recurses := true, apart := false, narrowed := true }
def DiskKeepsUptoSaid : Prop := diskKeepsUptoRow.holds Try.pinned (OpenSpec.upto diskKeepsSpec)

/-- 'saucierlaw09.DiskNone', WHERE WHAT IT READS IS OF BULK AT MOST 1048576: true; the input reads as it did. -/
def diskNoneUptoRow : OpenClaim := { program := "ythgaphfelpnclaa", sum := "957ee586b599a57dfd1f9013f37f5c4a6ed4b5e8db7376e9f195b144f04b9a1f", func := "saucier/saucierlaw09.DiskNone", spec := "diskNone", unfollowed := true, recurses := true, apart := false, narrowed := true }
def DiskNoneUptoSaid : Prop := diskNoneUptoRow.holds Try.pinned (OpenSpec.upto diskNoneSpec)

/-- 'saucierlaw10.NvlogKeeps', WHERE WHAT IT READS IS OF BULK AT MOST 1048576: true; the input reads as it did. -/
def nvlogKeepsUptoRow : OpenClaim := { program := "ythgaphfelpnclaa", sum := "957ee586b599a57dfd1f9013f37f5c4a6ed4b5e8db7376e9f195b144f04b9a1f", func := "saucier/saucierlaw10.NvlogKeeps", spec := "nvlogKeeps", unfollowed := true, recurses := true, apart := false, narrowed := true }
def NvlogKeepsUptoSaid : Prop := nvlogKeepsUptoRow.holds Try.pinned (OpenSpec.upto nvlogKeepsSpec)

/-- 'saucierlaw10.NvlogNone', WHERE WHAT IT READS IS OF BULK AT MOST 1048576: true; the input reads as it did. -/
def nvlogNoneUptoRow : OpenClaim := { program := "ythgaphfelpnclaa", sum := "957ee586b599a57dfd1f9013f37f5c4a6ed4b5e8db7376e9f195b144f04b9a1f", func := "saucier/saucierlaw10.NvlogNone", spec := "nvlogNone", unfollowed := true, recurses := true, apart := false, narrowed := true }
def NvlogNoneUptoSaid : Prop := nvlogNoneUptoRow.holds Try.pinned (OpenSpec.upto nvlogNoneSpec)

/-- 'saucierlaw10.NvlogFull', WHERE WHAT IT READS IS OF BULK AT MOST 1048576: true; the input reads as it did. -/
def nvlogFullUptoRow : OpenClaim := { program := "ythgaphfelpnclaa", sum := "957ee586b599a57dfd1f9013f37f5c4a6ed4b5e8db7376e9f195b144f04b9a1f", func := "saucier/saucierlaw10.NvlogFull", spec := "nvlogFull", unfollowed := true, recurses := true, apart := false, narrowed := true }
def NvlogFullUptoSaid : Prop := nvlogFullUptoRow.holds Try.pinned (OpenSpec.upto nvlogFullSpec)

/-- 'saucierlaw10.NvlogTells', WHERE WHAT IT READS IS OF BULK AT MOST 1048576: true; the input reads as it did. -/
def nvlogTellsUptoRow : OpenClaim := { program := "ythgaphfelpnclaa", sum := "957ee586b599a57dfd1f9013f37f5c4a6ed4b5e8db7376e9f195b144f04b9a1f", func := "saucier/saucierlaw10.NvlogTells", spec := "nvlogTells", unfollowed := true, recurses := true, apart := false, narrowed := true }
def NvlogTellsUptoSaid : Prop := nvlogTellsUptoRow.holds Try.pinned (OpenSpec.upto nvlogTellsSpec)

/-- 'saucierlaw24.TxidOnce', WHERE WHAT IT READS IS OF BULK AT MOST 1048576: true; the input reads as it did. -/
def txidOnceUptoRow : OpenClaim := { program := "ythgaphfelpnclaa", sum := "957ee586b599a57dfd1f9013f37f5c4a6ed4b5e8db7376e9f195b144f04b9a1f", func := "saucier/saucierlaw24.TxidOnce", spec := "txidOnce", unfollowed := true, recurses := true, apart := false, narrowed := true }
def TxidOnceUptoSaid : Prop := txidOnceUptoRow.holds Try.pinned (OpenSpec.upto txidOnceSpec)

end Rows
end Go.Proofs.Ythgaphfelpnclaa
