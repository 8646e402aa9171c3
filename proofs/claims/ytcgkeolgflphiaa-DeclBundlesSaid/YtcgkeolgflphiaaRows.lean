/-
  NARROWER THAN 'FOR EVERY INPUT', by the rows' own cells (each row's printed sentence says how): DeclMay: loops · DeclTurned: loops · DeclBundles: loops · DeclBack: loops · DeclRows: loops.
  DERIVED. THE GIVEN ROWS OF THIS SEAT. 8 by the template 'for every input the law returns true; each argument reads behind the call as it read before'; 0 by the template 'total and deterministic' (their statements: YtcgkeolgflphiaaTotals.lean).
  GIVEN WITH THE SEED: the statements are not yours to turn. If you find one false, say at which input.
  Laid BY PROGRAM, IN A SANDBOX (cutbox-rows.mjs): the forced cells as the released guide's own fill.sh prints them over the translation bf567433cd832101… (all of the seat's roots in one cut). By AI agents, Wed Nov 11 2026. No macro, syntax, notation, axiom, sorry.
-/
import Derived.Test.YtcgkeolgflphiaaChecked
import GoSem.Claim
import GoSem.ClaimJoined
import GoSem.ClaimMapViews
import Derived.JoinedTies
import Derived.KernelRfl
namespace Go.Proofs.Ytcgkeolgflphiaa
/- THE CELL 'sum', in the pinned program and in every row, IS THE sha256 OF THE DUMP (.gsa) THAT YtcgkeolgflphiaaProg.lean LOADS. Nothing in Lean hashes anything: it is a label: what it is worth is what the hold of that sum in a sandbox is worth. -/
noncomputable def Try.pinned : Pinned := { name := "ytcgkeolgflphiaa", sum := "bf567433cd8321018326a9642876b3b7d28c54b9f105f5a492d0d8c2477f0d53", checked := Try.checked }
namespace Rows
def none {H : Type} : Left H := { results := [], args := [] }

/-- 'assizelaw9.DeclMay': WHATEVER THE INPUT: true; the input reads as it did. -/
def declMaySpec : ChangeSpec := { name := "declMay", fn := fun _ => fun
  | [d] => { results := [.lit (.bool true)], args := [d] }
  | _ => none }
def declMayRow : OpenClaim := { program := "ytcgkeolgflphiaa", sum := "bf567433cd8321018326a9642876b3b7d28c54b9f105f5a492d0d8c2477f0d53", func := "assize/assizelaw9.DeclMay", spec := "declMay", unfollowed := true, recurses := true, loops := true, apart := false }
def DeclMaySaid : Prop := declMayRow.holds Try.pinned (OpenSpec.ofChange declMaySpec)

/-- ITS FALSE NEIGHBOUR: 'it returns false'. Refute it at one input. -/
def declMayWrong : ChangeSpec := { name := "declMay", fn := fun _ => fun
  | [d] => { results := [.lit (.bool false)], args := [d] }
  | _ => none }
def DeclMayWrongFalsely : Prop := declMayRow.holds Try.pinned (OpenSpec.ofChange declMayWrong)

/-- 'assizelaw9.DeclMany': WHATEVER THE INPUT: true; the input reads as it did. -/
def declManySpec : ChangeSpec := { name := "declMany", fn := fun _ => fun
  | [d1, d2] => { results := [.lit (.bool true)], args := [d1, d2] }
  | _ => none }
def declManyRow : OpenClaim := { program := "ytcgkeolgflphiaa", sum := "bf567433cd8321018326a9642876b3b7d28c54b9f105f5a492d0d8c2477f0d53", func := "assize/assizelaw9.DeclMany", spec := "declMany", unfollowed := true, recurses := true, apart := false }
def DeclManySaid : Prop := declManyRow.holds Try.pinned (OpenSpec.ofChange declManySpec)

/-- ITS FALSE NEIGHBOUR: 'it returns false'. Refute it at one input. -/
def declManyWrong : ChangeSpec := { name := "declMany", fn := fun _ => fun
  | [d1, d2] => { results := [.lit (.bool false)], args := [d1, d2] }
  | _ => none }
def DeclManyWrongFalsely : Prop := declManyRow.holds Try.pinned (OpenSpec.ofChange declManyWrong)

/-- 'assizelaw9.DeclDecodes': WHATEVER THE INPUT: true; the input reads as it did. -/
def declDecodesSpec : ChangeSpec := { name := "declDecodes", fn := fun _ => fun
  | [d] => { results := [.lit (.bool true)], args := [d] }
  | _ => none }
def declDecodesRow : OpenClaim := { program := "ytcgkeolgflphiaa", sum := "bf567433cd8321018326a9642876b3b7d28c54b9f105f5a492d0d8c2477f0d53", func := "assize/assizelaw9.DeclDecodes", spec := "declDecodes", unfollowed := true, recurses := true, apart := false }
def DeclDecodesSaid : Prop := declDecodesRow.holds Try.pinned (OpenSpec.ofChange declDecodesSpec)

/-- ITS FALSE NEIGHBOUR: 'it returns false'. Refute it at one input. -/
def declDecodesWrong : ChangeSpec := { name := "declDecodes", fn := fun _ => fun
  | [d] => { results := [.lit (.bool false)], args := [d] }
  | _ => none }
def DeclDecodesWrongFalsely : Prop := declDecodesRow.holds Try.pinned (OpenSpec.ofChange declDecodesWrong)

/-- 'assizelaw9.DeclTurned': WHATEVER THE INPUT: true; the input reads as it did. -/
def declTurnedSpec : ChangeSpec := { name := "declTurned", fn := fun _ => fun
  | [d1, d2, d3, d4, d5] => { results := [.lit (.bool true)], args := [d1, d2, d3, d4, d5] }
  | _ => none }
def declTurnedRow : OpenClaim := { program := "ytcgkeolgflphiaa", sum := "bf567433cd8321018326a9642876b3b7d28c54b9f105f5a492d0d8c2477f0d53", func := "assize/assizelaw9.DeclTurned", spec := "declTurned", unfollowed := true, recurses := true, loops := true, apart := false }
def DeclTurnedSaid : Prop := declTurnedRow.holds Try.pinned (OpenSpec.ofChange declTurnedSpec)

/-- ITS FALSE NEIGHBOUR: 'it returns false'. Refute it at one input. -/
def declTurnedWrong : ChangeSpec := { name := "declTurned", fn := fun _ => fun
  | [d1, d2, d3, d4, d5] => { results := [.lit (.bool false)], args := [d1, d2, d3, d4, d5] }
  | _ => none }
def DeclTurnedWrongFalsely : Prop := declTurnedRow.holds Try.pinned (OpenSpec.ofChange declTurnedWrong)

/-- 'assizelaw9.DeclBundles': WHATEVER THE INPUT: true; the input reads as it did. -/
def declBundlesSpec : ChangeSpec := { name := "declBundles", fn := fun _ => fun
  | [d1, d2] => { results := [.lit (.bool true)], args := [d1, d2] }
  | _ => none }
def declBundlesRow : OpenClaim := { program := "ytcgkeolgflphiaa", sum := "bf567433cd8321018326a9642876b3b7d28c54b9f105f5a492d0d8c2477f0d53", func := "assize/assizelaw9.DeclBundles", spec := "declBundles", unfollowed := true, recurses := true, loops := true, apart := false }
def DeclBundlesSaid : Prop := declBundlesRow.holds Try.pinned (OpenSpec.ofChange declBundlesSpec)

/-- ITS FALSE NEIGHBOUR: 'it returns false'. Refute it at one input. -/
def declBundlesWrong : ChangeSpec := { name := "declBundles", fn := fun _ => fun
  | [d1, d2] => { results := [.lit (.bool false)], args := [d1, d2] }
  | _ => none }
def DeclBundlesWrongFalsely : Prop := declBundlesRow.holds Try.pinned (OpenSpec.ofChange declBundlesWrong)

/-- 'assizelaw9.DeclUnique': WHATEVER THE INPUT: true; the input reads as it did. -/
def declUniqueSpec : ChangeSpec := { name := "declUnique", fn := fun _ => fun
  | [d] => { results := [.lit (.bool true)], args := [d] }
  | _ => none }
def declUniqueRow : OpenClaim := { program := "ytcgkeolgflphiaa", sum := "bf567433cd8321018326a9642876b3b7d28c54b9f105f5a492d0d8c2477f0d53", func := "assize/assizelaw9.DeclUnique", spec := "declUnique", unfollowed := true, recurses := true, apart := false }
def DeclUniqueSaid : Prop := declUniqueRow.holds Try.pinned (OpenSpec.ofChange declUniqueSpec)

/-- ITS FALSE NEIGHBOUR: 'it returns false'. Refute it at one input. -/
def declUniqueWrong : ChangeSpec := { name := "declUnique", fn := fun _ => fun
  | [d] => { results := [.lit (.bool false)], args := [d] }
  | _ => none }
def DeclUniqueWrongFalsely : Prop := declUniqueRow.holds Try.pinned (OpenSpec.ofChange declUniqueWrong)

/-- 'assizelaw9.DeclBack': WHATEVER THE INPUT: true; the input reads as it did. -/
def declBackSpec : ChangeSpec := { name := "declBack", fn := fun _ => fun
  | [d1, d2, d3] => { results := [.lit (.bool true)], args := [d1, d2, d3] }
  | _ => none }
def declBackRow : OpenClaim := { program := "ytcgkeolgflphiaa", sum := "bf567433cd8321018326a9642876b3b7d28c54b9f105f5a492d0d8c2477f0d53", func := "assize/assizelaw9.DeclBack", spec := "declBack", unfollowed := true, recurses := true, loops := true, apart := false }
def DeclBackSaid : Prop := declBackRow.holds Try.pinned (OpenSpec.ofChange declBackSpec)

/-- ITS FALSE NEIGHBOUR: 'it returns false'. Refute it at one input. -/
def declBackWrong : ChangeSpec := { name := "declBack", fn := fun _ => fun
  | [d1, d2, d3] => { results := [.lit (.bool false)], args := [d1, d2, d3] }
  | _ => none }
def DeclBackWrongFalsely : Prop := declBackRow.holds Try.pinned (OpenSpec.ofChange declBackWrong)

/-- 'assizelaw9.DeclRows': WHATEVER THE INPUT: true; the input reads as it did. -/
def declRowsSpec : ChangeSpec := { name := "declRows", fn := fun _ => fun
  | [d1, d2] => { results := [.lit (.bool true)], args := [d1, d2] }
  | _ => none }
def declRowsRow : OpenClaim := { program := "ytcgkeolgflphiaa", sum := "bf567433cd8321018326a9642876b3b7d28c54b9f105f5a492d0d8c2477f0d53", func := "assize/assizelaw9.DeclRows", spec := "declRows", unfollowed := true, recurses := true, loops := true, apart := false }
def DeclRowsSaid : Prop := declRowsRow.holds Try.pinned (OpenSpec.ofChange declRowsSpec)

/-- ITS FALSE NEIGHBOUR: 'it returns false'. Refute it at one input. -/
def declRowsWrong : ChangeSpec := { name := "declRows", fn := fun _ => fun
  | [d1, d2] => { results := [.lit (.bool false)], args := [d1, d2] }
  | _ => none }
def DeclRowsWrongFalsely : Prop := declRowsRow.holds Try.pinned (OpenSpec.ofChange declRowsWrong)

/- THE SECOND FORM. 'bulk': how many values and letters a reading holds, each counted each time it is reached (what is shared counts as often as it is met; a slice's spare places count too). A statement '..UptoSaid' is the law's where the arguments, and the package variables that the reading takes, are together of bulk at most 1048576: NARROWER than '..Said'. Prove '..Said' where nothing that the law and all that it calls make is longer than what came in: it says more and counts as full. Else prove '..UptoSaid'. A law counts once. -/
mutual
def uptoBulk {H : Type} : DataW H → Nat
  | .lit (.string bytes) => bytes.length + 1
  | .lit _ => 1
  | .nil => 1
  | .ptr d => uptoBulk d + 1
  | .slice elems spare => uptoBulkAll elems + uptoBulkAll spare + 1
  | .agg parts => uptoBulkAll parts + 1
  | .iface _ d => uptoBulk d + 1
  | .map entries => uptoBulkEntries entries + 1
  | .held _ => 1
def uptoBulkAll {H : Type} : List (DataW H) → Nat
  | [] => 0
  | d :: r => uptoBulk d + uptoBulkAll r
def uptoBulkEntries {H : Type} : List (Lit × DataW H) → Nat
  | [] => 0
  | x :: r => uptoBulkEntry x + uptoBulkEntries r
def uptoBulkEntry {H : Type} : Lit × DataW H → Nat
  | (.string bytes, d) => bytes.length + uptoBulk d + 1
  | (_, d) => uptoBulk d + 1
 end
def uptoSmall : (H : Type) → List (DataW H) → Bool := fun _ ds => decide (uptoBulkAll ds ≤ 1048576)
def OpenSpec.upto (s : _root_.Go.ChangeSpec) : _root_.Go.OpenSpec := { _root_.Go.OpenSpec.ofChange s with cond := some uptoSmall }

/-- 'assizelaw9.DeclMay', WHERE WHAT IT READS IS OF BULK AT MOST 1048576: true; the input reads as it did. -/
def declMayUptoRow : OpenClaim := { program := "ytcgkeolgflphiaa", sum := "bf567433cd8321018326a9642876b3b7d28c54b9f105f5a492d0d8c2477f0d53", func := "assize/assizelaw9.DeclMay", spec := "declMay", unfollowed := true, recurses := true, loops := true, apart := false, narrowed := true }
def DeclMayUptoSaid : Prop := declMayUptoRow.holds Try.pinned (OpenSpec.upto declMaySpec)

/-- 'assizelaw9.DeclMany', WHERE WHAT IT READS IS OF BULK AT MOST 1048576: true; the input reads as it did. -/
def declManyUptoRow : OpenClaim := { program := "ytcgkeolgflphiaa", sum := "bf567433cd8321018326a9642876b3b7d28c54b9f105f5a492d0d8c2477f0d53", func := "assize/assizelaw9.DeclMany", spec := "declMany", unfollowed := true, recurses := true, apart := false, narrowed := true }
def DeclManyUptoSaid : Prop := declManyUptoRow.holds Try.pinned (OpenSpec.upto declManySpec)

/-- 'assizelaw9.DeclDecodes', WHERE WHAT IT READS IS OF BULK AT MOST 1048576: true; the input reads as it did. -/
def declDecodesUptoRow : OpenClaim := { program := "ytcgkeolgflphiaa", sum := "bf567433cd8321018326a9642876b3b7d28c54b9f105f5a492d0d8c2477f0d53", func := "assize/assizelaw9.DeclDecodes", spec := "declDecodes", unfollowed := true, recurses := true, apart := false, narrowed := true }
def DeclDecodesUptoSaid : Prop := declDecodesUptoRow.holds Try.pinned (OpenSpec.upto declDecodesSpec)

/-- 'assizelaw9.DeclTurned', WHERE WHAT IT READS IS OF BULK AT MOST 1048576: true; the input reads as it did. -/
def declTurnedUptoRow : OpenClaim := { program := "ytcgkeolgflphiaa", sum := "bf567433cd8321018326a9642876b3b7d28c54b9f105f5a492d0d8c2477f0d53", func := "assize/assizelaw9.DeclTurned", spec := "declTurned", unfollowed := true, recurses := true, loops := true, apart := false, narrowed := true }
def DeclTurnedUptoSaid : Prop := declTurnedUptoRow.holds Try.pinned (OpenSpec.upto declTurnedSpec)

/-- 'assizelaw9.DeclBundles', WHERE WHAT IT READS IS OF BULK AT MOST 1048576: true; the input reads as it did. -/
def declBundlesUptoRow : OpenClaim := { program := "ytcgkeolgflphiaa", sum := "bf567433cd8321018326a9642876b3b7d28c54b9f105f5a492d0d8c2477f0d53", func := "assize/assizelaw9.DeclBundles", spec := "declBundles", unfollowed := true, recurses := true, loops := true, apart := false, narrowed := true }
def DeclBundlesUptoSaid : Prop := declBundlesUptoRow.holds Try.pinned (OpenSpec.upto declBundlesSpec)

/-- 'assizelaw9.DeclUnique', WHERE WHAT IT READS IS OF BULK AT MOST 1048576: true; the input reads as it did. -/
def declUniqueUptoRow : OpenClaim := { program := "ytcgkeolgflphiaa", sum := "bf567433cd8321018326a9642876b3b7d28c54b9f105f5a492d0d8c2477f0d53", func := "assize/assizelaw9.DeclUnique", spec := "declUnique", unfollowed := true, recurses := true, apart := false, narrowed := true }
def DeclUniqueUptoSaid : Prop := declUniqueUptoRow.holds Try.pinned (OpenSpec.upto declUniqueSpec)

/-- 'assizelaw9.DeclBack', WHERE WHAT IT READS IS OF BULK AT MOST 1048576: true; the input reads as it did. -/
def declBackUptoRow : OpenClaim := { program := "ytcgkeolgflphiaa", sum := "bf567433cd8321018326a9642876b3b7d28c54b9f105f5a492d0d8c2477f0d53", func := "assize/assizelaw9.DeclBack", spec := "declBack", unfollowed := true, recurses := true, loops := true, apart := false, narrowed := true }
def DeclBackUptoSaid : Prop := declBackUptoRow.holds Try.pinned (OpenSpec.upto declBackSpec)

/-- 'assizelaw9.DeclRows', WHERE WHAT IT READS IS OF BULK AT MOST 1048576: true; the input reads as it did. -/
def declRowsUptoRow : OpenClaim := { program := "ytcgkeolgflphiaa", sum := "bf567433cd8321018326a9642876b3b7d28c54b9f105f5a492d0d8c2477f0d53", func := "assize/assizelaw9.DeclRows", spec := "declRows", unfollowed := true, recurses := true, loops := true, apart := false, narrowed := true }
def DeclRowsUptoSaid : Prop := declRowsUptoRow.holds Try.pinned (OpenSpec.upto declRowsSpec)

end Rows
end Go.Proofs.Ytcgkeolgflphiaa
