/-
  NARROWER THAN 'FOR EVERY INPUT', by the rows' own cells (each row's printed sentence says how): TermMakes: loops · TermBinds: loops · TermSizes: loops · TermMay: loops · TermSame: loops · TermPuts: loops · TermInst: loops · TermClosed: loops · TermBack: loops · TermSpines: loops.
  DERIVED. THE GIVEN ROWS OF THIS SEAT. 11 by the template 'for every input the law returns true; each argument reads behind the call as it read before'; 0 by the template 'total and deterministic' (their statements: YtdboloabpjmgaaaTotals.lean).
  GIVEN WITH THE SEED: the statements are not yours to turn. If you find one false, say at which input.
  Laid BY PROGRAM, IN A SANDBOX (cutbox-rows.mjs): the forced cells as the released guide's own fill.sh prints them over the translation 1309fe843be3a30f… (all of the seat's roots in one cut). By AI agents, Wed Nov 11 2026. No macro, syntax, notation, axiom, sorry.
-/
import Derived.Test.YtdboloabpjmgaaaChecked
import GoSem.Claim
import GoSem.ClaimJoined
import GoSem.ClaimMapViews
import Derived.JoinedTies
import Derived.KernelRfl
namespace Go.Proofs.Ytdboloabpjmgaaa
/- THE CELL 'sum', in the pinned program and in every row, IS THE sha256 OF THE DUMP (.gsa) THAT YtdboloabpjmgaaaProg.lean LOADS. Nothing in Lean hashes anything: it is a label: what it is worth is what the hold of that sum in a sandbox is worth. -/
noncomputable def Try.pinned : Pinned := { name := "ytdboloabpjmgaaa", sum := "1309fe843be3a30f58b2098d54a52d5bcbdcb4ff80c6f0fb310b99ca77c547c3", checked := Try.checked }
namespace Rows
def none {H : Type} : Left H := { results := [], args := [] }

/-- 'assizelaw7.TermDoubles': WHATEVER THE INPUT: true; the input reads as it did. -/
def termDoublesSpec : ChangeSpec := { name := "termDoubles", fn := fun _ => fun
  | [d1, d2] => { results := [.lit (.bool true)], args := [d1, d2] }
  | _ => none }
def termDoublesRow : OpenClaim := { program := "ytdboloabpjmgaaa", sum := "1309fe843be3a30f58b2098d54a52d5bcbdcb4ff80c6f0fb310b99ca77c547c3", func := "assize/assizelaw7.TermDoubles", spec := "termDoubles", unfollowed := true, recurses := true, apart := false }
def TermDoublesSaid : Prop := termDoublesRow.holds Try.pinned (OpenSpec.ofChange termDoublesSpec)

/-- ITS FALSE NEIGHBOUR: 'it returns false'. Refute it at one input. -/
def termDoublesWrong : ChangeSpec := { name := "termDoubles", fn := fun _ => fun
  | [d1, d2] => { results := [.lit (.bool false)], args := [d1, d2] }
  | _ => none }
def TermDoublesWrongFalsely : Prop := termDoublesRow.holds Try.pinned (OpenSpec.ofChange termDoublesWrong)

/-- 'assizelaw7.TermMakes': WHATEVER THE INPUT: true; the input reads as it did. -/
def termMakesSpec : ChangeSpec := { name := "termMakes", fn := fun _ => fun
  | [d1, d2, d3, d4, d5, d6, d7, d8] => { results := [.lit (.bool true)], args := [d1, d2, d3, d4, d5, d6, d7, d8] }
  | _ => none }
def termMakesRow : OpenClaim := { program := "ytdboloabpjmgaaa", sum := "1309fe843be3a30f58b2098d54a52d5bcbdcb4ff80c6f0fb310b99ca77c547c3", func := "assize/assizelaw7.TermMakes", spec := "termMakes", unfollowed := true, recurses := true, loops := true, apart := false }
def TermMakesSaid : Prop := termMakesRow.holds Try.pinned (OpenSpec.ofChange termMakesSpec)

/-- ITS FALSE NEIGHBOUR: 'it returns false'. Refute it at one input. -/
def termMakesWrong : ChangeSpec := { name := "termMakes", fn := fun _ => fun
  | [d1, d2, d3, d4, d5, d6, d7, d8] => { results := [.lit (.bool false)], args := [d1, d2, d3, d4, d5, d6, d7, d8] }
  | _ => none }
def TermMakesWrongFalsely : Prop := termMakesRow.holds Try.pinned (OpenSpec.ofChange termMakesWrong)

/-- 'assizelaw7.TermBinds': WHATEVER THE INPUT: true; the input reads as it did. -/
def termBindsSpec : ChangeSpec := { name := "termBinds", fn := fun _ => fun
  | [d1, d2] => { results := [.lit (.bool true)], args := [d1, d2] }
  | _ => none }
def termBindsRow : OpenClaim := { program := "ytdboloabpjmgaaa", sum := "1309fe843be3a30f58b2098d54a52d5bcbdcb4ff80c6f0fb310b99ca77c547c3", func := "assize/assizelaw7.TermBinds", spec := "termBinds", unfollowed := true, recurses := true, loops := true, apart := false }
def TermBindsSaid : Prop := termBindsRow.holds Try.pinned (OpenSpec.ofChange termBindsSpec)

/-- ITS FALSE NEIGHBOUR: 'it returns false'. Refute it at one input. -/
def termBindsWrong : ChangeSpec := { name := "termBinds", fn := fun _ => fun
  | [d1, d2] => { results := [.lit (.bool false)], args := [d1, d2] }
  | _ => none }
def TermBindsWrongFalsely : Prop := termBindsRow.holds Try.pinned (OpenSpec.ofChange termBindsWrong)

/-- 'assizelaw7.TermSizes': WHATEVER THE INPUT: true; the input reads as it did. -/
def termSizesSpec : ChangeSpec := { name := "termSizes", fn := fun _ => fun
  | [d1, d2] => { results := [.lit (.bool true)], args := [d1, d2] }
  | _ => none }
def termSizesRow : OpenClaim := { program := "ytdboloabpjmgaaa", sum := "1309fe843be3a30f58b2098d54a52d5bcbdcb4ff80c6f0fb310b99ca77c547c3", func := "assize/assizelaw7.TermSizes", spec := "termSizes", unfollowed := true, recurses := true, loops := true, apart := false }
def TermSizesSaid : Prop := termSizesRow.holds Try.pinned (OpenSpec.ofChange termSizesSpec)

/-- ITS FALSE NEIGHBOUR: 'it returns false'. Refute it at one input. -/
def termSizesWrong : ChangeSpec := { name := "termSizes", fn := fun _ => fun
  | [d1, d2] => { results := [.lit (.bool false)], args := [d1, d2] }
  | _ => none }
def TermSizesWrongFalsely : Prop := termSizesRow.holds Try.pinned (OpenSpec.ofChange termSizesWrong)

/-- 'assizelaw7.TermMay': WHATEVER THE INPUT: true; the input reads as it did. -/
def termMaySpec : ChangeSpec := { name := "termMay", fn := fun _ => fun
  | [d1, d2, d3] => { results := [.lit (.bool true)], args := [d1, d2, d3] }
  | _ => none }
def termMayRow : OpenClaim := { program := "ytdboloabpjmgaaa", sum := "1309fe843be3a30f58b2098d54a52d5bcbdcb4ff80c6f0fb310b99ca77c547c3", func := "assize/assizelaw7.TermMay", spec := "termMay", unfollowed := true, recurses := true, loops := true, apart := false }
def TermMaySaid : Prop := termMayRow.holds Try.pinned (OpenSpec.ofChange termMaySpec)

/-- ITS FALSE NEIGHBOUR: 'it returns false'. Refute it at one input. -/
def termMayWrong : ChangeSpec := { name := "termMay", fn := fun _ => fun
  | [d1, d2, d3] => { results := [.lit (.bool false)], args := [d1, d2, d3] }
  | _ => none }
def TermMayWrongFalsely : Prop := termMayRow.holds Try.pinned (OpenSpec.ofChange termMayWrong)

/-- 'assizelaw7.TermSame': WHATEVER THE INPUT: true; the input reads as it did. -/
def termSameSpec : ChangeSpec := { name := "termSame", fn := fun _ => fun
  | [d1, d2] => { results := [.lit (.bool true)], args := [d1, d2] }
  | _ => none }
def termSameRow : OpenClaim := { program := "ytdboloabpjmgaaa", sum := "1309fe843be3a30f58b2098d54a52d5bcbdcb4ff80c6f0fb310b99ca77c547c3", func := "assize/assizelaw7.TermSame", spec := "termSame", unfollowed := true, recurses := true, loops := true, apart := false }
def TermSameSaid : Prop := termSameRow.holds Try.pinned (OpenSpec.ofChange termSameSpec)

/-- ITS FALSE NEIGHBOUR: 'it returns false'. Refute it at one input. -/
def termSameWrong : ChangeSpec := { name := "termSame", fn := fun _ => fun
  | [d1, d2] => { results := [.lit (.bool false)], args := [d1, d2] }
  | _ => none }
def TermSameWrongFalsely : Prop := termSameRow.holds Try.pinned (OpenSpec.ofChange termSameWrong)

/-- 'assizelaw7.TermPuts': WHATEVER THE INPUT: true; the input reads as it did. -/
def termPutsSpec : ChangeSpec := { name := "termPuts", fn := fun _ => fun
  | [d1, d2, d3] => { results := [.lit (.bool true)], args := [d1, d2, d3] }
  | _ => none }
def termPutsRow : OpenClaim := { program := "ytdboloabpjmgaaa", sum := "1309fe843be3a30f58b2098d54a52d5bcbdcb4ff80c6f0fb310b99ca77c547c3", func := "assize/assizelaw7.TermPuts", spec := "termPuts", unfollowed := true, recurses := true, loops := true, apart := false }
def TermPutsSaid : Prop := termPutsRow.holds Try.pinned (OpenSpec.ofChange termPutsSpec)

/-- ITS FALSE NEIGHBOUR: 'it returns false'. Refute it at one input. -/
def termPutsWrong : ChangeSpec := { name := "termPuts", fn := fun _ => fun
  | [d1, d2, d3] => { results := [.lit (.bool false)], args := [d1, d2, d3] }
  | _ => none }
def TermPutsWrongFalsely : Prop := termPutsRow.holds Try.pinned (OpenSpec.ofChange termPutsWrong)

/-- 'assizelaw7.TermInst': WHATEVER THE INPUT: true; the input reads as it did. -/
def termInstSpec : ChangeSpec := { name := "termInst", fn := fun _ => fun
  | [d1, d2, d3] => { results := [.lit (.bool true)], args := [d1, d2, d3] }
  | _ => none }
def termInstRow : OpenClaim := { program := "ytdboloabpjmgaaa", sum := "1309fe843be3a30f58b2098d54a52d5bcbdcb4ff80c6f0fb310b99ca77c547c3", func := "assize/assizelaw7.TermInst", spec := "termInst", unfollowed := true, recurses := true, loops := true, apart := false }
def TermInstSaid : Prop := termInstRow.holds Try.pinned (OpenSpec.ofChange termInstSpec)

/-- ITS FALSE NEIGHBOUR: 'it returns false'. Refute it at one input. -/
def termInstWrong : ChangeSpec := { name := "termInst", fn := fun _ => fun
  | [d1, d2, d3] => { results := [.lit (.bool false)], args := [d1, d2, d3] }
  | _ => none }
def TermInstWrongFalsely : Prop := termInstRow.holds Try.pinned (OpenSpec.ofChange termInstWrong)

/-- 'assizelaw7.TermClosed': WHATEVER THE INPUT: true; the input reads as it did. -/
def termClosedSpec : ChangeSpec := { name := "termClosed", fn := fun _ => fun
  | [d1, d2, d3, d4] => { results := [.lit (.bool true)], args := [d1, d2, d3, d4] }
  | _ => none }
def termClosedRow : OpenClaim := { program := "ytdboloabpjmgaaa", sum := "1309fe843be3a30f58b2098d54a52d5bcbdcb4ff80c6f0fb310b99ca77c547c3", func := "assize/assizelaw7.TermClosed", spec := "termClosed", unfollowed := true, recurses := true, loops := true, apart := false }
def TermClosedSaid : Prop := termClosedRow.holds Try.pinned (OpenSpec.ofChange termClosedSpec)

/-- ITS FALSE NEIGHBOUR: 'it returns false'. Refute it at one input. -/
def termClosedWrong : ChangeSpec := { name := "termClosed", fn := fun _ => fun
  | [d1, d2, d3, d4] => { results := [.lit (.bool false)], args := [d1, d2, d3, d4] }
  | _ => none }
def TermClosedWrongFalsely : Prop := termClosedRow.holds Try.pinned (OpenSpec.ofChange termClosedWrong)

/-- 'assizelaw7.TermBack': WHATEVER THE INPUT: true; the input reads as it did. -/
def termBackSpec : ChangeSpec := { name := "termBack", fn := fun _ => fun
  | [d1, d2, d3, d4, d5] => { results := [.lit (.bool true)], args := [d1, d2, d3, d4, d5] }
  | _ => none }
def termBackRow : OpenClaim := { program := "ytdboloabpjmgaaa", sum := "1309fe843be3a30f58b2098d54a52d5bcbdcb4ff80c6f0fb310b99ca77c547c3", func := "assize/assizelaw7.TermBack", spec := "termBack", unfollowed := true, recurses := true, loops := true, apart := false }
def TermBackSaid : Prop := termBackRow.holds Try.pinned (OpenSpec.ofChange termBackSpec)

/-- ITS FALSE NEIGHBOUR: 'it returns false'. Refute it at one input. -/
def termBackWrong : ChangeSpec := { name := "termBack", fn := fun _ => fun
  | [d1, d2, d3, d4, d5] => { results := [.lit (.bool false)], args := [d1, d2, d3, d4, d5] }
  | _ => none }
def TermBackWrongFalsely : Prop := termBackRow.holds Try.pinned (OpenSpec.ofChange termBackWrong)

/-- 'assizelaw7.TermSpines': WHATEVER THE INPUT: true; the input reads as it did. -/
def termSpinesSpec : ChangeSpec := { name := "termSpines", fn := fun _ => fun
  | [d1, d2, d3] => { results := [.lit (.bool true)], args := [d1, d2, d3] }
  | _ => none }
def termSpinesRow : OpenClaim := { program := "ytdboloabpjmgaaa", sum := "1309fe843be3a30f58b2098d54a52d5bcbdcb4ff80c6f0fb310b99ca77c547c3", func := "assize/assizelaw7.TermSpines", spec := "termSpines", unfollowed := true, recurses := true, loops := true, apart := false }
def TermSpinesSaid : Prop := termSpinesRow.holds Try.pinned (OpenSpec.ofChange termSpinesSpec)

/-- ITS FALSE NEIGHBOUR: 'it returns false'. Refute it at one input. -/
def termSpinesWrong : ChangeSpec := { name := "termSpines", fn := fun _ => fun
  | [d1, d2, d3] => { results := [.lit (.bool false)], args := [d1, d2, d3] }
  | _ => none }
def TermSpinesWrongFalsely : Prop := termSpinesRow.holds Try.pinned (OpenSpec.ofChange termSpinesWrong)

/- THE SECOND FORM. 'bulk': how many values and letters a reading holds, each counted each time it is reached (what is shared counts as often as it is met; a slice's spare places count too). A statement '..UptoSaid' is the law's where the arguments, and the package variables that the reading takes, are together of bulk at most 1048576: NARROWER than '..Said'. Prove '..Said' where nothing that the law and all that it calls make is longer than what came in: it says more and counts as full. Else prove '..UptoSaid'. A law counts once. -/
mutual
def uptoBulk {H : Type} : DataW H → Nat
  | .lit (.string bytes) => bytes.length + 1
  | .lit _ => 1
  | .nil => 1
  | .ptr d => uptoBulk d + 1
  | .slice elems spare => uptoBulkAll elems + uptoBulkAll spare + 1
  | .agg parts => uptoBulkAll parts + 1
  | .iface _ d => uptoBulk d + 1
  | .map entries => uptoBulkEntries entries + 1
  | .held _ => 1
def uptoBulkAll {H : Type} : List (DataW H) → Nat
  | [] => 0
  | d :: r => uptoBulk d + uptoBulkAll r
def uptoBulkEntries {H : Type} : List (Lit × DataW H) → Nat
  | [] => 0
  | x :: r => uptoBulkEntry x + uptoBulkEntries r
def uptoBulkEntry {H : Type} : Lit × DataW H → Nat
  | (.string bytes, d) => bytes.length + uptoBulk d + 1
  | (_, d) => uptoBulk d + 1
 end
def uptoSmall : (H : Type) → List (DataW H) → Bool := fun _ ds => decide (uptoBulkAll ds ≤ 1048576)
def OpenSpec.upto (s : _root_.Go.ChangeSpec) : _root_.Go.OpenSpec := { _root_.Go.OpenSpec.ofChange s with cond := some uptoSmall }

/-- 'assizelaw7.TermDoubles', WHERE WHAT IT READS IS OF BULK AT MOST 1048576: true; the input reads as it did. -/
def termDoublesUptoRow : OpenClaim := { program := "ytdboloabpjmgaaa", sum := "1309fe843be3a30f58b2098d54a52d5bcbdcb4ff80c6f0fb310b99ca77c547c3", func := "assize/assizelaw7.TermDoubles", spec := "termDoubles", unfollowed := true, recurses := true, apart := false, narrowed := true }
def TermDoublesUptoSaid : Prop := termDoublesUptoRow.holds Try.pinned (OpenSpec.upto termDoublesSpec)

/-- 'assizelaw7.TermMakes', WHERE WHAT IT READS IS OF BULK AT MOST 1048576: true; the input reads as it did. -/
def termMakesUptoRow : OpenClaim := { program := "ytdboloabpjmgaaa", sum := "1309fe843be3a30f58b2098d54a52d5bcbdcb4ff80c6f0fb310b99ca77c547c3", func := "assize/assizelaw7.TermMakes", spec := "termMakes", unfollowed := true, recurses := true, loops := true, apart := false, narrowed := true }
def TermMakesUptoSaid : Prop := termMakesUptoRow.holds Try.pinned (OpenSpec.upto termMakesSpec)

/-- 'assizelaw7.TermBinds', WHERE WHAT IT READS IS OF BULK AT MOST 1048576: true; the input reads as it did. -/
def termBindsUptoRow : OpenClaim := { program := "ytdboloabpjmgaaa", sum := "1309fe843be3a30f58b2098d54a52d5bcbdcb4ff80c6f0fb310b99ca77c547c3", func := "assize/assizelaw7.TermBinds", spec := "termBinds", unfollowed := true, recurses := true, loops := true, apart := false, narrowed := true }
def TermBindsUptoSaid : Prop := termBindsUptoRow.holds Try.pinned (OpenSpec.upto termBindsSpec)

/-- 'assizelaw7.TermSizes', WHERE WHAT IT READS IS OF BULK AT MOST 1048576: true; the input reads as it did. -/
def termSizesUptoRow : OpenClaim := { program := "ytdboloabpjmgaaa", sum := "1309fe843be3a30f58b2098d54a52d5bcbdcb4ff80c6f0fb310b99ca77c547c3", func := "assize/assizelaw7.TermSizes", spec := "termSizes", unfollowed := true, recurses := true, loops := true, apart := false, narrowed := true }
def TermSizesUptoSaid : Prop := termSizesUptoRow.holds Try.pinned (OpenSpec.upto termSizesSpec)

/-- 'assizelaw7.TermMay', WHERE WHAT IT READS IS OF BULK AT MOST 1048576: true; the input reads as it did. -/
def termMayUptoRow : OpenClaim := { program := "ytdboloabpjmgaaa", sum := "1309fe843be3a30f58b2098d54a52d5bcbdcb4ff80c6f0fb310b99ca77c547c3", func := "assize/assizelaw7.TermMay", spec := "termMay", unfollowed := true, recurses := true, loops := true, apart := false, narrowed := true }
def TermMayUptoSaid : Prop := termMayUptoRow.holds Try.pinned (OpenSpec.upto termMaySpec)

/-- 'assizelaw7.TermSame', WHERE WHAT IT READS IS OF BULK AT MOST 1048576: true; the input reads as it did. -/
def termSameUptoRow : OpenClaim := { program := "ytdboloabpjmgaaa", sum := "1309fe843be3a30f58b2098d54a52d5bcbdcb4ff80c6f0fb310b99ca77c547c3", func := "assize/assizelaw7.TermSame", spec := "termSame", unfollowed := true, recurses := true, loops := true, apart := false, narrowed := true }
def TermSameUptoSaid : Prop := termSameUptoRow.holds Try.pinned (OpenSpec.upto termSameSpec)

/-- 'assizelaw7.TermPuts', WHERE WHAT IT READS IS OF BULK AT MOST 1048576: true; the input reads as it did. -/
def termPutsUptoRow : OpenClaim := { program := "ytdboloabpjmgaaa", sum := "1309fe843be3a30f58b2098d54a52d5bcbdcb4ff80c6f0fb310b99ca77c547c3", func := "assize/assizelaw7.TermPuts", spec := "termPuts", unfollowed := true, recurses := true, loops := true, apart := false, narrowed := true }
def TermPutsUptoSaid : Prop := termPutsUptoRow.holds Try.pinned (OpenSpec.upto termPutsSpec)

/-- 'assizelaw7.TermInst', WHERE WHAT IT READS IS OF BULK AT MOST 1048576: true; the input reads as it did. -/
def termInstUptoRow : OpenClaim := { program := "ytdboloabpjmgaaa", sum := "1309fe843be3a30f58b2098d54a52d5bcbdcb4ff80c6f0fb310b99ca77c547c3", func := "assize/assizelaw7.TermInst", spec := "termInst", unfollowed := true, recurses := true, loops := true, apart := false, narrowed := true }
def TermInstUptoSaid : Prop := termInstUptoRow.holds Try.pinned (OpenSpec.upto termInstSpec)

/-- 'assizelaw7.TermClosed', WHERE WHAT IT READS IS OF BULK AT MOST 1048576: true; the input reads as it did. -/
def termClosedUptoRow : OpenClaim := { program := "ytdboloabpjmgaaa", sum := "1309fe843be3a30f58b2098d54a52d5bcbdcb4ff80c6f0fb310b99ca77c547c3", func := "assize/assizelaw7.TermClosed", spec := "termClosed", unfollowed := true, recurses := true, loops := true, apart := false, narrowed := true }
def TermClosedUptoSaid : Prop := termClosedUptoRow.holds Try.pinned (OpenSpec.upto termClosedSpec)

/-- 'assizelaw7.TermBack', WHERE WHAT IT READS IS OF BULK AT MOST 1048576: true; the input reads as it did. -/
def termBackUptoRow : OpenClaim := { program := "ytdboloabpjmgaaa", sum := "1309fe843be3a30f58b2098d54a52d5bcbdcb4ff80c6f0fb310b99ca77c547c3", func := "assize/assizelaw7.TermBack", spec := "termBack", unfollowed := true, recurses := true, loops := true, apart := false, narrowed := true }
def TermBackUptoSaid : Prop := termBackUptoRow.holds Try.pinned (OpenSpec.upto termBackSpec)

/-- 'assizelaw7.TermSpines', WHERE WHAT IT READS IS OF BULK AT MOST 1048576: true; the input reads as it did. -/
def termSpinesUptoRow : OpenClaim := { program := "ytdboloabpjmgaaa", sum := "1309fe843be3a30f58b2098d54a52d5bcbdcb4ff80c6f0fb310b99ca77c547c3", func := "assize/assizelaw7.TermSpines", spec := "termSpines", unfollowed := true, recurses := true, loops := true, apart := false, narrowed := true }
def TermSpinesUptoSaid : Prop := termSpinesUptoRow.holds Try.pinned (OpenSpec.upto termSpinesSpec)

end Rows
end Go.Proofs.Ytdboloabpjmgaaa
