/-
  NARROWER THAN 'FOR EVERY INPUT', by the rows' own cells (each row's printed sentence says how): LevelMay: loops · LevelValues: loops · LevelMaxes: loops · LevelRises: loops · LevelInst: loops · LevelPuts: loops · LevelGoesOn: loops · LevelMeans: loops.
  DERIVED. THE GIVEN ROWS OF THIS SEAT. 8 by the template 'for every input the law returns true; each argument reads behind the call as it read before'; 0 by the template 'total and deterministic' (their statements: YtjlhbaohippidaaTotals.lean).
  GIVEN WITH THE SEED: the statements are not yours to turn. If you find one false, say at which input.
  Laid BY PROGRAM, IN A SANDBOX (cutbox-rows.mjs): the forced cells as the released guide's own fill.sh prints them over the translation 053fcce6648e7f07… (all of the seat's roots in one cut). By AI agents, Wed Nov 11 2026. No macro, syntax, notation, axiom, sorry.
-/
import Derived.Test.YtjlhbaohippidaaChecked
import GoSem.Claim
import GoSem.ClaimJoined
import GoSem.ClaimMapViews
import Derived.JoinedTies
import Derived.KernelRfl
namespace Go.Proofs.Ytjlhbaohippidaa
/- THE CELL 'sum', in the pinned program and in every row, IS THE sha256 OF THE DUMP (.gsa) THAT YtjlhbaohippidaaProg.lean LOADS. Nothing in Lean hashes anything: it is a label: what it is worth is what the hold of that sum in a sandbox is worth. -/
noncomputable def Try.pinned : Pinned := { name := "ytjlhbaohippidaa", sum := "053fcce6648e7f0712fb4f998f2c4350a19432d3079e60583a7cacf9c0a07465", checked := Try.checked }
namespace Rows
def none {H : Type} : Left H := { results := [], args := [] }

/-- 'assizelaw6.LevelMay': WHATEVER THE INPUT: true; the input reads as it did. -/
def levelMaySpec : ChangeSpec := { name := "levelMay", fn := fun _ => fun
  | [d1, d2] => { results := [.lit (.bool true)], args := [d1, d2] }
  | _ => none }
def levelMayRow : OpenClaim := { program := "ytjlhbaohippidaa", sum := "053fcce6648e7f0712fb4f998f2c4350a19432d3079e60583a7cacf9c0a07465", func := "assize/assizelaw6.LevelMay", spec := "levelMay", unfollowed := true, recurses := true, loops := true, apart := false }
def LevelMaySaid : Prop := levelMayRow.holds Try.pinned (OpenSpec.ofChange levelMaySpec)

/-- ITS FALSE NEIGHBOUR: 'it returns false'. Refute it at one input. -/
def levelMayWrong : ChangeSpec := { name := "levelMay", fn := fun _ => fun
  | [d1, d2] => { results := [.lit (.bool false)], args := [d1, d2] }
  | _ => none }
def LevelMayWrongFalsely : Prop := levelMayRow.holds Try.pinned (OpenSpec.ofChange levelMayWrong)

/-- 'assizelaw6.LevelValues': WHATEVER THE INPUT: true; the input reads as it did. -/
def levelValuesSpec : ChangeSpec := { name := "levelValues", fn := fun _ => fun
  | [d1, d2] => { results := [.lit (.bool true)], args := [d1, d2] }
  | _ => none }
def levelValuesRow : OpenClaim := { program := "ytjlhbaohippidaa", sum := "053fcce6648e7f0712fb4f998f2c4350a19432d3079e60583a7cacf9c0a07465", func := "assize/assizelaw6.LevelValues", spec := "levelValues", unfollowed := true, recurses := true, loops := true, apart := false }
def LevelValuesSaid : Prop := levelValuesRow.holds Try.pinned (OpenSpec.ofChange levelValuesSpec)

/-- ITS FALSE NEIGHBOUR: 'it returns false'. Refute it at one input. -/
def levelValuesWrong : ChangeSpec := { name := "levelValues", fn := fun _ => fun
  | [d1, d2] => { results := [.lit (.bool false)], args := [d1, d2] }
  | _ => none }
def LevelValuesWrongFalsely : Prop := levelValuesRow.holds Try.pinned (OpenSpec.ofChange levelValuesWrong)

/-- 'assizelaw6.LevelMaxes': WHATEVER THE INPUT: true; the input reads as it did. -/
def levelMaxesSpec : ChangeSpec := { name := "levelMaxes", fn := fun _ => fun
  | [d1, d2, d3] => { results := [.lit (.bool true)], args := [d1, d2, d3] }
  | _ => none }
def levelMaxesRow : OpenClaim := { program := "ytjlhbaohippidaa", sum := "053fcce6648e7f0712fb4f998f2c4350a19432d3079e60583a7cacf9c0a07465", func := "assize/assizelaw6.LevelMaxes", spec := "levelMaxes", unfollowed := true, recurses := true, loops := true, apart := false }
def LevelMaxesSaid : Prop := levelMaxesRow.holds Try.pinned (OpenSpec.ofChange levelMaxesSpec)

/-- ITS FALSE NEIGHBOUR: 'it returns false'. Refute it at one input. -/
def levelMaxesWrong : ChangeSpec := { name := "levelMaxes", fn := fun _ => fun
  | [d1, d2, d3] => { results := [.lit (.bool false)], args := [d1, d2, d3] }
  | _ => none }
def LevelMaxesWrongFalsely : Prop := levelMaxesRow.holds Try.pinned (OpenSpec.ofChange levelMaxesWrong)

/-- 'assizelaw6.LevelRises': WHATEVER THE INPUT: true; the input reads as it did. -/
def levelRisesSpec : ChangeSpec := { name := "levelRises", fn := fun _ => fun
  | [d1, d2, d3] => { results := [.lit (.bool true)], args := [d1, d2, d3] }
  | _ => none }
def levelRisesRow : OpenClaim := { program := "ytjlhbaohippidaa", sum := "053fcce6648e7f0712fb4f998f2c4350a19432d3079e60583a7cacf9c0a07465", func := "assize/assizelaw6.LevelRises", spec := "levelRises", unfollowed := true, recurses := true, loops := true, apart := false }
def LevelRisesSaid : Prop := levelRisesRow.holds Try.pinned (OpenSpec.ofChange levelRisesSpec)

/-- ITS FALSE NEIGHBOUR: 'it returns false'. Refute it at one input. -/
def levelRisesWrong : ChangeSpec := { name := "levelRises", fn := fun _ => fun
  | [d1, d2, d3] => { results := [.lit (.bool false)], args := [d1, d2, d3] }
  | _ => none }
def LevelRisesWrongFalsely : Prop := levelRisesRow.holds Try.pinned (OpenSpec.ofChange levelRisesWrong)

/-- 'assizelaw6.LevelInst': WHATEVER THE INPUT: true; the input reads as it did. -/
def levelInstSpec : ChangeSpec := { name := "levelInst", fn := fun _ => fun
  | [d1, d2] => { results := [.lit (.bool true)], args := [d1, d2] }
  | _ => none }
def levelInstRow : OpenClaim := { program := "ytjlhbaohippidaa", sum := "053fcce6648e7f0712fb4f998f2c4350a19432d3079e60583a7cacf9c0a07465", func := "assize/assizelaw6.LevelInst", spec := "levelInst", unfollowed := true, recurses := true, loops := true, apart := false }
def LevelInstSaid : Prop := levelInstRow.holds Try.pinned (OpenSpec.ofChange levelInstSpec)

/-- ITS FALSE NEIGHBOUR: 'it returns false'. Refute it at one input. -/
def levelInstWrong : ChangeSpec := { name := "levelInst", fn := fun _ => fun
  | [d1, d2] => { results := [.lit (.bool false)], args := [d1, d2] }
  | _ => none }
def LevelInstWrongFalsely : Prop := levelInstRow.holds Try.pinned (OpenSpec.ofChange levelInstWrong)

/-- 'assizelaw6.LevelPuts': WHATEVER THE INPUT: true; the input reads as it did. -/
def levelPutsSpec : ChangeSpec := { name := "levelPuts", fn := fun _ => fun
  | [d1, d2, d3] => { results := [.lit (.bool true)], args := [d1, d2, d3] }
  | _ => none }
def levelPutsRow : OpenClaim := { program := "ytjlhbaohippidaa", sum := "053fcce6648e7f0712fb4f998f2c4350a19432d3079e60583a7cacf9c0a07465", func := "assize/assizelaw6.LevelPuts", spec := "levelPuts", unfollowed := true, recurses := true, loops := true, apart := false }
def LevelPutsSaid : Prop := levelPutsRow.holds Try.pinned (OpenSpec.ofChange levelPutsSpec)

/-- ITS FALSE NEIGHBOUR: 'it returns false'. Refute it at one input. -/
def levelPutsWrong : ChangeSpec := { name := "levelPuts", fn := fun _ => fun
  | [d1, d2, d3] => { results := [.lit (.bool false)], args := [d1, d2, d3] }
  | _ => none }
def LevelPutsWrongFalsely : Prop := levelPutsRow.holds Try.pinned (OpenSpec.ofChange levelPutsWrong)

/-- 'assizelaw6.LevelGoesOn': WHATEVER THE INPUT: true; the input reads as it did. -/
def levelGoesOnSpec : ChangeSpec := { name := "levelGoesOn", fn := fun _ => fun
  | [d1, d2, d3] => { results := [.lit (.bool true)], args := [d1, d2, d3] }
  | _ => none }
def levelGoesOnRow : OpenClaim := { program := "ytjlhbaohippidaa", sum := "053fcce6648e7f0712fb4f998f2c4350a19432d3079e60583a7cacf9c0a07465", func := "assize/assizelaw6.LevelGoesOn", spec := "levelGoesOn", unfollowed := true, recurses := true, loops := true, apart := false }
def LevelGoesOnSaid : Prop := levelGoesOnRow.holds Try.pinned (OpenSpec.ofChange levelGoesOnSpec)

/-- ITS FALSE NEIGHBOUR: 'it returns false'. Refute it at one input. -/
def levelGoesOnWrong : ChangeSpec := { name := "levelGoesOn", fn := fun _ => fun
  | [d1, d2, d3] => { results := [.lit (.bool false)], args := [d1, d2, d3] }
  | _ => none }
def LevelGoesOnWrongFalsely : Prop := levelGoesOnRow.holds Try.pinned (OpenSpec.ofChange levelGoesOnWrong)

/-- 'assizelaw6.LevelMeans': WHATEVER THE INPUT: true; the input reads as it did. -/
def levelMeansSpec : ChangeSpec := { name := "levelMeans", fn := fun _ => fun
  | [d1, d2, d3] => { results := [.lit (.bool true)], args := [d1, d2, d3] }
  | _ => none }
def levelMeansRow : OpenClaim := { program := "ytjlhbaohippidaa", sum := "053fcce6648e7f0712fb4f998f2c4350a19432d3079e60583a7cacf9c0a07465", func := "assize/assizelaw6.LevelMeans", spec := "levelMeans", unfollowed := true, recurses := true, loops := true, apart := false }
def LevelMeansSaid : Prop := levelMeansRow.holds Try.pinned (OpenSpec.ofChange levelMeansSpec)

/-- ITS FALSE NEIGHBOUR: 'it returns false'. Refute it at one input. -/
def levelMeansWrong : ChangeSpec := { name := "levelMeans", fn := fun _ => fun
  | [d1, d2, d3] => { results := [.lit (.bool false)], args := [d1, d2, d3] }
  | _ => none }
def LevelMeansWrongFalsely : Prop := levelMeansRow.holds Try.pinned (OpenSpec.ofChange levelMeansWrong)

/- THE SECOND FORM. 'bulk': how many values and letters a reading holds, each counted each time it is reached (what is shared counts as often as it is met; a slice's spare places count too). A statement '..UptoSaid' is the law's where the arguments, and the package variables that the reading takes, are together of bulk at most 1048576: NARROWER than '..Said'. Prove '..Said' where nothing that the law and all that it calls make is longer than what came in: it says more and counts as full. Else prove '..UptoSaid'. A law counts once. -/
mutual
def uptoBulk {H : Type} : DataW H → Nat
  | .lit (.string bytes) => bytes.length + 1
  | .lit _ => 1
  | .nil => 1
  | .ptr d => uptoBulk d + 1
  | .slice elems spare => uptoBulkAll elems + uptoBulkAll spare + 1
  | .agg parts => uptoBulkAll parts + 1
  | .iface _ d => uptoBulk d + 1
  | .map entries => uptoBulkEntries entries + 1
  | .held _ => 1
def uptoBulkAll {H : Type} : List (DataW H) → Nat
  | [] => 0
  | d :: r => uptoBulk d + uptoBulkAll r
def uptoBulkEntries {H : Type} : List (Lit × DataW H) → Nat
  | [] => 0
  | x :: r => uptoBulkEntry x + uptoBulkEntries r
def uptoBulkEntry {H : Type} : Lit × DataW H → Nat
  | (.string bytes, d) => bytes.length + uptoBulk d + 1
  | (_, d) => uptoBulk d + 1
 end
def uptoSmall : (H : Type) → List (DataW H) → Bool := fun _ ds => decide (uptoBulkAll ds ≤ 1048576)
def OpenSpec.upto (s : _root_.Go.ChangeSpec) : _root_.Go.OpenSpec := { _root_.Go.OpenSpec.ofChange s with cond := some uptoSmall }

/-- 'assizelaw6.LevelMay', WHERE WHAT IT READS IS OF BULK AT MOST 1048576: true; the input reads as it did. -/
def levelMayUptoRow : OpenClaim := { program := "ytjlhbaohippidaa", sum := "053fcce6648e7f0712fb4f998f2c4350a19432d3079e60583a7cacf9c0a07465", func := "assize/assizelaw6.LevelMay", spec := "levelMay", unfollowed := true, recurses := true, loops := true, apart := false, narrowed := true }
def LevelMayUptoSaid : Prop := levelMayUptoRow.holds Try.pinned (OpenSpec.upto levelMaySpec)

/-- 'assizelaw6.LevelValues', WHERE WHAT IT READS IS OF BULK AT MOST 1048576: true; the input reads as it did. -/
def levelValuesUptoRow : OpenClaim := { program := "ytjlhbaohippidaa", sum := "053fcce6648e7f0712fb4f998f2c4350a19432d3079e60583a7cacf9c0a07465", func := "assize/assizelaw6.LevelValues", spec := "levelValues", unfollowed := true, recurses := true, loops := true, apart := false, narrowed := true }
def LevelValuesUptoSaid : Prop := levelValuesUptoRow.holds Try.pinned (OpenSpec.upto levelValuesSpec)

/-- 'assizelaw6.LevelMaxes', WHERE WHAT IT READS IS OF BULK AT MOST 1048576: true; the input reads as it did. -/
def levelMaxesUptoRow : OpenClaim := { program := "ytjlhbaohippidaa", sum := "053fcce6648e7f0712fb4f998f2c4350a19432d3079e60583a7cacf9c0a07465", func := "assize/assizelaw6.LevelMaxes", spec := "levelMaxes", unfollowed := true, recurses := true, loops := true, apart := false, narrowed := true }
def LevelMaxesUptoSaid : Prop := levelMaxesUptoRow.holds Try.pinned (OpenSpec.upto levelMaxesSpec)

/-- 'assizelaw6.LevelRises', WHERE WHAT IT READS IS OF BULK AT MOST 1048576: true; the input reads as it did. -/
def levelRisesUptoRow : OpenClaim := { program := "ytjlhbaohippidaa", sum := "053fcce6648e7f0712fb4f998f2c4350a19432d3079e60583a7cacf9c0a07465", func := "assize/assizelaw6.LevelRises", spec := "levelRises", unfollowed := true, recurses := true, loops := true, apart := false, narrowed := true }
def LevelRisesUptoSaid : Prop := levelRisesUptoRow.holds Try.pinned (OpenSpec.upto levelRisesSpec)

/-- 'assizelaw6.LevelInst', WHERE WHAT IT READS IS OF BULK AT MOST 1048576: true; the input reads as it did. -/
def levelInstUptoRow : OpenClaim := { program := "ytjlhbaohippidaa", sum := "053fcce6648e7f0712fb4f998f2c4350a19432d3079e60583a7cacf9c0a07465", func := "assize/assizelaw6.LevelInst", spec := "levelInst", unfollowed := true, recurses := true, loops := true, apart := false, narrowed := true }
def LevelInstUptoSaid : Prop := levelInstUptoRow.holds Try.pinned (OpenSpec.upto levelInstSpec)

/-- 'assizelaw6.LevelPuts', WHERE WHAT IT READS IS OF BULK AT MOST 1048576: true; the input reads as it did. -/
def levelPutsUptoRow : OpenClaim := { program := "ytjlhbaohippidaa", sum := "053fcce6648e7f0712fb4f998f2c4350a19432d3079e60583a7cacf9c0a07465", func := "assize/assizelaw6.LevelPuts", spec := "levelPuts", unfollowed := true, recurses := true, loops := true, apart := false, narrowed := true }
def LevelPutsUptoSaid : Prop := levelPutsUptoRow.holds Try.pinned (OpenSpec.upto levelPutsSpec)

/-- 'assizelaw6.LevelGoesOn', WHERE WHAT IT READS IS OF BULK AT MOST 1048576: true; the input reads as it did. -/
def levelGoesOnUptoRow : OpenClaim := { program := "ytjlhbaohippidaa", sum := "053fcce6648e7f0712fb4f998f2c4350a19432d3079e60583a7cacf9c0a07465", func := "assize/assizelaw6.LevelGoesOn", spec := "levelGoesOn", unfollowed := true, recurses := true, loops := true, apart := false, narrowed := true }
def LevelGoesOnUptoSaid : Prop := levelGoesOnUptoRow.holds Try.pinned (OpenSpec.upto levelGoesOnSpec)

/-- 'assizelaw6.LevelMeans', WHERE WHAT IT READS IS OF BULK AT MOST 1048576: true; the input reads as it did. -/
def levelMeansUptoRow : OpenClaim := { program := "ytjlhbaohippidaa", sum := "053fcce6648e7f0712fb4f998f2c4350a19432d3079e60583a7cacf9c0a07465", func := "assize/assizelaw6.LevelMeans", spec := "levelMeans", unfollowed := true, recurses := true, loops := true, apart := false, narrowed := true }
def LevelMeansUptoSaid : Prop := levelMeansUptoRow.holds Try.pinned (OpenSpec.upto levelMeansSpec)

end Rows
end Go.Proofs.Ytjlhbaohippidaa
