/-
  No cell of these rows narrows 'for every input' (looked for: loops, veiled, ifaces, maps, wideKeys, modest, calm, conditions, laid).
  DERIVED. THE GIVEN ROWS OF THIS SEAT. 12 by the template 'for every input the law returns true; each argument reads behind the call as it read before'; 0 by the template 'total and deterministic' (their statements: YtpkjmnfgpbliaaaTotals.lean).
  GIVEN WITH THE SEED: the statements are not yours to turn. If you find one false, say at which input.
  Laid BY PROGRAM, IN A SANDBOX (cutbox-rows.mjs): the forced cells as the released guide's own fill.sh prints them over the translation 96f75d236d178dec… (all of the seat's roots in one cut). By AI agents, Wed Nov 11 2026. No macro, syntax, notation, axiom, sorry.
-/
import Derived.Test.YtpkjmnfgpbliaaaChecked
import GoSem.Claim
import GoSem.ClaimJoined
import GoSem.ClaimMapViews
import Derived.JoinedTies
import Derived.KernelRfl
namespace Go.Proofs.Ytpkjmnfgpbliaaa
/- THE CELL 'sum', in the pinned program and in every row, IS THE sha256 OF THE DUMP (.gsa) THAT YtpkjmnfgpbliaaaProg.lean LOADS. Nothing in Lean hashes anything: it is a label: what it is worth is what the hold of that sum in a sandbox is worth. -/
noncomputable def Try.pinned : Pinned := { name := "ytpkjmnfgpbliaaa", sum := "96f75d236d178dec1077c64612d9ff640f52378f8915e77826dcd1759c2970cc", checked := Try.checked }
namespace Rows
def none {H : Type} : Left H := { results := [], args := [] }

/-- 'stearinlaw11.ColourRinses': WHATEVER THE INPUT: true; the input reads as it did. -/
def colourRinsesSpec : ChangeSpec := { name := "colourRinses", fn := fun _ => fun
  | [d1, d2] => { results := [.lit (.bool true)], args := [d1, d2] }
  | _ => none }
def colourRinsesRow : OpenClaim := { program := "ytpkjmnfgpbliaaa", sum := "96f75d236d178dec1077c64612d9ff640f52378f8915e77826dcd1759c2970cc", func := "stearin/stearinlaw11.ColourRinses", spec := "colourRinses", inPlace := ["slices.overlaps[stearin/api.ClBatch]"], unfollowed := true, recurses := true, plainKeys := false, apart := false }
def ColourRinsesSaid : Prop := colourRinsesRow.holds Try.pinned (OpenSpec.ofChange colourRinsesSpec)

/-- ITS FALSE NEIGHBOUR: 'it returns false'. Refute it at one input. -/
def colourRinsesWrong : ChangeSpec := { name := "colourRinses", fn := fun _ => fun
  | [d1, d2] => { results := [.lit (.bool false)], args := [d1, d2] }
  | _ => none }
def ColourRinsesWrongFalsely : Prop := colourRinsesRow.holds Try.pinned (OpenSpec.ofChange colourRinsesWrong)

/-- 'stearinlaw11.ColourOrders': WHATEVER THE INPUT: true; the input reads as it did. -/
def colourOrdersSpec : ChangeSpec := { name := "colourOrders", fn := fun _ => fun
  | [d1, d2, d3] => { results := [.lit (.bool true)], args := [d1, d2, d3] }
  | _ => none }
def colourOrdersRow : OpenClaim := { program := "ytpkjmnfgpbliaaa", sum := "96f75d236d178dec1077c64612d9ff640f52378f8915e77826dcd1759c2970cc", func := "stearin/stearinlaw11.ColourOrders", spec := "colourOrders", inPlace := ["slices.overlaps[stearin/api.ClBatch]"], unfollowed := true, recurses := true, plainKeys := false, apart := false }
def ColourOrdersSaid : Prop := colourOrdersRow.holds Try.pinned (OpenSpec.ofChange colourOrdersSpec)

/-- ITS FALSE NEIGHBOUR: 'it returns false'. Refute it at one input. -/
def colourOrdersWrong : ChangeSpec := { name := "colourOrders", fn := fun _ => fun
  | [d1, d2, d3] => { results := [.lit (.bool false)], args := [d1, d2, d3] }
  | _ => none }
def ColourOrdersWrongFalsely : Prop := colourOrdersRow.holds Try.pinned (OpenSpec.ofChange colourOrdersWrong)

/-- 'stearinlaw11.ColourBest': WHATEVER THE INPUT: true; the input reads as it did. -/
def colourBestSpec : ChangeSpec := { name := "colourBest", fn := fun _ => fun
  | [d1, d2, d3] => { results := [.lit (.bool true)], args := [d1, d2, d3] }
  | _ => none }
def colourBestRow : OpenClaim := { program := "ytpkjmnfgpbliaaa", sum := "96f75d236d178dec1077c64612d9ff640f52378f8915e77826dcd1759c2970cc", func := "stearin/stearinlaw11.ColourBest", spec := "colourBest", inPlace := ["slices.overlaps[stearin/api.ClBatch]"], unfollowed := true, recurses := true, plainKeys := false, apart := false }
def ColourBestSaid : Prop := colourBestRow.holds Try.pinned (OpenSpec.ofChange colourBestSpec)

/-- ITS FALSE NEIGHBOUR: 'it returns false'. Refute it at one input. -/
def colourBestWrong : ChangeSpec := { name := "colourBest", fn := fun _ => fun
  | [d1, d2, d3] => { results := [.lit (.bool false)], args := [d1, d2, d3] }
  | _ => none }
def ColourBestWrongFalsely : Prop := colourBestRow.holds Try.pinned (OpenSpec.ofChange colourBestWrong)

/-- 'stearinlaw11.ColourKnown': WHATEVER THE INPUT: true; the input reads as it did. -/
def colourKnownSpec : ChangeSpec := { name := "colourKnown", fn := fun _ => fun
  | [] => { results := [.lit (.bool true)], args := [] }
  | _ => none }
def colourKnownRow : OpenClaim := { program := "ytpkjmnfgpbliaaa", sum := "96f75d236d178dec1077c64612d9ff640f52378f8915e77826dcd1759c2970cc", func := "stearin/stearinlaw11.ColourKnown", spec := "colourKnown", inPlace := ["slices.overlaps[stearin/api.ClBatch]"], unfollowed := true, recurses := true, plainKeys := false, apart := false }
def ColourKnownSaid : Prop := colourKnownRow.holds Try.pinned (OpenSpec.ofChange colourKnownSpec)

/-- ITS FALSE NEIGHBOUR: 'it returns false'. Refute it at one input. -/
def colourKnownWrong : ChangeSpec := { name := "colourKnown", fn := fun _ => fun
  | [] => { results := [.lit (.bool false)], args := [] }
  | _ => none }
def ColourKnownWrongFalsely : Prop := colourKnownRow.holds Try.pinned (OpenSpec.ofChange colourKnownWrong)

/-- 'stearinlaw11.ColourTruth': WHATEVER THE INPUT: true; the input reads as it did. -/
def colourTruthSpec : ChangeSpec := { name := "colourTruth", fn := fun _ => fun
  | [d1, d2, d3] => { results := [.lit (.bool true)], args := [d1, d2, d3] }
  | _ => none }
def colourTruthRow : OpenClaim := { program := "ytpkjmnfgpbliaaa", sum := "96f75d236d178dec1077c64612d9ff640f52378f8915e77826dcd1759c2970cc", func := "stearin/stearinlaw11.ColourTruth", spec := "colourTruth", inPlace := ["slices.overlaps[stearin/api.ClBatch]"], unfollowed := true, recurses := true, plainKeys := false, apart := false }
def ColourTruthSaid : Prop := colourTruthRow.holds Try.pinned (OpenSpec.ofChange colourTruthSpec)

/-- ITS FALSE NEIGHBOUR: 'it returns false'. Refute it at one input. -/
def colourTruthWrong : ChangeSpec := { name := "colourTruth", fn := fun _ => fun
  | [d1, d2, d3] => { results := [.lit (.bool false)], args := [d1, d2, d3] }
  | _ => none }
def ColourTruthWrongFalsely : Prop := colourTruthRow.holds Try.pinned (OpenSpec.ofChange colourTruthWrong)

/-- 'stearinlaw11.ColourLeast': WHATEVER THE INPUT: true; the input reads as it did. -/
def colourLeastSpec : ChangeSpec := { name := "colourLeast", fn := fun _ => fun
  | [d1, d2, d3] => { results := [.lit (.bool true)], args := [d1, d2, d3] }
  | _ => none }
def colourLeastRow : OpenClaim := { program := "ytpkjmnfgpbliaaa", sum := "96f75d236d178dec1077c64612d9ff640f52378f8915e77826dcd1759c2970cc", func := "stearin/stearinlaw11.ColourLeast", spec := "colourLeast", inPlace := ["slices.overlaps[stearin/api.ClBatch]"], unfollowed := true, recurses := true, plainKeys := false, apart := false }
def ColourLeastSaid : Prop := colourLeastRow.holds Try.pinned (OpenSpec.ofChange colourLeastSpec)

/-- ITS FALSE NEIGHBOUR: 'it returns false'. Refute it at one input. -/
def colourLeastWrong : ChangeSpec := { name := "colourLeast", fn := fun _ => fun
  | [d1, d2, d3] => { results := [.lit (.bool false)], args := [d1, d2, d3] }
  | _ => none }
def ColourLeastWrongFalsely : Prop := colourLeastRow.holds Try.pinned (OpenSpec.ofChange colourLeastWrong)

/-- 'stearinlaw11.ColourNever': WHATEVER THE INPUT: true; the input reads as it did. -/
def colourNeverSpec : ChangeSpec := { name := "colourNever", fn := fun _ => fun
  | [d1, d2, d3] => { results := [.lit (.bool true)], args := [d1, d2, d3] }
  | _ => none }
def colourNeverRow : OpenClaim := { program := "ytpkjmnfgpbliaaa", sum := "96f75d236d178dec1077c64612d9ff640f52378f8915e77826dcd1759c2970cc", func := "stearin/stearinlaw11.ColourNever", spec := "colourNever", inPlace := ["slices.overlaps[stearin/api.ClBatch]"], unfollowed := true, recurses := true, plainKeys := false, apart := false }
def ColourNeverSaid : Prop := colourNeverRow.holds Try.pinned (OpenSpec.ofChange colourNeverSpec)

/-- ITS FALSE NEIGHBOUR: 'it returns false'. Refute it at one input. -/
def colourNeverWrong : ChangeSpec := { name := "colourNever", fn := fun _ => fun
  | [d1, d2, d3] => { results := [.lit (.bool false)], args := [d1, d2, d3] }
  | _ => none }
def ColourNeverWrongFalsely : Prop := colourNeverRow.holds Try.pinned (OpenSpec.ofChange colourNeverWrong)

/-- 'stearinlaw11.ColourRush': WHATEVER THE INPUT: true; the input reads as it did. -/
def colourRushSpec : ChangeSpec := { name := "colourRush", fn := fun _ => fun
  | [d1, d2, d3] => { results := [.lit (.bool true)], args := [d1, d2, d3] }
  | _ => none }
def colourRushRow : OpenClaim := { program := "ytpkjmnfgpbliaaa", sum := "96f75d236d178dec1077c64612d9ff640f52378f8915e77826dcd1759c2970cc", func := "stearin/stearinlaw11.ColourRush", spec := "colourRush", inPlace := ["slices.overlaps[stearin/api.ClBatch]"], unfollowed := true, recurses := true, plainKeys := false, apart := false }
def ColourRushSaid : Prop := colourRushRow.holds Try.pinned (OpenSpec.ofChange colourRushSpec)

/-- ITS FALSE NEIGHBOUR: 'it returns false'. Refute it at one input. -/
def colourRushWrong : ChangeSpec := { name := "colourRush", fn := fun _ => fun
  | [d1, d2, d3] => { results := [.lit (.bool false)], args := [d1, d2, d3] }
  | _ => none }
def ColourRushWrongFalsely : Prop := colourRushRow.holds Try.pinned (OpenSpec.ofChange colourRushWrong)

/-- 'stearinlaw11.ColourTwo': WHATEVER THE INPUT: true; the input reads as it did. -/
def colourTwoSpec : ChangeSpec := { name := "colourTwo", fn := fun _ => fun
  | [d1, d2, d3] => { results := [.lit (.bool true)], args := [d1, d2, d3] }
  | _ => none }
def colourTwoRow : OpenClaim := { program := "ytpkjmnfgpbliaaa", sum := "96f75d236d178dec1077c64612d9ff640f52378f8915e77826dcd1759c2970cc", func := "stearin/stearinlaw11.ColourTwo", spec := "colourTwo", inPlace := ["slices.overlaps[stearin/api.ClBatch]"], unfollowed := true, recurses := true, plainKeys := false, apart := false }
def ColourTwoSaid : Prop := colourTwoRow.holds Try.pinned (OpenSpec.ofChange colourTwoSpec)

/-- ITS FALSE NEIGHBOUR: 'it returns false'. Refute it at one input. -/
def colourTwoWrong : ChangeSpec := { name := "colourTwo", fn := fun _ => fun
  | [d1, d2, d3] => { results := [.lit (.bool false)], args := [d1, d2, d3] }
  | _ => none }
def ColourTwoWrongFalsely : Prop := colourTwoRow.holds Try.pinned (OpenSpec.ofChange colourTwoWrong)

/-- 'stearinlaw11.ColourLeft': WHATEVER THE INPUT: true; the input reads as it did. -/
def colourLeftSpec : ChangeSpec := { name := "colourLeft", fn := fun _ => fun
  | [d1, d2] => { results := [.lit (.bool true)], args := [d1, d2] }
  | _ => none }
def colourLeftRow : OpenClaim := { program := "ytpkjmnfgpbliaaa", sum := "96f75d236d178dec1077c64612d9ff640f52378f8915e77826dcd1759c2970cc", func := "stearin/stearinlaw11.ColourLeft", spec := "colourLeft", inPlace := ["slices.overlaps[stearin/api.ClBatch]"], unfollowed := true, recurses := true, plainKeys := false, apart := false }
def ColourLeftSaid : Prop := colourLeftRow.holds Try.pinned (OpenSpec.ofChange colourLeftSpec)

/-- ITS FALSE NEIGHBOUR: 'it returns false'. Refute it at one input. -/
def colourLeftWrong : ChangeSpec := { name := "colourLeft", fn := fun _ => fun
  | [d1, d2] => { results := [.lit (.bool false)], args := [d1, d2] }
  | _ => none }
def ColourLeftWrongFalsely : Prop := colourLeftRow.holds Try.pinned (OpenSpec.ofChange colourLeftWrong)

/-- 'stearinlaw11.ColourMore': WHATEVER THE INPUT: true; the input reads as it did. -/
def colourMoreSpec : ChangeSpec := { name := "colourMore", fn := fun _ => fun
  | [d1, d2, d3] => { results := [.lit (.bool true)], args := [d1, d2, d3] }
  | _ => none }
def colourMoreRow : OpenClaim := { program := "ytpkjmnfgpbliaaa", sum := "96f75d236d178dec1077c64612d9ff640f52378f8915e77826dcd1759c2970cc", func := "stearin/stearinlaw11.ColourMore", spec := "colourMore", inPlace := ["slices.overlaps[stearin/api.ClBatch]"], unfollowed := true, recurses := true, plainKeys := false, apart := false }
def ColourMoreSaid : Prop := colourMoreRow.holds Try.pinned (OpenSpec.ofChange colourMoreSpec)

/-- ITS FALSE NEIGHBOUR: 'it returns false'. Refute it at one input. -/
def colourMoreWrong : ChangeSpec := { name := "colourMore", fn := fun _ => fun
  | [d1, d2, d3] => { results := [.lit (.bool false)], args := [d1, d2, d3] }
  | _ => none }
def ColourMoreWrongFalsely : Prop := colourMoreRow.holds Try.pinned (OpenSpec.ofChange colourMoreWrong)

/-- 'stearinlaw11.ColourTurned': WHATEVER THE INPUT: true; the input reads as it did. -/
def colourTurnedSpec : ChangeSpec := { name := "colourTurned", fn := fun _ => fun
  | [d1, d2, d3] => { results := [.lit (.bool true)], args := [d1, d2, d3] }
  | _ => none }
def colourTurnedRow : OpenClaim := { program := "ytpkjmnfgpbliaaa", sum := "96f75d236d178dec1077c64612d9ff640f52378f8915e77826dcd1759c2970cc", func := "stearin/stearinlaw11.ColourTurned", spec := "colourTurned", inPlace := ["slices.overlaps[stearin/api.ClBatch]"], unfollowed := true, recurses := true, plainKeys := false, apart := false }
def ColourTurnedSaid : Prop := colourTurnedRow.holds Try.pinned (OpenSpec.ofChange colourTurnedSpec)

/-- ITS FALSE NEIGHBOUR: 'it returns false'. Refute it at one input. -/
def colourTurnedWrong : ChangeSpec := { name := "colourTurned", fn := fun _ => fun
  | [d1, d2, d3] => { results := [.lit (.bool false)], args := [d1, d2, d3] }
  | _ => none }
def ColourTurnedWrongFalsely : Prop := colourTurnedRow.holds Try.pinned (OpenSpec.ofChange colourTurnedWrong)

/- THE SECOND FORM. 'bulk': how many values and letters a reading holds, each counted each time it is reached (what is shared counts as often as it is met; a slice's spare places count too). A statement '..UptoSaid' is the law's where the arguments, and the package variables that the reading takes, are together of bulk at most 1048576: NARROWER than '..Said'. Prove '..Said' where nothing that the law and all that it calls make is longer than what came in: it says more and counts as full. Else prove '..UptoSaid'. A law counts once. -/
mutual
def uptoBulk {H : Type} : DataW H → Nat
  | .lit (.string bytes) => bytes.length + 1
  | .lit _ => 1
  | .nil => 1
  | .ptr d => uptoBulk d + 1
  | .slice elems spare => uptoBulkAll elems + uptoBulkAll spare + 1
  | .agg parts => uptoBulkAll parts + 1
  | .iface _ d => uptoBulk d + 1
  | .map entries => uptoBulkEntries entries + 1
  | .held _ => 1
def uptoBulkAll {H : Type} : List (DataW H) → Nat
  | [] => 0
  | d :: r => uptoBulk d + uptoBulkAll r
def uptoBulkEntries {H : Type} : List (Lit × DataW H) → Nat
  | [] => 0
  | x :: r => uptoBulkEntry x + uptoBulkEntries r
def uptoBulkEntry {H : Type} : Lit × DataW H → Nat
  | (.string bytes, d) => bytes.length + uptoBulk d + 1
  | (_, d) => uptoBulk d + 1
 end
def uptoSmall : (H : Type) → List (DataW H) → Bool := fun _ ds => decide (uptoBulkAll ds ≤ 1048576)
def OpenSpec.upto (s : _root_.Go.ChangeSpec) : _root_.Go.OpenSpec := { _root_.Go.OpenSpec.ofChange s with cond := some uptoSmall }

/-- 'stearinlaw11.ColourRinses', WHERE WHAT IT READS IS OF BULK AT MOST 1048576: true; the input reads as it did. -/
def colourRinsesUptoRow : OpenClaim := { program := "ytpkjmnfgpbliaaa", sum := "96f75d236d178dec1077c64612d9ff640f52378f8915e77826dcd1759c2970cc", func := "stearin/stearinlaw11.ColourRinses", spec := "colourRinses", inPlace := ["slices.overlaps[stearin/api.ClBatch]"], unfollowed := true, recurses := true, plainKeys := false, apart := false, narrowed := true }
def ColourRinsesUptoSaid : Prop := colourRinsesUptoRow.holds Try.pinned (OpenSpec.upto colourRinsesSpec)

/-- 'stearinlaw11.ColourOrders', WHERE WHAT IT READS IS OF BULK AT MOST 1048576: true; the input reads as it did. -/
def colourOrdersUptoRow : OpenClaim := { program := "ytpkjmnfgpbliaaa", sum := "96f75d236d178dec1077c64612d9ff640f52378f8915e77826dcd1759c2970cc", func := "stearin/stearinlaw11.ColourOrders", spec := "colourOrders", inPlace := ["slices.overlaps[stearin/api.ClBatch]"], unfollowed := true, recurses := true, plainKeys := false, apart := false, narrowed := true }
def ColourOrdersUptoSaid : Prop := colourOrdersUptoRow.holds Try.pinned (OpenSpec.upto colourOrdersSpec)

/-- 'stearinlaw11.ColourBest', WHERE WHAT IT READS IS OF BULK AT MOST 1048576: true; the input reads as it did. -/
def colourBestUptoRow : OpenClaim := { program := "ytpkjmnfgpbliaaa", sum := "96f75d236d178dec1077c64612d9ff640f52378f8915e77826dcd1759c2970cc", func := "stearin/stearinlaw11.ColourBest", spec := "colourBest", inPlace := ["slices.overlaps[stearin/api.ClBatch]"], unfollowed := true, recurses := true, plainKeys := false, apart := false, narrowed := true }
def ColourBestUptoSaid : Prop := colourBestUptoRow.holds Try.pinned (OpenSpec.upto colourBestSpec)

/-- 'stearinlaw11.ColourKnown', WHERE WHAT IT READS IS OF BULK AT MOST 1048576: true; the input reads as it did. -/
def colourKnownUptoRow : OpenClaim := { program := "ytpkjmnfgpbliaaa", sum := "96f75d236d178dec1077c64612d9ff640f52378f8915e77826dcd1759c2970cc", func := "stearin/stearinlaw11.ColourKnown", spec := "colourKnown", inPlace := ["slices.overlaps[stearin/api.ClBatch]"], unfollowed := true, recurses := true, plainKeys := false, apart := false, narrowed := true }
def ColourKnownUptoSaid : Prop := colourKnownUptoRow.holds Try.pinned (OpenSpec.upto colourKnownSpec)

/-- 'stearinlaw11.ColourTruth', WHERE WHAT IT READS IS OF BULK AT MOST 1048576: true; the input reads as it did. -/
def colourTruthUptoRow : OpenClaim := { program := "ytpkjmnfgpbliaaa", sum := "96f75d236d178dec1077c64612d9ff640f52378f8915e77826dcd1759c2970cc", func := "stearin/stearinlaw11.ColourTruth", spec := "colourTruth", inPlace := ["slices.overlaps[stearin/api.ClBatch]"], unfollowed := true, recurses := true, plainKeys := false, apart := false, narrowed := true }
def ColourTruthUptoSaid : Prop := colourTruthUptoRow.holds Try.pinned (OpenSpec.upto colourTruthSpec)

/-- 'stearinlaw11.ColourLeast', WHERE WHAT IT READS IS OF BULK AT MOST 1048576: true; the input reads as it did. -/
def colourLeastUptoRow : OpenClaim := { program := "ytpkjmnfgpbliaaa", sum := "96f75d236d178dec1077c64612d9ff640f52378f8915e77826dcd1759c2970cc", func := "stearin/stearinlaw11.ColourLeast", spec := "colourLeast", inPlace := ["slices.overlaps[stearin/api.ClBatch]"], unfollowed := true, recurses := true, plainKeys := false, apart := false, narrowed := true }
def ColourLeastUptoSaid : Prop := colourLeastUptoRow.holds Try.pinned (OpenSpec.upto colourLeastSpec)

/-- 'stearinlaw11.ColourNever', WHERE WHAT IT READS IS OF BULK AT MOST 1048576: true; the input reads as it did. -/
def colourNeverUptoRow : OpenClaim := { program := "ytpkjmnfgpbliaaa", sum := "96f75d236d178dec1077c64612d9ff640f52378f8915e77826dcd1759c2970cc", func := "stearin/stearinlaw11.ColourNever", spec := "colourNever", inPlace := ["slices.overlaps[stearin/api.ClBatch]"], unfollowed := true, recurses := true, plainKeys := false, apart := false, narrowed := true }
def ColourNeverUptoSaid : Prop := colourNeverUptoRow.holds Try.pinned (OpenSpec.upto colourNeverSpec)

/-- 'stearinlaw11.ColourRush', WHERE WHAT IT READS IS OF BULK AT MOST 1048576: true; the input reads as it did. -/
def colourRushUptoRow : OpenClaim := { program := "ytpkjmnfgpbliaaa", sum := "96f75d236d178dec1077c64612d9ff640f52378f8915e77826dcd1759c2970cc", func := "stearin/stearinlaw11.ColourRush", spec := "colourRush", inPlace := ["slices.overlaps[stearin/api.ClBatch]"], unfollowed := true, recurses := true, plainKeys := false, apart := false, narrowed := true }
def ColourRushUptoSaid : Prop := colourRushUptoRow.holds Try.pinned (OpenSpec.upto colourRushSpec)

/-- 'stearinlaw11.ColourTwo', WHERE WHAT IT READS IS OF BULK AT MOST 1048576: true; the input reads as it did. -/
def colourTwoUptoRow : OpenClaim := { program := "ytpkjmnfgpbliaaa", sum := "96f75d236d178dec1077c64612d9ff640f52378f8915e77826dcd1759c2970cc", func := "stearin/stearinlaw11.ColourTwo", spec := "colourTwo", inPlace := ["slices.overlaps[stearin/api.ClBatch]"], unfollowed := true, recurses := true, plainKeys := false, apart := false, narrowed := true }
def ColourTwoUptoSaid : Prop := colourTwoUptoRow.holds Try.pinned (OpenSpec.upto colourTwoSpec)

/-- 'stearinlaw11.ColourLeft', WHERE WHAT IT READS IS OF BULK AT MOST 1048576: true; the input reads as it did. -/
def colourLeftUptoRow : OpenClaim := { program := "ytpkjmnfgpbliaaa", sum := "96f75d236d178dec1077c64612d9ff640f52378f8915e77826dcd1759c2970cc", func := "stearin/stearinlaw11.ColourLeft", spec := "colourLeft", inPlace := ["slices.overlaps[stearin/api.ClBatch]"], unfollowed := true, recurses := true, plainKeys := false, apart := false, narrowed := true }
def ColourLeftUptoSaid : Prop := colourLeftUptoRow.holds Try.pinned (OpenSpec.upto colourLeftSpec)

/-- 'stearinlaw11.ColourMore', WHERE WHAT IT READS IS OF BULK AT MOST 1048576: true; the input reads as it did. -/
def colourMoreUptoRow : OpenClaim := { program := "ytpkjmnfgpbliaaa", sum := "96f75d236d178dec1077c64612d9ff640f52378f8915e77826dcd1759c2970cc", func := "stearin/stearinlaw11.ColourMore", spec := "colourMore", inPlace := ["slices.overlaps[stearin/api.ClBatch]"], unfollowed := true, recurses := true, plainKeys := false, apart := false, narrowed := true }
def ColourMoreUptoSaid : Prop := colourMoreUptoRow.holds Try.pinned (OpenSpec.upto colourMoreSpec)

/-- 'stearinlaw11.ColourTurned', WHERE WHAT IT READS IS OF BULK AT MOST 1048576: true; the input reads as it did. -/
def colourTurnedUptoRow : OpenClaim := { program := "ytpkjmnfgpbliaaa", sum := "96f75d236d178dec1077c64612d9ff640f52378f8915e77826dcd1759c2970cc", func := "stearin/stearinlaw11.ColourTurned", spec := "colourTurned", inPlace := ["slices.overlaps[stearin/api.ClBatch]"], unfollowed := true, recurses := true, plainKeys := false, apart := false, narrowed := true }
def ColourTurnedUptoSaid : Prop := colourTurnedUptoRow.holds Try.pinned (OpenSpec.upto colourTurnedSpec)

end Rows
end Go.Proofs.Ytpkjmnfgpbliaaa
