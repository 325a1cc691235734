/-
  NARROWER THAN 'FOR EVERY INPUT', by the rows' own cells (each row's printed sentence says how): FingerTells: laid · FingerWalk: laid · FingerOnce: laid · FingerSets: laid · FingerTable: laid · IdealRing: laid · IdealOwner: laid · IdealView: laid · IdealMore: laid.
  DERIVED. THE GIVEN ROWS OF THIS SEAT. 9 by the template 'for every input the law returns true; each argument reads behind the call as it read before'; 0 by the template 'total and deterministic' (their statements: YtbjgfcempfpfcaaDoorTotals.lean).
  GIVEN WITH THE SEED: the statements are not yours to turn. If you find one false, say at which input.
  Laid BY PROGRAM, IN A SANDBOX (cutbox-rows.mjs): the forced cells as the released guide's own fill.sh prints them over the translation dec62f9046a80265… (all of the seat's roots in one cut). By AI agents, Wed Nov 11 2026. No macro, syntax, notation, axiom, sorry.
-/
import Derived.Test.YtbjgfcempfpfcaaDoorChecked
import GoSem.Claim
import GoSem.ClaimJoined
import GoSem.ClaimMapViews
import Derived.JoinedTies
import Derived.KernelRfl
namespace Go.Proofs.YtbjgfcempfpfcaaDoor
/- THE CELL 'sum', in the pinned program and in every row, IS THE sha256 OF THE DUMP (.gsa) THAT YtbjgfcempfpfcaaDoorProg.lean LOADS. Nothing in Lean hashes anything: it is a label: what it is worth is what the hold of that sum in a sandbox is worth. -/
noncomputable def Tryd.pinned : Pinned := { name := "ytbjgfcempfpfcaadoor", sum := "dec62f9046a80265130bd8e081014ccdb6b18a456805cfd4b0a547d1ceb01334", checked := Tryd.checked }
namespace Rows
def none {H : Type} : Left H := { results := [], args := [] }

/- WHAT THE LISTED PACKAGE-LEVEL VARIABLES READ AS WHEN THE CALL BEGINS. Each datum BY PROGRAM (the guide's laid-datum.mjs) off the statement by which the dump's own 'gosem.cut.vars' lays the variable. In a bare row this is a premise. The card (YtbjgfcempfpfcaaDoorCards.lean) ties it to the program's text. -/
def laid_garland_arc_steps {H : Type} : DataW H := .agg [.lit (.int .i64 1), .lit (.int .i64 2), .lit (.int .i64 4), .lit (.int .i64 8), .lit (.int .i64 16), .lit (.int .i64 32), .lit (.int .i64 64), .lit (.int .i64 128), .lit (.int .i64 256), .lit (.int .i64 512), .lit (.int .i64 1024), .lit (.int .i64 2048), .lit (.int .i64 4096), .lit (.int .i64 8192), .lit (.int .i64 16384), .lit (.int .i64 32768)]

/-- 'garlandlaw17.FingerTells': WHATEVER THE INPUT: true; the input reads as it did. -/
def fingerTellsSpec : ChangeSpec := { name := "fingerTells", fn := fun _ => fun
  | [d1, d2, d3, d4] => { results := [.lit (.bool true)], args := [d1, d2, d3, d4] }
  | _ => none }
def fingerTellsRow : OpenClaim := { program := "ytbjgfcempfpfcaadoor", sum := "dec62f9046a80265130bd8e081014ccdb6b18a456805cfd4b0a547d1ceb01334", func := "garland/garlandlaw17.FingerTells", spec := "fingerTells", unfollowed := true, recurses := true, named := ["garland/arc.steps"], apart := false, laid := [("garland/arc.steps", laid_garland_arc_steps)] }
def FingerTellsSaid : Prop := fingerTellsRow.holds Tryd.pinned (OpenSpec.ofChange fingerTellsSpec)

/-- ITS FALSE NEIGHBOUR: 'it returns false'. Refute it at one input. -/
def fingerTellsWrong : ChangeSpec := { name := "fingerTells", fn := fun _ => fun
  | [d1, d2, d3, d4] => { results := [.lit (.bool false)], args := [d1, d2, d3, d4] }
  | _ => none }
def FingerTellsWrongFalsely : Prop := fingerTellsRow.holds Tryd.pinned (OpenSpec.ofChange fingerTellsWrong)

/-- 'garlandlaw17.FingerWalk': WHATEVER THE INPUT: true; the input reads as it did. -/
def fingerWalkSpec : ChangeSpec := { name := "fingerWalk", fn := fun _ => fun
  | [d1, d2] => { results := [.lit (.bool true)], args := [d1, d2] }
  | _ => none }
def fingerWalkRow : OpenClaim := { program := "ytbjgfcempfpfcaadoor", sum := "dec62f9046a80265130bd8e081014ccdb6b18a456805cfd4b0a547d1ceb01334", func := "garland/garlandlaw17.FingerWalk", spec := "fingerWalk", unfollowed := true, recurses := true, named := ["garland/arc.steps"], apart := false, laid := [("garland/arc.steps", laid_garland_arc_steps)] }
def FingerWalkSaid : Prop := fingerWalkRow.holds Tryd.pinned (OpenSpec.ofChange fingerWalkSpec)

/-- ITS FALSE NEIGHBOUR: 'it returns false'. Refute it at one input. -/
def fingerWalkWrong : ChangeSpec := { name := "fingerWalk", fn := fun _ => fun
  | [d1, d2] => { results := [.lit (.bool false)], args := [d1, d2] }
  | _ => none }
def FingerWalkWrongFalsely : Prop := fingerWalkRow.holds Tryd.pinned (OpenSpec.ofChange fingerWalkWrong)

/-- 'garlandlaw17.FingerOnce': WHATEVER THE INPUT: true; the input reads as it did. -/
def fingerOnceSpec : ChangeSpec := { name := "fingerOnce", fn := fun _ => fun
  | [d1, d2] => { results := [.lit (.bool true)], args := [d1, d2] }
  | _ => none }
def fingerOnceRow : OpenClaim := { program := "ytbjgfcempfpfcaadoor", sum := "dec62f9046a80265130bd8e081014ccdb6b18a456805cfd4b0a547d1ceb01334", func := "garland/garlandlaw17.FingerOnce", spec := "fingerOnce", unfollowed := true, recurses := true, named := ["garland/arc.steps"], apart := false, laid := [("garland/arc.steps", laid_garland_arc_steps)] }
def FingerOnceSaid : Prop := fingerOnceRow.holds Tryd.pinned (OpenSpec.ofChange fingerOnceSpec)

/-- ITS FALSE NEIGHBOUR: 'it returns false'. Refute it at one input. -/
def fingerOnceWrong : ChangeSpec := { name := "fingerOnce", fn := fun _ => fun
  | [d1, d2] => { results := [.lit (.bool false)], args := [d1, d2] }
  | _ => none }
def FingerOnceWrongFalsely : Prop := fingerOnceRow.holds Tryd.pinned (OpenSpec.ofChange fingerOnceWrong)

/-- 'garlandlaw17.FingerSets': WHATEVER THE INPUT: true; the input reads as it did. -/
def fingerSetsSpec : ChangeSpec := { name := "fingerSets", fn := fun _ => fun
  | [d1, d2, d3] => { results := [.lit (.bool true)], args := [d1, d2, d3] }
  | _ => none }
def fingerSetsRow : OpenClaim := { program := "ytbjgfcempfpfcaadoor", sum := "dec62f9046a80265130bd8e081014ccdb6b18a456805cfd4b0a547d1ceb01334", func := "garland/garlandlaw17.FingerSets", spec := "fingerSets", unfollowed := true, recurses := true, named := ["garland/arc.steps"], apart := false, laid := [("garland/arc.steps", laid_garland_arc_steps)] }
def FingerSetsSaid : Prop := fingerSetsRow.holds Tryd.pinned (OpenSpec.ofChange fingerSetsSpec)

/-- ITS FALSE NEIGHBOUR: 'it returns false'. Refute it at one input. -/
def fingerSetsWrong : ChangeSpec := { name := "fingerSets", fn := fun _ => fun
  | [d1, d2, d3] => { results := [.lit (.bool false)], args := [d1, d2, d3] }
  | _ => none }
def FingerSetsWrongFalsely : Prop := fingerSetsRow.holds Tryd.pinned (OpenSpec.ofChange fingerSetsWrong)

/-- 'garlandlaw17.FingerTable': WHATEVER THE INPUT: true; the input reads as it did. -/
def fingerTableSpec : ChangeSpec := { name := "fingerTable", fn := fun _ => fun
  | [d1, d2] => { results := [.lit (.bool true)], args := [d1, d2] }
  | _ => none }
def fingerTableRow : OpenClaim := { program := "ytbjgfcempfpfcaadoor", sum := "dec62f9046a80265130bd8e081014ccdb6b18a456805cfd4b0a547d1ceb01334", func := "garland/garlandlaw17.FingerTable", spec := "fingerTable", unfollowed := true, recurses := true, named := ["garland/arc.steps"], apart := false, laid := [("garland/arc.steps", laid_garland_arc_steps)] }
def FingerTableSaid : Prop := fingerTableRow.holds Tryd.pinned (OpenSpec.ofChange fingerTableSpec)

/-- ITS FALSE NEIGHBOUR: 'it returns false'. Refute it at one input. -/
def fingerTableWrong : ChangeSpec := { name := "fingerTable", fn := fun _ => fun
  | [d1, d2] => { results := [.lit (.bool false)], args := [d1, d2] }
  | _ => none }
def FingerTableWrongFalsely : Prop := fingerTableRow.holds Tryd.pinned (OpenSpec.ofChange fingerTableWrong)

/-- 'garlandlaw26.IdealRing': WHATEVER THE INPUT: true; the input reads as it did. -/
def idealRingSpec : ChangeSpec := { name := "idealRing", fn := fun _ => fun
  | [d1, d2] => { results := [.lit (.bool true)], args := [d1, d2] }
  | _ => none }
def idealRingRow : OpenClaim := { program := "ytbjgfcempfpfcaadoor", sum := "dec62f9046a80265130bd8e081014ccdb6b18a456805cfd4b0a547d1ceb01334", func := "garland/garlandlaw26.IdealRing", spec := "idealRing", unfollowed := true, recurses := true, named := ["garland/arc.steps"], apart := false, laid := [("garland/arc.steps", laid_garland_arc_steps)] }
def IdealRingSaid : Prop := idealRingRow.holds Tryd.pinned (OpenSpec.ofChange idealRingSpec)

/-- ITS FALSE NEIGHBOUR: 'it returns false'. Refute it at one input. -/
def idealRingWrong : ChangeSpec := { name := "idealRing", fn := fun _ => fun
  | [d1, d2] => { results := [.lit (.bool false)], args := [d1, d2] }
  | _ => none }
def IdealRingWrongFalsely : Prop := idealRingRow.holds Tryd.pinned (OpenSpec.ofChange idealRingWrong)

/-- 'garlandlaw26.IdealOwner': WHATEVER THE INPUT: true; the input reads as it did. -/
def idealOwnerSpec : ChangeSpec := { name := "idealOwner", fn := fun _ => fun
  | [d1, d2] => { results := [.lit (.bool true)], args := [d1, d2] }
  | _ => none }
def idealOwnerRow : OpenClaim := { program := "ytbjgfcempfpfcaadoor", sum := "dec62f9046a80265130bd8e081014ccdb6b18a456805cfd4b0a547d1ceb01334", func := "garland/garlandlaw26.IdealOwner", spec := "idealOwner", unfollowed := true, recurses := true, named := ["garland/arc.steps"], apart := false, laid := [("garland/arc.steps", laid_garland_arc_steps)] }
def IdealOwnerSaid : Prop := idealOwnerRow.holds Tryd.pinned (OpenSpec.ofChange idealOwnerSpec)

/-- ITS FALSE NEIGHBOUR: 'it returns false'. Refute it at one input. -/
def idealOwnerWrong : ChangeSpec := { name := "idealOwner", fn := fun _ => fun
  | [d1, d2] => { results := [.lit (.bool false)], args := [d1, d2] }
  | _ => none }
def IdealOwnerWrongFalsely : Prop := idealOwnerRow.holds Tryd.pinned (OpenSpec.ofChange idealOwnerWrong)

/-- 'garlandlaw26.IdealView': WHATEVER THE INPUT: true; the input reads as it did. -/
def idealViewSpec : ChangeSpec := { name := "idealView", fn := fun _ => fun
  | [d1, d2, d3, d4, d5] => { results := [.lit (.bool true)], args := [d1, d2, d3, d4, d5] }
  | _ => none }
def idealViewRow : OpenClaim := { program := "ytbjgfcempfpfcaadoor", sum := "dec62f9046a80265130bd8e081014ccdb6b18a456805cfd4b0a547d1ceb01334", func := "garland/garlandlaw26.IdealView", spec := "idealView", unfollowed := true, recurses := true, named := ["garland/arc.steps"], apart := false, laid := [("garland/arc.steps", laid_garland_arc_steps)] }
def IdealViewSaid : Prop := idealViewRow.holds Tryd.pinned (OpenSpec.ofChange idealViewSpec)

/-- ITS FALSE NEIGHBOUR: 'it returns false'. Refute it at one input. -/
def idealViewWrong : ChangeSpec := { name := "idealView", fn := fun _ => fun
  | [d1, d2, d3, d4, d5] => { results := [.lit (.bool false)], args := [d1, d2, d3, d4, d5] }
  | _ => none }
def IdealViewWrongFalsely : Prop := idealViewRow.holds Tryd.pinned (OpenSpec.ofChange idealViewWrong)

/-- 'garlandlaw26.IdealMore': WHATEVER THE INPUT: true; the input reads as it did. -/
def idealMoreSpec : ChangeSpec := { name := "idealMore", fn := fun _ => fun
  | [d1, d2] => { results := [.lit (.bool true)], args := [d1, d2] }
  | _ => none }
def idealMoreRow : OpenClaim := { program := "ytbjgfcempfpfcaadoor", sum := "dec62f9046a80265130bd8e081014ccdb6b18a456805cfd4b0a547d1ceb01334", func := "garland/garlandlaw26.IdealMore", spec := "idealMore", unfollowed := true, recurses := true, named := ["garland/arc.steps"], apart := false, laid := [("garland/arc.steps", laid_garland_arc_steps)] }
def IdealMoreSaid : Prop := idealMoreRow.holds Tryd.pinned (OpenSpec.ofChange idealMoreSpec)

/-- ITS FALSE NEIGHBOUR: 'it returns false'. Refute it at one input. -/
def idealMoreWrong : ChangeSpec := { name := "idealMore", fn := fun _ => fun
  | [d1, d2] => { results := [.lit (.bool false)], args := [d1, d2] }
  | _ => none }
def IdealMoreWrongFalsely : Prop := idealMoreRow.holds Tryd.pinned (OpenSpec.ofChange idealMoreWrong)

/- THE SECOND FORM. 'bulk': how many values and letters a reading holds, each counted each time it is reached (what is shared counts as often as it is met; a slice's spare places count too). A statement '..UptoSaid' is the law's where the arguments, and the package variables that the reading takes, are together of bulk at most 1048576: NARROWER than '..Said'. Prove '..Said' where nothing that the law and all that it calls make is longer than what came in: it says more and counts as full. Else prove '..UptoSaid'. A law counts once. -/
mutual
def uptoBulk {H : Type} : DataW H → Nat
  | .lit (.string bytes) => bytes.length + 1
  | .lit _ => 1
  | .nil => 1
  | .ptr d => uptoBulk d + 1
  | .slice elems spare => uptoBulkAll elems + uptoBulkAll spare + 1
  | .agg parts => uptoBulkAll parts + 1
  | .iface _ d => uptoBulk d + 1
  | .map entries => uptoBulkEntries entries + 1
  | .held _ => 1
def uptoBulkAll {H : Type} : List (DataW H) → Nat
  | [] => 0
  | d :: r => uptoBulk d + uptoBulkAll r
def uptoBulkEntries {H : Type} : List (Lit × DataW H) → Nat
  | [] => 0
  | x :: r => uptoBulkEntry x + uptoBulkEntries r
def uptoBulkEntry {H : Type} : Lit × DataW H → Nat
  | (.string bytes, d) => bytes.length + uptoBulk d + 1
  | (_, d) => uptoBulk d + 1
 end
def uptoSmall : (H : Type) → List (DataW H) → Bool := fun _ ds => decide (uptoBulkAll ds ≤ 1048576)
def OpenSpec.upto (s : _root_.Go.ChangeSpec) : _root_.Go.OpenSpec := { _root_.Go.OpenSpec.ofChange s with cond := some uptoSmall }

/-- 'garlandlaw17.FingerTells', WHERE WHAT IT READS IS OF BULK AT MOST 1048576: true; the input reads as it did. -/
def fingerTellsUptoRow : OpenClaim := { program := "ytbjgfcempfpfcaadoor", sum := "dec62f9046a80265130bd8e081014ccdb6b18a456805cfd4b0a547d1ceb01334", func := "garland/garlandlaw17.FingerTells", spec := "fingerTells", unfollowed := true, recurses := true, named := ["garland/arc.steps"], apart := false, laid := [("garland/arc.steps", laid_garland_arc_steps)], narrowed := true }
def FingerTellsUptoSaid : Prop := fingerTellsUptoRow.holds Tryd.pinned (OpenSpec.upto fingerTellsSpec)

/-- 'garlandlaw17.FingerWalk', WHERE WHAT IT READS IS OF BULK AT MOST 1048576: true; the input reads as it did. -/
def fingerWalkUptoRow : OpenClaim := { program := "ytbjgfcempfpfcaadoor", sum := "dec62f9046a80265130bd8e081014ccdb6b18a456805cfd4b0a547d1ceb01334", func := "garland/garlandlaw17.FingerWalk", spec := "fingerWalk", unfollowed := true, recurses := true, named := ["garland/arc.steps"], apart := false, laid := [("garland/arc.steps", laid_garland_arc_steps)], narrowed := true }
def FingerWalkUptoSaid : Prop := fingerWalkUptoRow.holds Tryd.pinned (OpenSpec.upto fingerWalkSpec)

/-- 'garlandlaw17.FingerOnce', WHERE WHAT IT READS IS OF BULK AT MOST 1048576: true; the input reads as it did. -/
def fingerOnceUptoRow : OpenClaim := { program := "ytbjgfcempfpfcaadoor", sum := "dec62f9046a80265130bd8e081014ccdb6b18a456805cfd4b0a547d1ceb01334", func := "garland/garlandlaw17.FingerOnce", spec := "fingerOnce", unfollowed := true, recurses := true, named := ["garland/arc.steps"], apart := false, laid := [("garland/arc.steps", laid_garland_arc_steps)], narrowed := true }
def FingerOnceUptoSaid : Prop := fingerOnceUptoRow.holds Tryd.pinned (OpenSpec.upto fingerOnceSpec)

/-- 'garlandlaw17.FingerSets', WHERE WHAT IT READS IS OF BULK AT MOST 1048576: true; the input reads as it did. -/
def fingerSetsUptoRow : OpenClaim := { program := "ytbjgfcempfpfcaadoor", sum := "dec62f9046a80265130bd8e081014ccdb6b18a456805cfd4b0a547d1ceb01334", func := "garland/garlandlaw17.FingerSets", spec := "fingerSets", unfollowed := true, recurses := true, named := ["garland/arc.steps"], apart := false, laid := [("garland/arc.steps", laid_garland_arc_steps)], narrowed := true }
def FingerSetsUptoSaid : Prop := fingerSetsUptoRow.holds Tryd.pinned (OpenSpec.upto fingerSetsSpec)

/-- 'garlandlaw17.FingerTable', WHERE WHAT IT READS IS OF BULK AT MOST 1048576: true; the input reads as it did. -/
def fingerTableUptoRow : OpenClaim := { program := "ytbjgfcempfpfcaadoor", sum := "dec62f9046a80265130bd8e081014ccdb6b18a456805cfd4b0a547d1ceb01334", func := "garland/garlandlaw17.FingerTable", spec := "fingerTable", unfollowed := true, recurses := true, named := ["garland/arc.steps"], apart := false, laid := [("garland/arc.steps", laid_garland_arc_steps)], narrowed := true }
def FingerTableUptoSaid : Prop := fingerTableUptoRow.holds Tryd.pinned (OpenSpec.upto fingerTableSpec)

/-- 'garlandlaw26.IdealRing', WHERE WHAT IT READS IS OF BULK AT MOST 1048576: true; the input reads as it did. -/
def idealRingUptoRow : OpenClaim := { program := "ytbjgfcempfpfcaadoor", sum := "dec62f9046a80265130bd8e081014ccdb6b18a456805cfd4b0a547d1ceb01334", func := "garland/garlandlaw26.IdealRing", spec := "idealRing", unfollowed := true, recurses := true, named := ["garland/arc.steps"], apart := false, laid := [("garland/arc.steps", laid_garland_arc_steps)], narrowed := true }
def IdealRingUptoSaid : Prop := idealRingUptoRow.holds Tryd.pinned (OpenSpec.upto idealRingSpec)

/-- 'garlandlaw26.IdealOwner', WHERE WHAT IT READS IS OF BULK AT MOST 1048576: true; the input reads as it did. -/
def idealOwnerUptoRow : OpenClaim := { program := "ytbjgfcempfpfcaadoor", sum := "dec62f9046a80265130bd8e081014ccdb6b18a456805cfd4b0a547d1ceb01334", func := "garland/garlandlaw26.IdealOwner", spec := "idealOwner", unfollowed := true, recurses := true, named := ["garland/arc.steps"], apart := false, laid := [("garland/arc.steps", laid_garland_arc_steps)], narrowed := true }
def IdealOwnerUptoSaid : Prop := idealOwnerUptoRow.holds Tryd.pinned (OpenSpec.upto idealOwnerSpec)

/-- 'garlandlaw26.IdealView', WHERE WHAT IT READS IS OF BULK AT MOST 1048576: true; the input reads as it did. -/
def idealViewUptoRow : OpenClaim := { program := "ytbjgfcempfpfcaadoor", sum := "dec62f9046a80265130bd8e081014ccdb6b18a456805cfd4b0a547d1ceb01334", func := "garland/garlandlaw26.IdealView", spec := "idealView", unfollowed := true, recurses := true, named := ["garland/arc.steps"], apart := false, laid := [("garland/arc.steps", laid_garland_arc_steps)], narrowed := true }
def IdealViewUptoSaid : Prop := idealViewUptoRow.holds Tryd.pinned (OpenSpec.upto idealViewSpec)

/-- 'garlandlaw26.IdealMore', WHERE WHAT IT READS IS OF BULK AT MOST 1048576: true; the input reads as it did. -/
def idealMoreUptoRow : OpenClaim := { program := "ytbjgfcempfpfcaadoor", sum := "dec62f9046a80265130bd8e081014ccdb6b18a456805cfd4b0a547d1ceb01334", func := "garland/garlandlaw26.IdealMore", spec := "idealMore", unfollowed := true, recurses := true, named := ["garland/arc.steps"], apart := false, laid := [("garland/arc.steps", laid_garland_arc_steps)], narrowed := true }
def IdealMoreUptoSaid : Prop := idealMoreUptoRow.holds Tryd.pinned (OpenSpec.upto idealMoreSpec)

end Rows
end Go.Proofs.YtbjgfcempfpfcaaDoor
