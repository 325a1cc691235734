/-
  No cell of these rows narrows 'for every input' (looked for: loops, veiled, ifaces, maps, wideKeys, modest, calm, conditions, laid).
  DERIVED. THE GIVEN ROWS OF THIS SEAT. 13 by the template 'for every input the law returns true; each argument reads behind the call as it read before'; 0 by the template 'total and deterministic' (their statements: YtbjgfcempfpfcaaTotals.lean).
  GIVEN WITH THE SEED: the statements are not yours to turn. If you find one false, say at which input.
  Laid BY PROGRAM, IN A SANDBOX (cutbox-rows.mjs): the forced cells as the released guide's own fill.sh prints them over the translation 51384d5e2bd31def… (all of the seat's roots in one cut). By AI agents, Wed Nov 11 2026. No macro, syntax, notation, axiom, sorry.
-/
import Derived.Test.YtbjgfcempfpfcaaChecked
import GoSem.Claim
import GoSem.ClaimJoined
import GoSem.ClaimMapViews
import Derived.JoinedTies
import Derived.KernelRfl
namespace Go.Proofs.Ytbjgfcempfpfcaa
/- THE CELL 'sum', in the pinned program and in every row, IS THE sha256 OF THE DUMP (.gsa) THAT YtbjgfcempfpfcaaProg.lean LOADS. Nothing in Lean hashes anything: it is a label: what it is worth is what the hold of that sum in a sandbox is worth. -/
noncomputable def Try.pinned : Pinned := { name := "ytbjgfcempfpfcaa", sum := "51384d5e2bd31def7ce62896f88b7e5f2cdcb0b59d158454c9e1595cd2ba94bc", checked := Try.checked }
namespace Rows
def none {H : Type} : Left H := { results := [], args := [] }

/-- 'garlandlaw15.RectTells': WHATEVER THE INPUT: true; the input reads as it did. -/
def rectTellsSpec : ChangeSpec := { name := "rectTells", fn := fun _ => fun
  | [d1, d2, d3] => { results := [.lit (.bool true)], args := [d1, d2, d3] }
  | _ => none }
def rectTellsRow : OpenClaim := { program := "ytbjgfcempfpfcaa", sum := "51384d5e2bd31def7ce62896f88b7e5f2cdcb0b59d158454c9e1595cd2ba94bc", func := "garland/garlandlaw15.RectTells", spec := "rectTells", unfollowed := true, recurses := true, apart := false }
def RectTellsSaid : Prop := rectTellsRow.holds Try.pinned (OpenSpec.ofChange rectTellsSpec)

/-- ITS FALSE NEIGHBOUR: 'it returns false'. Refute it at one input. -/
def rectTellsWrong : ChangeSpec := { name := "rectTells", fn := fun _ => fun
  | [d1, d2, d3] => { results := [.lit (.bool false)], args := [d1, d2, d3] }
  | _ => none }
def RectTellsWrongFalsely : Prop := rectTellsRow.holds Try.pinned (OpenSpec.ofChange rectTellsWrong)

/-- 'garlandlaw15.RectBest': WHATEVER THE INPUT: true; the input reads as it did. -/
def rectBestSpec : ChangeSpec := { name := "rectBest", fn := fun _ => fun
  | [d1, d2] => { results := [.lit (.bool true)], args := [d1, d2] }
  | _ => none }
def rectBestRow : OpenClaim := { program := "ytbjgfcempfpfcaa", sum := "51384d5e2bd31def7ce62896f88b7e5f2cdcb0b59d158454c9e1595cd2ba94bc", func := "garland/garlandlaw15.RectBest", spec := "rectBest", unfollowed := true, recurses := true, apart := false }
def RectBestSaid : Prop := rectBestRow.holds Try.pinned (OpenSpec.ofChange rectBestSpec)

/-- ITS FALSE NEIGHBOUR: 'it returns false'. Refute it at one input. -/
def rectBestWrong : ChangeSpec := { name := "rectBest", fn := fun _ => fun
  | [d1, d2] => { results := [.lit (.bool false)], args := [d1, d2] }
  | _ => none }
def RectBestWrongFalsely : Prop := rectBestRow.holds Try.pinned (OpenSpec.ofChange rectBestWrong)

/-- 'garlandlaw15.RectOwns': WHATEVER THE INPUT: true; the input reads as it did. -/
def rectOwnsSpec : ChangeSpec := { name := "rectOwns", fn := fun _ => fun
  | [d1, d2, d3] => { results := [.lit (.bool true)], args := [d1, d2, d3] }
  | _ => none }
def rectOwnsRow : OpenClaim := { program := "ytbjgfcempfpfcaa", sum := "51384d5e2bd31def7ce62896f88b7e5f2cdcb0b59d158454c9e1595cd2ba94bc", func := "garland/garlandlaw15.RectOwns", spec := "rectOwns", unfollowed := true, recurses := true, apart := false }
def RectOwnsSaid : Prop := rectOwnsRow.holds Try.pinned (OpenSpec.ofChange rectOwnsSpec)

/-- ITS FALSE NEIGHBOUR: 'it returns false'. Refute it at one input. -/
def rectOwnsWrong : ChangeSpec := { name := "rectOwns", fn := fun _ => fun
  | [d1, d2, d3] => { results := [.lit (.bool false)], args := [d1, d2, d3] }
  | _ => none }
def RectOwnsWrongFalsely : Prop := rectOwnsRow.holds Try.pinned (OpenSpec.ofChange rectOwnsWrong)

/-- 'garlandlaw15.RectGone': WHATEVER THE INPUT: true; the input reads as it did. -/
def rectGoneSpec : ChangeSpec := { name := "rectGone", fn := fun _ => fun
  | [d1, d2, d3] => { results := [.lit (.bool true)], args := [d1, d2, d3] }
  | _ => none }
def rectGoneRow : OpenClaim := { program := "ytbjgfcempfpfcaa", sum := "51384d5e2bd31def7ce62896f88b7e5f2cdcb0b59d158454c9e1595cd2ba94bc", func := "garland/garlandlaw15.RectGone", spec := "rectGone", unfollowed := true, recurses := true, apart := false }
def RectGoneSaid : Prop := rectGoneRow.holds Try.pinned (OpenSpec.ofChange rectGoneSpec)

/-- ITS FALSE NEIGHBOUR: 'it returns false'. Refute it at one input. -/
def rectGoneWrong : ChangeSpec := { name := "rectGone", fn := fun _ => fun
  | [d1, d2, d3] => { results := [.lit (.bool false)], args := [d1, d2, d3] }
  | _ => none }
def RectGoneWrongFalsely : Prop := rectGoneRow.holds Try.pinned (OpenSpec.ofChange rectGoneWrong)

/-- 'garlandlaw15.RectBad': WHATEVER THE INPUT: true; the input reads as it did. -/
def rectBadSpec : ChangeSpec := { name := "rectBad", fn := fun _ => fun
  | [d1, d2, d3] => { results := [.lit (.bool true)], args := [d1, d2, d3] }
  | _ => none }
def rectBadRow : OpenClaim := { program := "ytbjgfcempfpfcaa", sum := "51384d5e2bd31def7ce62896f88b7e5f2cdcb0b59d158454c9e1595cd2ba94bc", func := "garland/garlandlaw15.RectBad", spec := "rectBad", unfollowed := true, recurses := true, apart := false }
def RectBadSaid : Prop := rectBadRow.holds Try.pinned (OpenSpec.ofChange rectBadSpec)

/-- ITS FALSE NEIGHBOUR: 'it returns false'. Refute it at one input. -/
def rectBadWrong : ChangeSpec := { name := "rectBad", fn := fun _ => fun
  | [d1, d2, d3] => { results := [.lit (.bool false)], args := [d1, d2, d3] }
  | _ => none }
def RectBadWrongFalsely : Prop := rectBadRow.holds Try.pinned (OpenSpec.ofChange rectBadWrong)

/-- 'garlandlaw19.ItemOrder': WHATEVER THE INPUT: true; the input reads as it did. -/
def itemOrderSpec : ChangeSpec := { name := "itemOrder", fn := fun _ => fun
  | [d1, d2, d3] => { results := [.lit (.bool true)], args := [d1, d2, d3] }
  | _ => none }
def itemOrderRow : OpenClaim := { program := "ytbjgfcempfpfcaa", sum := "51384d5e2bd31def7ce62896f88b7e5f2cdcb0b59d158454c9e1595cd2ba94bc", func := "garland/garlandlaw19.ItemOrder", spec := "itemOrder", unfollowed := true, recurses := true, apart := false }
def ItemOrderSaid : Prop := itemOrderRow.holds Try.pinned (OpenSpec.ofChange itemOrderSpec)

/-- ITS FALSE NEIGHBOUR: 'it returns false'. Refute it at one input. -/
def itemOrderWrong : ChangeSpec := { name := "itemOrder", fn := fun _ => fun
  | [d1, d2, d3] => { results := [.lit (.bool false)], args := [d1, d2, d3] }
  | _ => none }
def ItemOrderWrongFalsely : Prop := itemOrderRow.holds Try.pinned (OpenSpec.ofChange itemOrderWrong)

/-- 'garlandlaw19.ItemNewest': WHATEVER THE INPUT: true; the input reads as it did. -/
def itemNewestSpec : ChangeSpec := { name := "itemNewest", fn := fun _ => fun
  | [d1, d2] => { results := [.lit (.bool true)], args := [d1, d2] }
  | _ => none }
def itemNewestRow : OpenClaim := { program := "ytbjgfcempfpfcaa", sum := "51384d5e2bd31def7ce62896f88b7e5f2cdcb0b59d158454c9e1595cd2ba94bc", func := "garland/garlandlaw19.ItemNewest", spec := "itemNewest", unfollowed := true, recurses := true, apart := false }
def ItemNewestSaid : Prop := itemNewestRow.holds Try.pinned (OpenSpec.ofChange itemNewestSpec)

/-- ITS FALSE NEIGHBOUR: 'it returns false'. Refute it at one input. -/
def itemNewestWrong : ChangeSpec := { name := "itemNewest", fn := fun _ => fun
  | [d1, d2] => { results := [.lit (.bool false)], args := [d1, d2] }
  | _ => none }
def ItemNewestWrongFalsely : Prop := itemNewestRow.holds Try.pinned (OpenSpec.ofChange itemNewestWrong)

/-- 'garlandlaw19.ItemGone': WHATEVER THE INPUT: true; the input reads as it did. -/
def itemGoneSpec : ChangeSpec := { name := "itemGone", fn := fun _ => fun
  | [d] => { results := [.lit (.bool true)], args := [d] }
  | _ => none }
def itemGoneRow : OpenClaim := { program := "ytbjgfcempfpfcaa", sum := "51384d5e2bd31def7ce62896f88b7e5f2cdcb0b59d158454c9e1595cd2ba94bc", func := "garland/garlandlaw19.ItemGone", spec := "itemGone", unfollowed := true, recurses := true, apart := false }
def ItemGoneSaid : Prop := itemGoneRow.holds Try.pinned (OpenSpec.ofChange itemGoneSpec)

/-- ITS FALSE NEIGHBOUR: 'it returns false'. Refute it at one input. -/
def itemGoneWrong : ChangeSpec := { name := "itemGone", fn := fun _ => fun
  | [d] => { results := [.lit (.bool false)], args := [d] }
  | _ => none }
def ItemGoneWrongFalsely : Prop := itemGoneRow.holds Try.pinned (OpenSpec.ofChange itemGoneWrong)

/-- 'garlandlaw13.ViewTells': WHATEVER THE INPUT: true; the input reads as it did. -/
def viewTellsSpec : ChangeSpec := { name := "viewTells", fn := fun _ => fun
  | [d1, d2, d3, d4, d5, d6] => { results := [.lit (.bool true)], args := [d1, d2, d3, d4, d5, d6] }
  | _ => none }
def viewTellsRow : OpenClaim := { program := "ytbjgfcempfpfcaa", sum := "51384d5e2bd31def7ce62896f88b7e5f2cdcb0b59d158454c9e1595cd2ba94bc", func := "garland/garlandlaw13.ViewTells", spec := "viewTells", unfollowed := true, recurses := true, apart := false }
def ViewTellsSaid : Prop := viewTellsRow.holds Try.pinned (OpenSpec.ofChange viewTellsSpec)

/-- ITS FALSE NEIGHBOUR: 'it returns false'. Refute it at one input. -/
def viewTellsWrong : ChangeSpec := { name := "viewTells", fn := fun _ => fun
  | [d1, d2, d3, d4, d5, d6] => { results := [.lit (.bool false)], args := [d1, d2, d3, d4, d5, d6] }
  | _ => none }
def ViewTellsWrongFalsely : Prop := viewTellsRow.holds Try.pinned (OpenSpec.ofChange viewTellsWrong)

/-- 'garlandlaw13.ViewDead': WHATEVER THE INPUT: true; the input reads as it did. -/
def viewDeadSpec : ChangeSpec := { name := "viewDead", fn := fun _ => fun
  | [d1, d2] => { results := [.lit (.bool true)], args := [d1, d2] }
  | _ => none }
def viewDeadRow : OpenClaim := { program := "ytbjgfcempfpfcaa", sum := "51384d5e2bd31def7ce62896f88b7e5f2cdcb0b59d158454c9e1595cd2ba94bc", func := "garland/garlandlaw13.ViewDead", spec := "viewDead", unfollowed := true, recurses := true, apart := false }
def ViewDeadSaid : Prop := viewDeadRow.holds Try.pinned (OpenSpec.ofChange viewDeadSpec)

/-- ITS FALSE NEIGHBOUR: 'it returns false'. Refute it at one input. -/
def viewDeadWrong : ChangeSpec := { name := "viewDead", fn := fun _ => fun
  | [d1, d2] => { results := [.lit (.bool false)], args := [d1, d2] }
  | _ => none }
def ViewDeadWrongFalsely : Prop := viewDeadRow.holds Try.pinned (OpenSpec.ofChange viewDeadWrong)

/-- 'garlandlaw13.ViewAnchor': WHATEVER THE INPUT: true; the input reads as it did. -/
def viewAnchorSpec : ChangeSpec := { name := "viewAnchor", fn := fun _ => fun
  | [d] => { results := [.lit (.bool true)], args := [d] }
  | _ => none }
def viewAnchorRow : OpenClaim := { program := "ytbjgfcempfpfcaa", sum := "51384d5e2bd31def7ce62896f88b7e5f2cdcb0b59d158454c9e1595cd2ba94bc", func := "garland/garlandlaw13.ViewAnchor", spec := "viewAnchor", unfollowed := true, recurses := true, apart := false }
def ViewAnchorSaid : Prop := viewAnchorRow.holds Try.pinned (OpenSpec.ofChange viewAnchorSpec)

/-- ITS FALSE NEIGHBOUR: 'it returns false'. Refute it at one input. -/
def viewAnchorWrong : ChangeSpec := { name := "viewAnchor", fn := fun _ => fun
  | [d] => { results := [.lit (.bool false)], args := [d] }
  | _ => none }
def ViewAnchorWrongFalsely : Prop := viewAnchorRow.holds Try.pinned (OpenSpec.ofChange viewAnchorWrong)

/-- 'garlandlaw13.ViewKnown': WHATEVER THE INPUT: true; the input reads as it did. -/
def viewKnownSpec : ChangeSpec := { name := "viewKnown", fn := fun _ => fun
  | [d] => { results := [.lit (.bool true)], args := [d] }
  | _ => none }
def viewKnownRow : OpenClaim := { program := "ytbjgfcempfpfcaa", sum := "51384d5e2bd31def7ce62896f88b7e5f2cdcb0b59d158454c9e1595cd2ba94bc", func := "garland/garlandlaw13.ViewKnown", spec := "viewKnown", unfollowed := true, recurses := true, apart := false }
def ViewKnownSaid : Prop := viewKnownRow.holds Try.pinned (OpenSpec.ofChange viewKnownSpec)

/-- ITS FALSE NEIGHBOUR: 'it returns false'. Refute it at one input. -/
def viewKnownWrong : ChangeSpec := { name := "viewKnown", fn := fun _ => fun
  | [d] => { results := [.lit (.bool false)], args := [d] }
  | _ => none }
def ViewKnownWrongFalsely : Prop := viewKnownRow.holds Try.pinned (OpenSpec.ofChange viewKnownWrong)

/-- 'garlandlaw13.ViewListed': WHATEVER THE INPUT: true; the input reads as it did. -/
def viewListedSpec : ChangeSpec := { name := "viewListed", fn := fun _ => fun
  | [d1, d2] => { results := [.lit (.bool true)], args := [d1, d2] }
  | _ => none }
def viewListedRow : OpenClaim := { program := "ytbjgfcempfpfcaa", sum := "51384d5e2bd31def7ce62896f88b7e5f2cdcb0b59d158454c9e1595cd2ba94bc", func := "garland/garlandlaw13.ViewListed", spec := "viewListed", unfollowed := true, recurses := true, apart := false }
def ViewListedSaid : Prop := viewListedRow.holds Try.pinned (OpenSpec.ofChange viewListedSpec)

/-- ITS FALSE NEIGHBOUR: 'it returns false'. Refute it at one input. -/
def viewListedWrong : ChangeSpec := { name := "viewListed", fn := fun _ => fun
  | [d1, d2] => { results := [.lit (.bool false)], args := [d1, d2] }
  | _ => none }
def ViewListedWrongFalsely : Prop := viewListedRow.holds Try.pinned (OpenSpec.ofChange viewListedWrong)

/- THE SECOND FORM. 'bulk': how many values and letters a reading holds, each counted each time it is reached (what is shared counts as often as it is met; a slice's spare places count too). A statement '..UptoSaid' is the law's where the arguments, and the package variables that the reading takes, are together of bulk at most 1048576: NARROWER than '..Said'. Prove '..Said' where nothing that the law and all that it calls make is longer than what came in: it says more and counts as full. Else prove '..UptoSaid'. A law counts once. -/
mutual
def uptoBulk {H : Type} : DataW H → Nat
  | .lit (.string bytes) => bytes.length + 1
  | .lit _ => 1
  | .nil => 1
  | .ptr d => uptoBulk d + 1
  | .slice elems spare => uptoBulkAll elems + uptoBulkAll spare + 1
  | .agg parts => uptoBulkAll parts + 1
  | .iface _ d => uptoBulk d + 1
  | .map entries => uptoBulkEntries entries + 1
  | .held _ => 1
def uptoBulkAll {H : Type} : List (DataW H) → Nat
  | [] => 0
  | d :: r => uptoBulk d + uptoBulkAll r
def uptoBulkEntries {H : Type} : List (Lit × DataW H) → Nat
  | [] => 0
  | x :: r => uptoBulkEntry x + uptoBulkEntries r
def uptoBulkEntry {H : Type} : Lit × DataW H → Nat
  | (.string bytes, d) => bytes.length + uptoBulk d + 1
  | (_, d) => uptoBulk d + 1
 end
def uptoSmall : (H : Type) → List (DataW H) → Bool := fun _ ds => decide (uptoBulkAll ds ≤ 1048576)
def OpenSpec.upto (s : _root_.Go.ChangeSpec) : _root_.Go.OpenSpec := { _root_.Go.OpenSpec.ofChange s with cond := some uptoSmall }

/-- 'garlandlaw15.RectTells', WHERE WHAT IT READS IS OF BULK AT MOST 1048576: true; the input reads as it did. -/
def rectTellsUptoRow : OpenClaim := { program := "ytbjgfcempfpfcaa", sum := "51384d5e2bd31def7ce62896f88b7e5f2cdcb0b59d158454c9e1595cd2ba94bc", func := "garland/garlandlaw15.RectTells", spec := "rectTells", unfollowed := true, recurses := true, apart := false, narrowed := true }
def RectTellsUptoSaid : Prop := rectTellsUptoRow.holds Try.pinned (OpenSpec.upto rectTellsSpec)

/-- 'garlandlaw15.RectBest', WHERE WHAT IT READS IS OF BULK AT MOST 1048576: true; the input reads as it did. -/
def rectBestUptoRow : OpenClaim := { program := "ytbjgfcempfpfcaa", sum := "51384d5e2bd31def7ce62896f88b7e5f2cdcb0b59d158454c9e1595cd2ba94bc", func := "garland/garlandlaw15.RectBest", spec := "rectBest", unfollowed := true, recurses := true, apart := false, narrowed := true }
def RectBestUptoSaid : Prop := rectBestUptoRow.holds Try.pinned (OpenSpec.upto rectBestSpec)

/-- 'garlandlaw15.RectOwns', WHERE WHAT IT READS IS OF BULK AT MOST 1048576: true; the input reads as it did. -/
def rectOwnsUptoRow : OpenClaim := { program := "ytbjgfcempfpfcaa", sum := "51384d5e2bd31def7ce62896f88b7e5f2cdcb0b59d158454c9e1595cd2ba94bc", func := "garland/garlandlaw15.RectOwns", spec := "rectOwns", unfollowed := true, recurses := true, apart := false, narrowed := true }
def RectOwnsUptoSaid : Prop := rectOwnsUptoRow.holds Try.pinned (OpenSpec.upto rectOwnsSpec)

/-- 'garlandlaw15.RectGone', WHERE WHAT IT READS IS OF BULK AT MOST 1048576: true; the input reads as it did. -/
def rectGoneUptoRow : OpenClaim := { program := "ytbjgfcempfpfcaa", sum := "51384d5e2bd31def7ce62896f88b7e5f2cdcb0b59d158454c9e1595cd2ba94bc", func := "garland/garlandlaw15.RectGone", spec := "rectGone", unfollowed := true, recurses := true, apart := false, narrowed := true }
def RectGoneUptoSaid : Prop := rectGoneUptoRow.holds Try.pinned (OpenSpec.upto rectGoneSpec)

/-- 'garlandlaw15.RectBad', WHERE WHAT IT READS IS OF BULK AT MOST 1048576: true; the input reads as it did. -/
def rectBadUptoRow : OpenClaim := { program := "ytbjgfcempfpfcaa", sum := "51384d5e2bd31def7ce62896f88b7e5f2cdcb0b59d158454c9e1595cd2ba94bc", func := "garland/garlandlaw15.RectBad", spec := "rectBad", unfollowed := true, recurses := true, apart := false, narrowed := true }
def RectBadUptoSaid : Prop := rectBadUptoRow.holds Try.pinned (OpenSpec.upto rectBadSpec)

/-- 'garlandlaw19.ItemOrder', WHERE WHAT IT READS IS OF BULK AT MOST 1048576: true; the input reads as it did. -/
def itemOrderUptoRow : OpenClaim := { program := "ytbjgfcempfpfcaa", sum := "51384d5e2bd31def7ce62896f88b7e5f2cdcb0b59d158454c9e1595cd2ba94bc", func := "garland/garlandlaw19.ItemOrder", spec := "itemOrder", unfollowed := true, recurses := true, apart := false, narrowed := true }
def ItemOrderUptoSaid : Prop := itemOrderUptoRow.holds Try.pinned (OpenSpec.upto itemOrderSpec)

/-- 'garlandlaw19.ItemNewest', WHERE WHAT IT READS IS OF BULK AT MOST 1048576: true; the input reads as it did. -/
def itemNewestUptoRow : OpenClaim := { program := "ytbjgfcempfpfcaa", sum := "51384d5e2bd31def7ce62896f88b7e5f2cdcb0b59d158454c9e1595cd2ba94bc", func := "garland/garlandlaw19.ItemNewest", spec := "itemNewest", unfollowed := true, recurses := true, apart := false, narrowed := true }
def ItemNewestUptoSaid : Prop := itemNewestUptoRow.holds Try.pinned (OpenSpec.upto itemNewestSpec)

/-- 'garlandlaw19.ItemGone', WHERE WHAT IT READS IS OF BULK AT MOST 1048576: true; the input reads as it did. -/
def itemGoneUptoRow : OpenClaim := { program := "ytbjgfcempfpfcaa", sum := "51384d5e2bd31def7ce62896f88b7e5f2cdcb0b59d158454c9e1595cd2ba94bc", func := "garland/garlandlaw19.ItemGone", spec := "itemGone", unfollowed := true, recurses := true, apart := false, narrowed := true }
def ItemGoneUptoSaid : Prop := itemGoneUptoRow.holds Try.pinned (OpenSpec.upto itemGoneSpec)

/-- 'garlandlaw13.ViewTells', WHERE WHAT IT READS IS OF BULK AT MOST 1048576: true; the input reads as it did. -/
def viewTellsUptoRow : OpenClaim := { program := "ytbjgfcempfpfcaa", sum := "51384d5e2bd31def7ce62896f88b7e5f2cdcb0b59d158454c9e1595cd2ba94bc", func := "garland/garlandlaw13.ViewTells", spec := "viewTells", unfollowed := true, recurses := true, apart := false, narrowed := true }
def ViewTellsUptoSaid : Prop := viewTellsUptoRow.holds Try.pinned (OpenSpec.upto viewTellsSpec)

/-- 'garlandlaw13.ViewDead', WHERE WHAT IT READS IS OF BULK AT MOST 1048576: true; the input reads as it did. -/
def viewDeadUptoRow : OpenClaim := { program := "ytbjgfcempfpfcaa", sum := "51384d5e2bd31def7ce62896f88b7e5f2cdcb0b59d158454c9e1595cd2ba94bc", func := "garland/garlandlaw13.ViewDead", spec := "viewDead", unfollowed := true, recurses := true, apart := false, narrowed := true }
def ViewDeadUptoSaid : Prop := viewDeadUptoRow.holds Try.pinned (OpenSpec.upto viewDeadSpec)

/-- 'garlandlaw13.ViewAnchor', WHERE WHAT IT READS IS OF BULK AT MOST 1048576: true; the input reads as it did. -/
def viewAnchorUptoRow : OpenClaim := { program := "ytbjgfcempfpfcaa", sum := "51384d5e2bd31def7ce62896f88b7e5f2cdcb0b59d158454c9e1595cd2ba94bc", func := "garland/garlandlaw13.ViewAnchor", spec := "viewAnchor", unfollowed := true, recurses := true, apart := false, narrowed := true }
def ViewAnchorUptoSaid : Prop := viewAnchorUptoRow.holds Try.pinned (OpenSpec.upto viewAnchorSpec)

/-- 'garlandlaw13.ViewKnown', WHERE WHAT IT READS IS OF BULK AT MOST 1048576: true; the input reads as it did. -/
def viewKnownUptoRow : OpenClaim := { program := "ytbjgfcempfpfcaa", sum := "51384d5e2bd31def7ce62896f88b7e5f2cdcb0b59d158454c9e1595cd2ba94bc", func := "garland/garlandlaw13.ViewKnown", spec := "viewKnown", unfollowed := true, recurses := true, apart := false, narrowed := true }
def ViewKnownUptoSaid : Prop := viewKnownUptoRow.holds Try.pinned (OpenSpec.upto viewKnownSpec)

/-- 'garlandlaw13.ViewListed', WHERE WHAT IT READS IS OF BULK AT MOST 1048576: true; the input reads as it did. -/
def viewListedUptoRow : OpenClaim := { program := "ytbjgfcempfpfcaa", sum := "51384d5e2bd31def7ce62896f88b7e5f2cdcb0b59d158454c9e1595cd2ba94bc", func := "garland/garlandlaw13.ViewListed", spec := "viewListed", unfollowed := true, recurses := true, apart := false, narrowed := true }
def ViewListedUptoSaid : Prop := viewListedUptoRow.holds Try.pinned (OpenSpec.upto viewListedSpec)

end Rows
end Go.Proofs.Ytbjgfcempfpfcaa
