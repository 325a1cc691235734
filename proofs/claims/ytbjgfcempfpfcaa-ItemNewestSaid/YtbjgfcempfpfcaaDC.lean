/- Rows of items; what is great. -/
import Derived.Test.YtbjgfcempfpfcaaDB
namespace Go.Proofs.Ytbjgfcempfpfcaa
open Go.RowKit Go.Shelf

def nthI (l : List It) (k : Nat) : It := l.getD k It.zero
theorem nthI_eq {l : List It} {k : Nat} (h : k < l.length) : nthI l k = l[k] := by simp [nthI, h]
/-- The slice value '.slice A xs.length c' reads in w as the items xs. -/
structure SlI (w : World) (A : Option Addr) (c : Nat) (xs : List It) : Prop where
  cap : xs.length ≤ c
  nil_ : A = none → c = 0
  at_ : 0 < xs.length → ∃ b off, A = some ⟨b, off, none⟩ ∧ b < w.heap.size ∧ ∀ k, k < xs.length → w.rangeAt b (off + k * 4) (nthI xs k).cells.toList

section
variable {w w' : World} {A : Option Addr} {c : Nat} {xs : List It}
theorem SlI.lt (h : SlI w A c xs) {b off : Nat} (hn : 0 < xs.length) (e : A = some ⟨b, off, none⟩) : b < w.heap.size := by
  obtain ⟨b', off', e', hlt, _⟩ := h.at_ hn
  rw [e] at e'; injection e' with e'; injection e' with e1 _ _; omega
theorem SlI.nil (w : World) : SlI w none 0 [] := ⟨Nat.le_refl _, fun _ => rfl, fun h => absurd h (by simp)⟩
theorem SlI.heap (h : SlI w A c xs) (hs : w.heap.size ≤ w'.heap.size) (hk : 0 < xs.length → ∀ b off, A = some ⟨b, off, none⟩ → w'.heap[b]? = w.heap[b]?) : SlI w' A c xs :=
  ⟨h.cap, h.nil_, fun hn => by
    obtain ⟨b, off, e, hlt, hc⟩ := h.at_ hn
    exact ⟨b, off, e, by omega, fun k hkk j v hv => (World.cell?_of_block (a := ⟨b, off + k * 4 + j, none⟩) (hk hn b off e)).trans (hc k hkk j v hv)⟩⟩
theorem SlI.below (h : SlI w A c xs) (hb : Below w.heap.size w w') : SlI w' A c xs := h.heap hb.size fun hn b _ e => hb.block b (h.lt hn e)
end
theorem It.range {w : World} {b o : Nat} {x : It} (h : w.rangeAt b o x.cells.toList) : w.cell? ⟨b, o, none⟩ = some (.string x.key) ∧ w.cell? ⟨b, o + 1, none⟩ = some (.int .i64 x.value) ∧ w.cell? ⟨b, o + 2, none⟩ = some (.int .i64 x.version) ∧ w.cell? ⟨b, o + 3, none⟩ = some (.bool x.gone) :=
  ⟨h 0 _ rfl, h 1 _ rfl, h 2 _ rfl, h 3 _ rfl⟩

def greatL (l : List It) : Bool := (l.take 41).any (fun x => decide (100 < (x.key.size : Int))) || decide (40 < (l.length : Int))
theorem greatL_hit {l : List It} {k : Nat} (hk : k < l.length) (h40 : k ≤ 40) (h : decide (100 < ((nthI l k).key.size : Int)) = true) : greatL l = true := by
  rw [greatL, Bool.or_eq_true]; left
  rw [List.any_eq_true]
  refine ⟨l[k], ?_, by rw [nthI_eq hk] at h; exact h⟩
  rw [List.mem_take_iff_getElem]
  exact ⟨k, by omega, rfl⟩
theorem greatL_none {l : List It} {k : Nat} (hk : ∀ j, j < k → decide (100 < ((nthI l j).key.size : Int)) = false) (hl : l.length ≤ k ∨ 40 < k) : greatL l = decide (40 < (l.length : Int)) := by
  rw [greatL]
  have : (l.take 41).any (fun x => decide (100 < (x.key.size : Int))) = false := by
    rw [List.any_eq_false]
    intro x hx
    rw [List.mem_take_iff_getElem] at hx
    obtain ⟨j, hj, rfl⟩ := hx
    have h1 := hk j (by omega)
    rw [nthI_eq (by omega)] at h1
    simpa using h1
  rw [this, Bool.false_or]
set_option maxRecDepth 100000 in
set_option maxHeartbeats 1000000 in
theorem r19_Great (A : Option Addr) (c : Nat) (l : List It) (w : World) (hc : 0 < l.length → ∃ b off, A = some ⟨b, off, none⟩ ∧ ∀ k, k < l.length → k ≤ 40 → w.cell? ⟨b, off + k * 4, none⟩ = some (.string (nthI l k).key)) :
    Calls Try.prog 35 #[.slice A l.length c] w fun e w' => e = .returned (.bool (greatL l)) ∧ w = w' := by
  go_enter Try.func35, Try.ntmps35
  go_wp2
  go_loopw [3] (fun t3 wr => ∃ k : Nat, k ≤ l.length ∧ k ≤ 41 ∧ t3 = .int .i64 k ∧ Hid (∀ j, j < k → decide (100 < ((nthI l j).key.size : Int)) = false) ∧ Hid (wr = w)) (fun t3 _ => 41 - (intOf t3).toNat)
  case atStart => exact ⟨0, Nat.zero_le _, by omega, rfl, Lib.hid (by intro j hj; omega), Lib.hid rfl⟩
  case round =>
    obtain ⟨k, hk, hk1, rfl, hall, hw⟩ := hrel
    by_cases hlt : k < l.length
    · by_cases h40 : k ≤ 40
      · obtain ⟨b, off, rfl, hcell⟩ := hc (by omega)
        have hc0 : wr.cell? ⟨b, off + k * 4, none⟩ = some (.string (nthI l k).key) := by rw [hw.out]; exact hcell k hlt h40
        clear hcell hc
        cases e1 : decide (100 < ((nthI l k).key.size : Int)) with
        | true =>
          have hG := Lib.hid (greatL_hit hlt h40 e1)
          go_wp2
          go_ret
          exact ⟨by rw [hG.out]; rfl, hw.out.symm⟩
        | false =>
          have hn := Lib.hid (show ∀ j, j < k + 1 → decide (100 < ((nthI l j).key.size : Int)) = false from fun j hj => by
            rcases Nat.lt_succ_iff_lt_or_eq.1 hj with h | rfl
            · exact hall.out j h
            · exact e1)
          go_wp2
          go_roundw
          · exact ⟨k + 1, by omega, by omega, by go_num, hn, hw⟩
          · simp [intOf]; omega
      · have hG := Lib.hid (greatL_none hall.out (.inr (by omega)))
        clear hc
        go_wp2
        go_ret
        exact ⟨by rw [hG.out]; rfl, hw.out.symm⟩
    · obtain rfl : k = l.length := by omega
      have hG := Lib.hid (greatL_none hall.out (.inl (Nat.le_refl _)))
      clear hc
      go_wp2
      go_ret
      exact ⟨by rw [hG.out]; rfl, hw.out.symm⟩
end Go.Proofs.Ytbjgfcempfpfcaa
