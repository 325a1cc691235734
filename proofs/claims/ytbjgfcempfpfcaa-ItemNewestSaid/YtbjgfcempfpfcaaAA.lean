/- A view, a row of ints, opened out of the data of an input. -/
import Derived.Test.YtbjgfcempfpfcaaY
import Derived.ProofKit
namespace Go.Proofs.Ytbjgfcempfpfcaa
open Go.RowKit Go.Shelf Go.ChangeShapes Go.WideShapes

/-- 'Sl' without its bound on the length. -/
structure Sl0 (w : World) (A : Option Addr) (c : Nat) (xs : List Int) : Prop where
  cap : xs.length ≤ c
  nil_ : A = none → c = 0
  at_ : 0 < xs.length → ∃ b off, A = some ⟨b, off, none⟩ ∧ b < w.heap.size ∧ ∀ k, k < xs.length → w.cell? ⟨b, off + k, none⟩ = some (.int .i64 (nth xs k))
theorem Sl0.sl {w : World} {A : Option Addr} {c : Nat} {xs : List Int} (h : Sl0 w A c xs) (hs : xs.length ≤ 17592186044416) : Sl w A c xs := ⟨h.cap, hs, h.nil_, h.at_⟩
theorem cell_block {w : World} {a : Addr} {v : Value} (h : w.cell? a = some v) : a.spot = none ∧ a.block < w.heap.size := by
  unfold World.cell? at h
  split at h
  · rename_i c e f hb
    refine ⟨?_, (Array.getElem?_eq_some_iff.1 hb).1⟩
    split at h
    · cases h
    · rename_i hs; simpa using hs
  · cases h
theorem sl_cells {w : World} {a : Addr} {len cap : Nat} {zs : List Int} (hl : len ≤ cap) (hz : len ≤ zs.length) (hc : ∀ i, i < zs.length → w.cell? (a.add i) = some (.int .i64 (zs.getD i 0))) : Sl0 w (some a) cap (zs.take len) := by
  have hlen : (zs.take len).length = len := by simp; omega
  refine ⟨by omega, fun e => (by cases e), fun hn => ?_⟩
  have h0 := hc 0 (by omega)
  have hb := cell_block h0
  obtain ⟨b, off, sp⟩ := a
  have hsp : sp = none := by simpa [Addr.add] using hb.1
  subst hsp
  refine ⟨b, off, rfl, by simpa [Addr.add] using hb.2, fun k hk => ?_⟩
  have h1 := hc k (by omega)
  have h2 : (⟨b, off, none⟩ : Addr).add k = ⟨b, off + k, none⟩ := by
    unfold Addr.add
    split
    · subst_vars; rfl
    · rfl
  rw [h2] at h1
  rw [h1, nth_eq hk, List.getElem_take]
  have : k < zs.length := by omega
  simp [this]
end Go.Proofs.Ytbjgfcempfpfcaa
