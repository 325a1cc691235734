/- Contract: new views (the reference's). -/
import Derived.Test.YtbjgfcempfpfcaaQ
namespace Go.Proofs.Ytbjgfcempfpfcaa
open Go.RowKit Go.Shelf

/-- A new view. -/
def newV (id : Int) (base : List Int) : View := ⟨id, base, [], -1, fun _ => -1⟩
/-- A new view whose first k fingers are set. -/
def partV (id : Int) (base : List Int) (k : Nat) : View := ⟨id, base, [], -1, fun j => if j < k then -1 else 0⟩
theorem partV_next (id : Int) (base : List Int) (k : Nat) : (partV id base k).withF k (-1) = partV id base (k + 1) := by
  simp only [partV, View.withF, View.mk.injEq, true_and]
  funext j
  by_cases h1 : j = k
  · subst h1; simp
  · by_cases h2 : j < k
    · simp [h2, show j < k + 1 by omega]
    · simp [h1, h2, show ¬ j < k + 1 by omega]
theorem partV_cells (id : Int) (base : List Int) (A1 A2 : Option Addr) (c1 c2 : Nat) : (partV id base 16).cells A1 c1 A2 c2 = (newV id base).cells A1 c1 A2 c2 := rfl

theorem Sl.set2 {w : World} {A : Option Addr} {c : Nat} {xs : List Int} (h : Sl w A c xs) (p : Addr) (v : Value) (hk : 0 < xs.length → ∀ b off, A = some ⟨b, off, none⟩ → b ≠ p.block) : Sl (w.setCell p v) A c xs :=
  ⟨h.cap, h.small, h.nil_, fun hn => by
    obtain ⟨b, off, e, hlt, hc⟩ := h.at_ hn
    exact ⟨b, off, e, by simpa using hlt, fun k hkk => (World.cell?_of_block (a := ⟨b, off + k, none⟩) (Below.heap_setCell w p v b (hk hn b off e))).trans (hc k hkk)⟩⟩
theorem Two.setF {w W : World} {B R : Nat} {x y : View} {A1 A2 D1 D2 : Option Addr} {c1 c2 d1 d2 : Nat} (h : Two w W B R x y A1 c1 A2 c2 D1 d1 D2 d2) (hB : w.heap.size ≤ B) (hne : R ≠ B) {k : Nat} (hk : k < 16) (p : Int) : Two w (W.setCell ⟨B, 4 + k, none⟩ (.int .i64 p)) B R (x.withF k p) y A1 c1 A2 c2 D1 d1 D2 d2 :=
  ⟨h.box.setF hk p, h.res.other (p := ⟨B, 4 + k, none⟩) hne _, h.b.setCell (p := ⟨B, 4 + k, none⟩) hB _⟩

theorem results_cell_tmp {P : Program} {fn : Func} {p t : Tmp} {ty : TypeId} (h : fn.results = #[.cell p ty, .tmp t]) (tmps : Array Value) (w : World) (g : Nat) (vt : TypeId) (cs : Array Value) (fr : Nat × Nat) (d : TypeDesc)
    (hp : tmps.getD p undef = .pointer (some ⟨g, 0, none⟩)) (hg : w.heap[g]? = some (.cells cs vt fr))
    (hu : P.underlying ty = some d) (hd : (match d with | .struct _ | .array _ _ => true | _ => false) = true) (hi : (P.info? ty).map (·.size) = some cs.size) :
    (results fn tmps).run P w = .ok (.tuple #[.agg cs, tmps.getD t undef]) w := by
  have hp' : tmps[p]?.getD undef = .pointer (some ⟨g, 0, none⟩) := by simpa using hp
  simp [results, h, hp', asAddr, run_loadVar_row w g vt ty cs fr d hg hu hd hi]

def RetN (w0 : World) (id : Int) (l : List Int) (e : Ending) (w' : World) : Prop :=
  (rightV (newV id l) = true → ∃ A1 c1, e = .returned (.tuple #[(newV id l).v A1 c1 none 0, .int .i64 0]) ∧ RepV w' (newV id l) A1 c1 none 0 ∧ ∀ b off, A1 = some ⟨b, off, none⟩ → w0.heap.size ≤ b) ∧
  (rightV (newV id l) = false → e = .returned (.tuple #[View.zero.v none 0 none 0, .int .i64 2])) ∧ Below w0.heap.size w0 w'

/-- The world behind one result box and an errno. -/
theorem zero_start {w W : World} (h : w.alloc (.cells (View.zero.cells none 0 none 0) 25) = W) : One w W w.heap.size View.zero none 0 none 0 := by
  subst h
  exact ⟨VBox.new w View.zero none 0 none 0, (Below.refl _ _).alloc (Nat.le_refl _) _⟩

set_option maxRecDepth 100000 in
set_option maxHeartbeats 1000000 in
theorem r13_New (id : Int) (A : Option Addr) (c : Nat) (l : List Int) (w : World) (hs : Sl w A c l) :
    Calls Try.prog 42 #[.int .i64 id, .slice A l.length c] w (RetN w id l) := by
  obtain ⟨i0, hi, hz0, hz1, hz2⟩ := info_parts Try.info_int
  have hsm := hs.small
  go_enter Try.func42, Try.ntmps42
  go_upto_region 1 with (fail)
  refine name_world fun W0 hW0 => ?_
  have hT := zero_start hW0
  clear hW0
  have z0 := hT.box.lt
  go_upto_region 2 with (first | (at_builtin; refine wpList_append_sl _ rfl (.tmp 9) (.tmp 10) _ rfl W0.heap.size 3 i0 _ 8 Try.underlying22 hi hz0 hz1 hz2 rfl (.slice (some ⟨W0.heap.size, 0, none⟩) 0 0) 0 [] rfl (World.ownsRow_lit W0 #[] 0 (Nat.le_refl _) (Nat.zero_le _) rfl) A c l rfl ((hs.below hT.b).alloc _) ?h1 ?h2 ?h3 ?_; (case h1 => simp only [maxLen]; omega); (case h2 => omega); (case h3 => simp); intro v1 w1 hown1 hg1 hat1; obtain ⟨E1, f1, rfl, hs1, hf1, hb1⟩ := append_new hown1 hg1 hsm; have hT1 := hT.below hb1; clear hown1 hg1 hat1) | (refine wpList_store_row rfl 25 (.tmp 6) (.tmp 12) rfl w1.heap.size ((partV id l 0).cells E1 f1 none 0) rfl rfl 25 (View.zero.cells none 0 none 0) (VBox.new w1 View.zero none 0 none 0) (view_size _ _ _ _ _) rfl (View.oneCell _ _ _ _ _) ?_))
  have z1 := hT1.box.lt
  have z2 := hb1.size
  refine name_world fun W2 hW2 => ?_
  have hT2 : Two w W2 w1.heap.size w.heap.size (partV id l 0) View.zero E1 f1 none 0 none 0 none 0 := by
    rw [← hW2]
    exact ⟨(VBox.new w1 View.zero none 0 none 0).setRow _ _ _ _ _, (heap_setRow _ _ _ _ (by omega)).trans ((Below.heap_alloc _ _ _ z1).trans hT1.box), below_setRow (hT1.b.alloc hT1.b.size _) (by omega) _⟩
  have hS2 : Sl W2 E1 f1 l := by
    rw [← hW2]
    exact hs1.heap2 (by rw [size_setRow]; simp) (fun b off hb e => (heap_setRow _ _ _ _ (by omega)).trans (Below.heap_alloc _ _ _ hb))
  have haw : 0 < l.length → ∀ b off, E1 = some ⟨b, off, none⟩ → b ≠ w1.heap.size := fun hn b off e => by have := hs1.lt hn e; omega
  obtain ⟨B, hBe⟩ : ∃ B, w1.heap.size = B := ⟨_, rfl⟩
  rw [hBe] at hT2 haw ⊢
  have zB : w.heap.size < B := by omega
  have HA := Lib.hid haw
  have HT := Lib.hid hT2
  have HS := Lib.hid hS2
  have HF := Lib.hid hf1
  have zW : w.heap.size < W0.heap.size := z0
  clear hW2 hBe hT1 hs1 hT2 hS2 haw hT hb1 z2 z1 hf1
  go_wp2
  go_loopw [7] (fun i wr => ∃ k : Nat, k ≤ 16 ∧ i = .int .i64 k ∧ Hid (Two w wr B w.heap.size (partV id l k) View.zero E1 f1 none 0 none 0 none 0) ∧ Hid (Sl wr E1 f1 l)) (fun i _ => 16 - (intOf i).toNat)
  case atStart => exact ⟨0, by omega, rfl, HT, HS⟩
  case round =>
    clear HT HS
    obtain ⟨k, hk, rfl, hT, hS⟩ := hrel
    by_cases hlt : k < 16
    · have p1 := hT.out.box.finger hlt
      have p2 := hT.out.box.frozen
      go_wp2
      go_roundw
      case rel => exact ⟨k + 1, by omega, by go_num, by rw [← partV_next]; exact hT.out.setF (by omega) (by omega) hlt (-1), hS.out.set2 _ _ (fun hn b off e => HA.out hn b off e)⟩
      case measure => simp [intOf]; omega
    · obtain rfl : k = 16 := by omega
      have hV : VBox wr B (newV id l) E1 f1 none 0 := hT.out.box
      go_upto_region 6 with (fail)
      refine wp_region_lit ?_
      (refine wpList_load_view (t := 6) (newV id l) E1 none f1 0 B ?hg ?hw ?hx ?_; (case hg => exact hV); (case hw => rfl); (case hx => rfl))
      cases hr : rightV (newV id l) with
      | false =>
        go_wp2_with (first | (go_at_call 29; refine (r13_Right (newV id l) E1 none f1 0 _ hS.out (Sl.nil _)).mono ?_; rintro e W3 ⟨rfl, hb3⟩; have hT3 := hT.out.below (by omega) (Nat.le_refl _) hb3; have hS3 := hS.out.below hb3) | (refine wpList_store_row rfl 25 (.tmp 4) (.tmp 23) rfl w.heap.size (View.zero.cells none 0 none 0) rfl rfl 25 (View.zero.cells none 0 none 0) hT3.res (view_size _ _ _ _ _) rfl (View.oneCell _ _ _ _ _) ?_))
        refine bodyPost_ret (results_cell_tmp rfl _ _ w.heap.size 25 (View.zero.cells none 0 none 0) (0, 0) _ rfl (hT3.res.setRow View.zero none none 0 0) Try.underlying25 rfl (view_size _ _ _ _ _)) rfl ?_
        exact ⟨fun h => (by rw [hr] at h; cases h), fun _ => rfl, below_setRow hT3.b (Nat.le_refl _) _⟩
      | true =>
        go_upto_region 8 with (go_at_call 29; refine (r13_Right (newV id l) E1 none f1 0 _ hS.out (Sl.nil _)).mono ?_; rintro e W3 ⟨rfl, hb3⟩; have hT3 := hT.out.below (by omega) (Nat.le_refl _) hb3; have hS3 := hS.out.below hb3)
        have hV3 : VBox W3 B (newV id l) E1 f1 none 0 := hT3.box
        refine wp_region_lit ?_
        (refine wpList_load_view (t := 6) (newV id l) E1 none f1 0 B ?hg ?hw ?hx ?_; (case hg => exact hV3); (case hw => rfl); (case hx => rfl))
        go_wp2_with (refine wpList_store_row rfl 25 (.tmp 4) (.tmp 24) rfl w.heap.size ((newV id l).cells E1 f1 none 0) rfl rfl 25 (View.zero.cells none 0 none 0) hT3.res (view_size _ _ _ _ _) rfl (View.oneCell _ _ _ _ _) ?_)
        refine bodyPost_ret (results_cell_tmp rfl _ _ w.heap.size 25 ((newV id l).cells E1 f1 none 0) (0, 0) _ rfl (hT3.res.setRow (newV id l) E1 none f1 0) Try.underlying25 rfl (view_size _ _ _ _ _)) rfl ?_
        exact ⟨fun _ => ⟨E1, f1, rfl, ⟨hS3.row w.heap.size _ (fun b off e => by have := HF.out b off e; omega), Sl.nil _⟩, fun b off e => by have := HF.out b off e; omega⟩, fun h => (by rw [hr] at h; cases h), below_setRow hT3.b (Nat.le_refl _) _⟩
end Go.Proofs.Ytbjgfcempfpfcaa
