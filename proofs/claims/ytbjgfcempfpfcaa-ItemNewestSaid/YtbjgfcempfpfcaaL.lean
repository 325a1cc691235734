/- Contracts of the layer rect: the reference's Notify, Gone. -/
import Derived.Test.YtbjgfcempfpfcaaK
namespace Go.Proofs.Ytbjgfcempfpfcaa
open Go.RowKit Go.Shelf

theorem Sl.cell {w : World} {b off c : Nat} {xs : List Int} (h : Sl w (some ⟨b, off, none⟩) c xs) {k : Nat} (hk : k < xs.length) : w.cell? ⟨b, off + k, none⟩ = some (.int .i64 (nth xs k)) := by
  obtain ⟨b', off', e, _, hc⟩ := h.at_ (by omega)
  injection e with e; injection e with e1 e2 _
  subst e1; subst e2
  exact hc k hk
theorem RepV.told {w : World} {x : View} {A1 A2 : Option Addr} {c1 c2 : Nat} (h : RepV w x A1 c1 A2 c2) (p : Int) : RepV w (x.withPred p) A1 c1 A2 c2 := ⟨h.base, h.list⟩
theorem RepV.set {w : World} {x : View} {A1 A2 : Option Addr} {c1 c2 : Nat} (h : RepV w x A1 c1 A2 c2) (p : Addr) (v : Value) (h1 : ∀ b off, A1 = some ⟨b, off, none⟩ → b ≠ p.block) (h2 : ∀ b off, A2 = some ⟨b, off, none⟩ → b ≠ p.block) : RepV (w.setCell p v) x A1 c1 A2 c2 := ⟨h.base.set p v h1, h.list.set p v h2⟩
theorem RepV.row {w : World} {x : View} {A1 A2 : Option Addr} {c1 c2 : Nat} (h : RepV w x A1 c1 A2 c2) (g : Nat) (cs : Array Value) (h1 : ∀ b off, A1 = some ⟨b, off, none⟩ → b ≠ g) (h2 : ∀ b off, A2 = some ⟨b, off, none⟩ → b ≠ g) : RepV (w.setRow g cs) x A1 c1 A2 c2 := ⟨h.base.row g cs h1, h.list.row g cs h2⟩
theorem Two.setRow {w W : World} {B R : Nat} {x y z : View} {A1 A2 D1 D2 E1 E2 : Option Addr} {c1 c2 d1 d2 e1 e2 : Nat} (h : Two w W B R x y A1 c1 A2 c2 D1 d1 D2 d2) (hB : w.heap.size ≤ B) (hne : R ≠ B) : Two w (W.setRow B (z.cells E1 e1 E2 e2)) B R z y E1 e1 E2 e2 D1 d1 D2 d2 :=
  ⟨h.box.setRow z E1 E2 e1 e2, (heap_setRow W B _ R hne).trans h.res, below_setRow h.b hB _⟩
theorem Two.setPred {w W : World} {B R : Nat} {x y : View} {A1 A2 D1 D2 : Option Addr} {c1 c2 d1 d2 : Nat} (h : Two w W B R x y A1 c1 A2 c2 D1 d1 D2 d2) (hB : w.heap.size ≤ B) (hne : R ≠ B) (p : Int) : Two w (W.setCell ⟨B, 3, none⟩ (.int .i64 p)) B R (x.withPred p) y A1 c1 A2 c2 D1 d1 D2 d2 :=
  ⟨h.box.setPred p, h.res.other (p := ⟨B, 3, none⟩) hne _, h.b.setCell (p := ⟨B, 3, none⟩) hB _⟩

set_option maxRecDepth 100000 in
set_option maxHeartbeats 1000000 in
theorem r15_Notify (x : View) (A1 A2 : Option Addr) (c1 c2 : Nat) (w : World) (h : RepV w x A1 c1 A2 c2) (A3 : Option Addr) (c3 : Nat) (l : List Int) (hs : Sl w A3 c3 l) :
    Calls Try.prog 24 #[x.v A1 c1 A2 c2, .slice A3 l.length c3] w (RetV w (notifyV x l)) := by
  have hsm := hs.small
  have hcap := hs.cap
  unfold View.v
  go_enter Try.func24, Try.ntmps24
  go_upto_region 1 with (fail)
  refine name_world fun W0 hW0 => ?_
  have hT := two_start hW0
  clear hW0
  have HLD := Lib.hid (view_size x A1 A2 c1 c2)
  refine wp_region_lit ?_
  (refine wpList_load_row_n rfl 25 (.tmp 2) rfl w.heap.size rfl 25 (x.cells A1 c1 A2 c2) (0, 0) _ hT.box Try.underlying25 rfl HLD.out ?_)
  go_upto_region 2 with (first | (go_at_call 31; refine (r13_Own x A1 A2 c1 c2 _ ⟨h.base.below hT.b, h.list.below hT.b⟩).mono ?_; rintro e W1 ⟨E1, f1, E2, f2, rfl, hr1, hb1, hf1, hf2⟩; have hT1 := hT.below (Nat.le_refl _) (Nat.le_succ _) hb1) | (refine wpList_store_row rfl 25 (.tmp 2) (.tmp 7) rfl w.heap.size (x.cells E1 f1 E2 f2) rfl rfl 25 (x.cells A1 c1 A2 c2) hT1.box HLD.out rfl (View.oneCell _ _ _ _ _) ?_))
  refine name_world fun W2 hW2 => ?_
  have z1 := hb1.size
  have z2 := hT.res.lt
  have hT2 : Two w W2 w.heap.size (w.heap.size + 1) x View.zero E1 f1 E2 f2 none 0 none 0 := by rw [← hW2]; exact hT1.setRow (Nat.le_refl _) (Nat.succ_ne_self _)
  have hR2 : RepV W2 x E1 f1 E2 f2 := by rw [← hW2]; exact hr1.row _ _ (fun b off e => by have := hf1 b off e; omega) (fun b off e => by have := hf2 b off e; omega)
  have g1 : ∀ b off, E1 = some ⟨b, off, none⟩ → w.heap.size + 1 < b := fun b off e => by have := hf1 b off e; omega
  have g2 : ∀ b off, E2 = some ⟨b, off, none⟩ → w.heap.size + 1 < b := fun b off e => by have := hf2 b off e; omega
  have HG := Lib.hid (And.intro g1 g2)
  have HT2 := Lib.hid hT2
  have HR2 := Lib.hid hR2
  clear hW2 hT1 hT hb1 hr1 hf1 hf2 g1 g2 hT2 hR2 HLD h
  go_wp2
  go_loopw [5] (fun i wr => ∃ k : Nat, k ≤ l.length ∧ i = .int .i64 k ∧ ∃ y, Hid (y = notifyV x (l.take k)) ∧ Hid (Two w wr w.heap.size (w.heap.size + 1) y View.zero E1 f1 E2 f2 none 0 none 0) ∧ Hid (RepV wr y E1 f1 E2 f2)) (fun i _ => l.length - (intOf i).toNat)
  case atStart => exact ⟨0, Nat.zero_le _, rfl, x, rfl, HT2, HR2⟩
  case round =>
    clear HT2 HR2
    obtain ⟨k, hk, rfl, y, hy, hT, hR⟩ := hrel
    have HLD := Lib.hid (view_size y E1 E2 f1 f2)
    by_cases hlt : k < l.length
    · obtain ⟨b, off, rfl, hbl, -⟩ := hs.at_ (by omega)
      have hc0 := (hs.below hT.out.b).cell hlt
      have z3 := hT.out.res.lt
      go_wp2
      refine region_tail 5 (by kernel_rfl) (by kernel_rfl) ?_
      simp only [List.take_succ_cons, List.take_zero, List.drop_succ_cons, List.drop_zero]
      refine wpStill_load_row rfl 25 (.tmp 2) rfl w.heap.size rfl 25 (y.cells E1 f1 E2 f2) (0, 0) _ hT.out.box Try.underlying25 rfl HLD.out ?_
      repeat still_step
      refine wpStill_nil ?_
      cases hbt : betterV y (nth l k) with
      | false =>
        have HX := Lib.hid hbt
        go_wp2_with (go_at_call 21; refine (r15_Better y E1 E2 f1 f2 _ (hR.out.below ((Below.refl _ _).drew)) (nth l k)).mono ?_; rintro e W3 ⟨rfl, hb3⟩)
        go_roundw
        case rel => exact ⟨k + 1, by omega, by go_num, y, (notify_next x hlt ▸ hy.out ▸ (told_no HX.out).symm : y = notifyV x (l.take (k + 1))), hT.out.below (Nat.le_refl _) (Nat.le_succ _) (((Below.refl _ _).drew).trans hb3), hR.out.below (((Below.refl _ _).drew).trans hb3)⟩
        case measure => simp [intOf]; omega
      | true =>
        have HX := Lib.hid hbt
        go_wp2_with (go_at_call 21; refine (r15_Better y E1 E2 f1 f2 _ (hR.out.below ((Below.refl _ _).drew)) (nth l k)).mono ?_; rintro e W3 ⟨rfl, hb3⟩; have hT3 := hT.out.below (Nat.le_refl _) (Nat.le_succ _) (((Below.refl wr.heap.size wr).drew).trans hb3); have p3 := hT3.box.cells.2.2.2.1; have p4 := hT3.box.frozen; have hc3 := (hs.below hT3.b).cell hlt)
        go_roundw
        case rel => exact ⟨k + 1, by omega, by go_num, y.withPred (nth l k), ((notify_next x hlt).trans (by rw [← hy.out]; exact told_yes HX.out)).symm, hT3.setPred (Nat.le_refl _) (Nat.succ_ne_self _) _, (((hR.out.below (((Below.refl _ _).drew).trans hb3)).told _).set _ _ (fun b off e => by have := HG.out.1 b off e; show b ≠ w.heap.size; omega) (fun b off e => by have := HG.out.2 b off e; show b ≠ w.heap.size; omega))⟩
        case measure => simp [intOf]; omega
    · obtain rfl : k = l.length := by omega
      have hy2 := hy.out
      rw [List.take_length] at hy2
      go_upto_region 7 with (fail)
      refine wp_region_lit ?_
      (refine wpList_load_row_n rfl 25 (.tmp 2) rfl w.heap.size rfl 25 (y.cells E1 f1 E2 f2) (0, 0) _ hT.out.box Try.underlying25 rfl HLD.out ?_)
      (refine wpList_store_row rfl 25 (.tmp 4) (.tmp 25) rfl ((w.heap.size + 1)) (y.cells E1 f1 E2 f2) rfl rfl 25 (View.zero.cells none 0 none 0) hT.out.res HLD.out rfl (View.oneCell _ _ _ _ _) ?_)
      go_wp2
      refine bodyPost_ret (results_cell_row rfl _ _ (w.heap.size + 1) 25 (y.cells E1 f1 E2 f2) (0, 0) _ rfl (hT.out.res.setRow y E1 E2 f1 f2) Try.underlying25 rfl HLD.out) rfl ?_
      rw [← hy2]
      exact ⟨E1, f1, E2, f2, rfl, hR.out.row (w.heap.size + 1) _ (fun b off e => by have := HG.out.1 b off e; omega) (fun b off e => by have := HG.out.2 b off e; omega), below_setRow hT.out.b (Nat.le_succ _) _, fun b off e => by have := HG.out.1 b off e; omega, fun b off e => by have := HG.out.2 b off e; omega⟩

theorem mem_take_next (d : Int) {l : List Int} {k : Nat} (h : k < l.length) : decide (d ∈ l.take (k + 1)) = (decide (d ∈ l.take k) || nth l k == d) := by
  rw [nth_eq h, List.take_succ_eq_append_getElem h, Bool.eq_iff_iff]
  simp only [decide_eq_true_eq, List.mem_append, List.mem_singleton, Bool.or_eq_true, beq_iff_eq]
  constructor <;> (rintro (h | h); exact .inl h; exact .inr h.symm)

set_option maxRecDepth 100000 in
set_option maxHeartbeats 1000000 in
theorem r15_Gone (x : View) (A1 A2 : Option Addr) (c1 c2 : Nat) (w : World) (h : RepV w x A1 c1 A2 c2) (d : Int) :
    Calls Try.prog 28 #[x.v A1 c1 A2 c2, .int .i64 d] w (RetV w (goneV x d)) := by
  have hsm := h.base.small
  unfold View.v
  go_enter Try.func28, Try.ntmps28
  go_upto_region 1 with (fail)
  refine name_world fun W0 hW0 => ?_
  have hT := two_start hW0
  clear hW0
  have HLD := Lib.hid (view_size x A1 A2 c1 c2)
  refine wp_region_lit ?_
  (refine wpList_load_row_n rfl 25 (.tmp 2) rfl w.heap.size rfl 25 (x.cells A1 c1 A2 c2) (0, 0) _ hT.box Try.underlying25 rfl HLD.out ?_)
  go_upto_region 2 with (first | (go_at_call 31; refine (r13_Own x A1 A2 c1 c2 _ ⟨h.base.below hT.b, h.list.below hT.b⟩).mono ?_; rintro e W1 ⟨E1, f1, E2, f2, rfl, hr1, hb1, hf1, hf2⟩; have hT1 := hT.below (Nat.le_refl _) (Nat.le_succ _) hb1) | (refine wpList_store_row rfl 25 (.tmp 2) (.tmp 8) rfl w.heap.size (x.cells E1 f1 E2 f2) rfl rfl 25 (x.cells A1 c1 A2 c2) hT1.box HLD.out rfl (View.oneCell _ _ _ _ _) ?_))
  refine name_world fun W2 hW2 => ?_
  have z1 := hb1.size
  have z2 := hT.res.lt
  have hT2 : Two w W2 w.heap.size (w.heap.size + 1) x View.zero E1 f1 E2 f2 none 0 none 0 := by rw [← hW2]; exact hT1.setRow (Nat.le_refl _) (Nat.succ_ne_self _)
  have hR2 : RepV W2 x E1 f1 E2 f2 := by rw [← hW2]; exact hr1.row _ _ (fun b off e => by have := hf1 b off e; omega) (fun b off e => by have := hf2 b off e; omega)
  have g1 : ∀ b off, E1 = some ⟨b, off, none⟩ → w.heap.size + 1 < b := fun b off e => by have := hf1 b off e; omega
  have g2 : ∀ b off, E2 = some ⟨b, off, none⟩ → w.heap.size + 1 < b := fun b off e => by have := hf2 b off e; omega
  have HG := Lib.hid (And.intro g1 g2)
  have HT2 := Lib.hid hT2
  have HR2 := Lib.hid hR2
  clear hW2 hT1 hT hb1 hr1 hf1 hf2 g1 g2 hT2 hR2 HLD h
  have HLD := Lib.hid (view_size x E1 E2 f1 f2)
  go_wp2
  go_loopw [5, 6] (fun t i wr => ∃ k : Nat, k ≤ x.base.length ∧ t = .bool (decide (d ∈ x.base.take k)) ∧ i = .int .i64 k ∧ Hid (Two w wr w.heap.size (w.heap.size + 1) x View.zero E1 f1 E2 f2 none 0 none 0) ∧ Hid (RepV wr x E1 f1 E2 f2)) (fun t i _ => x.base.length - (intOf i).toNat)
  case atStart => exact ⟨0, Nat.zero_le _, by simp, rfl, HT2, HR2⟩
  case round =>
    clear HT2 HR2
    obtain ⟨k, hk, rfl, rfl, hT, hR⟩ := hrel
    have q1 := hT.out.box.cells.2.1
    have hcap := hR.out.base.cap
    by_cases hlt : k < x.base.length
    · obtain ⟨b, off, rfl, hbl, -⟩ := hR.out.base.at_ (by omega)
      have hc0 := hR.out.base.cell hlt
      have hn := mem_take_next d hlt
      cases hm : decide (d ∈ x.base.take k) with
      | true =>
        rw [hm, Bool.true_or] at hn
        have HN := Lib.hid hn
        clear hn
        go_wp2
        go_roundw
        case rel => exact ⟨k + 1, by omega, by rw [HN.out], by go_num, hT, hR⟩
        case measure => simp [intOf]; omega
      | false =>
        rw [hm, Bool.false_or] at hn
        have HN := Lib.hid hn
        clear hn
        go_wp2
        go_roundw
        case rel => exact ⟨k + 1, by omega, by rw [HN.out], by go_num, hT, hR⟩
        case measure => simp [intOf]; omega
    · obtain rfl : k = x.base.length := by omega
      rw [List.take_length]
      go_upto_region 7 with (fail)
      refine wp_region_lit ?_
      (refine wpList_load_row_n rfl 25 (.tmp 2) rfl w.heap.size rfl 25 (x.cells E1 f1 E2 f2) (0, 0) _ hT.out.box Try.underlying25 rfl HLD.out ?_)
      refine gone_cases x d _ ?_ ?_ ?_ ?_ <;> intros <;> rename_i HR
      all_goals (go_upto_region 9 with (go_at_call 29; refine (r13_Right x E1 E2 f1 f2 _ hR.out.base hR.out.list).mono ?_; rintro e W3 ⟨rfl, hb3⟩; have hT3 := hT.out.below (Nat.le_refl _) (Nat.le_succ _) hb3; have hR3 := hR.out.below hb3; have p3 := hT3.box.cells.2.2.2.1; have p4 := hT3.box.frozen; clear q1))
      · have hTf := hT3
        have hRf := hR3
        refine wp_region_lit ?_
        (refine wpList_load_row_n rfl 25 (.tmp 2) rfl w.heap.size rfl 25 (x.cells E1 f1 E2 f2) (0, 0) _ hTf.box Try.underlying25 rfl (view_size _ _ _ _ _) ?_)
        (refine wpList_store_row rfl 25 (.tmp 4) (.tmp 39) rfl (w.heap.size + 1) (x.cells E1 f1 E2 f2) rfl rfl 25 (View.zero.cells none 0 none 0) hTf.res (view_size _ _ _ _ _) rfl (View.oneCell _ _ _ _ _) ?_)
        go_wp2
        refine bodyPost_ret (results_cell_row rfl _ _ (w.heap.size + 1) 25 (x.cells E1 f1 E2 f2) (0, 0) _ rfl (hTf.res.setRow x E1 E2 f1 f2) Try.underlying25 rfl (view_size _ _ _ _ _)) rfl ?_
        rw [HR.out]
        exact ⟨E1, f1, E2, f2, rfl, hRf.row (w.heap.size + 1) _ (fun b off e => by have := HG.out.1 b off e; omega) (fun b off e => by have := HG.out.2 b off e; omega), below_setRow hTf.b (Nat.le_succ _) _, fun b off e => by have := HG.out.1 b off e; omega, fun b off e => by have := HG.out.2 b off e; omega⟩
      · have hTf := hT3
        have hRf := hR3
        refine wp_region_lit ?_
        (refine wpList_load_row_n rfl 25 (.tmp 2) rfl w.heap.size rfl 25 (x.cells E1 f1 E2 f2) (0, 0) _ hTf.box Try.underlying25 rfl (view_size _ _ _ _ _) ?_)
        (refine wpList_store_row rfl 25 (.tmp 4) (.tmp 39) rfl (w.heap.size + 1) (x.cells E1 f1 E2 f2) rfl rfl 25 (View.zero.cells none 0 none 0) hTf.res (view_size _ _ _ _ _) rfl (View.oneCell _ _ _ _ _) ?_)
        go_wp2
        refine bodyPost_ret (results_cell_row rfl _ _ (w.heap.size + 1) 25 (x.cells E1 f1 E2 f2) (0, 0) _ rfl (hTf.res.setRow x E1 E2 f1 f2) Try.underlying25 rfl (view_size _ _ _ _ _)) rfl ?_
        rw [HR.out]
        exact ⟨E1, f1, E2, f2, rfl, hRf.row (w.heap.size + 1) _ (fun b off e => by have := HG.out.1 b off e; omega) (fun b off e => by have := HG.out.2 b off e; omega), below_setRow hTf.b (Nat.le_succ _) _, fun b off e => by have := HG.out.1 b off e; omega, fun b off e => by have := HG.out.2 b off e; omega⟩
      · have hTf := hT3
        have hRf := hR3
        refine wp_region_lit ?_
        (refine wpList_load_row_n rfl 25 (.tmp 2) rfl w.heap.size rfl 25 (x.cells E1 f1 E2 f2) (0, 0) _ hTf.box Try.underlying25 rfl (view_size _ _ _ _ _) ?_)
        (refine wpList_store_row rfl 25 (.tmp 4) (.tmp 39) rfl (w.heap.size + 1) (x.cells E1 f1 E2 f2) rfl rfl 25 (View.zero.cells none 0 none 0) hTf.res (view_size _ _ _ _ _) rfl (View.oneCell _ _ _ _ _) ?_)
        go_wp2
        refine bodyPost_ret (results_cell_row rfl _ _ (w.heap.size + 1) 25 (x.cells E1 f1 E2 f2) (0, 0) _ rfl (hTf.res.setRow x E1 E2 f1 f2) Try.underlying25 rfl (view_size _ _ _ _ _)) rfl ?_
        rw [HR.out]
        exact ⟨E1, f1, E2, f2, rfl, hRf.row (w.heap.size + 1) _ (fun b off e => by have := HG.out.1 b off e; omega) (fun b off e => by have := HG.out.2 b off e; omega), below_setRow hTf.b (Nat.le_succ _) _, fun b off e => by have := HG.out.1 b off e; omega, fun b off e => by have := HG.out.2 b off e; omega⟩
      · refine name_world fun W4 hW4 => ?_
        have hTf : Two w W4 w.heap.size (w.heap.size + 1) (x.withPred (-1)) View.zero E1 f1 E2 f2 none 0 none 0 := by rw [← hW4]; exact hT3.setPred (Nat.le_refl _) (Nat.succ_ne_self _) _
        have hRf : RepV W4 (x.withPred (-1)) E1 f1 E2 f2 := by rw [← hW4]; exact (hR3.told _).set _ _ (fun b off e => by have := HG.out.1 b off e; show b ≠ w.heap.size; omega) (fun b off e => by have := HG.out.2 b off e; show b ≠ w.heap.size; omega)
        clear hW4
        refine wp_region_lit ?_
        (refine wpList_load_row_n rfl 25 (.tmp 2) rfl w.heap.size rfl 25 ((x.withPred (-1)).cells E1 f1 E2 f2) (0, 0) _ hTf.box Try.underlying25 rfl (view_size _ _ _ _ _) ?_)
        (refine wpList_store_row rfl 25 (.tmp 4) (.tmp 39) rfl (w.heap.size + 1) ((x.withPred (-1)).cells E1 f1 E2 f2) rfl rfl 25 (View.zero.cells none 0 none 0) hTf.res (view_size _ _ _ _ _) rfl (View.oneCell _ _ _ _ _) ?_)
        go_wp2
        refine bodyPost_ret (results_cell_row rfl _ _ (w.heap.size + 1) 25 ((x.withPred (-1)).cells E1 f1 E2 f2) (0, 0) _ rfl (hTf.res.setRow (x.withPred (-1)) E1 E2 f1 f2) Try.underlying25 rfl (view_size _ _ _ _ _)) rfl ?_
        rw [HR.out]
        exact ⟨E1, f1, E2, f2, rfl, hRf.row (w.heap.size + 1) _ (fun b off e => by have := HG.out.1 b off e; omega) (fun b off e => by have := HG.out.2 b off e; omega), below_setRow hTf.b (Nat.le_succ _) _, fun b off e => by have := HG.out.1 b off e; omega, fun b off e => by have := HG.out.2 b off e; omega⟩
end Go.Proofs.Ytbjgfcempfpfcaa
