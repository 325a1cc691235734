/- The law FingerWalk. -/
import Derived.Test.YtbjgfcempfpfcaaDoorCQ
namespace Go.Proofs.YtbjgfcempfpfcaaDoor
open Go.RowKit Go.Shelf

theorem Has.rowOther {w W : World} {B C : Nat} {x : View} {A1 A2 : Option Addr} {c1 c2 : Nat} (h : Has w W B x A1 c1 A2 c2) (cs : Array Value) (ha : ApartV x A1 A2 C) (hne : B ≠ C) : Has w (W.setRow C cs) B x A1 c1 A2 c2 := ⟨(heap_setRow W C cs B hne).trans h.box, h.rep.rowA cs ha⟩
def mWalk (t11 t13 : Value) : Nat := match t13 with
  | .bool true => 17 - (intOf t11).toNat
  | _ => 0
theorem listed_one {x : View} {l : List Int} {o : Int} (hr : rightV x = true) (hp : allPl l = true) (h0 : 0 < l.length) (ho : ownL (x.id + 1) l = o) (eo : (o == x.id) = false) : listedV x [o] = x.withList [o] ∧ rightV (x.withList [o]) = true ∧ firstV (x.withList [o]) = o := by
  obtain ⟨a1, -⟩ := own_spec hp h0 (x.id + 1)
  rw [ho] at a1
  have hop : isPl o = true := by rw [allPl, List.all_eq_true] at hp; exact hp _ a1
  have hid := right_id hr
  have hne : o ≠ x.id := by simpa using eo
  have hop' := (isPl_iff o).1 hop
  have hrl : rightL x.id [o] = true := by
    have h1 : decide (far x.id x.id < far x.id o) = true := by unfold far; simp; omega
    simp [rightL, allTo, okAt, nth, before, hop, h1]
  have hry : rightV (x.withList [o]) = true := by
    simp only [rightV, headOk, Bool.and_eq_true] at hr ⊢
    exact ⟨⟨⟨⟨hr.1.1.1.1, hrl⟩, hr.1.1.2⟩, hr.1.2⟩, hr.2⟩
  exact ⟨by simp [listedV, hr, hrl], hry, first_list hry (by simp [View.withList])⟩

set_option maxRecDepth 100000 in
set_option maxHeartbeats 8000000 in
theorem law_FingerWalk_main (x : View) (A1 A2 : Option Addr) (c1 c2 : Nat) (A3 : Option Addr) (c3 : Nat) (l : List Int) (w : World) (hst : Steps w) (h : RepV w x A1 c1 A2 c2) (hs : Sl w A3 c3 l) (hg : greatV x = false) (hr : rightV x = true) (h0 : 0 < l.length) (hl : decide (60 < (l.length : Int)) = false) :
    Calls Tryd.prog 4 #[x.v A1 c1 A2 c2, .slice A3 l.length c3] w fun e w' => e = .returned (.bool true) ∧ Below w.heap.size w w' := by
  have hsm := hs.small
  have hcap := hs.cap
  have hl1 : decide ((l.length : Int) < 1) = false := decide_eq_false (by omega)
  obtain ⟨b, off, rfl, hbl, hcell⟩ := hs.at_ h0
  clear hcell
  unfold View.v
  go_enter Tryd.func4, Tryd.ntmps4
  go_upto_region 1 with (fail)
  refine name_world fun W0 hW0 => ?_
  have hT := one_start hW0
  clear hW0
  have hv0 : Has w W0 w.heap.size x A1 c1 A2 c2 := ⟨hT.box, h.below hT.b⟩
  have hB0 := hT.b
  clear hT
  go_upto_region 3 with (first | (refine wpList_load_view (t := 2) x A1 A2 c1 c2 w.heap.size ?hg ?hw ?hx ?_; (case hg => exact hv0.box); (case hw => rfl); (case hx => rfl)) | (go_at_call 12; refine (r15_Great x A1 A2 c1 c2 _).mono ?_; rintro e W1 ⟨he, hb1⟩; rw [hg] at he; subst he; have hv1 := hv0.below hb1; have hB1 := hB0.trans (hb1.mono hB0.size)) | (refine wpList_load_view (t := 2) x A1 A2 c1 c2 w.heap.size ?hg ?hw ?hx ?_; (case hg => exact hv1.box); (case hw => rfl); (case hx => rfl)) | (go_at_call 25; refine (r13_Right x A1 A2 c1 c2 _ hv1.rep.base hv1.rep.list).mono ?_; rintro e W2 ⟨he, hb2⟩; rw [hr] at he; subst he; have hv2 := hv1.below hb2; have hB2 := hB1.trans (hb2.mono hB1.size)))
  have HV := Lib.hid (And.intro hv2 hB2)
  clear hv0 hB0 hb1 hv1 hB1 hb2 hv2 hB2
  go_wp2
  go_loopw [5] (fun t5 wr => ∃ k : Nat, k ≤ l.length ∧ t5 = .int .i64 k ∧ Hid ((l.take k).all isPl = true) ∧ Hid (wr = W2)) (fun t5 _ => l.length - (intOf t5).toNat)
  case atStart => exact ⟨0, Nat.zero_le _, rfl, Lib.hid rfl, Lib.hid rfl⟩
  case round =>
    obtain ⟨k, hk, rfl, hall, hw⟩ := hrel
    by_cases hlt : k < l.length
    · have hc0 : wr.cell? ⟨b, off + k, none⟩ = some (.int .i64 (nth l k)) := by rw [hw.out]; exact (hs.below HV.out.2).cell hlt
      have hBw : Below w.heap.size w wr := by rw [hw.out]; exact HV.out.2
      cases e1 : decide (nth l k < 0) with
      | true =>
        go_wp2_with (go_at_call 13; refine (law17_wakes _ (hst.below hBw)).mono ?_; rintro e W9 ⟨rfl, hb9⟩; have hB9 := hBw.trans (hb9.mono hBw.size))
        go_ret
        exact ⟨rfl, hB9⟩
      | false =>
        cases e2 : decide (65536 ≤ nth l k) with
        | true =>
          go_wp2_with (go_at_call 13; refine (law17_wakes _ (hst.below hBw)).mono ?_; rintro e W9 ⟨rfl, hb9⟩; have hB9 := hBw.trans (hb9.mono hBw.size))
          go_ret
          exact ⟨rfl, hB9⟩
        | false =>
          have hip : isPl (nth l k) = true := by simp at e1 e2; simp [isPl]; omega
          clear hBw
          go_wp2
          go_roundw
          · exact ⟨k + 1, by omega, by go_num, Lib.hid (by rw [allPl_next hlt, hall.out, hip]; rfl), hw⟩
          · simp [intOf]; omega
    · obtain rfl : k = l.length := by omega
      clear hlt hk
      obtain rfl := hw.out
      have hp : allPl l = true := by have := hall.out; rwa [List.take_length] at this
      clear hall hw
      have HP := Lib.hid hp
      have hv3 := HV.out.1
      have hB3 := HV.out.2
      have p0 := hv3.box.cells.1
      have hid := right_id hr
      obtain ⟨o, ho⟩ : ∃ o, ownL (x.id + 1) l = o := ⟨_, rfl⟩
      go_upto_region 9 with (go_at_call 26; refine (r03_Owner (x.id + 1) _ c3 l _ (hs.below hB3)).mono ?_; rintro e w' ⟨he, rfl⟩; rw [ho] at he; subst he)
      cases eo : (o == x.id) with
      | true =>
        go_wp2_with (go_at_call 13; refine (law17_wakes _ (hst.below hB3)).mono ?_; rintro e W9 ⟨rfl, hb9⟩; have hB9 := hB3.trans (hb9.mono hB3.size))
        go_ret
        exact ⟨rfl, hB9⟩
      | false =>
        obtain ⟨y, hy⟩ : ∃ y, x.withList [o] = y := ⟨_, rfl⟩
        obtain ⟨hly, hry, hfy⟩ := listed_one hr hp h0 ho eo
        rw [hy] at hly hry hfy
        have hyid : y.id = x.id := by rw [← hy]; rfl
        have hf : ownL (y.id + 1) l = firstV y := by rw [hyid, ho, hfy]
        have HY := Lib.hid (And.intro hry (And.intro hf hfy))
        have HTY := Lib.hid (tab_yes (show tableOk y l = true by simp [tableOk, hry, h0, hp]))
        clear hp hf hry hyid
        go_upto_region 11 with (fail)
        clear p0
        refine wp_region_lit ?_
        (refine wpList_load_view (t := 2) x A1 A2 c1 c2 w.heap.size ?hg ?hw ?hx ?_; (case hg => exact hv3.box); (case hw => rfl); (case hx => rfl))
        go_upto_region 12 with (first | (go_at_call 27; refine (r13_Listed x A1 A2 c1 c2 _ _ [o] _ (hv3.rep.below ((Below.refl _ _).alloc (Nat.le_refl _) _)) (Sl.lit _ [o] (by simp))).mono ?_; rintro e W4 ⟨E1, e1, E2, e2, he, hr4, hb4, q1, q2⟩; rw [hly] at he hr4; subst he; have hb34 := ((Below.refl _ wr).alloc (Nat.le_refl _) _).trans (hb4.mono (by simp)); have hv4 := hv3.below hb34) | (refine wpList_store_row rfl 25 (.tmp 2) (.tmp 72) rfl w.heap.size (y.cells E1 e1 E2 e2) rfl rfl 25 (x.cells A1 c1 A2 c2) hv4.box (view_size _ _ _ _ _) rfl (View.oneCell _ _ _ _ _) ?_))
        refine name_world fun W5 hW5 => ?_
        have hlt4 : w.heap.size < (wr.alloc (.cells (iv [o]).toArray 3)).heap.size := by have := hv3.box.lt; simp; omega
        have hB4 := hB3.trans (hb34.mono hB3.size)
        have hv5 : Has w W5 w.heap.size y E1 e1 E2 e2 := by rw [← hW5]; exact ⟨hv4.box.setRow y E1 E2 e1 e2, hr4.rowA _ (ApartV.fresh _ q1 q2 hlt4)⟩
        have hB5 : Below w.heap.size w W5 := by rw [← hW5]; exact below_setRow hB4 (Nat.le_refl _) _
        clear hW5 hv3 hB3 hb4 hr4 q1 q2 hb34 hv4 hlt4 hB4 HV hly hy
        refine wp_region_lit ?_
        (refine wpList_load_view (t := 2) y E1 E2 e1 e2 w.heap.size ?hg ?hw ?hx ?_; (case hg => exact hv5.box); (case hw => rfl); (case hx => rfl))
        go_upto_region 13 with (first | (go_at_call 23; refine (finger_Table y E1 E2 e1 e2 _ c3 l _ hv5.rep (hs.below hB5) (hst.below hB5)).mono ?_; rintro e W6 ⟨M1, m1, M2, m2, he, hr6, hb6, -, -⟩; rw [HTY.out.1] at he hr6; rw [HTY.out.2] at he; subst he) | (refine wpList_store_row rfl 25 (.tmp 8) (.tmp 77) rfl W6.heap.size ((tabQ y l 16).cells M1 m1 M2 m2) rfl rfl 25 (View.zero.cells none 0 none 0) (VBox.new W6 View.zero none 0 none 0) (view_size _ _ _ _ _) rfl (View.oneCell _ _ _ _ _) ?_))
        refine name_world fun W7 hW7 => ?_
        obtain ⟨ht7, hb7⟩ := has_new (w := w) hr6 hW7
        have hv7 := (hv5.below hb6).below hb7
        have hB7 := (hB5.trans (hb6.mono hB5.size)).trans (hb7.mono (hB5.trans (hb6.mono hB5.size)).size)
        have l8 : w.heap.size < W6.heap.size := Nat.lt_of_lt_of_le hv5.box.lt hb6.size
        clear hW7 hv5 hB5 hb6 hb7 hr6
        obtain ⟨B8, hB8⟩ : ∃ B, W6.heap.size = B := ⟨_, rfl⟩
        rw [hB8] at ht7 l8 ⊢
        clear hB8
        have hoo : (o != o) = false := by simp
        go_upto_region 15 with (first | (refine wpList_load_view (t := 2) y E1 E2 e1 e2 w.heap.size ?hg ?hw ?hx ?_; (case hg => exact hv7.box); (case hw => rfl); (case hx => rfl)) | (go_at_call 28; refine (r13_First y E1 E2 e1 e2 _ hv7.rep).mono ?_; rintro e W8 ⟨he, hb8⟩; rw [HY.out.2.2] at he; subst he; have hv8 := hv7.below hb8; have ht8 := ht7.below hb8; have hB8 := hB7.trans (hb8.mono hB7.size)))
        clear hoo hv7 ht7 hB7 hb8
        obtain ⟨wv1, wv2, wv3⟩ := walk_tab HY.out.1 HP.out h0 HY.out.2.1 (i := 0) (by omega)
        rw [tabQ_zero] at wv1 wv2 wv3
        have WV := Lib.hid (show walkV y 0 = tabQ y l (walkJ y 0) ∧ walkM y 0 = decide (walkJ y 0 < 16) ∧ (walkJ y 0 < 16 → walkN y 0 = walkJ y 0 ∧ walkK y 0 = startF y.id (walkJ y 0)) from ⟨wv1, wv2, wv3⟩)
        clear wv1 wv2 wv3
        refine wp_region_lit ?_
        (refine wpList_load_view (t := 2) y E1 E2 e1 e2 w.heap.size ?hg ?hw ?hx ?_; (case hg => exact hv8.box); (case hw => rfl); (case hx => rfl))
        go_upto_region 16 with (first | (go_at_call 21; refine (finger_Walk y E1 E2 e1 e2 0 _ hv8.rep (hst.below hB8)).mono ?_; rintro e W9 ⟨G1, g1, G2, g2, he, hr9, hb9, -, -⟩; rw [WV.out.1] at he hr9; subst he) | (refine wpList_store_row rfl 25 (.tmp 10) (.tmp 90) rfl W9.heap.size ((tabQ y l (walkJ y 0)).cells G1 g1 G2 g2) rfl rfl 25 (View.zero.cells none 0 none 0) (VBox.new W9 View.zero none 0 none 0) (view_size _ _ _ _ _) rfl (View.oneCell _ _ _ _ _) ?_))
        refine name_world fun W10 hW10 => ?_
        obtain ⟨hw10, hb10⟩ := has_new (w := w) hr9 hW10
        have hv9 := hv8.below hb9
        have ht9 := ht8.below hb9
        have l10 : B8 < W9.heap.size := ht9.box.lt
        have a10 : ApartV y E1 E2 W9.heap.size := ApartV.old hv9.rep (Nat.le_refl _)
        have b10 : ApartV (tabQ y l 16) M1 M2 W9.heap.size := ApartV.old ht9.rep (Nat.le_refl _)
        have hv10 := hv9.below hb10
        have ht10 := ht9.below hb10
        have hB10 := (hB8.trans (hb9.mono hB8.size)).trans (hb10.mono (hB8.trans (hb9.mono hB8.size)).size)
        clear hW10 hv8 ht8 hB8 hb9 hb10 hr9 hv9 ht9
        obtain ⟨B10, hB10e⟩ : ∃ B, W9.heap.size = B := ⟨_, rfl⟩
        rw [hB10e] at hw10 l10 a10 b10 ⊢
        clear hB10e
        have HA := Lib.hid (And.intro a10 b10)
        clear a10 b10
        have HK := Lib.hid (And.intro hv10 (And.intro ht10 hB10))
        have HZ := Lib.hid hw10
        clear hv10 ht10 hB10 hw10
        go_wp2
        go_loopw [11, 12, 13, 14] (fun t11 t12 t13 t14 wr => (∃ j a : Nat, j < 16 ∧ a ≤ j ∧ onceF y j = false ∧ t11 = .int .i64 j ∧ t12 = .int .i64 (startF y.id j) ∧ t13 = .bool true ∧ t14 = .int .i64 a ∧ (∃ G1 g1 G2 g2, Hid (Has w wr B10 (tabQ y l j) G1 g1 G2 g2)) ∧ Hid (Has w wr w.heap.size y E1 e1 E2 e2 ∧ Has w wr B8 (tabQ y l 16) M1 m1 M2 m2 ∧ Below w.heap.size w wr)) ∨ (∃ (a : Nat) (i1 k1 : Int), a ≤ 16 ∧ t11 = .int .i64 i1 ∧ t12 = .int .i64 k1 ∧ t13 = .bool false ∧ t14 = .int .i64 a ∧ (∃ G1 g1 G2 g2, Hid (Has w wr B10 (tabQ y l 16) G1 g1 G2 g2)) ∧ Hid (Has w wr w.heap.size y E1 e1 E2 e2 ∧ Has w wr B8 (tabQ y l 16) M1 m1 M2 m2 ∧ Below w.heap.size w wr))) (fun t11 t12 t13 t14 _ => mWalk t11 t13)
        case atStart =>
          by_cases hj : walkJ y 0 < 16
          · have hm : walkM y 0 = true := by rw [WV.out.2.1]; simpa using hj
            obtain ⟨k1, k2⟩ := WV.out.2.2 hj
            exact .inl ⟨walkJ y 0, 0, hj, Nat.zero_le _, walkJ_end y 0, by rw [k1], by rw [k2], by rw [hm], rfl, ⟨G1, g1, G2, g2, HZ⟩, HK⟩
          · have hm : walkM y 0 = false := by rw [WV.out.2.1]; simpa using hj
            have hj16 : walkJ y 0 = 16 := by have := walkJ_le (x := y) (i := 0) (by omega); omega
            exact .inr ⟨0, walkN y 0, walkK y 0, by omega, rfl, rfl, by rw [hm], rfl, ⟨G1, g1, G2, g2, by rw [hj16] at HZ; exact HZ⟩, HK⟩
        case round =>
          clear HZ HK WV
          rcases hrel with ⟨j, a, hj, haj, hoj, rfl, rfl, rfl, rfl, ⟨G1, g1, G2, g2, hZ⟩, hK⟩ | ⟨a, i1, k1, ha, rfl, rfl, rfl, rfl, ⟨G1, g1, G2, g2, hZ⟩, hK⟩
          · skip
            obtain ⟨hv, ht, hB⟩ := hK.out
            have hz := hZ.out
            clear hZ hK
            have q0 := hv.box.cells.1
            have had : decide ((a : Int) ≤ 16) = true := decide_eq_true (by omega)
            have hnn : (startF y.id j != startF y.id j) = false := by simp
            have hry := HY.out.1
            have hp := HP.out
            obtain ⟨os1, -⟩ := own_spec hp h0 (startF y.id j)
            have hop : isPl (ownL (startF y.id j) l) = true := by rw [allPl, List.all_eq_true] at hp; exact hp _ os1
            have hzr := tabQ_right hry HP.out h0 j
            have hset := set_yes (x := (tabQ y l j)) (k := j) (n := ownL (startF y.id j) l) (by simp [setOk, knownF, hzr, hop]; omega)
            have hnx : (tabQ y l j).withF j (otherF (tabQ y l j) (ownL (startF y.id j) l)) = (tabQ y l (j + 1)) := tabQ_next y l j
            rw [hnx] at hset
            have HS := Lib.hid hset
            clear hset hnx os1 hop hzr hry hp
            go_upto_region 20 with (go_at_call 26; refine (r03_Owner _ _ c3 l _ (hs.below hB)).mono ?_; rintro e w' ⟨rfl, rfl⟩)
            refine wp_region_lit ?_
            (refine wpList_load_view (t := 10) (tabQ y l j) G1 G2 g1 g2 B10 ?hg ?hw ?hx ?_; (case hg => exact hz.box); (case hw => rfl); (case hx => rfl))
            go_upto_region 21 with (first | (go_at_call 18; refine (finger_Set (tabQ y l j) G1 G2 g1 g2 _ _ _ hz.rep).mono ?_; rintro e W11 ⟨K1, k1, K2, k2, he, hr11, hb11, q1, q2⟩; rw [HS.out.1] at he hr11; rw [HS.out.2] at he; subst he) | (refine wpList_store_row rfl 25 (.tmp 17) (.tmp 112) rfl W11.heap.size ((tabQ y l (j + 1)).cells K1 k1 K2 k2) rfl rfl 25 (View.zero.cells none 0 none 0) (VBox.new W11 View.zero none 0 none 0) (view_size _ _ _ _ _) rfl (View.oneCell _ _ _ _ _) ?_))
            refine name_world fun W12 hW12 => ?_
            obtain ⟨hk12, hb12⟩ := has_new (w := w) hr11 hW12
            have hv12 := (hv.below hb11).below hb12
            have ht12 := (ht.below hb11).below hb12
            have hz12 := (hz.below hb11).below hb12
            have hB12 := (hB.trans (hb11.mono hB.size)).trans (hb12.mono (hB.trans (hb11.mono hB.size)).size)
            have HKA := Lib.hid (show ApartV (tabQ y l (j + 1)) K1 K2 B10 from ApartV.fresh _ q1 q2 hz.box.lt)
            have l10' : B10 < W11.heap.size := Nat.lt_of_lt_of_le hz.box.lt hb11.size
            clear hW12 hv ht hz hB hb11 hb12 hr11 q0 q1 q2
            obtain ⟨B17, hB17⟩ : ∃ B, W11.heap.size = B := ⟨_, rfl⟩
            rw [hB17] at hk12 l10' ⊢
            clear hB17
            have q0 := hv12.box.cells.1
            go_upto_region 23 with (go_at_call 29; refine (r03_Start _ _ _).mono ?_; rintro e w' ⟨rfl, rfl⟩)
            clear q0 hnn had
            by_cases h15 : j = 15
            · subst h15
              go_upto_region 26 with (first | (refine wpList_load_view (t := 17) (tabQ y l (15 + 1)) K1 K2 k1 k2 B17 ?hg ?hw ?hx ?_; (case hg => exact hk12.box); (case hw => rfl); (case hx => rfl)) | (refine wpList_store_row rfl 25 (.tmp 10) (.tmp 126) rfl B10 ((tabQ y l (15 + 1)).cells K1 k1 K2 k2) rfl rfl 25 ((tabQ y l 15).cells G1 g1 G2 g2) hz12.box (view_size _ _ _ _ _) rfl (View.oneCell _ _ _ _ _) ?_))
              refine name_world fun W13 hW13 => ?_
              have hz13 : Has w W13 B10 (tabQ y l 16) K1 k1 K2 k2 := by rw [← hW13]; exact ⟨hz12.box.setRow _ K1 K2 k1 k2, hk12.rep.rowA _ HKA.out⟩
              have hv13 : Has w W13 w.heap.size y E1 e1 E2 e2 := by rw [← hW13]; exact hv12.rowOther _ HA.out.1 (Nat.ne_of_lt (Nat.lt_trans l8 l10))
              have ht13 : Has w W13 B8 (tabQ y l 16) M1 m1 M2 m2 := by rw [← hW13]; exact ht12.rowOther _ HA.out.2 (Nat.ne_of_lt l10)
              have hB13 : Below w.heap.size w W13 := by rw [← hW13]; exact below_setRow hB12 (Nat.le_of_lt (Nat.lt_trans l8 l10)) _
              have had : decide ((a : Int) + 1 ≤ 16) = true := decide_eq_true (by omega)
              clear hW13 hz12 hv12 hk12 ht12 hB12
              go_wp2_with (first | (refine wpList_load_view (t := 10) (tabQ y l 16) K1 K2 k1 k2 B10 ?hg ?hw ?hx ?_; (case hg => exact hz13.box); (case hw => rfl); (case hx => rfl)) | (refine wpList_load_view (t := 8) (tabQ y l 16) M1 M2 m1 m2 B8 ?hg ?hw ?hx ?_; (case hg => exact ht13.box); (case hw => rfl); (case hx => rfl)) | (go_at_call 20; refine (r13_Same (tabQ y l 16) (tabQ y l 16) K1 K2 M1 M2 k1 k2 m1 m2 _ hz13.rep ht13.rep).mono ?_; rintro e V1 ⟨he, hbv⟩; rw [same_refl] at he; subst he; have hBv := hB13.trans (hbv.mono hB13.size)) | (go_at_call 13; refine (law17_wakes _ (hst.below hBv)).mono ?_; rintro e W99 ⟨rfl, hb99⟩; have hB99 := hBv.trans (hb99.mono hBv.size)))
              go_ret
              exact ⟨rfl, hB99⟩
            · have hj15 : ((j : Int) == 15) = false := beq_eq_false_iff_ne.2 (by omega)
              obtain ⟨u1, u2, u3⟩ := walk_tab HY.out.1 HP.out h0 HY.out.2.1 (i := j + 1) (by omega)
              have WU := Lib.hid (And.intro u1 (And.intro u2 u3))
              clear u1 u2 u3
              go_upto_region 25 with (fail)
              refine wp_region_lit ?_
              (refine wpList_load_view (t := 17) (tabQ y l (j + 1)) K1 K2 k1 k2 B17 ?hg ?hw ?hx ?_; (case hg => exact hk12.box); (case hw => rfl); (case hx => rfl))
              go_wp2_with (first | (go_at_call 21; refine (finger_Walk (tabQ y l (j + 1)) K1 K2 k1 k2 ((j + 1 : Nat) : Int) _ hk12.rep (hst.below hB12)).mono ?_; rintro e W13 ⟨N1, n1, N2, n2, he, hr13, hb13, q1, q2⟩; rw [WU.out.1] at he hr13; subst he; have hz13 := hz12.below hb13) | (refine wpList_store_row rfl 25 (.tmp 10) (.tmp 132) rfl B10 ((tabQ y l (walkJ y (j + 1))).cells N1 n1 N2 n2) rfl rfl 25 ((tabQ y l j).cells G1 g1 G2 g2) hz13.box (view_size _ _ _ _ _) rfl (View.oneCell _ _ _ _ _) ?_))
              have hvW := hv12.below hb13
              have htW := ht12.below hb13
              have hBW := hB12.trans (hb13.mono hB12.size)
              have hlt10 : B10 < W12.heap.size := hz12.box.lt
              have hcast : ((j : Int) + 1) = ((j + 1 : Nat) : Int) := by omega
              have hge := walkJ_ge y (j + 1)
              go_roundw
              · rw [hcast]
                have hz14 : Has w (W13.setRow B10 ((tabQ y l (walkJ y (j + 1))).cells N1 n1 N2 n2)) B10 (tabQ y l (walkJ y (j + 1))) N1 n1 N2 n2 := ⟨hz13.box.setRow _ N1 N2 n1 n2, hr13.rowA _ (ApartV.fresh _ q1 q2 hlt10)⟩
                have hK14 := Lib.hid (And.intro (hvW.rowOther ((tabQ y l (walkJ y (j + 1))).cells N1 n1 N2 n2) HA.out.1 (Nat.ne_of_lt (Nat.lt_trans l8 l10))) (And.intro (htW.rowOther ((tabQ y l (walkJ y (j + 1))).cells N1 n1 N2 n2) HA.out.2 (Nat.ne_of_lt l10)) (below_setRow hBW (Nat.le_of_lt (Nat.lt_trans l8 l10)) ((tabQ y l (walkJ y (j + 1))).cells N1 n1 N2 n2))))
                by_cases hj2 : walkJ y (j + 1) < 16
                · obtain ⟨u1, u2⟩ := WU.out.2.2 hj2
                  have hm : walkM (tabQ y l (j + 1)) ((j + 1 : Nat) : Int) = true := by rw [WU.out.2.1]; simpa using hj2
                  exact .inl ⟨walkJ y (j + 1), a + 1, hj2, by omega, walkJ_end y (j + 1), by rw [u1], by rw [u2], by rw [hm], by go_num, ⟨N1, n1, N2, n2, Lib.hid hz14⟩, hK14⟩
                · have hm : walkM (tabQ y l (j + 1)) ((j + 1 : Nat) : Int) = false := by rw [WU.out.2.1]; simpa using hj2
                  have hj16 : walkJ y (j + 1) = 16 := by have := walkJ_le (x := y) (i := j + 1) (by omega); omega
                  exact .inr ⟨a + 1, _, _, by omega, rfl, rfl, by rw [hm], by go_num, ⟨N1, n1, N2, n2, by rw [hj16] at hz14 ⊢; exact Lib.hid hz14⟩, hK14⟩
              · rw [hcast]
                by_cases hj2 : walkJ y (j + 1) < 16
                · obtain ⟨u1, u2⟩ := WU.out.2.2 hj2
                  have hm : walkM (tabQ y l (j + 1)) ((j + 1 : Nat) : Int) = true := by rw [WU.out.2.1]; simpa using hj2
                  rw [hm, u1]
                  simp only [mWalk, intOf, Int.toNat_natCast]
                  omega
                · have hm : walkM (tabQ y l (j + 1)) ((j + 1 : Nat) : Int) = false := by rw [WU.out.2.1]; simpa using hj2
                  rw [hm]
                  simp only [mWalk, intOf, Int.toNat_natCast]
                  omega
          · skip
            obtain ⟨hv, ht, hB⟩ := hK.out
            have hz := hZ.out
            have had : decide ((a : Int) ≤ 16) = true := decide_eq_true (by omega)
            clear hZ hK
            go_wp2_with (first | (refine wpList_load_view (t := 10) (tabQ y l 16) G1 G2 g1 g2 B10 ?hg ?hw ?hx ?_; (case hg => exact hz.box); (case hw => rfl); (case hx => rfl)) | (refine wpList_load_view (t := 8) (tabQ y l 16) M1 M2 m1 m2 B8 ?hg ?hw ?hx ?_; (case hg => exact ht.box); (case hw => rfl); (case hx => rfl)) | (go_at_call 20; refine (r13_Same (tabQ y l 16) (tabQ y l 16) G1 G2 M1 M2 g1 g2 m1 m2 _ hz.rep ht.rep).mono ?_; rintro e V1 ⟨he, hbv⟩; rw [same_refl] at he; subst he; have hBv := hB.trans (hbv.mono hB.size)) | (go_at_call 13; refine (law17_wakes _ (hst.below hBv)).mono ?_; rintro e W99 ⟨rfl, hb99⟩; have hB99 := hBv.trans (hb99.mono hBv.size)))
            go_ret
            exact ⟨rfl, hB99⟩

set_option maxRecDepth 100000 in
set_option maxHeartbeats 1000000 in
theorem law_FingerWalk_great (x : View) (A1 A2 : Option Addr) (c1 c2 : Nat) (A3 : Option Addr) (c3 : Nat) (l : List Int) (w : World) (hst : Steps w) (hg : greatV x = true) :
    Calls Tryd.prog 4 #[x.v A1 c1 A2 c2, .slice A3 l.length c3] w fun e w' => e = .returned (.bool true) ∧ Below w.heap.size w w' := by
  unfold View.v
  go_enter Tryd.func4, Tryd.ntmps4
  go_upto_region 1 with (fail)
  refine name_world fun W0 hW0 => ?_
  have hT := one_start hW0
  clear hW0
  have hv0 := hT
  have hB0 := hT.b
  clear hT
  go_wp2_with (first | (refine wpList_load_view (t := 2) x A1 A2 c1 c2 w.heap.size ?hg ?hw ?hx ?_; (case hg => exact hv0.box); (case hw => rfl); (case hx => rfl)) | (go_at_call 12; refine (r15_Great x A1 A2 c1 c2 _).mono ?_; rintro e W1 ⟨he, hb1⟩; rw [hg] at he; subst he; have hv1 := hv0.below hb1; have hB1 := hB0.trans (hb1.mono hB0.size)) | (go_at_call 13; refine (law17_wakes _ (hst.below hB1)).mono ?_; rintro e W9 ⟨rfl, hb9⟩; have hB9 := hB1.trans (hb9.mono hB1.size)))
  go_ret
  exact ⟨rfl, hB9⟩

set_option maxRecDepth 100000 in
set_option maxHeartbeats 1000000 in
theorem law_FingerWalk_bad (x : View) (A1 A2 : Option Addr) (c1 c2 : Nat) (A3 : Option Addr) (c3 : Nat) (l : List Int) (w : World) (hst : Steps w) (h : RepV w x A1 c1 A2 c2) (hg : greatV x = false) (hr : rightV x = false) :
    Calls Tryd.prog 4 #[x.v A1 c1 A2 c2, .slice A3 l.length c3] w fun e w' => e = .returned (.bool true) ∧ Below w.heap.size w w' := by
  unfold View.v
  go_enter Tryd.func4, Tryd.ntmps4
  go_upto_region 1 with (fail)
  refine name_world fun W0 hW0 => ?_
  have hT := one_start hW0
  clear hW0
  have hv0 : Has w W0 w.heap.size x A1 c1 A2 c2 := ⟨hT.box, h.below hT.b⟩
  have hB0 := hT.b
  clear hT
  go_wp2_with (first | (refine wpList_load_view (t := 2) x A1 A2 c1 c2 w.heap.size ?hg ?hw ?hx ?_; (case hg => exact hv0.box); (case hw => rfl); (case hx => rfl)) | (go_at_call 12; refine (r15_Great x A1 A2 c1 c2 _).mono ?_; rintro e W1 ⟨he, hb1⟩; rw [hg] at he; subst he; have hv1 := hv0.below hb1; have hB1 := hB0.trans (hb1.mono hB0.size)) | (refine wpList_load_view (t := 2) x A1 A2 c1 c2 w.heap.size ?hg ?hw ?hx ?_; (case hg => exact hv1.box); (case hw => rfl); (case hx => rfl)) | (go_at_call 25; refine (r13_Right x A1 A2 c1 c2 _ hv1.rep.base hv1.rep.list).mono ?_; rintro e W2 ⟨he, hb2⟩; rw [hr] at he; subst he; have hv2 := hv1.below hb2; have hB2 := hB1.trans (hb2.mono hB1.size)) | (go_at_call 13; refine (law17_wakes _ (hst.below hB2)).mono ?_; rintro e W9 ⟨rfl, hb9⟩; have hB9 := hB2.trans (hb9.mono hB2.size)))
  go_ret
  exact ⟨rfl, hB9⟩

set_option maxRecDepth 100000 in
set_option maxHeartbeats 1000000 in
theorem law_FingerWalk_none (x : View) (A1 A2 : Option Addr) (c1 c2 : Nat) (A3 : Option Addr) (c3 : Nat) (l : List Int) (w : World) (hst : Steps w) (h : RepV w x A1 c1 A2 c2) (hg : greatV x = false) (hr : rightV x = true) (h0 : l.length = 0) :
    Calls Tryd.prog 4 #[x.v A1 c1 A2 c2, .slice A3 l.length c3] w fun e w' => e = .returned (.bool true) ∧ Below w.heap.size w w' := by
  unfold View.v
  go_enter Tryd.func4, Tryd.ntmps4
  go_upto_region 1 with (fail)
  refine name_world fun W0 hW0 => ?_
  have hT := one_start hW0
  clear hW0
  have hv0 : Has w W0 w.heap.size x A1 c1 A2 c2 := ⟨hT.box, h.below hT.b⟩
  have hB0 := hT.b
  clear hT
  go_wp2_with (first | (refine wpList_load_view (t := 2) x A1 A2 c1 c2 w.heap.size ?hg ?hw ?hx ?_; (case hg => exact hv0.box); (case hw => rfl); (case hx => rfl)) | (go_at_call 12; refine (r15_Great x A1 A2 c1 c2 _).mono ?_; rintro e W1 ⟨he, hb1⟩; rw [hg] at he; subst he; have hv1 := hv0.below hb1; have hB1 := hB0.trans (hb1.mono hB0.size)) | (refine wpList_load_view (t := 2) x A1 A2 c1 c2 w.heap.size ?hg ?hw ?hx ?_; (case hg => exact hv1.box); (case hw => rfl); (case hx => rfl)) | (go_at_call 25; refine (r13_Right x A1 A2 c1 c2 _ hv1.rep.base hv1.rep.list).mono ?_; rintro e W2 ⟨he, hb2⟩; rw [hr] at he; subst he; have hv2 := hv1.below hb2; have hB2 := hB1.trans (hb2.mono hB1.size)) | (go_at_call 13; refine (law17_wakes _ (hst.below hB2)).mono ?_; rintro e W9 ⟨rfl, hb9⟩; have hB9 := hB2.trans (hb9.mono hB2.size)))
  go_ret
  exact ⟨rfl, hB9⟩

set_option maxRecDepth 100000 in
set_option maxHeartbeats 1000000 in
theorem law_FingerWalk_long (x : View) (A1 A2 : Option Addr) (c1 c2 : Nat) (A3 : Option Addr) (c3 : Nat) (l : List Int) (w : World) (hst : Steps w) (h : RepV w x A1 c1 A2 c2) (hg : greatV x = false) (hr : rightV x = true) (h0 : 0 < l.length) (hl : decide (60 < (l.length : Int)) = true) :
    Calls Tryd.prog 4 #[x.v A1 c1 A2 c2, .slice A3 l.length c3] w fun e w' => e = .returned (.bool true) ∧ Below w.heap.size w w' := by
  unfold View.v
  go_enter Tryd.func4, Tryd.ntmps4
  go_upto_region 1 with (fail)
  refine name_world fun W0 hW0 => ?_
  have hT := one_start hW0
  clear hW0
  have hv0 : Has w W0 w.heap.size x A1 c1 A2 c2 := ⟨hT.box, h.below hT.b⟩
  have hB0 := hT.b
  clear hT
  go_wp2_with (first | (refine wpList_load_view (t := 2) x A1 A2 c1 c2 w.heap.size ?hg ?hw ?hx ?_; (case hg => exact hv0.box); (case hw => rfl); (case hx => rfl)) | (go_at_call 12; refine (r15_Great x A1 A2 c1 c2 _).mono ?_; rintro e W1 ⟨he, hb1⟩; rw [hg] at he; subst he; have hv1 := hv0.below hb1; have hB1 := hB0.trans (hb1.mono hB0.size)) | (refine wpList_load_view (t := 2) x A1 A2 c1 c2 w.heap.size ?hg ?hw ?hx ?_; (case hg => exact hv1.box); (case hw => rfl); (case hx => rfl)) | (go_at_call 25; refine (r13_Right x A1 A2 c1 c2 _ hv1.rep.base hv1.rep.list).mono ?_; rintro e W2 ⟨he, hb2⟩; rw [hr] at he; subst he; have hv2 := hv1.below hb2; have hB2 := hB1.trans (hb2.mono hB1.size)) | (go_at_call 13; refine (law17_wakes _ (hst.below hB2)).mono ?_; rintro e W9 ⟨rfl, hb9⟩; have hB9 := hB2.trans (hb9.mono hB2.size)))
  go_ret
  exact ⟨rfl, hB9⟩

theorem law_FingerWalk (x : View) (A1 A2 : Option Addr) (c1 c2 : Nat) (A3 : Option Addr) (c3 : Nat) (l : List Int) (w : World) (hst : Steps w) (h : greatV x = false → RepV w x A1 c1 A2 c2) (hs : decide (60 < (l.length : Int)) = false → Sl w A3 c3 l) :
    Calls Tryd.prog 4 #[x.v A1 c1 A2 c2, .slice A3 l.length c3] w fun e w' => e = .returned (.bool true) ∧ Below w.heap.size w w' := by
  cases hg : greatV x with
  | true => exact law_FingerWalk_great x A1 A2 c1 c2 A3 c3 l w hst hg
  | false =>
    cases hr : rightV x with
    | false => exact law_FingerWalk_bad x A1 A2 c1 c2 A3 c3 l w hst (h hg) hg hr
    | true =>
      rcases Nat.eq_zero_or_pos l.length with h0 | h0
      · exact law_FingerWalk_none x A1 A2 c1 c2 A3 c3 l w hst (h hg) hg hr h0
      · cases hl : decide (60 < (l.length : Int)) with
        | true => exact law_FingerWalk_long x A1 A2 c1 c2 A3 c3 l w hst (h hg) hg hr h0 hl
        | false => exact law_FingerWalk_main x A1 A2 c1 c2 A3 c3 l w hst (h hg) (hs hl) hg hr h0 hl
end Go.Proofs.YtbjgfcempfpfcaaDoor
