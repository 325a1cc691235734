/- The law ItemNewest. -/
import Derived.Test.YtbjgfcempfpfcaaDK
import Derived.Test.YtbjgfcempfpfcaaDG
namespace Go.Proofs.Ytbjgfcempfpfcaa
open Go.RowKit Go.Shelf

theorem SlI.cellsI {w : World} {ad : Addr} {c : Nat} {xs : List It} (h : SlI w (some ad) c xs) : ∀ j u, (ivI xs)[j]? = some u → w.cell? (ad.add j) = some u := by
  intro j u hu
  have hj : j < xs.length * 4 := by have := (List.getElem?_eq_some_iff.1 hu).1; rwa [ivI_length] at this
  obtain ⟨b, off, e, _, hc⟩ := h.at_ (by omega)
  injection e with e
  have hd : j = j / 4 * 4 + j % 4 := by omega
  rw [hd, ivI_at xs (j / 4) (j % 4) (by omega) (by omega)] at hu
  have h1 := hc (j / 4) (by omega) (j % 4) u hu
  have e4 : j / 4 * 4 + j % 4 = j := hd.symm
  have e5 : off + j / 4 * 4 + j % 4 = off + j := by omega
  rw [e, addr_add]
  rw [e5] at h1
  exact h1
section
variable {P : Program} (w : World)
theorem run_append_sli (base : Nat) (t ty e : TypeId) (i : TypeInfo) (z : Value) (bytes : Nat) (ht : P.underlying t = some (.slice e)) (hi : P.info? e = some i) (hz : i.zero = some z)
    (hsize : i.size = 4) (hby : i.bytes = bytes) (hzs : z.cells.size = 4) (v : Value) (n : Nat) (xs : List Value) (hown : w.ownsRow base e 4 v n xs)
    (A : Option Addr) (c : Nat) (ys : List It) (hs : SlI w A c ys) (h63 : n + ys.length ≤ maxLen) (hbytes : (n + ys.length) * bytes ≤ 140737488355328) (hbase : base ≤ w.heap.size) :
    ∃ v' w', (Builtin.append_ #[t, t] ty #[v, .slice A ys.length c]).run P w = .ok v' w' ∧ w'.ownsRow base e 4 v' (n + ys.length) (xs ++ ivI ys) ∧ w.grownBy w' v.ownBlock ∧
      (v'.ownBlock = v.ownBlock ∨ v'.ownBlock = some w.heap.size) := by
  rcases A with _ | ad
  · have hm : ys = [] := by
      rcases Nat.eq_zero_or_pos ys.length with h0 | h0
      · exact List.eq_nil_of_length_eq_zero h0
      · obtain ⟨b, off, h, _⟩ := hs.at_ h0; cases h
    subst hm
    have hc := hs.nil_ rfl
    subst hc
    exact ⟨v, w, run_append_owned_none w base t ty e i 4 ht hi v n xs hown, by simpa [ivI] using hown, World.grownBy.refl w _, .inl rfl⟩
  · obtain ⟨v', w', hrun, h2, h3, _, h5⟩ := run_append_own_at (P := P) w base t ty e i z 4 bytes ht hi hz hsize hby hzs (by omega) v n xs hown ad ys.length c (ivI ys) (by rw [ivI_length]) hs.cellsI (ivI_one ys) h63 hbytes hbase
    exact ⟨v', w', hrun, h2, h3, h5⟩
theorem wpList_append_sli {ops : Array Oper} {rest : List Oper} {o : Oper} {a : Act} {Q : Exit → Act → World → Prop} (hgd : o.guard = none) (s x : Operand) (t : TypeId)
    (ho : o.op = .call { callee := .builtin .append, args := #[s, x], argTypes := #[t, t] })
    (base : Nat) (e : TypeId) (i : TypeInfo) (z : Value) (bytes : Nat) (ht : P.underlying t = some (.slice e)) (hi : P.info? e = some i) (hz : i.zero = some z)
    (hsize : i.size = 4) (hby : i.bytes = bytes) (hzs : z.cells.size = 4) (v : Value) (n : Nat) (xs : List Value) (hv : a.eval s = v) (hown : w.ownsRow base e 4 v n xs)
    (A : Option Addr) (c : Nat) (ys : List It) (hx : a.eval x = .slice A ys.length c) (hs : SlI w A c ys) (h63 : n + ys.length ≤ maxLen) (hbytes : (n + ys.length) * bytes ≤ 140737488355328) (hbase : base ≤ w.heap.size)
    (h : ∀ v' w', w'.ownsRow base e 4 v' (n + ys.length) (xs ++ ivI ys) → w.grownBy w' v.ownBlock → (v'.ownBlock = v.ownBlock ∨ v'.ownBlock = some w.heap.size) → wpList P ops Q rest (a.put o.dst v') w') : wpList P ops Q (o :: rest) a w := by
  refine wpList_plain hgd fun K hK => ?_
  obtain ⟨v', w', hrun, h2, h3, h4⟩ := run_append_sli (P := P) w base t o.type e i z bytes ht hi hz hsize hby hzs v n xs hown A c ys hs h63 hbytes hbase
  unfold Oper.wp execOp
  simp only [ho, resolve, invoke, builtin, Sem.run_bind, Sem.run_pure, Result.andThen_ok, List.map_toArray, List.map_cons, List.map_nil, hv, hx, hrun]
  exact hK _ _ (h v' w' h2 h3 h4)
end
theorem SlI.alloc' {w : World} {A : Option Addr} {c : Nat} {xs : List It} (h : SlI w A c xs) (o : Obj) : SlI (w.alloc o) A c xs := h.below (one_more o)
theorem great_cells {w : World} {A : Option Addr} {c : Nat} {l : List It} (h : SlI w A c l) : 0 < l.length → ∃ b off, A = some ⟨b, off, none⟩ ∧ ∀ k, k < l.length → k ≤ 40 → w.cell? ⟨b, off + k * 4, none⟩ = some (.string (nthI l k).key) := by
  intro hn
  obtain ⟨b, off, e, -, hc⟩ := h.at_ hn
  exact ⟨b, off, e, fun k hk _ => (It.range (hc k hk)).1⟩
theorem wpList_neq_item {ops : Array Oper} {rest : List Oper} {o : Oper} {a : Act} {w : World} {Q : Exit → Act → World → Prop} (p q : It) {x y : Operand} {t : TypeId} (ho : o.op = .binOp .neq 40 x y t) (hw : Region.wanted o (yielded ops a.tmps) = true)
    (hx : a.eval x = .agg p.cells) (hy : a.eval y = .agg q.cells) (h : wpList Try.prog ops Q rest (a.put o.dst (.bool (!p.same q))) w) : wpList Try.prog ops Q (o :: rest) a w :=
  wpList_step fun _ hK => by
    rw [if_pos hw]
    unfold Oper.wp
    rw [exec_neq_item ho p q hx hy w]
    exact hK _ _ h
/-- Has the newest one come, among the first k? -/
def inK (zf : Bool) (pz : It) (l : List It) (k : Nat) : Bool := !zf || (l.take k).any (fun x => x.same pz)
theorem inK_next {zf : Bool} {pz : It} {l : List It} {k : Nat} (h : k < l.length) : inK zf pz l (k + 1) = (inK zf pz l k || (nthI l k).same pz) := by
  unfold inK
  rw [List.take_succ_eq_append_getElem h, List.any_append, nthI_eq h]
  simp [Bool.or_assoc]
theorem inK_end {l : List It} : inK (newestP l).2 (newestP l).1 l l.length = true := by
  unfold inK
  cases h : (newestP l).2 with
  | false => rfl
  | true =>
    rw [List.take_length, Bool.not_true, Bool.false_or, List.any_eq_true]
    exact ⟨_, (newest_in h).1, same_refl _⟩
set_option maxRecDepth 100000 in
set_option maxHeartbeats 8000000 in
theorem law_ItemNewest_great (A1 A2 : Option Addr) (c1 c2 : Nat) (l m : List It) (w : World) (hl : SlI w A1 c1 l) (hm : SlI w A2 c2 m) (hg : (greatL l || greatL m || decide (20 < (l.length : Int)) || decide (20 < (m.length : Int))) = true) :
    Calls Try.prog 9 #[.slice A1 l.length c1, .slice A2 m.length c2] w fun e w' => e = .returned (.bool true) ∧ Below w.heap.size w w' := by
  go_enter Try.func9, Try.ntmps9
  cases eg1 : greatL l with
  | true =>
    go_wp2_with (first | (go_at_call 35; (first | with_reducible refine (r19_Great _ _ l _ (great_cells hl)).mono ?_ | with_reducible refine (r19_Great _ _ m _ (great_cells hm)).mono ?_); rintro e V ⟨he, hV⟩; (first | rw [eg1] at he | rw [eg2] at he); subst he; subst hV) | (go_at_call 34; refine (law19_wakes _).mono ?_; rintro e V ⟨rfl, hb⟩))
    go_ret
    exact ⟨rfl, hb⟩
  | false =>
    cases eg2 : greatL m with
    | true =>
      go_wp2_with (first | (go_at_call 35; (first | with_reducible refine (r19_Great _ _ l _ (great_cells hl)).mono ?_ | with_reducible refine (r19_Great _ _ m _ (great_cells hm)).mono ?_); rintro e V ⟨he, hV⟩; (first | rw [eg1] at he | rw [eg2] at he); subst he; subst hV) | (go_at_call 34; refine (law19_wakes _).mono ?_; rintro e V ⟨rfl, hb⟩))
      go_ret
      exact ⟨rfl, hb⟩
    | false =>
      cases eg3 : decide (20 < (l.length : Int)) with
      | true =>
        go_wp2_with (first | (go_at_call 35; (first | with_reducible refine (r19_Great _ _ l _ (great_cells hl)).mono ?_ | with_reducible refine (r19_Great _ _ m _ (great_cells hm)).mono ?_); rintro e V ⟨he, hV⟩; (first | rw [eg1] at he | rw [eg2] at he); subst he; subst hV) | (go_at_call 34; refine (law19_wakes _).mono ?_; rintro e V ⟨rfl, hb⟩))
        go_ret
        exact ⟨rfl, hb⟩
      | false =>
        cases eg4 : decide (20 < (m.length : Int)) with
        | true =>
          go_wp2_with (first | (go_at_call 35; (first | with_reducible refine (r19_Great _ _ l _ (great_cells hl)).mono ?_ | with_reducible refine (r19_Great _ _ m _ (great_cells hm)).mono ?_); rintro e V ⟨he, hV⟩; (first | rw [eg1] at he | rw [eg2] at he); subst he; subst hV) | (go_at_call 34; refine (law19_wakes _).mono ?_; rintro e V ⟨rfl, hb⟩))
          go_ret
          exact ⟨rfl, hb⟩
        | false => rw [eg1, eg2, eg3, eg4] at hg; cases hg
set_option maxRecDepth 100000 in
set_option maxHeartbeats 16000000 in
theorem law_ItemNewest_main (A1 A2 : Option Addr) (c1 c2 : Nat) (l m : List It) (w : World) (hl : SlI w A1 c1 l) (hm : SlI w A2 c2 m) (eg1 : greatL l = false) (eg2 : greatL m = false) (eg3 : decide (20 < (l.length : Int)) = false) (eg4 : decide (20 < (m.length : Int)) = false) :
    Calls Try.prog 9 #[.slice A1 l.length c1, .slice A2 m.length c2] w fun e w' => e = .returned (.bool true) ∧ Below w.heap.size w w' := by
  obtain ⟨i0, hi, hz0, hz1, hz2⟩ := item_info
  have hl20 := of_decide_eq_false eg3
  have hm20 := of_decide_eq_false eg4
  go_enter Try.func9, Try.ntmps9
  go_upto_region 3 with (first | (go_at_call 35; (first | with_reducible refine (r19_Great _ _ l _ (great_cells hl)).mono ?_ | with_reducible refine (r19_Great _ _ m _ (great_cells hm)).mono ?_); rintro e V ⟨he, hV⟩; (first | rw [eg1] at he | rw [eg2] at he); subst he; subst hV) | (go_at_call 34; refine (law19_wakes _).mono ?_; rintro e V ⟨rfl, hb⟩))
  go_upto_region 4 with (first | (at_builtin; refine wpList_append_sli _ rfl (.tmp 31) (.tmp 32) _ rfl w.heap.size 40 i0 _ 40 Try.underlying44 hi hz0 hz1 hz2 rfl (.slice (some ⟨w.heap.size, 0, none⟩) 0 0) 0 [] rfl (World.ownsRow_lit w #[] 0 (Nat.le_refl _) (Nat.zero_le _) rfl) A1 c1 l rfl (hl.alloc' _) ?h1 ?h2 ?h3 ?_; (case h1 => simp only [maxLen]; omega); (case h2 => omega); (case h3 => simp); intro v1 w1 hown1 hg1 hat1; have hB1 : Below w.heap.size w w1 := ((Below.refl w.heap.size w).alloc (Nat.le_refl _) _).grown hg1 (by simp) (fun k hk => by simp [Value.ownBlock] at hk; omega)) | (at_builtin; refine wpList_append_sli _ rfl (.tmp 33) (.tmp 34) _ rfl w.heap.size 40 i0 _ 40 Try.underlying44 hi hz0 hz1 hz2 rfl v1 (0 + l.length) ([] ++ ivI l) rfl hown1 A2 c2 m rfl (hm.below hB1) ?h1 ?h2 ?h3 ?_; (case h1 => simp only [maxLen]; omega); (case h2 => omega); (case h3 => exact hB1.size); intro v2 w2 hown2 hg2 hat2; have hB2 : Below w.heap.size w w2 := hB1.grown hg2 hB1.size (fun k hk => (hown1.lt k hk).1)))
  clear eg1 eg2 eg3 eg4 hown1 hg1 hat1 hat2 hi hz0 hz1 hz2
  obtain ⟨all, hall⟩ : ∃ all, all = l ++ m := ⟨_, rfl⟩
  have hown3 : w2.ownsRow w.heap.size 40 4 v2 all.length (ivI all) := by
    rw [hall, List.length_append, ivI_append]; simpa using hown2
  have hal : all.length ≤ 40 := by rw [hall, List.length_append]; omega
  have HALL := Lib.hid hall
  clear hall
  obtain ⟨A3, c3, rfl, hs3, hm3, hf3⟩ := SlI.of_owns hown3
  have hl4 := hl.below hB2
  have hm4 := hm.below hB2
  clear hown2 hown3 hg2 hB1 hl hm hm3 hf3
  have hB := hB2
  clear hB2
  obtain ⟨⟨px, xf⟩, hpx⟩ : ∃ q, newestP l = q := ⟨_, rfl⟩
  obtain ⟨⟨py, yf⟩, hpy⟩ : ∃ q, newestP m = q := ⟨_, rfl⟩
  obtain ⟨⟨pz, zf⟩, hpz⟩ : ∃ q, newestP all = q := ⟨_, rfl⟩
  go_upto_region 5 with ((go_at_call 36; (first | with_reducible refine (item_Newest _ _ l _ hl4 (by omega)).mono ?_ | with_reducible refine (item_Newest _ _ m _ hm4 (by omega)).mono ?_ | with_reducible refine (item_Newest _ _ all _ hs3 (by omega)).mono ?_); rintro e V ⟨he, hb⟩; (first | rw [hpx] at he | rw [hpy] at he | rw [hpz] at he); dsimp only [It.v, It.cells] at he; subst he))
  refine name_world fun W5 hW5 => ?_
  obtain ⟨b6, hb6⟩ : ∃ n, n = V.heap.size := ⟨_, rfl⟩
  rw [← hb6]
  have x1 : IBox W5 b6 px := by rw [hb6, ← hW5]; exact IBox.new V px
  replace hb := (hb.trans ((one_more (w := V) (.cells px.cells 40)).mono hb.size))
  have hW : V.alloc (.cells px.cells 40) = W5 := hW5
  rw [hW] at hb
  replace hB := hB.trans (hb.mono hB.size)
  replace hl4 := hl4.below hb
  replace hm4 := hm4.below hb
  replace hs3 := hs3.below hb
  clear hW5 hW hb hb6 V
  go_upto_region 6 with ((go_at_call 36; (first | with_reducible refine (item_Newest _ _ l _ hl4 (by omega)).mono ?_ | with_reducible refine (item_Newest _ _ m _ hm4 (by omega)).mono ?_ | with_reducible refine (item_Newest _ _ all _ hs3 (by omega)).mono ?_); rintro e V ⟨he, hb⟩; (first | rw [hpx] at he | rw [hpy] at he | rw [hpz] at he); dsimp only [It.v, It.cells] at he; subst he))
  refine name_world fun W6 hW6 => ?_
  obtain ⟨b8, hb8⟩ : ∃ n, n = V.heap.size := ⟨_, rfl⟩
  rw [← hb8]
  have y1 : IBox W6 b8 py := by rw [hb8, ← hW6]; exact IBox.new V py
  replace hb := (hb.trans ((one_more (w := V) (.cells py.cells 40)).mono hb.size))
  have hW : V.alloc (.cells py.cells 40) = W6 := hW6
  rw [hW] at hb
  replace hB := hB.trans (hb.mono hB.size)
  replace hl4 := hl4.below hb
  replace hm4 := hm4.below hb
  replace hs3 := hs3.below hb
  replace x1 := x1.below hb
  clear hW6 hW hb hb8 V
  go_upto_region 7 with ((go_at_call 36; (first | with_reducible refine (item_Newest _ _ l _ hl4 (by omega)).mono ?_ | with_reducible refine (item_Newest _ _ m _ hm4 (by omega)).mono ?_ | with_reducible refine (item_Newest _ _ all _ hs3 (by omega)).mono ?_); rintro e V ⟨he, hb⟩; (first | rw [hpx] at he | rw [hpy] at he | rw [hpz] at he); dsimp only [It.v, It.cells] at he; subst he))
  refine name_world fun W7 hW7 => ?_
  obtain ⟨b10, hb10⟩ : ∃ n, n = V.heap.size := ⟨_, rfl⟩
  rw [← hb10]
  have z1 : IBox W7 b10 pz := by rw [hb10, ← hW7]; exact IBox.new V pz
  replace hb := (hb.trans ((one_more (w := V) (.cells pz.cells 40)).mono hb.size))
  have hW : V.alloc (.cells pz.cells 40) = W7 := hW7
  rw [hW] at hb
  replace hB := hB.trans (hb.mono hB.size)
  replace hl4 := hl4.below hb
  replace hm4 := hm4.below hb
  replace hs3 := hs3.below hb
  replace x1 := x1.below hb
  replace y1 := y1.below hb
  clear hW7 hW hb hb10 V
  have hzf : zf = (xf || yf) := by have := newest_both l m; rw [← HALL.out, hpx, hpy, hpz] at this; exact this
  have hnx : xf = true → newerI px pz = false := fun h => by have := newest_left (l := l) (m := m) (by rw [hpx]; exact h); rw [← HALL.out, hpx, hpz] at this; exact this
  have hny : yf = true → newerI py pz = false := fun h => by have := newest_right (l := l) (m := m) (by rw [hpy]; exact h); rw [← HALL.out, hpy, hpz] at this; exact this
  have hno : zf = false → pz = It.zero ∧ ∀ x ∈ all, pairI x = false := fun h => by have := newest_no (l := all) (by rw [hpz]; exact h); rw [hpz] at this; exact this
  have hin1 : zf = true → pairI pz = true := fun h => by have := (newest_in (l := all) (by rw [hpz]; exact h)).2; rw [hpz] at this; exact this
  have hnz : ∀ x ∈ all, pairI x = true → newerI x pz = false := fun x hx hp => by
    cases h : zf with
    | false => rw [(hno h).2 x hx] at hp; cases hp
    | true => have := newest_all (l := all) (by rw [hpz]; exact h) x hx hp; rw [hpz] at this; exact this
  have hend : inK zf pz all all.length = true := by have := inK_end (l := all); rw [hpz] at this; exact this
  have HX := Lib.hid (And.intro hzf (And.intro hnx (And.intro hny (And.intro hno (And.intro hin1 (And.intro hnz hend))))))
  clear hzf hnx hny hno hin1 hnz hend hpx hpy hpz hl4 hm4
  rename_i K hK K2 hK2
  have HK : ∀ (t2 t3 t12 t13 t14 t15 t16 t17 t18 t19 t20 t21 t22 t23 t24 t25 t26 t27 t28 t29 t30 t31 t32 t33 t34 t35 t36 t37 t38 t39 t40 t41 t42 t43 t44 t45 t46 t47 t48 t49 t50 t51 t52 t53 t54 t55 t56 t57 t58 t59 t60 t61 t62 t63 t64 t65 t66 t67 t68 t69 t70 t71 t72 t73 t74 t75 t76 t77 t78 t79 t80 t81 t82 t83 t84 t85 t86 t87 t88 t89 t90 t91 t92 t93 t94 t95 t96 t97 t98 t99 t100 t101 t102 t103 t104 t105 t106 t107 t108 t109 t110 t111 t112 t113 t114 t115 t116 t117 t118 t119 t120 t121 t122 t123 : Value) (W7 : World), IBox W7 b10 pz → SlI W7 A3 c3 all → Below w.heap.size w W7 → K { tmps := #[.slice A1 l.length c1, .slice A2 m.length c2, t2, t3, .bool false, .slice A3 all.length c3, .pointer (some ⟨b6, 0, none⟩), .bool xf, .pointer (some ⟨b8, 0, none⟩), .bool yf, .pointer (some ⟨b10, 0, none⟩), .bool zf, t12, t13, t14, t15, t16, t17, t18, t19, t20, t21, t22, t23, t24, t25, t26, t27, t28, t29, t30, t31, t32, t33, t34, t35, t36, t37, t38, t39, t40, t41, t42, t43, t44, t45, t46, t47, t48, t49, t50, t51, t52, t53, t54, t55, t56, t57, t58, t59, t60, t61, t62, t63, t64, t65, t66, t67, t68, t69, t70, t71, t72, t73, t74, t75, t76, t77, t78, t79, t80, t81, t82, t83, t84, t85, t86, t87, t88, t89, t90, t91, t92, t93, t94, t95, t96, t97, t98, t99, t100, t101, t102, t103, t104, t105, t106, t107, t108, t109, t110, t111, t112, t113, t114, t115, t116, t117, t118, t119, t120, t121, t122, t123], defers := [] } W7 := by
    clear hK2 K2 x1 y1 z1 hs3 hB
    intro t2 t3 t12 t13 t14 t15 t16 t17 t18 t19 t20 t21 t22 t23 t24 t25 t26 t27 t28 t29 t30 t31 t32 t33 t34 t35 t36 t37 t38 t39 t40 t41 t42 t43 t44 t45 t46 t47 t48 t49 t50 t51 t52 t53 t54 t55 t56 t57 t58 t59 t60 t61 t62 t63 t64 t65 t66 t67 t68 t69 t70 t71 t72 t73 t74 t75 t76 t77 t78 t79 t80 t81 t82 t83 t84 t85 t86 t87 t88 t89 t90 t91 t92 t93 t94 t95 t96 t97 t98 t99 t100 t101 t102 t103 t104 t105 t106 t107 t108 t109 t110 t111 t112 t113 t114 t115 t116 t117 t118 t119 t120 t121 t122 t123 W7 z1 hs3 hB
    apply hK
    clear hK K
    go_wp2
    go_loopw [12, 13] (fun t12 t13 wr => ∃ k : Nat, k ≤ all.length ∧ t13 = .int .i64 k ∧ t12 = .bool (inK zf pz all k) ∧ Hid (IBox wr b10 pz ∧ SlI wr A3 c3 all ∧ Below w.heap.size w wr)) (fun _ t13 _ => all.length - (intOf t13).toNat)
    case atStart => exact ⟨0, Nat.zero_le _, rfl, by simp [inK], Lib.hid ⟨z1, hs3, hB⟩⟩
    case round =>
      clear z1 hs3 hB
      obtain ⟨k, hk, rfl, rfl, hH⟩ := hrel
      by_cases hlt2 : k < all.length
      · obtain ⟨b, off, rfl, hlt, hcell⟩ := hH.out.2.1.at_ (by omega)
        have hr := hcell k hlt2
        have z1 := hH.out.1
        have hnxt := Lib.hid (inK_next (zf := zf) (pz := pz) hlt2)
        have hnz : pairI (nthI all k) = true → newerI (nthI all k) pz = false := HX.out.2.2.2.2.2.1 _ (by rw [nthI_eq hlt2]; exact List.getElem_mem hlt2)
        clear hcell
        cases hp : pairI (nthI all k) with
        | true =>
          replace hnz := hnz hp
          go_upto_region 13 with (fail)
          refine wp_region_held_drew (S := (fun w' => Below wr.heap.size wr w')) (by kernel_rfl) (Below.refl _ _).drew (fun hHeld => ?_)
          refine wpAnyH_take (i := 0) (oi := { dst := some 90, op := Op.move (Operand.tmp 5), type := 44, pos := "law.go:71", after := #[], guard := none }) (v := ?_) rfl (by kernel_rfl) (by kernel_rfl) (by kernel_rfl) (fun _ _ _ h => h) (Or.inl ⟨by kernel_rfl, ?_⟩) hHeld ?_
          rotate_left
          · intro w hSw; go_simp; try with_reducible rfl
          simp only [Act.put, List.setIfInBounds_toArray, List.set_cons_zero, List.set_cons_succ]
          refine wpAnyH_take (i := 1) (oi := { dst := some 91, op := Op.move (Operand.tmp 13), type := 3, pos := "law.go:71", after := #[], guard := none }) (v := ?_) rfl (by kernel_rfl) (by kernel_rfl) (by kernel_rfl) (fun _ _ _ h => h) (Or.inl ⟨by kernel_rfl, ?_⟩) hHeld ?_
          rotate_left
          · intro w hSw; go_simp; try with_reducible rfl
          simp only [Act.put, List.setIfInBounds_toArray, List.set_cons_zero, List.set_cons_succ]
          refine wpAnyH_take (i := 2) (oi := { dst := some 92, op := Op.indexAddr 44 (Operand.tmp 90) (Operand.tmp 91), type := 0, pos := "law.go:71", after := #[{ on := 0, ground := Ground.data }, { on := 1, ground := Ground.data }], guard := none }) (v := ?_) rfl (by kernel_rfl) (by kernel_rfl) (by kernel_rfl) (fun _ _ _ h => h) (Or.inl ⟨by kernel_rfl, ?_⟩) hHeld ?_
          rotate_left
          · intro w hSw; go_simp; try with_reducible rfl
          simp only [Act.put, List.setIfInBounds_toArray, List.set_cons_zero, List.set_cons_succ]
          refine wpAnyH_take (i := 3) (oi := { dst := some 93, op := Op.load 40 (Operand.tmp 92), type := 40, pos := "law.go:71", after := #[{ on := 2, ground := Ground.data }], guard := none }) (v := .agg (It.cells (nthI all k))) rfl (by kernel_rfl) (by kernel_rfl) (by kernel_rfl) (fun _ _ _ h => h) (yields_imid (t := 92) (nthI all k) b (off + k * 4) (by kernel_rfl) rfl (fun w h => rangeAt_below hr hlt h)) hHeld ?_
          simp only [Act.put, List.setIfInBounds_toArray, List.set_cons_zero, List.set_cons_succ]
          refine wpAnyH_ready (rs := [4]) (by kernel_rfl) (by simp) ?_
          refine AllReadyH.cons (o := { dst := some 94, op := Op.call { callee := Callee.value (Operand.func 37), args := #[Operand.tmp 93], argTypes := #[40] }, type := 4, pos := "law.go:71", after := #[{ on := 3, ground := Ground.data }], guard := none }) rfl (fun K hK => ?_) AllReadyH.nil
          go_simp
          go_wp2_with (go_at_call 37; refine (pair_agg (nthI all k) _).mono ?_; rintro e V ⟨he, hb⟩; rw [hp] at he; subst he)
          refine hK.out _ _ (hHeld.trans (hb.mono hHeld.size)) (fun hHeld => ?_)
          clear hK K
          refine wpAnyH_take (i := 5) (oi := { dst := some 95, op := Op.move (Operand.tmp 94), type := 4, pos := "law.go:71", after := #[{ on := 4, ground := Ground.data }, { on := 4, ground := Ground.chain }], guard := none }) (v := ?_) rfl (by kernel_rfl) (by kernel_rfl) (by kernel_rfl) (fun _ _ _ h => h) (Or.inl ⟨by kernel_rfl, ?_⟩) hHeld ?_
          rotate_left
          · intro w hSw; go_simp; try with_reducible rfl
          simp only [Act.put, List.setIfInBounds_toArray, List.set_cons_zero, List.set_cons_succ]
          refine wpAnyH_take (i := 6) (oi := { dst := some 96, op := Op.move (Operand.tmp 5), type := 44, pos := "law.go:71", after := #[{ on := 5, ground := Ground.guard }], guard := some (5, true) }) (v := ?_) rfl (by kernel_rfl) (by kernel_rfl) (by kernel_rfl) (fun _ _ _ h => h) (Or.inl ⟨by kernel_rfl, ?_⟩) hHeld ?_
          rotate_left
          · intro w hSw; go_simp; try with_reducible rfl
          simp only [Act.put, List.setIfInBounds_toArray, List.set_cons_zero, List.set_cons_succ]
          refine wpAnyH_take (i := 7) (oi := { dst := some 97, op := Op.move (Operand.tmp 13), type := 3, pos := "law.go:71", after := #[{ on := 5, ground := Ground.guard }], guard := some (5, true) }) (v := ?_) rfl (by kernel_rfl) (by kernel_rfl) (by kernel_rfl) (fun _ _ _ h => h) (Or.inl ⟨by kernel_rfl, ?_⟩) hHeld ?_
          rotate_left
          · intro w hSw; go_simp; try with_reducible rfl
          simp only [Act.put, List.setIfInBounds_toArray, List.set_cons_zero, List.set_cons_succ]
          refine wpAnyH_take (i := 8) (oi := { dst := some 98, op := Op.indexAddr 44 (Operand.tmp 96) (Operand.tmp 97), type := 0, pos := "law.go:71", after := #[{ on := 6, ground := Ground.data }, { on := 7, ground := Ground.data }, { on := 5, ground := Ground.guard }], guard := some (5, true) }) (v := ?_) rfl (by kernel_rfl) (by kernel_rfl) (by kernel_rfl) (fun _ _ _ h => h) (Or.inl ⟨by kernel_rfl, ?_⟩) hHeld ?_
          rotate_left
          · intro w hSw; go_simp; try with_reducible rfl
          simp only [Act.put, List.setIfInBounds_toArray, List.set_cons_zero, List.set_cons_succ]
          refine wpAnyH_take (i := 9) (oi := { dst := some 99, op := Op.load 40 (Operand.tmp 98), type := 40, pos := "law.go:71", after := #[{ on := 8, ground := Ground.data }, { on := 5, ground := Ground.guard }], guard := some (5, true) }) (v := .agg (It.cells (nthI all k))) rfl (by kernel_rfl) (by kernel_rfl) (by kernel_rfl) (fun _ _ _ h => h) (yields_imid (t := 98) (nthI all k) b (off + k * 4) (by kernel_rfl) rfl (fun w h => rangeAt_below hr hlt h)) hHeld ?_
          simp only [Act.put, List.setIfInBounds_toArray, List.set_cons_zero, List.set_cons_succ]
          refine wpAnyH_take (i := 10) (oi := { dst := some 100, op := Op.load 40 (Operand.tmp 10), type := 40, pos := "law.go:71", after := #[{ on := 5, ground := Ground.guard }], guard := some (5, true) }) (v := .agg (It.cells pz)) rfl (by kernel_rfl) (by kernel_rfl) (by kernel_rfl) (fun _ _ _ h => h) (yields_item (t := 10) pz b10 (by kernel_rfl) rfl (fun w h => z1.below h)) hHeld ?_
          simp only [Act.put, List.setIfInBounds_toArray, List.set_cons_zero, List.set_cons_succ]
          refine wpAnyH_ready (rs := [11]) (by kernel_rfl) (by simp) ?_
          refine AllReadyH.cons (o := { dst := some 101, op := Op.call { callee := Callee.value (Operand.func 33), args := #[Operand.tmp 99, Operand.tmp 100], argTypes := #[40, 40] }, type := 4, pos := "law.go:71", after := #[{ on := 9, ground := Ground.data }, { on := 10, ground := Ground.data }, { on := 5, ground := Ground.chain }, { on := 5, ground := Ground.guard }], guard := some (5, true) }) rfl (fun K hK => ?_) AllReadyH.nil
          go_simp
          go_wp2_with (go_at_call 33; refine (newer_agg (nthI all k) pz _).mono ?_; rintro e V ⟨he, hb⟩; rw [hnz] at he; subst he)
          refine hK.out _ _ (hHeld.trans (hb.mono hHeld.size)) (fun hHeld => ?_)
          clear hK K
          refine wpAnyH_take (i := 12) (oi := { dst := some 102, op := Op.pick (Operand.tmp 95) (Operand.tmp 101) (Operand.const (Value.bool false)), type := 4, pos := "law.go:71", after := #[{ on := 5, ground := Ground.data }, { on := 11, ground := Ground.data }], guard := none }) (v := ?_) rfl (by kernel_rfl) (by kernel_rfl) (by kernel_rfl) (fun _ _ _ h => h) (Or.inl ⟨by kernel_rfl, ?_⟩) hHeld ?_
          rotate_left
          · intro w hSw; go_simp; try with_reducible rfl
          simp only [Act.put, List.setIfInBounds_toArray, List.set_cons_zero, List.set_cons_succ]
          refine wpAnyH_done (by kernel_rfl) ?_ _
          go_upto_region 15 with (fail)
          cases hin : inK zf pz all k with
          | true =>
            refine wp_region_held_drew (S := (fun w' => Below wr.heap.size wr w')) (by kernel_rfl) hHeld.drew (fun hHeld => ?_)
            refine wpAnyH_take (i := 0) (oi := { dst := some 103, op := Op.move (Operand.tmp 12), type := 4, pos := "law.go:74", after := #[], guard := none }) (v := ?_) rfl (by kernel_rfl) (by kernel_rfl) (by kernel_rfl) (fun _ _ _ h => h) (Or.inl ⟨by kernel_rfl, ?_⟩) hHeld ?_
            rotate_left
            · intro w hSw; go_simp; try with_reducible rfl
            simp only [Act.put, List.setIfInBounds_toArray, List.set_cons_zero, List.set_cons_succ]
            refine wpAnyH_take (i := 1) (oi := { dst := some 104, op := Op.move (Operand.tmp 103), type := 4, pos := "law.go:74", after := #[{ on := 0, ground := Ground.data }], guard := none }) (v := ?_) rfl (by kernel_rfl) (by kernel_rfl) (by kernel_rfl) (fun _ _ _ h => h) (Or.inl ⟨by kernel_rfl, ?_⟩) hHeld ?_
            rotate_left
            · intro w hSw; go_simp; try with_reducible rfl
            simp only [Act.put, List.setIfInBounds_toArray, List.set_cons_zero, List.set_cons_succ]
            refine wpAnyH_take (i := 2) (oi := { dst := some 105, op := Op.move (Operand.tmp 5), type := 44, pos := "law.go:74", after := #[{ on := 1, ground := Ground.guard }], guard := some (1, false) }) (v := undef) rfl (by kernel_rfl) (by kernel_rfl) (by kernel_rfl) (fun _ _ _ h => h) (Or.inr ⟨by kernel_rfl, rfl⟩) hHeld ?_
            simp only [Act.put, List.setIfInBounds_toArray, List.set_cons_zero, List.set_cons_succ]
            refine wpAnyH_take (i := 3) (oi := { dst := some 106, op := Op.move (Operand.tmp 13), type := 3, pos := "law.go:74", after := #[{ on := 1, ground := Ground.guard }], guard := some (1, false) }) (v := undef) rfl (by kernel_rfl) (by kernel_rfl) (by kernel_rfl) (fun _ _ _ h => h) (Or.inr ⟨by kernel_rfl, rfl⟩) hHeld ?_
            simp only [Act.put, List.setIfInBounds_toArray, List.set_cons_zero, List.set_cons_succ]
            refine wpAnyH_take (i := 4) (oi := { dst := some 107, op := Op.indexAddr 44 (Operand.tmp 105) (Operand.tmp 106), type := 0, pos := "law.go:74", after := #[{ on := 2, ground := Ground.data }, { on := 3, ground := Ground.data }, { on := 1, ground := Ground.guard }], guard := some (1, false) }) (v := undef) rfl (by kernel_rfl) (by kernel_rfl) (by kernel_rfl) (fun _ _ _ h => h) (Or.inr ⟨by kernel_rfl, rfl⟩) hHeld ?_
            simp only [Act.put, List.setIfInBounds_toArray, List.set_cons_zero, List.set_cons_succ]
            refine wpAnyH_take (i := 5) (oi := { dst := some 108, op := Op.load 40 (Operand.tmp 107), type := 40, pos := "law.go:74", after := #[{ on := 4, ground := Ground.data }, { on := 1, ground := Ground.guard }], guard := some (1, false) }) (v := undef) rfl (by kernel_rfl) (by kernel_rfl) (by kernel_rfl) (fun _ _ _ h => h) (Or.inr ⟨by kernel_rfl, rfl⟩) hHeld ?_
            simp only [Act.put, List.setIfInBounds_toArray, List.set_cons_zero, List.set_cons_succ]
            refine wpAnyH_take (i := 6) (oi := { dst := some 109, op := Op.load 40 (Operand.tmp 10), type := 40, pos := "law.go:74", after := #[{ on := 1, ground := Ground.guard }], guard := some (1, false) }) (v := undef) rfl (by kernel_rfl) (by kernel_rfl) (by kernel_rfl) (fun _ _ _ h => h) (Or.inr ⟨by kernel_rfl, rfl⟩) hHeld ?_
            simp only [Act.put, List.setIfInBounds_toArray, List.set_cons_zero, List.set_cons_succ]
            refine wpAnyH_take (i := 7) (oi := { dst := some 110, op := Op.binOp BinOp.eql 40 (Operand.tmp 108) (Operand.tmp 109) 40, type := 4, pos := "law.go:74", after := #[{ on := 5, ground := Ground.data }, { on := 6, ground := Ground.data }, { on := 1, ground := Ground.guard }], guard := some (1, false) }) (v := undef) rfl (by kernel_rfl) (by kernel_rfl) (by kernel_rfl) (fun _ _ _ h => h) (Or.inr ⟨by kernel_rfl, rfl⟩) hHeld ?_
            simp only [Act.put, List.setIfInBounds_toArray, List.set_cons_zero, List.set_cons_succ]
            refine wpAnyH_take (i := 8) (oi := { dst := some 111, op := Op.pick (Operand.tmp 104) (Operand.const (Value.bool true)) (Operand.tmp 110), type := 4, pos := "law.go:74", after := #[{ on := 1, ground := Ground.data }, { on := 7, ground := Ground.data }], guard := none }) (v := ?_) rfl (by kernel_rfl) (by kernel_rfl) (by kernel_rfl) (fun _ _ _ h => h) (Or.inl ⟨by kernel_rfl, ?_⟩) hHeld ?_
            rotate_left
            · intro w hSw; go_simp; try with_reducible rfl
            simp only [Act.put, List.setIfInBounds_toArray, List.set_cons_zero, List.set_cons_succ]
            refine wpAnyH_take (i := 9) (oi := { dst := some 12, op := Op.assign (Operand.tmp 111), type := 4, pos := "law.go:74", after := #[{ on := 8, ground := Ground.data }, { on := 1, ground := Ground.chain }, { on := 0, ground := Ground.phase }, { on := 1, ground := Ground.phase }, { on := 2, ground := Ground.phase }, { on := 3, ground := Ground.phase }, { on := 4, ground := Ground.phase }, { on := 5, ground := Ground.phase }, { on := 6, ground := Ground.phase }, { on := 7, ground := Ground.phase }, { on := 8, ground := Ground.phase }], guard := none }) (v := ?_) rfl (by kernel_rfl) (by kernel_rfl) (by kernel_rfl) (fun _ _ _ h => h) (Or.inl ⟨by kernel_rfl, ?_⟩) hHeld ?_
            rotate_left
            · intro w hSw; go_simp; try with_reducible rfl
            simp only [Act.put, List.setIfInBounds_toArray, List.set_cons_zero, List.set_cons_succ]
            refine wpAnyH_done (by kernel_rfl) ?_ _
            go_wp2
            go_roundw
            case rel => exact ⟨k + 1, by omega, by go_num, by rw [hnxt.out, hin]; rfl, Lib.hid ⟨hH.out.1.below hHeld, hH.out.2.1.below hHeld, hH.out.2.2.trans (hHeld.mono hH.out.2.2.size)⟩⟩
            case measure => simp [intOf]; omega
          | false =>
            cases hsame : (nthI all k).same pz with
            | true =>
              refine wp_region_held_drew (S := (fun w' => Below wr.heap.size wr w')) (by kernel_rfl) hHeld.drew (fun hHeld => ?_)
              refine wpAnyH_take (i := 0) (oi := { dst := some 103, op := Op.move (Operand.tmp 12), type := 4, pos := "law.go:74", after := #[], guard := none }) (v := ?_) rfl (by kernel_rfl) (by kernel_rfl) (by kernel_rfl) (fun _ _ _ h => h) (Or.inl ⟨by kernel_rfl, ?_⟩) hHeld ?_
              rotate_left
              · intro w hSw; go_simp; try with_reducible rfl
              simp only [Act.put, List.setIfInBounds_toArray, List.set_cons_zero, List.set_cons_succ]
              refine wpAnyH_take (i := 1) (oi := { dst := some 104, op := Op.move (Operand.tmp 103), type := 4, pos := "law.go:74", after := #[{ on := 0, ground := Ground.data }], guard := none }) (v := ?_) rfl (by kernel_rfl) (by kernel_rfl) (by kernel_rfl) (fun _ _ _ h => h) (Or.inl ⟨by kernel_rfl, ?_⟩) hHeld ?_
              rotate_left
              · intro w hSw; go_simp; try with_reducible rfl
              simp only [Act.put, List.setIfInBounds_toArray, List.set_cons_zero, List.set_cons_succ]
              refine wpAnyH_take (i := 2) (oi := { dst := some 105, op := Op.move (Operand.tmp 5), type := 44, pos := "law.go:74", after := #[{ on := 1, ground := Ground.guard }], guard := some (1, false) }) (v := ?_) rfl (by kernel_rfl) (by kernel_rfl) (by kernel_rfl) (fun _ _ _ h => h) (Or.inl ⟨by kernel_rfl, ?_⟩) hHeld ?_
              rotate_left
              · intro w hSw; go_simp; try with_reducible rfl
              simp only [Act.put, List.setIfInBounds_toArray, List.set_cons_zero, List.set_cons_succ]
              refine wpAnyH_take (i := 3) (oi := { dst := some 106, op := Op.move (Operand.tmp 13), type := 3, pos := "law.go:74", after := #[{ on := 1, ground := Ground.guard }], guard := some (1, false) }) (v := ?_) rfl (by kernel_rfl) (by kernel_rfl) (by kernel_rfl) (fun _ _ _ h => h) (Or.inl ⟨by kernel_rfl, ?_⟩) hHeld ?_
              rotate_left
              · intro w hSw; go_simp; try with_reducible rfl
              simp only [Act.put, List.setIfInBounds_toArray, List.set_cons_zero, List.set_cons_succ]
              refine wpAnyH_take (i := 4) (oi := { dst := some 107, op := Op.indexAddr 44 (Operand.tmp 105) (Operand.tmp 106), type := 0, pos := "law.go:74", after := #[{ on := 2, ground := Ground.data }, { on := 3, ground := Ground.data }, { on := 1, ground := Ground.guard }], guard := some (1, false) }) (v := ?_) rfl (by kernel_rfl) (by kernel_rfl) (by kernel_rfl) (fun _ _ _ h => h) (Or.inl ⟨by kernel_rfl, ?_⟩) hHeld ?_
              rotate_left
              · intro w hSw; go_simp; try with_reducible rfl
              simp only [Act.put, List.setIfInBounds_toArray, List.set_cons_zero, List.set_cons_succ]
              refine wpAnyH_take (i := 5) (oi := { dst := some 108, op := Op.load 40 (Operand.tmp 107), type := 40, pos := "law.go:74", after := #[{ on := 4, ground := Ground.data }, { on := 1, ground := Ground.guard }], guard := some (1, false) }) (v := .agg (It.cells (nthI all k))) rfl (by kernel_rfl) (by kernel_rfl) (by kernel_rfl) (fun _ _ _ h => h) (yields_imid (t := 107) (nthI all k) b (off + k * 4) (by kernel_rfl) rfl (fun w h => rangeAt_below hr hlt h)) hHeld ?_
              simp only [Act.put, List.setIfInBounds_toArray, List.set_cons_zero, List.set_cons_succ]
              refine wpAnyH_take (i := 6) (oi := { dst := some 109, op := Op.load 40 (Operand.tmp 10), type := 40, pos := "law.go:74", after := #[{ on := 1, ground := Ground.guard }], guard := some (1, false) }) (v := .agg (It.cells pz)) rfl (by kernel_rfl) (by kernel_rfl) (by kernel_rfl) (fun _ _ _ h => h) (yields_item (t := 10) pz b10 (by kernel_rfl) rfl (fun w h => z1.below h)) hHeld ?_
              simp only [Act.put, List.setIfInBounds_toArray, List.set_cons_zero, List.set_cons_succ]
              refine wpAnyH_take (i := 7) (oi := { dst := some 110, op := Op.binOp BinOp.eql 40 (Operand.tmp 108) (Operand.tmp 109) 40, type := 4, pos := "law.go:74", after := #[{ on := 5, ground := Ground.data }, { on := 6, ground := Ground.data }, { on := 1, ground := Ground.guard }], guard := some (1, false) }) (v := .bool true) rfl (by kernel_rfl) (by kernel_rfl) (by kernel_rfl) (fun _ _ _ h => h) (Or.inl ⟨by kernel_rfl, fun w _ => by rw [exec_eql_item rfl (nthI all k) pz rfl rfl w, hsame]⟩) hHeld ?_
              simp only [Act.put, List.setIfInBounds_toArray, List.set_cons_zero, List.set_cons_succ]
              refine wpAnyH_take (i := 8) (oi := { dst := some 111, op := Op.pick (Operand.tmp 104) (Operand.const (Value.bool true)) (Operand.tmp 110), type := 4, pos := "law.go:74", after := #[{ on := 1, ground := Ground.data }, { on := 7, ground := Ground.data }], guard := none }) (v := ?_) rfl (by kernel_rfl) (by kernel_rfl) (by kernel_rfl) (fun _ _ _ h => h) (Or.inl ⟨by kernel_rfl, ?_⟩) hHeld ?_
              rotate_left
              · intro w hSw; go_simp; try with_reducible rfl
              simp only [Act.put, List.setIfInBounds_toArray, List.set_cons_zero, List.set_cons_succ]
              refine wpAnyH_take (i := 9) (oi := { dst := some 12, op := Op.assign (Operand.tmp 111), type := 4, pos := "law.go:74", after := #[{ on := 8, ground := Ground.data }, { on := 1, ground := Ground.chain }, { on := 0, ground := Ground.phase }, { on := 1, ground := Ground.phase }, { on := 2, ground := Ground.phase }, { on := 3, ground := Ground.phase }, { on := 4, ground := Ground.phase }, { on := 5, ground := Ground.phase }, { on := 6, ground := Ground.phase }, { on := 7, ground := Ground.phase }, { on := 8, ground := Ground.phase }], guard := none }) (v := ?_) rfl (by kernel_rfl) (by kernel_rfl) (by kernel_rfl) (fun _ _ _ h => h) (Or.inl ⟨by kernel_rfl, ?_⟩) hHeld ?_
              rotate_left
              · intro w hSw; go_simp; try with_reducible rfl
              simp only [Act.put, List.setIfInBounds_toArray, List.set_cons_zero, List.set_cons_succ]
              refine wpAnyH_done (by kernel_rfl) ?_ _
              go_wp2
              go_roundw
              case rel => exact ⟨k + 1, by omega, by go_num, by rw [hnxt.out, hin, hsame]; rfl, Lib.hid ⟨hH.out.1.below hHeld, hH.out.2.1.below hHeld, hH.out.2.2.trans (hHeld.mono hH.out.2.2.size)⟩⟩
              case measure => simp [intOf]; omega
            | false =>
              refine wp_region_held_drew (S := (fun w' => Below wr.heap.size wr w')) (by kernel_rfl) hHeld.drew (fun hHeld => ?_)
              refine wpAnyH_take (i := 0) (oi := { dst := some 103, op := Op.move (Operand.tmp 12), type := 4, pos := "law.go:74", after := #[], guard := none }) (v := ?_) rfl (by kernel_rfl) (by kernel_rfl) (by kernel_rfl) (fun _ _ _ h => h) (Or.inl ⟨by kernel_rfl, ?_⟩) hHeld ?_
              rotate_left
              · intro w hSw; go_simp; try with_reducible rfl
              simp only [Act.put, List.setIfInBounds_toArray, List.set_cons_zero, List.set_cons_succ]
              refine wpAnyH_take (i := 1) (oi := { dst := some 104, op := Op.move (Operand.tmp 103), type := 4, pos := "law.go:74", after := #[{ on := 0, ground := Ground.data }], guard := none }) (v := ?_) rfl (by kernel_rfl) (by kernel_rfl) (by kernel_rfl) (fun _ _ _ h => h) (Or.inl ⟨by kernel_rfl, ?_⟩) hHeld ?_
              rotate_left
              · intro w hSw; go_simp; try with_reducible rfl
              simp only [Act.put, List.setIfInBounds_toArray, List.set_cons_zero, List.set_cons_succ]
              refine wpAnyH_take (i := 2) (oi := { dst := some 105, op := Op.move (Operand.tmp 5), type := 44, pos := "law.go:74", after := #[{ on := 1, ground := Ground.guard }], guard := some (1, false) }) (v := ?_) rfl (by kernel_rfl) (by kernel_rfl) (by kernel_rfl) (fun _ _ _ h => h) (Or.inl ⟨by kernel_rfl, ?_⟩) hHeld ?_
              rotate_left
              · intro w hSw; go_simp; try with_reducible rfl
              simp only [Act.put, List.setIfInBounds_toArray, List.set_cons_zero, List.set_cons_succ]
              refine wpAnyH_take (i := 3) (oi := { dst := some 106, op := Op.move (Operand.tmp 13), type := 3, pos := "law.go:74", after := #[{ on := 1, ground := Ground.guard }], guard := some (1, false) }) (v := ?_) rfl (by kernel_rfl) (by kernel_rfl) (by kernel_rfl) (fun _ _ _ h => h) (Or.inl ⟨by kernel_rfl, ?_⟩) hHeld ?_
              rotate_left
              · intro w hSw; go_simp; try with_reducible rfl
              simp only [Act.put, List.setIfInBounds_toArray, List.set_cons_zero, List.set_cons_succ]
              refine wpAnyH_take (i := 4) (oi := { dst := some 107, op := Op.indexAddr 44 (Operand.tmp 105) (Operand.tmp 106), type := 0, pos := "law.go:74", after := #[{ on := 2, ground := Ground.data }, { on := 3, ground := Ground.data }, { on := 1, ground := Ground.guard }], guard := some (1, false) }) (v := ?_) rfl (by kernel_rfl) (by kernel_rfl) (by kernel_rfl) (fun _ _ _ h => h) (Or.inl ⟨by kernel_rfl, ?_⟩) hHeld ?_
              rotate_left
              · intro w hSw; go_simp; try with_reducible rfl
              simp only [Act.put, List.setIfInBounds_toArray, List.set_cons_zero, List.set_cons_succ]
              refine wpAnyH_take (i := 5) (oi := { dst := some 108, op := Op.load 40 (Operand.tmp 107), type := 40, pos := "law.go:74", after := #[{ on := 4, ground := Ground.data }, { on := 1, ground := Ground.guard }], guard := some (1, false) }) (v := .agg (It.cells (nthI all k))) rfl (by kernel_rfl) (by kernel_rfl) (by kernel_rfl) (fun _ _ _ h => h) (yields_imid (t := 107) (nthI all k) b (off + k * 4) (by kernel_rfl) rfl (fun w h => rangeAt_below hr hlt h)) hHeld ?_
              simp only [Act.put, List.setIfInBounds_toArray, List.set_cons_zero, List.set_cons_succ]
              refine wpAnyH_take (i := 6) (oi := { dst := some 109, op := Op.load 40 (Operand.tmp 10), type := 40, pos := "law.go:74", after := #[{ on := 1, ground := Ground.guard }], guard := some (1, false) }) (v := .agg (It.cells pz)) rfl (by kernel_rfl) (by kernel_rfl) (by kernel_rfl) (fun _ _ _ h => h) (yields_item (t := 10) pz b10 (by kernel_rfl) rfl (fun w h => z1.below h)) hHeld ?_
              simp only [Act.put, List.setIfInBounds_toArray, List.set_cons_zero, List.set_cons_succ]
              refine wpAnyH_take (i := 7) (oi := { dst := some 110, op := Op.binOp BinOp.eql 40 (Operand.tmp 108) (Operand.tmp 109) 40, type := 4, pos := "law.go:74", after := #[{ on := 5, ground := Ground.data }, { on := 6, ground := Ground.data }, { on := 1, ground := Ground.guard }], guard := some (1, false) }) (v := .bool false) rfl (by kernel_rfl) (by kernel_rfl) (by kernel_rfl) (fun _ _ _ h => h) (Or.inl ⟨by kernel_rfl, fun w _ => by rw [exec_eql_item rfl (nthI all k) pz rfl rfl w, hsame]⟩) hHeld ?_
              simp only [Act.put, List.setIfInBounds_toArray, List.set_cons_zero, List.set_cons_succ]
              refine wpAnyH_take (i := 8) (oi := { dst := some 111, op := Op.pick (Operand.tmp 104) (Operand.const (Value.bool true)) (Operand.tmp 110), type := 4, pos := "law.go:74", after := #[{ on := 1, ground := Ground.data }, { on := 7, ground := Ground.data }], guard := none }) (v := ?_) rfl (by kernel_rfl) (by kernel_rfl) (by kernel_rfl) (fun _ _ _ h => h) (Or.inl ⟨by kernel_rfl, ?_⟩) hHeld ?_
              rotate_left
              · intro w hSw; go_simp; try with_reducible rfl
              simp only [Act.put, List.setIfInBounds_toArray, List.set_cons_zero, List.set_cons_succ]
              refine wpAnyH_take (i := 9) (oi := { dst := some 12, op := Op.assign (Operand.tmp 111), type := 4, pos := "law.go:74", after := #[{ on := 8, ground := Ground.data }, { on := 1, ground := Ground.chain }, { on := 0, ground := Ground.phase }, { on := 1, ground := Ground.phase }, { on := 2, ground := Ground.phase }, { on := 3, ground := Ground.phase }, { on := 4, ground := Ground.phase }, { on := 5, ground := Ground.phase }, { on := 6, ground := Ground.phase }, { on := 7, ground := Ground.phase }, { on := 8, ground := Ground.phase }], guard := none }) (v := ?_) rfl (by kernel_rfl) (by kernel_rfl) (by kernel_rfl) (fun _ _ _ h => h) (Or.inl ⟨by kernel_rfl, ?_⟩) hHeld ?_
              rotate_left
              · intro w hSw; go_simp; try with_reducible rfl
              simp only [Act.put, List.setIfInBounds_toArray, List.set_cons_zero, List.set_cons_succ]
              refine wpAnyH_done (by kernel_rfl) ?_ _
              go_wp2
              go_roundw
              case rel => exact ⟨k + 1, by omega, by go_num, by rw [hnxt.out, hin, hsame]; rfl, Lib.hid ⟨hH.out.1.below hHeld, hH.out.2.1.below hHeld, hH.out.2.2.trans (hHeld.mono hH.out.2.2.size)⟩⟩
              case measure => simp [intOf]; omega
        | false =>
          clear hnz
          go_upto_region 13 with (fail)
          refine wp_region_held_drew (S := (fun w' => Below wr.heap.size wr w')) (by kernel_rfl) (Below.refl _ _).drew (fun hHeld => ?_)
          refine wpAnyH_take (i := 0) (oi := { dst := some 90, op := Op.move (Operand.tmp 5), type := 44, pos := "law.go:71", after := #[], guard := none }) (v := ?_) rfl (by kernel_rfl) (by kernel_rfl) (by kernel_rfl) (fun _ _ _ h => h) (Or.inl ⟨by kernel_rfl, ?_⟩) hHeld ?_
          rotate_left
          · intro w hSw; go_simp; try with_reducible rfl
          simp only [Act.put, List.setIfInBounds_toArray, List.set_cons_zero, List.set_cons_succ]
          refine wpAnyH_take (i := 1) (oi := { dst := some 91, op := Op.move (Operand.tmp 13), type := 3, pos := "law.go:71", after := #[], guard := none }) (v := ?_) rfl (by kernel_rfl) (by kernel_rfl) (by kernel_rfl) (fun _ _ _ h => h) (Or.inl ⟨by kernel_rfl, ?_⟩) hHeld ?_
          rotate_left
          · intro w hSw; go_simp; try with_reducible rfl
          simp only [Act.put, List.setIfInBounds_toArray, List.set_cons_zero, List.set_cons_succ]
          refine wpAnyH_take (i := 2) (oi := { dst := some 92, op := Op.indexAddr 44 (Operand.tmp 90) (Operand.tmp 91), type := 0, pos := "law.go:71", after := #[{ on := 0, ground := Ground.data }, { on := 1, ground := Ground.data }], guard := none }) (v := ?_) rfl (by kernel_rfl) (by kernel_rfl) (by kernel_rfl) (fun _ _ _ h => h) (Or.inl ⟨by kernel_rfl, ?_⟩) hHeld ?_
          rotate_left
          · intro w hSw; go_simp; try with_reducible rfl
          simp only [Act.put, List.setIfInBounds_toArray, List.set_cons_zero, List.set_cons_succ]
          refine wpAnyH_take (i := 3) (oi := { dst := some 93, op := Op.load 40 (Operand.tmp 92), type := 40, pos := "law.go:71", after := #[{ on := 2, ground := Ground.data }], guard := none }) (v := .agg (It.cells (nthI all k))) rfl (by kernel_rfl) (by kernel_rfl) (by kernel_rfl) (fun _ _ _ h => h) (yields_imid (t := 92) (nthI all k) b (off + k * 4) (by kernel_rfl) rfl (fun w h => rangeAt_below hr hlt h)) hHeld ?_
          simp only [Act.put, List.setIfInBounds_toArray, List.set_cons_zero, List.set_cons_succ]
          refine wpAnyH_ready (rs := [4]) (by kernel_rfl) (by simp) ?_
          refine AllReadyH.cons (o := { dst := some 94, op := Op.call { callee := Callee.value (Operand.func 37), args := #[Operand.tmp 93], argTypes := #[40] }, type := 4, pos := "law.go:71", after := #[{ on := 3, ground := Ground.data }], guard := none }) rfl (fun K hK => ?_) AllReadyH.nil
          go_simp
          go_wp2_with (go_at_call 37; refine (pair_agg (nthI all k) _).mono ?_; rintro e V ⟨he, hb⟩; rw [hp] at he; subst he)
          refine hK.out _ _ (hHeld.trans (hb.mono hHeld.size)) (fun hHeld => ?_)
          clear hK K
          refine wpAnyH_take (i := 5) (oi := { dst := some 95, op := Op.move (Operand.tmp 94), type := 4, pos := "law.go:71", after := #[{ on := 4, ground := Ground.data }, { on := 4, ground := Ground.chain }], guard := none }) (v := ?_) rfl (by kernel_rfl) (by kernel_rfl) (by kernel_rfl) (fun _ _ _ h => h) (Or.inl ⟨by kernel_rfl, ?_⟩) hHeld ?_
          rotate_left
          · intro w hSw; go_simp; try with_reducible rfl
          simp only [Act.put, List.setIfInBounds_toArray, List.set_cons_zero, List.set_cons_succ]
          refine wpAnyH_take (i := 6) (oi := { dst := some 96, op := Op.move (Operand.tmp 5), type := 44, pos := "law.go:71", after := #[{ on := 5, ground := Ground.guard }], guard := some (5, true) }) (v := undef) rfl (by kernel_rfl) (by kernel_rfl) (by kernel_rfl) (fun _ _ _ h => h) (Or.inr ⟨by kernel_rfl, rfl⟩) hHeld ?_
          simp only [Act.put, List.setIfInBounds_toArray, List.set_cons_zero, List.set_cons_succ]
          refine wpAnyH_take (i := 7) (oi := { dst := some 97, op := Op.move (Operand.tmp 13), type := 3, pos := "law.go:71", after := #[{ on := 5, ground := Ground.guard }], guard := some (5, true) }) (v := undef) rfl (by kernel_rfl) (by kernel_rfl) (by kernel_rfl) (fun _ _ _ h => h) (Or.inr ⟨by kernel_rfl, rfl⟩) hHeld ?_
          simp only [Act.put, List.setIfInBounds_toArray, List.set_cons_zero, List.set_cons_succ]
          refine wpAnyH_take (i := 8) (oi := { dst := some 98, op := Op.indexAddr 44 (Operand.tmp 96) (Operand.tmp 97), type := 0, pos := "law.go:71", after := #[{ on := 6, ground := Ground.data }, { on := 7, ground := Ground.data }, { on := 5, ground := Ground.guard }], guard := some (5, true) }) (v := undef) rfl (by kernel_rfl) (by kernel_rfl) (by kernel_rfl) (fun _ _ _ h => h) (Or.inr ⟨by kernel_rfl, rfl⟩) hHeld ?_
          simp only [Act.put, List.setIfInBounds_toArray, List.set_cons_zero, List.set_cons_succ]
          refine wpAnyH_take (i := 9) (oi := { dst := some 99, op := Op.load 40 (Operand.tmp 98), type := 40, pos := "law.go:71", after := #[{ on := 8, ground := Ground.data }, { on := 5, ground := Ground.guard }], guard := some (5, true) }) (v := undef) rfl (by kernel_rfl) (by kernel_rfl) (by kernel_rfl) (fun _ _ _ h => h) (Or.inr ⟨by kernel_rfl, rfl⟩) hHeld ?_
          simp only [Act.put, List.setIfInBounds_toArray, List.set_cons_zero, List.set_cons_succ]
          refine wpAnyH_take (i := 10) (oi := { dst := some 100, op := Op.load 40 (Operand.tmp 10), type := 40, pos := "law.go:71", after := #[{ on := 5, ground := Ground.guard }], guard := some (5, true) }) (v := undef) rfl (by kernel_rfl) (by kernel_rfl) (by kernel_rfl) (fun _ _ _ h => h) (Or.inr ⟨by kernel_rfl, rfl⟩) hHeld ?_
          simp only [Act.put, List.setIfInBounds_toArray, List.set_cons_zero, List.set_cons_succ]
          refine wpAnyH_take (i := 11) (oi := { dst := some 101, op := Op.call { callee := Callee.value (Operand.func 33), args := #[Operand.tmp 99, Operand.tmp 100], argTypes := #[40, 40] }, type := 4, pos := "law.go:71", after := #[{ on := 9, ground := Ground.data }, { on := 10, ground := Ground.data }, { on := 5, ground := Ground.chain }, { on := 5, ground := Ground.guard }], guard := some (5, true) }) (v := undef) rfl (by kernel_rfl) (by kernel_rfl) (by kernel_rfl) (fun _ _ _ h => h) (Or.inr ⟨by kernel_rfl, rfl⟩) hHeld ?_
          simp only [Act.put, List.setIfInBounds_toArray, List.set_cons_zero, List.set_cons_succ]
          refine wpAnyH_take (i := 12) (oi := { dst := some 102, op := Op.pick (Operand.tmp 95) (Operand.tmp 101) (Operand.const (Value.bool false)), type := 4, pos := "law.go:71", after := #[{ on := 5, ground := Ground.data }, { on := 11, ground := Ground.data }], guard := none }) (v := ?_) rfl (by kernel_rfl) (by kernel_rfl) (by kernel_rfl) (fun _ _ _ h => h) (Or.inl ⟨by kernel_rfl, ?_⟩) hHeld ?_
          rotate_left
          · intro w hSw; go_simp; try with_reducible rfl
          simp only [Act.put, List.setIfInBounds_toArray, List.set_cons_zero, List.set_cons_succ]
          refine wpAnyH_done (by kernel_rfl) ?_ _
          go_upto_region 15 with (fail)
          cases hin : inK zf pz all k with
          | true =>
            refine wp_region_held_drew (S := (fun w' => Below wr.heap.size wr w')) (by kernel_rfl) hHeld.drew (fun hHeld => ?_)
            refine wpAnyH_take (i := 0) (oi := { dst := some 103, op := Op.move (Operand.tmp 12), type := 4, pos := "law.go:74", after := #[], guard := none }) (v := ?_) rfl (by kernel_rfl) (by kernel_rfl) (by kernel_rfl) (fun _ _ _ h => h) (Or.inl ⟨by kernel_rfl, ?_⟩) hHeld ?_
            rotate_left
            · intro w hSw; go_simp; try with_reducible rfl
            simp only [Act.put, List.setIfInBounds_toArray, List.set_cons_zero, List.set_cons_succ]
            refine wpAnyH_take (i := 1) (oi := { dst := some 104, op := Op.move (Operand.tmp 103), type := 4, pos := "law.go:74", after := #[{ on := 0, ground := Ground.data }], guard := none }) (v := ?_) rfl (by kernel_rfl) (by kernel_rfl) (by kernel_rfl) (fun _ _ _ h => h) (Or.inl ⟨by kernel_rfl, ?_⟩) hHeld ?_
            rotate_left
            · intro w hSw; go_simp; try with_reducible rfl
            simp only [Act.put, List.setIfInBounds_toArray, List.set_cons_zero, List.set_cons_succ]
            refine wpAnyH_take (i := 2) (oi := { dst := some 105, op := Op.move (Operand.tmp 5), type := 44, pos := "law.go:74", after := #[{ on := 1, ground := Ground.guard }], guard := some (1, false) }) (v := undef) rfl (by kernel_rfl) (by kernel_rfl) (by kernel_rfl) (fun _ _ _ h => h) (Or.inr ⟨by kernel_rfl, rfl⟩) hHeld ?_
            simp only [Act.put, List.setIfInBounds_toArray, List.set_cons_zero, List.set_cons_succ]
            refine wpAnyH_take (i := 3) (oi := { dst := some 106, op := Op.move (Operand.tmp 13), type := 3, pos := "law.go:74", after := #[{ on := 1, ground := Ground.guard }], guard := some (1, false) }) (v := undef) rfl (by kernel_rfl) (by kernel_rfl) (by kernel_rfl) (fun _ _ _ h => h) (Or.inr ⟨by kernel_rfl, rfl⟩) hHeld ?_
            simp only [Act.put, List.setIfInBounds_toArray, List.set_cons_zero, List.set_cons_succ]
            refine wpAnyH_take (i := 4) (oi := { dst := some 107, op := Op.indexAddr 44 (Operand.tmp 105) (Operand.tmp 106), type := 0, pos := "law.go:74", after := #[{ on := 2, ground := Ground.data }, { on := 3, ground := Ground.data }, { on := 1, ground := Ground.guard }], guard := some (1, false) }) (v := undef) rfl (by kernel_rfl) (by kernel_rfl) (by kernel_rfl) (fun _ _ _ h => h) (Or.inr ⟨by kernel_rfl, rfl⟩) hHeld ?_
            simp only [Act.put, List.setIfInBounds_toArray, List.set_cons_zero, List.set_cons_succ]
            refine wpAnyH_take (i := 5) (oi := { dst := some 108, op := Op.load 40 (Operand.tmp 107), type := 40, pos := "law.go:74", after := #[{ on := 4, ground := Ground.data }, { on := 1, ground := Ground.guard }], guard := some (1, false) }) (v := undef) rfl (by kernel_rfl) (by kernel_rfl) (by kernel_rfl) (fun _ _ _ h => h) (Or.inr ⟨by kernel_rfl, rfl⟩) hHeld ?_
            simp only [Act.put, List.setIfInBounds_toArray, List.set_cons_zero, List.set_cons_succ]
            refine wpAnyH_take (i := 6) (oi := { dst := some 109, op := Op.load 40 (Operand.tmp 10), type := 40, pos := "law.go:74", after := #[{ on := 1, ground := Ground.guard }], guard := some (1, false) }) (v := undef) rfl (by kernel_rfl) (by kernel_rfl) (by kernel_rfl) (fun _ _ _ h => h) (Or.inr ⟨by kernel_rfl, rfl⟩) hHeld ?_
            simp only [Act.put, List.setIfInBounds_toArray, List.set_cons_zero, List.set_cons_succ]
            refine wpAnyH_take (i := 7) (oi := { dst := some 110, op := Op.binOp BinOp.eql 40 (Operand.tmp 108) (Operand.tmp 109) 40, type := 4, pos := "law.go:74", after := #[{ on := 5, ground := Ground.data }, { on := 6, ground := Ground.data }, { on := 1, ground := Ground.guard }], guard := some (1, false) }) (v := undef) rfl (by kernel_rfl) (by kernel_rfl) (by kernel_rfl) (fun _ _ _ h => h) (Or.inr ⟨by kernel_rfl, rfl⟩) hHeld ?_
            simp only [Act.put, List.setIfInBounds_toArray, List.set_cons_zero, List.set_cons_succ]
            refine wpAnyH_take (i := 8) (oi := { dst := some 111, op := Op.pick (Operand.tmp 104) (Operand.const (Value.bool true)) (Operand.tmp 110), type := 4, pos := "law.go:74", after := #[{ on := 1, ground := Ground.data }, { on := 7, ground := Ground.data }], guard := none }) (v := ?_) rfl (by kernel_rfl) (by kernel_rfl) (by kernel_rfl) (fun _ _ _ h => h) (Or.inl ⟨by kernel_rfl, ?_⟩) hHeld ?_
            rotate_left
            · intro w hSw; go_simp; try with_reducible rfl
            simp only [Act.put, List.setIfInBounds_toArray, List.set_cons_zero, List.set_cons_succ]
            refine wpAnyH_take (i := 9) (oi := { dst := some 12, op := Op.assign (Operand.tmp 111), type := 4, pos := "law.go:74", after := #[{ on := 8, ground := Ground.data }, { on := 1, ground := Ground.chain }, { on := 0, ground := Ground.phase }, { on := 1, ground := Ground.phase }, { on := 2, ground := Ground.phase }, { on := 3, ground := Ground.phase }, { on := 4, ground := Ground.phase }, { on := 5, ground := Ground.phase }, { on := 6, ground := Ground.phase }, { on := 7, ground := Ground.phase }, { on := 8, ground := Ground.phase }], guard := none }) (v := ?_) rfl (by kernel_rfl) (by kernel_rfl) (by kernel_rfl) (fun _ _ _ h => h) (Or.inl ⟨by kernel_rfl, ?_⟩) hHeld ?_
            rotate_left
            · intro w hSw; go_simp; try with_reducible rfl
            simp only [Act.put, List.setIfInBounds_toArray, List.set_cons_zero, List.set_cons_succ]
            refine wpAnyH_done (by kernel_rfl) ?_ _
            go_wp2
            go_roundw
            case rel => exact ⟨k + 1, by omega, by go_num, by rw [hnxt.out, hin]; rfl, Lib.hid ⟨hH.out.1.below hHeld, hH.out.2.1.below hHeld, hH.out.2.2.trans (hHeld.mono hH.out.2.2.size)⟩⟩
            case measure => simp [intOf]; omega
          | false =>
            cases hsame : (nthI all k).same pz with
            | true =>
              refine wp_region_held_drew (S := (fun w' => Below wr.heap.size wr w')) (by kernel_rfl) hHeld.drew (fun hHeld => ?_)
              refine wpAnyH_take (i := 0) (oi := { dst := some 103, op := Op.move (Operand.tmp 12), type := 4, pos := "law.go:74", after := #[], guard := none }) (v := ?_) rfl (by kernel_rfl) (by kernel_rfl) (by kernel_rfl) (fun _ _ _ h => h) (Or.inl ⟨by kernel_rfl, ?_⟩) hHeld ?_
              rotate_left
              · intro w hSw; go_simp; try with_reducible rfl
              simp only [Act.put, List.setIfInBounds_toArray, List.set_cons_zero, List.set_cons_succ]
              refine wpAnyH_take (i := 1) (oi := { dst := some 104, op := Op.move (Operand.tmp 103), type := 4, pos := "law.go:74", after := #[{ on := 0, ground := Ground.data }], guard := none }) (v := ?_) rfl (by kernel_rfl) (by kernel_rfl) (by kernel_rfl) (fun _ _ _ h => h) (Or.inl ⟨by kernel_rfl, ?_⟩) hHeld ?_
              rotate_left
              · intro w hSw; go_simp; try with_reducible rfl
              simp only [Act.put, List.setIfInBounds_toArray, List.set_cons_zero, List.set_cons_succ]
              refine wpAnyH_take (i := 2) (oi := { dst := some 105, op := Op.move (Operand.tmp 5), type := 44, pos := "law.go:74", after := #[{ on := 1, ground := Ground.guard }], guard := some (1, false) }) (v := ?_) rfl (by kernel_rfl) (by kernel_rfl) (by kernel_rfl) (fun _ _ _ h => h) (Or.inl ⟨by kernel_rfl, ?_⟩) hHeld ?_
              rotate_left
              · intro w hSw; go_simp; try with_reducible rfl
              simp only [Act.put, List.setIfInBounds_toArray, List.set_cons_zero, List.set_cons_succ]
              refine wpAnyH_take (i := 3) (oi := { dst := some 106, op := Op.move (Operand.tmp 13), type := 3, pos := "law.go:74", after := #[{ on := 1, ground := Ground.guard }], guard := some (1, false) }) (v := ?_) rfl (by kernel_rfl) (by kernel_rfl) (by kernel_rfl) (fun _ _ _ h => h) (Or.inl ⟨by kernel_rfl, ?_⟩) hHeld ?_
              rotate_left
              · intro w hSw; go_simp; try with_reducible rfl
              simp only [Act.put, List.setIfInBounds_toArray, List.set_cons_zero, List.set_cons_succ]
              refine wpAnyH_take (i := 4) (oi := { dst := some 107, op := Op.indexAddr 44 (Operand.tmp 105) (Operand.tmp 106), type := 0, pos := "law.go:74", after := #[{ on := 2, ground := Ground.data }, { on := 3, ground := Ground.data }, { on := 1, ground := Ground.guard }], guard := some (1, false) }) (v := ?_) rfl (by kernel_rfl) (by kernel_rfl) (by kernel_rfl) (fun _ _ _ h => h) (Or.inl ⟨by kernel_rfl, ?_⟩) hHeld ?_
              rotate_left
              · intro w hSw; go_simp; try with_reducible rfl
              simp only [Act.put, List.setIfInBounds_toArray, List.set_cons_zero, List.set_cons_succ]
              refine wpAnyH_take (i := 5) (oi := { dst := some 108, op := Op.load 40 (Operand.tmp 107), type := 40, pos := "law.go:74", after := #[{ on := 4, ground := Ground.data }, { on := 1, ground := Ground.guard }], guard := some (1, false) }) (v := .agg (It.cells (nthI all k))) rfl (by kernel_rfl) (by kernel_rfl) (by kernel_rfl) (fun _ _ _ h => h) (yields_imid (t := 107) (nthI all k) b (off + k * 4) (by kernel_rfl) rfl (fun w h => rangeAt_below hr hlt h)) hHeld ?_
              simp only [Act.put, List.setIfInBounds_toArray, List.set_cons_zero, List.set_cons_succ]
              refine wpAnyH_take (i := 6) (oi := { dst := some 109, op := Op.load 40 (Operand.tmp 10), type := 40, pos := "law.go:74", after := #[{ on := 1, ground := Ground.guard }], guard := some (1, false) }) (v := .agg (It.cells pz)) rfl (by kernel_rfl) (by kernel_rfl) (by kernel_rfl) (fun _ _ _ h => h) (yields_item (t := 10) pz b10 (by kernel_rfl) rfl (fun w h => z1.below h)) hHeld ?_
              simp only [Act.put, List.setIfInBounds_toArray, List.set_cons_zero, List.set_cons_succ]
              refine wpAnyH_take (i := 7) (oi := { dst := some 110, op := Op.binOp BinOp.eql 40 (Operand.tmp 108) (Operand.tmp 109) 40, type := 4, pos := "law.go:74", after := #[{ on := 5, ground := Ground.data }, { on := 6, ground := Ground.data }, { on := 1, ground := Ground.guard }], guard := some (1, false) }) (v := .bool true) rfl (by kernel_rfl) (by kernel_rfl) (by kernel_rfl) (fun _ _ _ h => h) (Or.inl ⟨by kernel_rfl, fun w _ => by rw [exec_eql_item rfl (nthI all k) pz rfl rfl w, hsame]⟩) hHeld ?_
              simp only [Act.put, List.setIfInBounds_toArray, List.set_cons_zero, List.set_cons_succ]
              refine wpAnyH_take (i := 8) (oi := { dst := some 111, op := Op.pick (Operand.tmp 104) (Operand.const (Value.bool true)) (Operand.tmp 110), type := 4, pos := "law.go:74", after := #[{ on := 1, ground := Ground.data }, { on := 7, ground := Ground.data }], guard := none }) (v := ?_) rfl (by kernel_rfl) (by kernel_rfl) (by kernel_rfl) (fun _ _ _ h => h) (Or.inl ⟨by kernel_rfl, ?_⟩) hHeld ?_
              rotate_left
              · intro w hSw; go_simp; try with_reducible rfl
              simp only [Act.put, List.setIfInBounds_toArray, List.set_cons_zero, List.set_cons_succ]
              refine wpAnyH_take (i := 9) (oi := { dst := some 12, op := Op.assign (Operand.tmp 111), type := 4, pos := "law.go:74", after := #[{ on := 8, ground := Ground.data }, { on := 1, ground := Ground.chain }, { on := 0, ground := Ground.phase }, { on := 1, ground := Ground.phase }, { on := 2, ground := Ground.phase }, { on := 3, ground := Ground.phase }, { on := 4, ground := Ground.phase }, { on := 5, ground := Ground.phase }, { on := 6, ground := Ground.phase }, { on := 7, ground := Ground.phase }, { on := 8, ground := Ground.phase }], guard := none }) (v := ?_) rfl (by kernel_rfl) (by kernel_rfl) (by kernel_rfl) (fun _ _ _ h => h) (Or.inl ⟨by kernel_rfl, ?_⟩) hHeld ?_
              rotate_left
              · intro w hSw; go_simp; try with_reducible rfl
              simp only [Act.put, List.setIfInBounds_toArray, List.set_cons_zero, List.set_cons_succ]
              refine wpAnyH_done (by kernel_rfl) ?_ _
              go_wp2
              go_roundw
              case rel => exact ⟨k + 1, by omega, by go_num, by rw [hnxt.out, hin, hsame]; rfl, Lib.hid ⟨hH.out.1.below hHeld, hH.out.2.1.below hHeld, hH.out.2.2.trans (hHeld.mono hH.out.2.2.size)⟩⟩
              case measure => simp [intOf]; omega
            | false =>
              refine wp_region_held_drew (S := (fun w' => Below wr.heap.size wr w')) (by kernel_rfl) hHeld.drew (fun hHeld => ?_)
              refine wpAnyH_take (i := 0) (oi := { dst := some 103, op := Op.move (Operand.tmp 12), type := 4, pos := "law.go:74", after := #[], guard := none }) (v := ?_) rfl (by kernel_rfl) (by kernel_rfl) (by kernel_rfl) (fun _ _ _ h => h) (Or.inl ⟨by kernel_rfl, ?_⟩) hHeld ?_
              rotate_left
              · intro w hSw; go_simp; try with_reducible rfl
              simp only [Act.put, List.setIfInBounds_toArray, List.set_cons_zero, List.set_cons_succ]
              refine wpAnyH_take (i := 1) (oi := { dst := some 104, op := Op.move (Operand.tmp 103), type := 4, pos := "law.go:74", after := #[{ on := 0, ground := Ground.data }], guard := none }) (v := ?_) rfl (by kernel_rfl) (by kernel_rfl) (by kernel_rfl) (fun _ _ _ h => h) (Or.inl ⟨by kernel_rfl, ?_⟩) hHeld ?_
              rotate_left
              · intro w hSw; go_simp; try with_reducible rfl
              simp only [Act.put, List.setIfInBounds_toArray, List.set_cons_zero, List.set_cons_succ]
              refine wpAnyH_take (i := 2) (oi := { dst := some 105, op := Op.move (Operand.tmp 5), type := 44, pos := "law.go:74", after := #[{ on := 1, ground := Ground.guard }], guard := some (1, false) }) (v := ?_) rfl (by kernel_rfl) (by kernel_rfl) (by kernel_rfl) (fun _ _ _ h => h) (Or.inl ⟨by kernel_rfl, ?_⟩) hHeld ?_
              rotate_left
              · intro w hSw; go_simp; try with_reducible rfl
              simp only [Act.put, List.setIfInBounds_toArray, List.set_cons_zero, List.set_cons_succ]
              refine wpAnyH_take (i := 3) (oi := { dst := some 106, op := Op.move (Operand.tmp 13), type := 3, pos := "law.go:74", after := #[{ on := 1, ground := Ground.guard }], guard := some (1, false) }) (v := ?_) rfl (by kernel_rfl) (by kernel_rfl) (by kernel_rfl) (fun _ _ _ h => h) (Or.inl ⟨by kernel_rfl, ?_⟩) hHeld ?_
              rotate_left
              · intro w hSw; go_simp; try with_reducible rfl
              simp only [Act.put, List.setIfInBounds_toArray, List.set_cons_zero, List.set_cons_succ]
              refine wpAnyH_take (i := 4) (oi := { dst := some 107, op := Op.indexAddr 44 (Operand.tmp 105) (Operand.tmp 106), type := 0, pos := "law.go:74", after := #[{ on := 2, ground := Ground.data }, { on := 3, ground := Ground.data }, { on := 1, ground := Ground.guard }], guard := some (1, false) }) (v := ?_) rfl (by kernel_rfl) (by kernel_rfl) (by kernel_rfl) (fun _ _ _ h => h) (Or.inl ⟨by kernel_rfl, ?_⟩) hHeld ?_
              rotate_left
              · intro w hSw; go_simp; try with_reducible rfl
              simp only [Act.put, List.setIfInBounds_toArray, List.set_cons_zero, List.set_cons_succ]
              refine wpAnyH_take (i := 5) (oi := { dst := some 108, op := Op.load 40 (Operand.tmp 107), type := 40, pos := "law.go:74", after := #[{ on := 4, ground := Ground.data }, { on := 1, ground := Ground.guard }], guard := some (1, false) }) (v := .agg (It.cells (nthI all k))) rfl (by kernel_rfl) (by kernel_rfl) (by kernel_rfl) (fun _ _ _ h => h) (yields_imid (t := 107) (nthI all k) b (off + k * 4) (by kernel_rfl) rfl (fun w h => rangeAt_below hr hlt h)) hHeld ?_
              simp only [Act.put, List.setIfInBounds_toArray, List.set_cons_zero, List.set_cons_succ]
              refine wpAnyH_take (i := 6) (oi := { dst := some 109, op := Op.load 40 (Operand.tmp 10), type := 40, pos := "law.go:74", after := #[{ on := 1, ground := Ground.guard }], guard := some (1, false) }) (v := .agg (It.cells pz)) rfl (by kernel_rfl) (by kernel_rfl) (by kernel_rfl) (fun _ _ _ h => h) (yields_item (t := 10) pz b10 (by kernel_rfl) rfl (fun w h => z1.below h)) hHeld ?_
              simp only [Act.put, List.setIfInBounds_toArray, List.set_cons_zero, List.set_cons_succ]
              refine wpAnyH_take (i := 7) (oi := { dst := some 110, op := Op.binOp BinOp.eql 40 (Operand.tmp 108) (Operand.tmp 109) 40, type := 4, pos := "law.go:74", after := #[{ on := 5, ground := Ground.data }, { on := 6, ground := Ground.data }, { on := 1, ground := Ground.guard }], guard := some (1, false) }) (v := .bool false) rfl (by kernel_rfl) (by kernel_rfl) (by kernel_rfl) (fun _ _ _ h => h) (Or.inl ⟨by kernel_rfl, fun w _ => by rw [exec_eql_item rfl (nthI all k) pz rfl rfl w, hsame]⟩) hHeld ?_
              simp only [Act.put, List.setIfInBounds_toArray, List.set_cons_zero, List.set_cons_succ]
              refine wpAnyH_take (i := 8) (oi := { dst := some 111, op := Op.pick (Operand.tmp 104) (Operand.const (Value.bool true)) (Operand.tmp 110), type := 4, pos := "law.go:74", after := #[{ on := 1, ground := Ground.data }, { on := 7, ground := Ground.data }], guard := none }) (v := ?_) rfl (by kernel_rfl) (by kernel_rfl) (by kernel_rfl) (fun _ _ _ h => h) (Or.inl ⟨by kernel_rfl, ?_⟩) hHeld ?_
              rotate_left
              · intro w hSw; go_simp; try with_reducible rfl
              simp only [Act.put, List.setIfInBounds_toArray, List.set_cons_zero, List.set_cons_succ]
              refine wpAnyH_take (i := 9) (oi := { dst := some 12, op := Op.assign (Operand.tmp 111), type := 4, pos := "law.go:74", after := #[{ on := 8, ground := Ground.data }, { on := 1, ground := Ground.chain }, { on := 0, ground := Ground.phase }, { on := 1, ground := Ground.phase }, { on := 2, ground := Ground.phase }, { on := 3, ground := Ground.phase }, { on := 4, ground := Ground.phase }, { on := 5, ground := Ground.phase }, { on := 6, ground := Ground.phase }, { on := 7, ground := Ground.phase }, { on := 8, ground := Ground.phase }], guard := none }) (v := ?_) rfl (by kernel_rfl) (by kernel_rfl) (by kernel_rfl) (fun _ _ _ h => h) (Or.inl ⟨by kernel_rfl, ?_⟩) hHeld ?_
              rotate_left
              · intro w hSw; go_simp; try with_reducible rfl
              simp only [Act.put, List.setIfInBounds_toArray, List.set_cons_zero, List.set_cons_succ]
              refine wpAnyH_done (by kernel_rfl) ?_ _
              go_wp2
              go_roundw
              case rel => exact ⟨k + 1, by omega, by go_num, by rw [hnxt.out, hin, hsame]; rfl, Lib.hid ⟨hH.out.1.below hHeld, hH.out.2.1.below hHeld, hH.out.2.2.trans (hHeld.mono hH.out.2.2.size)⟩⟩
              case measure => simp [intOf]; omega
      · obtain rfl : k = all.length := by omega
        have hend := HX.out.2.2.2.2.2.2
        rw [hend]
        have z1 := hH.out.1
        have hB := hH.out.2.2
        have hin1 := HX.out.2.2.2.2.1
        have kz := z1.cells
        clear hH HX
        cases zf with
        | false =>
          go_wp2_with (first | (go_at_call 37; with_reducible refine (pair_lit _ _ _ _ _).mono ?_; rintro e V ⟨he, hb⟩; rw [hin1] at he; subst he; replace z1 := z1.below hb; replace kz := z1.cells; replace hB := hB.trans (hb.mono hB.size); clear hb) | (go_at_call 34; refine (law19_wakes _).mono ?_; rintro e V ⟨rfl, hb⟩; replace hB := hB.trans (hb.mono hB.size)))
          go_ret
          exact ⟨rfl, hB⟩
        | true =>
          replace hin1 := hin1 rfl
          go_wp2_with (first | (go_at_call 37; with_reducible refine (pair_lit _ _ _ _ _).mono ?_; rintro e V ⟨he, hb⟩; rw [hin1] at he; subst he; replace z1 := z1.below hb; replace kz := z1.cells; replace hB := hB.trans (hb.mono hB.size); clear hb) | (go_at_call 34; refine (law19_wakes _).mono ?_; rintro e V ⟨rfl, hb⟩; replace hB := hB.trans (hb.mono hB.size)))
          go_ret
          exact ⟨rfl, hB⟩
  clear hK
  obtain ⟨hzf, hnx, hny, hno, -, -, -⟩ := HX.out
  clear HX HALL hal hl20 hm20
  have kx := x1.cells
  have ky := y1.cells
  have kz := z1.cells
  cases xf with
  | true =>
    obtain rfl : zf = true := by rw [hzf]; rfl
    replace hnx := hnx rfl
    clear hno hzf
    cases yf with
    | true =>
      replace hny := hny rfl
      go_wp2_with (first | (go_at_call 33; with_reducible refine (newer_lit _ _ _ _ _ _ _ _ _).mono ?_; rintro e V ⟨he, hb⟩; (first | rw [hnx] at he | rw [hny] at he); subst he; replace x1 := x1.below hb; replace y1 := y1.below hb; replace z1 := z1.below hb; replace kx := x1.cells; replace ky := y1.cells; replace kz := z1.cells; replace hs3 := hs3.below hb; replace hB := hB.trans (hb.mono hB.size); clear hb))
      exact HK _ _ _ _ _ _ _ _ _ _ _ _ _ _ _ _ _ _ _ _ _ _ _ _ _ _ _ _ _ _ _ _ _ _ _ _ _ _ _ _ _ _ _ _ _ _ _ _ _ _ _ _ _ _ _ _ _ _ _ _ _ _ _ _ _ _ _ _ _ _ _ _ _ _ _ _ _ _ _ _ _ _ _ _ _ _ _ _ _ _ _ _ _ _ _ _ _ _ _ _ _ _ _ _ _ _ _ _ _ _ _ _ _ _ _ z1 hs3 hB
    | false =>
      clear hny
      go_wp2_with (first | (go_at_call 33; with_reducible refine (newer_lit _ _ _ _ _ _ _ _ _).mono ?_; rintro e V ⟨he, hb⟩; (first | rw [hnx] at he); subst he; replace x1 := x1.below hb; replace y1 := y1.below hb; replace z1 := z1.below hb; replace kx := x1.cells; replace ky := y1.cells; replace kz := z1.cells; replace hs3 := hs3.below hb; replace hB := hB.trans (hb.mono hB.size); clear hb))
      exact HK _ _ _ _ _ _ _ _ _ _ _ _ _ _ _ _ _ _ _ _ _ _ _ _ _ _ _ _ _ _ _ _ _ _ _ _ _ _ _ _ _ _ _ _ _ _ _ _ _ _ _ _ _ _ _ _ _ _ _ _ _ _ _ _ _ _ _ _ _ _ _ _ _ _ _ _ _ _ _ _ _ _ _ _ _ _ _ _ _ _ _ _ _ _ _ _ _ _ _ _ _ _ _ _ _ _ _ _ _ _ _ _ _ _ _ z1 hs3 hB
  | false =>
    clear hnx
    cases yf with
    | true =>
      obtain rfl : zf = true := by rw [hzf]; rfl
      replace hny := hny rfl
      clear hno hzf
      go_wp2_with (first | (go_at_call 33; with_reducible refine (newer_lit _ _ _ _ _ _ _ _ _).mono ?_; rintro e V ⟨he, hb⟩; (first | rw [hny] at he); subst he; replace x1 := x1.below hb; replace y1 := y1.below hb; replace z1 := z1.below hb; replace kx := x1.cells; replace ky := y1.cells; replace kz := z1.cells; replace hs3 := hs3.below hb; replace hB := hB.trans (hb.mono hB.size); clear hb))
      exact HK _ _ _ _ _ _ _ _ _ _ _ _ _ _ _ _ _ _ _ _ _ _ _ _ _ _ _ _ _ _ _ _ _ _ _ _ _ _ _ _ _ _ _ _ _ _ _ _ _ _ _ _ _ _ _ _ _ _ _ _ _ _ _ _ _ _ _ _ _ _ _ _ _ _ _ _ _ _ _ _ _ _ _ _ _ _ _ _ _ _ _ _ _ _ _ _ _ _ _ _ _ _ _ _ _ _ _ _ _ _ _ _ _ _ _ z1 hs3 hB
    | false =>
      obtain rfl : zf = false := by rw [hzf]; rfl
      clear hny hzf
      have hpz := (hno rfl).1
      clear hno
      subst hpz
      dsimp only [It.zero] at kz
      go_wp2
      exact HK _ _ _ _ _ _ _ _ _ _ _ _ _ _ _ _ _ _ _ _ _ _ _ _ _ _ _ _ _ _ _ _ _ _ _ _ _ _ _ _ _ _ _ _ _ _ _ _ _ _ _ _ _ _ _ _ _ _ _ _ _ _ _ _ _ _ _ _ _ _ _ _ _ _ _ _ _ _ _ _ _ _ _ _ _ _ _ _ _ _ _ _ _ _ _ _ _ _ _ _ _ _ _ _ _ _ _ _ _ _ _ _ _ _ _ z1 hs3 hB
theorem law_ItemNewest (A1 A2 : Option Addr) (c1 c2 : Nat) (l m : List It) (w : World) (hl : SlI w A1 c1 l) (hm : SlI w A2 c2 m) :
    Calls Try.prog 9 #[.slice A1 l.length c1, .slice A2 m.length c2] w fun e w' => e = .returned (.bool true) ∧ Below w.heap.size w w' := by
  cases hg : (greatL l || greatL m || decide (20 < (l.length : Int)) || decide (20 < (m.length : Int))) with
  | true => exact law_ItemNewest_great A1 A2 c1 c2 l m w hl hm hg
  | false =>
    obtain ⟨h1, h4⟩ := Bool.or_eq_false_iff.1 hg
    obtain ⟨h1, h3⟩ := Bool.or_eq_false_iff.1 h1
    obtain ⟨h1, h2⟩ := Bool.or_eq_false_iff.1 h1
    exact law_ItemNewest_main A1 A2 c1 c2 l m w hl hm h1 h2 h3 h4
end Go.Proofs.Ytbjgfcempfpfcaa
