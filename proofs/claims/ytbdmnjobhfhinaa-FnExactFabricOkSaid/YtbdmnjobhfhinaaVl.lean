/- A new fabric and a right one, in the reference. No conditions beside those that each theorem states. -/
import Derived.Test.YtbdmnjobhfhinaaVk
namespace Go.Proofs.Ytbdmnjobhfhinaa.M
open Go.RowKit Go.Proofs.YtbdmnjobhfhinaaW.PrintWords Go.Proofs.YtbdmnjobhfhinaaW.PrintLast Go.Proofs.YtbdmnjobhfhinaaW.PrintMore
set_option linter.unusedVariables false
set_option linter.unusedSimpArgs false
set_option maxHeartbeats 4000000
set_option maxRecDepth 100000
theorem l8Copy_c (id : Int) (A : Option Addr) (c : Nat) (ps : List S138) (w : World) (hC : Kd.C k138 w A ps.length ps) (hs : ps.length ≤ 1048576) : Calls Try.prog 174 #[.agg #[.int .i64 id, .slice A ps.length c]] w fun e w' => ∃ B cb, e = .returned (.agg #[.int .i64 id, .slice B ps.length cb]) ∧ Kd.R k138 138 w' w.heap.size (fun _ => True) (.slice B ps.length cb) ps ∧ Below w.heap.size w w' := by
  have hu65 := Try.underlying65
  have hbx0 := Aside0.mk (blk_alloc (blk_new w (.cells #[.int .i64 id, .slice A ps.length c] 65)) (.cells #[.int .i64 0, .slice none 0 0] 65))
  have hrs0 : ((w.alloc (.cells #[.int .i64 id, .slice A ps.length c] 65)).alloc (.cells #[.int .i64 0, .slice none 0 0] 65)).heap[w.heap.size + 1]? = some (.cells #[.int .i64 0, .slice none 0 0] 65 (0, 0)) := by
    have h := blk_new (w.alloc (.cells #[.int .i64 id, .slice A ps.length c] 65)) (.cells #[.int .i64 0, .slice none 0 0] 65)
    simpa using h
  replace hrs0 := Aside0.mk hrs0
  have hW0 := Aside0.mk (below_alloc (below_alloc (Below.refl w.heap.size w) (.cells #[.int .i64 id, .slice A ps.length c] 65)) (.cells #[.int .i64 0, .slice none 0 0] 65))
  replace hC := Aside0.mk hC
  go_enter Try.func174, Try.ntmps174
  go_wp2
  refine wp_same (fun wq hq hz => ?_)
  clear hz
  have hbx := blk_below hbx0.out hq
  have hrs := blk_below hrs0.out hq
  have b0 : wq.cell? ⟨w.heap.size, 0, none⟩ = some (.int .i64 id) := (blk_cell hbx 0).trans rfl
  have b1 : wq.cell? ⟨w.heap.size, 1, none⟩ = some (.slice A ps.length c) := (blk_cell hbx 1).trans rfl
  have hWq := Aside0.mk (bthen hW0.out hq)
  have zN := blk_lt hrs
  have zM := blk_lt hbx
  replace hrs := Aside0.mk hrs
  clear hbx hq
  refine region_seq (fun w' => w'.cell? ⟨w.heap.size, 0, none⟩ = some (.int .i64 id) ∧ w'.cell? ⟨w.heap.size, 1, none⟩ = some (.slice A ps.length c)) [7] [(0, .p), (3, .p), (1, .t), (4, .t), (2, .o), (5, .o), (6, .p), (7, .l)] (by kernel_rfl) sLCtab sLCbits (fun _ _ d _ _ h => by cases d <;> exact h) (by kernel_rfl) ⟨b0, b1⟩ (fun hHeld => ?_)
  repeat (first | (refine seq_p (v := ?_) (a' := ?_) rfl rfl (Or.inl ⟨by rfl, ?_⟩) ?_ ?_; rotate_left; (intro w'; go_simp; with_reducible rfl); rotate_left; (simp only [Act.put, List.setIfInBounds_toArray, List.set_cons_zero, List.set_cons_succ, i64_w, i32_w]; rfl)) | (refine seq_t (v := ?_) (a' := ?_) rfl rfl (Or.inl ⟨by rfl, ?_⟩) hHeld ?_ ?_; rotate_left; (rintro w' ⟨s0, s1⟩; go_simp; with_reducible rfl); rotate_left; (simp only [Act.put, List.setIfInBounds_toArray, List.set_cons_zero, List.set_cons_succ, i64_w, i32_w]; rfl)))
  refine seq_o (N := some 5) (by rfl) (by rfl) (fun K hK => ?_)
  refine Kd.R_lit_step k138 (w0 := wq.drew) (N := 5) (W := wq.drew) (xs := []) (inner := []) (ok := fun _ => True) (okp := fun _ => False) wq.drew.heap.size 138 (by rfl) (by rfl) (by first | rfl | go_simp) (Reps.none _ _) (fun _ h => trivial) trivial (Below.refl _ _) (Nat.le_refl _) (by simp) ?_
  intro v1 w1 hO1 hb1 _ _
  obtain ⟨A1, c1, rfl⟩ := Kd.R_slice hO1
  refine hK.out _ _ ⟨(hb1.cell (p := ⟨w.heap.size, 0, none⟩) zM).trans b0, (hb1.cell (p := ⟨w.heap.size, 1, none⟩) zM).trans b1⟩ (fun hHeld2 => ?_)
  clear hK K
  refine seq_norm (a' := ?_) ?_ ?_
  rotate_left
  · show Act.put _ _ _ = _; simp only [Act.put, List.setIfInBounds_toArray, List.set_cons_zero, List.set_cons_succ, i64_w, i32_w]; rfl
  refine seq_o (N := some 8) (by rfl) (by rfl) (fun K hK => ?_)
  refine Kd.R_append_rows_step k138 (w0 := wq.drew) wq.drew.heap.size (by rfl) (.tmp 5) (.tmp 7) 63 138 (.agg #[(.bool false), (.bool false), (.int .i64 0), (.int .i64 0), (.int .i64 0), (.int .i64 0), (.int .i64 0), (.int .i64 0), (.int .i64 0), (.int .i64 0), (.bool false)]) 80 rfl Try.underlying63 info138 rfl (by decide) (by omega) (.slice A1 0 c1) [] ps _ _ _ (fun _ => True) (fun _ => False) rfl rfl hO1 (Kd.C_below hC.out (bthen (below_drew hWq.out) hb1)) (fun _ _ h => h) (fun _ h => h.elim) (fun _ _ => trivial) hb1 hb1.size (by simp; omega) ?_
  intro v2 w2 hO2 hb2 _ _
  obtain ⟨A2, c2, rfl⟩ := Kd.R_slice hO2
  refine hK.out _ _ ⟨(hb2.cell (p := ⟨w.heap.size, 0, none⟩) zM).trans b0, (hb2.cell (p := ⟨w.heap.size, 1, none⟩) zM).trans b1⟩ (fun hHeld3 => ?_)
  clear hK K
  refine seq_norm (a' := ?_) ?_ ?_
  rotate_left
  · show Act.put _ _ _ = _; simp only [Act.put, List.setIfInBounds_toArray, List.set_cons_zero, List.set_cons_succ, i64_w, i32_w]; rfl
  refine seq_p (i := 6) (N := 9) (v := .agg #[.int .i64 id, .slice A2 ps.length c2]) (a' := { tmps := #[.agg #[.int .i64 id, .slice A ps.length c], .pointer (some ⟨w.heap.size, 0, none⟩), .pointer (some ⟨w.heap.size + 1, 0, none⟩), .pointer (some ⟨w.heap.size, 0, none⟩), .int .i64 id, .slice A1 0 c1, .pointer (some ⟨w.heap.size, 1, none⟩), .slice A ps.length c, .slice A2 ps.length c2, .agg #[.int .i64 id, .slice A2 ps.length c2]], defers := [] }) rfl rfl (Or.inl ⟨by rfl, ?_⟩) (by rfl) ?_
  · intro w'; go_simp; try with_reducible rfl
  have hrs2 := blk_below (blk_drew hrs.out) hb2
  have r0 : w2.cell? ⟨w.heap.size + 1, 0, none⟩ = some (.int .i64 0) := (blk_cell hrs2 0).trans rfl
  have r1 : w2.cell? ⟨w.heap.size + 1, 1, none⟩ = some (.slice none 0 0) := (blk_cell hrs2 1).trans rfl
  have f0 := blk_frozen hrs2 0
  have f1 := blk_frozen hrs2 1
  have zR := blk_lt hrs2
  have hB2 := Aside0.mk (bthen (below_drew hWq.out) hb2)
  have hO3 := Aside0.mk (Kd.R_lower (Kd.R_mono (Kd.R_bound hO2) (fun k hk => (show w.heap.size + 1 < k from by have h := hk.2.1; have h2 : wq.heap.size ≤ k := h; omega))) (below_size (below_drew hWq.out)))
  simp only [List.nil_append] at hO3
  clear hrs2
  refine seq_l (N := none) (by rfl) (by rfl) (fun K hK => ?_)
  rw [if_pos (by rfl)]
  go_wp2
  refine hK.out _ _ ?_
  clear hK K
  refine seq_done ?_
  go_wp2
  refine bodyPost_ret (v := .agg #[.int .i64 id, .slice A2 ps.length c2]) ?_ rfl ⟨A2, c2, rfl, Kd.R_mono (Kd.R_far (Kd.R_far hO3.out (p := ⟨w.heap.size + 1, 0, none⟩) (fun k hk => by show k ≠ w.heap.size + 1; omega) _) (p := ⟨w.heap.size + 1, 1, none⟩) (fun k hk => by show k ≠ w.heap.size + 1; omega) _) (fun _ _ => trivial), by (repeat (refine below_set ?_ (by omega))); exact hB2.out⟩
  simp [results, Try.results174, go_sem, zR, r0, r1]
end Go.Proofs.Ytbdmnjobhfhinaa.M
namespace Go.Proofs.Ytbdmnjobhfhinaa.M
open Go.RowKit Go.Proofs.YtbdmnjobhfhinaaW.PrintWords Go.Proofs.YtbdmnjobhfhinaaW.PrintLast Go.Proofs.YtbdmnjobhfhinaaW.PrintMore
set_option linter.unusedVariables false
set_option linter.unusedSimpArgs false
set_option maxHeartbeats 4000000
set_option maxRecDepth 100000
theorem R_emptyO {α : Type} (d : Kd α) {e : Nat} {w : World} {base g : Nat} {ok : Nat → Prop} (h : w.heap[g]? = some (.cells #[] e (0, 0))) (hb : base ≤ g) (hok : ok g) : Kd.R d e w base ok (.slice (some ⟨g, 0, none⟩) 0 0) [] :=
  ⟨fun k hk => by
    have : g = k := by simpa [Value.ownBlock] using hk
    subst this; exact hok, [], ⟨by simp, .inr ⟨g, 0, #[], rfl, hb, h, Nat.le_refl _, by simp [maxLen], by simp, by simp⟩⟩, Reps.none _ _⟩
theorem l10Copy_c (A B : Option Addr) (ca cb : Nat) (bs : List S65) (ls : List S145) (w : World) (hA : Kd.C k65 w A bs.length bs) (hB : Kd.C k145 w B ls.length ls) (hs1 : bs.length ≤ 1048576) (hs2 : ls.length ≤ 1048576) (hps : ∀ x ∈ bs, x.f1.length ≤ 1048576) : Calls Try.prog 122 #[.agg #[.slice A bs.length ca, .slice B ls.length cb]] w fun e w' => ∃ A' ca' B' cb', e = .returned (.agg #[.slice A' bs.length ca', .slice B' ls.length cb']) ∧ Kd.R k65 65 w' w.heap.size (fun _ => True) (.slice A' bs.length ca') bs ∧ Kd.R k145 145 w' w.heap.size (fun _ => True) (.slice B' ls.length cb') ls ∧ Below w.heap.size w w' := by
  have hu32 := Try.underlying32
  have hu65 := Try.underlying65
  have hbx0 := Aside0.mk (blk_alloc (blk_alloc (blk_new w (.cells #[.slice A bs.length ca, .slice B ls.length cb] 32)) (.cells #[.slice none 0 0, .slice none 0 0] 32)) (.cells #[] 145))
  have hrs0 : (((w.alloc (.cells #[.slice A bs.length ca, .slice B ls.length cb] 32)).alloc (.cells #[.slice none 0 0, .slice none 0 0] 32)).alloc (.cells #[] 145)).heap[w.heap.size + 1]? = some (.cells #[.slice none 0 0, .slice none 0 0] 32 (0, 0)) := by
    have h := blk_alloc (blk_new (w.alloc (.cells #[.slice A bs.length ca, .slice B ls.length cb] 32)) (.cells #[.slice none 0 0, .slice none 0 0] 32)) (.cells #[] 145)
    simpa using h
  replace hrs0 := Aside0.mk hrs0
  have hW0 := Aside0.mk (below_alloc (below_alloc (below_alloc (Below.refl w.heap.size w) (.cells #[.slice A bs.length ca, .slice B ls.length cb] 32)) (.cells #[.slice none 0 0, .slice none 0 0] 32)) (.cells #[] 145))
  replace hA := Aside0.mk hA
  replace hB := Aside0.mk hB
  replace hps := Aside0.mk hps
  go_enter Try.func122, Try.ntmps122
  go_wp2_with (at_builtin; refine Kd.R_append_rows k145 (w0 := w) w.heap.size rfl (.tmp 5) (.tmp 7) 30 145 (.agg #[(.int .i64 0), (.int .i64 0), (.int .i64 0), (.int .i64 0)]) 32 rfl Try.underlying30 info145 rfl (by decide) (by omega) (.slice (some ⟨w.heap.size + 1 + 1, 0, none⟩) 0 0) [] ls _ _ _ (fun k => w.heap.size + 1 < k) (fun _ => False) rfl rfl (R_emptyO k145 (show (((w.alloc (.cells #[.slice A bs.length ca, .slice B ls.length cb] 32)).alloc (.cells #[.slice none 0 0, .slice none 0 0] 32)).alloc (.cells #[] 145)).heap[w.heap.size + 1 + 1]? = some (.cells #[] 145 (0, 0)) from by simpa using blk_new ((w.alloc (.cells #[.slice A bs.length ca, .slice B ls.length cb] 32)).alloc (.cells #[.slice none 0 0, .slice none 0 0] 32)) (.cells #[] 145)) (show w.heap.size ≤ w.heap.size + 1 + 1 by omega) (show w.heap.size + 1 < w.heap.size + 1 + 1 by omega)) (Kd.C_below hB.out hW0.out) (fun _ _ h => h) (fun _ h => h.elim) (fun k hk => by have h : w.heap.size + 1 + 1 + 1 ≤ k := (by simpa using hk); omega) hW0.out (below_size hW0.out) (by simp; omega) ?_; intro v1 w1 hL1 hb1 hg1 _; obtain ⟨A', ca', rfl⟩ := Kd.R_slice hL1; have hbx1 := Aside0.mk (blk_grown hbx0.out hg1 (by simp [Value.ownBlock]; omega)); have hrs1 := Aside0.mk (blk_grown hrs0.out hg1 (by simp [Value.ownBlock])); have zB := blk_lt hbx1.out; have zR := blk_lt hrs1.out; replace hL1 := Aside0.mk hL1; replace hb1 := Aside0.mk hb1; clear hg1)
  simp only [List.nil_append] at hL1
  have hLa := Aside0.mk (show Kd.R k145 145 (w1.alloc (.cells #[.slice none 0 0, .slice A' ls.length ca'] 32)) w.heap.size (fun k => w.heap.size + 1 < k ∧ k ≠ w1.heap.size) (.slice A' ls.length ca') ls from Kd.R_alloc (Kd.R_mono (Kd.R_bound hL1.out) (fun k hk => ⟨hk.1, by have := hk.2.2.1; omega⟩)) _)
  have hbx2 := Aside0.mk (blk_alloc hbx1.out (.cells #[.slice none 0 0, .slice A' ls.length ca'] 32))
  have hrs2 := Aside0.mk (blk_alloc hrs1.out (.cells #[.slice none 0 0, .slice A' ls.length ca'] 32))
  have hW2 := Aside0.mk (below_alloc hb1.out (.cells #[.slice none 0 0, .slice A' ls.length ca'] 32))
  clear hL1 hbx1 hrs1 hb1
  go_loopw [4] (fun vi wr => ∃ (k : Nat) (V : Value) (acc : List S65), k ≤ bs.length ∧ vi = .int .i64 k ∧ Aside0 (acc = bs.take k) ∧ Aside0 (wr.heap[w.heap.size]? = some (.cells #[.slice A bs.length ca, .slice B ls.length cb] 32 (0, 0))) ∧ Aside0 (wr.heap[w.heap.size + 1]? = some (.cells #[.slice none 0 0, .slice none 0 0] 32 (0, 0))) ∧ Aside0 (wr.heap[w1.heap.size]? = some (.cells #[V, .slice A' ls.length ca'] 32 (0, 0))) ∧ Aside0 (Kd.R k65 65 wr w.heap.size (fun k => w.heap.size + 1 < k ∧ k ≠ w1.heap.size) V acc) ∧ Aside0 (Kd.R k145 145 wr w.heap.size (fun k => w.heap.size + 1 < k ∧ k ≠ w1.heap.size) (.slice A' ls.length ca') ls) ∧ Aside0 (Below w.heap.size w wr)) (fun vi _ => bs.length - (intOf vi).toNat)
  case atStart => exact ⟨0, .slice none 0 0, [], Nat.zero_le _, rfl, ⟨by simp⟩, ⟨hbx2.out⟩, ⟨hrs2.out⟩, ⟨blk_new w1 _⟩, ⟨Kd.R_nil _ _ _ _ _⟩, ⟨hLa.out⟩, ⟨hW2.out⟩⟩
  case round =>
    clear hLa hbx2 hrs2 hW2
    obtain ⟨k, V, acc, hk, rfl, hacc, hbxr, hrsr, hXr, hO, hLr, hW⟩ := hrel
    have b0 : wr.cell? ⟨w.heap.size, 0, none⟩ = some (.slice A bs.length ca) := (blk_cell hbxr.out 0).trans rfl
    have zb := blk_lt hbxr.out
    have zr := blk_lt hrsr.out
    have zX := blk_lt hXr.out
    obtain ⟨Ao, co, rfl⟩ := Kd.R_slice hO.out
    have hal : acc.length ≤ bs.length := by rw [hacc.out]; simp; omega
    have x0 : wr.cell? ⟨w1.heap.size, 0, none⟩ = some (.slice Ao acc.length co) := (blk_cell hXr.out 0).trans rfl
    have x1 : wr.cell? ⟨w1.heap.size, 1, none⟩ = some (.slice A' ls.length ca') := (blk_cell hXr.out 1).trans rfl
    by_cases hlt : k < bs.length
    · obtain ⟨x, hx0⟩ : ∃ x, bs[k]? = some x := ⟨_, List.getElem?_eq_getElem hlt⟩
      obtain ⟨ad, A1, c1, eA, hblk, h0, h1, hl1, hC1⟩ := get65 (Kd.C_below hA.out hW.out) hx0
      have hps1 := hps.out x (List.mem_of_getElem? hx0)
      have i1 : (0 : Int) ≤ (k : Int) := by omega
      have i2 : (k : Int) < (bs.length : Int) := by omega
      obtain ⟨y0, ps⟩ := x
      simp only at h0 h1 hl1 hC1 hps1
      have F := fun W h => l8Copy_c y0 A1 c1 ps W h hps1
      subst eA
      replace hx0 := Aside0.mk hx0
      replace hC1 := Aside0.mk hC1
      have zo := Kd.R_lt hO.out
      replace zo := Aside0.mk zo
      go_wp2
      refine region_seq (fun w' => w'.cell? ⟨w.heap.size, 0, none⟩ = some (.slice (some ad) bs.length ca) ∧ w'.cell? ⟨w1.heap.size, 0, none⟩ = some (.slice Ao acc.length co) ∧ w'.cell? (ad.add (k * 2)) = some (.int .i64 y0) ∧ w'.cell? ⟨(ad.add (k * 2)).block, (ad.add (k * 2)).off + 1, none⟩ = some (.slice A1 ps.length c1)) [9, 11] [(0, .p), (2, .p), (4, .p), (1, .t), (3, .t), (5, .p), (6, .t), (7, .o), (8, .o), (9, .l), (10, .p), (11, .l)] (by kernel_rfl) sNCtab sNCbits (fun _ _ d _ _ h => by cases d <;> exact h) (by kernel_rfl) ⟨b0, x0, h0, h1⟩ (fun hHeld => ?_)
      repeat (first | (refine seq_p (v := ?_) (a' := ?_) rfl rfl (Or.inl ⟨by rfl, ?_⟩) ?_ ?_; rotate_left; (intro w'; go_simp; with_reducible rfl); rotate_left; (simp only [Act.put, List.setIfInBounds_toArray, List.set_cons_zero, List.set_cons_succ, i64_w, i32_w]; rfl)) | (refine seq_t (v := ?_) (a' := ?_) rfl rfl (Or.inl ⟨by rfl, ?_⟩) hHeld ?_ ?_; rotate_left; (rintro w' ⟨s0, s1, s2, s3⟩; go_simp; with_reducible rfl); rotate_left; (simp only [Act.put, List.setIfInBounds_toArray, List.set_cons_zero, List.set_cons_succ, i64_w, i32_w]; rfl)))
      refine seq_o (N := some 24) (by rfl) (by rfl) (fun K hK => ?_)
      refine goes_ Try.func174 (by kernel_rfl) rfl #[.agg #[.int .i64 y0, .slice A1 ps.length c1]] (by rfl) rfl rfl (by simp only [List.map_toArray, List.map_cons, List.map_nil]; rfl) ?_
      with_reducible refine (F _ (Kd.C_below hC1.out (by repeat (first | exact Below.refl _ _ | apply pw_below_drewN | apply below_drew1 | apply below_drew)))).mono ?_
      rintro e' w3 ⟨B1, cb1, rfl, hP, hb3⟩
      refine ⟨_, rfl, ?_⟩
      have hb3' := hb3
      have z3 : wr.heap.size ≤ w3.heap.size := hb3.size
      refine hK.out _ _ ⟨(hb3.cell (p := ⟨w.heap.size, 0, none⟩) zb).trans b0, (hb3.cell (p := ⟨w1.heap.size, 0, none⟩) zX).trans x0, (hb3.cell (p := ad.add (k * 2)) hblk).trans h0, (hb3.cell (p := ⟨(ad.add (k * 2)).block, (ad.add (k * 2)).off + 1, none⟩) hblk).trans h1⟩ (fun hHeld2 => ?_)
      clear hK K
      refine seq_norm (a' := ?_) ?_ ?_
      rotate_left
      · show Act.put _ _ _ = _; simp only [Act.put, List.setIfInBounds_toArray, List.set_cons_zero, List.set_cons_succ, i64_w, i32_w]; rfl
      refine seq_o (N := some 25) (by rfl) (by rfl) (fun K hK => ?_)
      refine event_step (W := w3) (w1 := w3.alloc (.cells #[.int .i64 y0, .slice B1 ps.length cb1] 65)) (v := .slice (some ⟨w3.heap.size, 0, none⟩) 1 1) (by rfl) (by first | rfl | go_simp) ?_
      have hba : Below w3.heap.size w3 (w3.alloc (.cells #[.int .i64 y0, .slice B1 ps.length cb1] 65)) := below_alloc (Below.refl _ _) _
      refine hK.out _ _ ⟨(hba.cell (p := ⟨w.heap.size, 0, none⟩) (Nat.lt_of_lt_of_le zb z3)).trans hHeld2.1, (hba.cell (p := ⟨w1.heap.size, 0, none⟩) (Nat.lt_of_lt_of_le zX z3)).trans hHeld2.2.1, (hba.cell (p := ad.add (k * 2)) (Nat.lt_of_lt_of_le hblk z3)).trans hHeld2.2.2.1, (hba.cell (p := ⟨(ad.add (k * 2)).block, (ad.add (k * 2)).off + 1, none⟩) (Nat.lt_of_lt_of_le hblk z3)).trans hHeld2.2.2.2⟩ (fun hHeld3 => ?_)
      clear hK K
      refine seq_norm (a' := ?_) ?_ ?_
      rotate_left
      · show Act.put _ _ _ = _; simp only [Act.put, List.setIfInBounds_toArray, List.set_cons_zero, List.set_cons_succ, i64_w, i32_w]; rfl
      have hW3 := bthen (below_drew hW.out) hb3
      have hO3 := Kd.R_below (Kd.R_drew hO.out) hb3
      have hL3 := Kd.R_below (Kd.R_drew hLr.out) hb3
      have hbx3 := blk_below (blk_drew hbxr.out) hb3
      have hrs3 := blk_below (blk_drew hrsr.out) hb3
      have hX3 := blk_below (blk_drew hXr.out) hb3
      have hP3 : Kd.R k138 138 w3 w.heap.size (fun k => wr.heap.size ≤ k) (.slice B1 ps.length cb1) ps := Kd.R_lower (Kd.R_mono (Kd.R_bound hP) (fun k hk => hk.2.1)) (below_size (below_drew hW.out))
      refine seq_l (N := some 26) (by rfl) (by rfl) (fun K hK => ?_)
      refine Kd.R_append_step k65 (w0 := w) (W := w3) w.heap.size (by rfl) (.tmp 18) (.tmp 25) 29 65 (.agg #[(.int .i64 0), (.slice none 0 0)]) 32 rfl Try.underlying29 info65 rfl (by decide) (by omega) (.slice Ao acc.length co) acc (⟨y0, ps⟩ : S65) [.int .i64 y0, .slice B1 ps.length cb1] (fun k => w.heap.size + 1 < k ∧ k ≠ w1.heap.size) (fun k => wr.heap.size ≤ k) rfl rfl (k65_mkM _ _ _ (⟨y0, ps⟩ : S65) hP3) (fun k hk => ⟨⟨by omega, by omega⟩, fun h => by have := zo.out k h.symm; omega⟩) (fun k hk => ⟨by omega, by omega⟩) hO3 hW3 (below_size hW3) (by omega) ?_
      intro v5 w5 hO5 hb5 hg5 _
      have hbx5 := blk_grown hbx3 hg5 (Kd.R_ne hO3 hbx3 (by decide))
      have hrs5 := blk_grown hrs3 hg5 (Kd.R_ne hO3 hrs3 (by decide))
      have hX5 := blk_grown hX3 hg5 (Kd.R_ne hO3 hX3 (by decide))
      have hL5 := Kd.R_over' hL3 (Kd.R_typed hO3) (fun q hq => by have h : q ∈ [145] := hq; simp at h; omega) hg5
      refine hK.out _ _ ?_
      clear hK K
      refine seq_norm (a' := ?_) ?_ ?_
      rotate_left
      · show Act.put _ _ _ = _; simp only [Act.put, List.setIfInBounds_toArray, List.set_cons_zero, List.set_cons_succ, i64_w, i32_w]; rfl
      have c5 : w5.cell? ⟨w1.heap.size, 0, none⟩ = some (.slice Ao acc.length co) := (blk_cell hX5 0).trans rfl
      have f5 := blk_frozen hX5 0
      have z5 := blk_lt hX5
      replace hO5 := Aside0.mk hO5
      replace hL5 := Aside0.mk hL5
      replace hbx5 := Aside0.mk hbx5
      replace hrs5 := Aside0.mk hrs5
      replace hX5 := Aside0.mk hX5
      replace hb5 := Aside0.mk hb5
      obtain ⟨A5, c5', rfl⟩ := Kd.R_slice hO5.out
      repeat (refine seq_p (v := ?_) (a' := ?_) rfl rfl (Or.inl ⟨by rfl, ?_⟩) ?_ ?_; rotate_left; (intro w'; go_simp; with_reducible rfl); rotate_left; (simp only [Act.put, List.setIfInBounds_toArray, List.set_cons_zero, List.set_cons_succ, i64_w, i32_w]; rfl))
      refine seq_l (N := none) (by rfl) (by rfl) (fun K hK => ?_)
      rw [if_pos (by rfl)]
      go_wp2
      refine hK.out _ _ ?_
      clear hK K
      refine seq_done ?_
      go_wp2
      go_roundw
      case rel => exact ⟨k + 1, .slice A5 (acc.length + 1) c5', acc ++ [⟨y0, ps⟩], by omega, by go_num, ⟨by rw [hacc.out, List.take_add_one, hx0.out]; rfl⟩, ⟨(Below.heap_setCell _ _ _ _ (by show w.heap.size ≠ w1.heap.size; omega)).trans hbx5.out⟩, ⟨(Below.heap_setCell _ _ _ _ (by show w.heap.size + 1 ≠ w1.heap.size; omega)).trans hrs5.out⟩, ⟨by have h := blk_put hX5.out 0 (.slice A5 (acc.length + 1) c5') rfl; simpa using h⟩, ⟨Kd.R_far (by have h := hO5.out; rw [List.length_append, List.length_singleton] at h; exact h) (p := ⟨w1.heap.size, 0, none⟩) (fun _ hk => hk.2) _⟩, ⟨Kd.R_far hL5.out (p := ⟨w1.heap.size, 0, none⟩) (fun _ hk => hk.2) _⟩, ⟨Below.setCell (p := ⟨w1.heap.size, 0, none⟩) hb5.out (by show w.heap.size ≤ w1.heap.size; omega) _⟩⟩
      case measure => simp [intOf]; omega
    · have hkl : k = bs.length := by omega
      subst hkl
      have ea : acc = bs := by rw [hacc.out, List.take_length]
      subst ea
      have r0 : wr.cell? ⟨w.heap.size + 1, 0, none⟩ = some (.slice none 0 0) := (blk_cell hrsr.out 0).trans rfl
      have r1 : wr.cell? ⟨w.heap.size + 1, 1, none⟩ = some (.slice none 0 0) := (blk_cell hrsr.out 1).trans rfl
      have f0 := blk_frozen hrsr.out 0
      have f1 := blk_frozen hrsr.out 1
      go_wp2
      refine bodyPost_ret (v := .agg #[.slice Ao acc.length co, .slice A' ls.length ca']) ?_ rfl ⟨Ao, co, A', ca', rfl, Kd.R_mono (Kd.R_far (Kd.R_far hO.out (p := ⟨w.heap.size + 1, 0, none⟩) (fun k hk => by show k ≠ w.heap.size + 1; omega) _) (p := ⟨w.heap.size + 1, 1, none⟩) (fun k hk => by show k ≠ w.heap.size + 1; omega) _) (fun _ _ => trivial), Kd.R_mono (Kd.R_far (Kd.R_far hLr.out (p := ⟨w.heap.size + 1, 0, none⟩) (fun k hk => by show k ≠ w.heap.size + 1; omega) _) (p := ⟨w.heap.size + 1, 1, none⟩) (fun k hk => by show k ≠ w.heap.size + 1; omega) _) (fun _ _ => trivial), by (repeat (refine below_set ?_ (by omega))); exact hW.out⟩
      simp [results, Try.results122, go_sem, zr, r0, r1]
end Go.Proofs.Ytbdmnjobhfhinaa.M
namespace Go.Proofs.Ytbdmnjobhfhinaa.M
open Go.RowKit Go.Proofs.YtbdmnjobhfhinaaW.PrintWords Go.Proofs.YtbdmnjobhfhinaaW.PrintLast Go.Proofs.YtbdmnjobhfhinaaW.PrintMore
set_option linter.unusedVariables false
set_option linter.unusedSimpArgs false
set_option maxHeartbeats 4000000
set_option maxRecDepth 100000
theorem R_oneO {w : World} {base g : Nat} {ok : Nat → Prop} {x : Int} (h : w.heap[g]? = some (.cells #[.int .i64 x] 3 (0, 0))) (hb : base ≤ g) (hok : ok g) : Kd.R (Kd.int .i64) 3 w base ok (.slice (some ⟨g, 0, none⟩) 1 1) [x] :=
  ⟨fun k hk => by
    have : g = k := by simpa [Value.ownBlock] using hk
    subst this; exact hok, [.int .i64 x], ⟨rfl, .inr ⟨g, 1, #[.int .i64 x], rfl, hb, h, Nat.le_refl _, by decide, rfl, rfl⟩⟩, ⟨rfl, fun j p hj => by
    cases j with
    | zero => simp at hj; subst hj; rfl
    | succ j => simp at hj⟩⟩
def openAt (ps : List S138) (p : Nat) : Bool := if p = 3 then true else if p < ps.length then (ps.getD p z138).f7 else false
def openN (ps : List S138) (k : Nat) : List Bool := (List.range k).map (openAt ps)
theorem openN_succ (ps : List S138) (k : Nat) : openN ps (k + 1) = openN ps k ++ [openAt ps k] := by simp [openN, List.range_succ]
theorem openN_eq {ps : List S138} (h : ps.length ≤ 4) : openN ps 4 = opensL ps := by
  unfold opensL
  apply List.ext_getElem?
  intro q
  by_cases hq : q < 4
  · have e : (openN ps 4)[q]? = some (openAt ps q) := by simp [openN, hq]
    rw [e]
    by_cases h3 : q = 3
    · subst h3
      rw [List.getElem?_set_self (by simp; omega)]
      simp [openAt]
    · rw [List.getElem?_set_ne (by omega)]
      unfold openAt
      rw [if_neg h3]
      by_cases hl : q < ps.length
      · rw [if_pos hl, List.getElem?_append_left (by simpa using hl)]
        simp [List.getElem?_eq_getElem hl]
      · rw [if_neg hl, List.getElem?_append_right (by simp; omega)]
        simp only [List.length_map, List.getElem?_drop]
        rw [show ps.length + (q - ps.length) = q by omega]
        have h4 : q = 0 ∨ q = 1 ∨ q = 2 ∨ q = 3 := by omega
        rcases h4 with rfl | rfl | rfl | rfl <;> rfl
  · rw [List.getElem?_eq_none (by simp [openN]; omega), List.getElem?_eq_none (by simp; omega)]
def memN (k : Nat) : List S167 := List.replicate k ⟨1, [1]⟩
def l21CardL (b : S65) : S155 := ⟨openN b.f1 4, memN 4, []⟩
theorem l21Card_c (id : Int) (A : Option Addr) (c : Nat) (ps : List S138) (w : World) (hC : Kd.C k138 w A ps.length ps) : Calls Try.prog 123 #[.agg #[.int .i64 id, .slice A ps.length c]] w fun e w' => ∃ B0 b0 B1 b1, e = .returned (.agg #[.slice B0 4 b0, .slice B1 4 b1, .slice none 0 0]) ∧ Kd.R Kd.bool 4 w' w.heap.size (fun _ => True) (.slice B0 4 b0) (openN ps 4) ∧ Kd.R k167 167 w' w.heap.size (fun _ => True) (.slice B1 4 b1) (memN 4) ∧ Below w.heap.size w w' := by
  have hu65 := Try.underlying65
  have hu155 := Try.underlying155
  have hu138 := Try.underlying138
  have hu167 := Try.underlying167
  have hlen := clen hC
  have hbx0 := Aside0.mk (blk_alloc (blk_alloc (blk_new w (.cells #[.int .i64 id, .slice A ps.length c] 65)) (.cells #[.slice none 0 0, .slice none 0 0, .slice none 0 0] 155)) (.cells #[.slice none 0 0, .slice none 0 0, .slice none 0 0] 155))
  have hrs0 : (((w.alloc (.cells #[.int .i64 id, .slice A ps.length c] 65)).alloc (.cells #[.slice none 0 0, .slice none 0 0, .slice none 0 0] 155)).alloc (.cells #[.slice none 0 0, .slice none 0 0, .slice none 0 0] 155)).heap[w.heap.size + 1]? = some (.cells #[.slice none 0 0, .slice none 0 0, .slice none 0 0] 155 (0, 0)) := by
    have h := blk_alloc (blk_new (w.alloc (.cells #[.int .i64 id, .slice A ps.length c] 65)) (.cells #[.slice none 0 0, .slice none 0 0, .slice none 0 0] 155)) (.cells #[.slice none 0 0, .slice none 0 0, .slice none 0 0] 155)
    simpa using h
  have hkx0 : (((w.alloc (.cells #[.int .i64 id, .slice A ps.length c] 65)).alloc (.cells #[.slice none 0 0, .slice none 0 0, .slice none 0 0] 155)).alloc (.cells #[.slice none 0 0, .slice none 0 0, .slice none 0 0] 155)).heap[w.heap.size + 1 + 1]? = some (.cells #[.slice none 0 0, .slice none 0 0, .slice none 0 0] 155 (0, 0)) := by
    have h := blk_new ((w.alloc (.cells #[.int .i64 id, .slice A ps.length c] 65)).alloc (.cells #[.slice none 0 0, .slice none 0 0, .slice none 0 0] 155)) (.cells #[.slice none 0 0, .slice none 0 0, .slice none 0 0] 155)
    simpa using h
  replace hrs0 := Aside0.mk hrs0
  replace hkx0 := Aside0.mk hkx0
  have hW0 := Aside0.mk (below_alloc (below_alloc (below_alloc (Below.refl w.heap.size w) (.cells #[.int .i64 id, .slice A ps.length c] 65)) (.cells #[.slice none 0 0, .slice none 0 0, .slice none 0 0] 155)) (.cells #[.slice none 0 0, .slice none 0 0, .slice none 0 0] 155))
  replace hC := Aside0.mk hC
  go_enter Try.func123, Try.ntmps123
  go_wp2
  go_loopw [4] (fun vi wr => ∃ (k : Nat) (V0 V1 : Value), k ≤ 4 ∧ vi = .int .i64 k ∧ Aside0 (wr.heap[w.heap.size]? = some (.cells #[.int .i64 id, .slice A ps.length c] 65 (0, 0))) ∧ Aside0 (wr.heap[w.heap.size + 1]? = some (.cells #[.slice none 0 0, .slice none 0 0, .slice none 0 0] 155 (0, 0))) ∧ Aside0 (wr.heap[w.heap.size + 1 + 1]? = some (.cells #[V0, V1, .slice none 0 0] 155 (0, 0))) ∧ Aside0 (Kd.R Kd.bool 4 wr w.heap.size (fun k => w.heap.size + 1 + 1 < k) V0 (openN ps k)) ∧ Aside0 (Kd.R k167 167 wr w.heap.size (fun k => w.heap.size + 1 + 1 < k) V1 (memN k)) ∧ Aside0 (Below w.heap.size w wr)) (fun vi _ => 4 - (intOf vi).toNat)
  case atStart => exact ⟨0, .slice none 0 0, .slice none 0 0, by omega, rfl, ⟨hbx0.out⟩, ⟨hrs0.out⟩, ⟨hkx0.out⟩, ⟨Kd.R_nil _ _ _ _ _⟩, ⟨Kd.R_nil _ _ _ _ _⟩, ⟨hW0.out⟩⟩
  case round =>
    obtain ⟨k, V0, V1, hk, rfl, hbx, hrs, hkx, hO, hM, hW⟩ := hrel
    obtain ⟨A0, c0, rfl⟩ := Kd.R_slice hO.out
    obtain ⟨A1, c1, rfl⟩ := Kd.R_slice hM.out
    have ln0 : (openN ps k).length = k := by simp [openN]
    have ln1 : (memN k).length = k := by simp [memN]
    replace hO := hO.out
    replace hM := hM.out
    replace hkx := hkx.out
    rw [ln0] at hO
    rw [ln1] at hM
    rw [ln0, ln1] at hkx
    replace hO := Aside0.mk hO
    replace hM := Aside0.mk hM
    replace hkx := Aside0.mk hkx
    replace ln0 := Aside0.mk ln0
    replace ln1 := Aside0.mk ln1
    have b1 : wr.cell? ⟨w.heap.size, 1, none⟩ = some (.slice A ps.length c) := (blk_cell hbx.out 1).trans rfl
    have k0 : wr.cell? ⟨w.heap.size + 1 + 1, 0, none⟩ = some (.slice A0 k c0) := (blk_cell hkx.out 0).trans rfl
    have k1 : wr.cell? ⟨w.heap.size + 1 + 1, 1, none⟩ = some (.slice A1 k c1) := (blk_cell hkx.out 1).trans rfl
    have zb := blk_lt hbx.out
    have zr := blk_lt hrs.out
    have zk := blk_lt hkx.out
    by_cases hlt : k < 4
    · have i0 : (0 : Int) ≤ (k : Int) := by omega
      have i4 : (k : Int) < 4 := by omega
      by_cases h3 : k = 3
      · have e1 : ((k : Int) == 3) = true := by simp; omega
        have e2 : ((k : Int) != 3) = false := by simp; omega
        have eo : openAt ps k = true := by unfold openAt; rw [if_pos h3]
        replace h3 := Aside0.mk h3
        replace eo := Aside0.mk eo
        go_wp2_with (first | (at_builtin; refine Kd.R_append Kd.bool (w0 := w) w.heap.size rfl (.tmp 29) (.tmp 31) 149 4 (.bool false) 1 rfl Try.underlying149 info4' rfl (by decide) (by omega) (.slice A0 k c0) (openN ps k) true [.bool true] (fun k => w.heap.size + 1 + 1 < k) (fun _ => False) rfl rfl rfl (fun _ hk => hk.elim) (fun h hh => by omega) hO.out hW.out (below_size hW.out) (by have := ln0.out; omega) ?_; intro v5 w5 hO5 hb5 hg5 _; obtain ⟨A5, c5, rfl⟩ := Kd.R_slice hO5; rw [List.length_append, List.length_singleton] at hO5; have hM5 := Aside0.mk (Kd.R_over' hM.out (Kd.R_typed hO.out) (fun q hq => by have h : q ∈ [167, 3] := hq; simp at h; omega) hg5); have hbx5 := Aside0.mk (blk_grown hbx.out hg5 (Kd.R_ne hO.out hbx.out (by decide))); have hrs5 := Aside0.mk (blk_grown hrs.out hg5 (Kd.R_ne hO.out hrs.out (by decide))); have hkx5 := Aside0.mk (blk_grown hkx.out hg5 (Kd.R_ne hO.out hkx.out (by decide))); have m0 : w5.cell? ⟨w.heap.size + 1 + 1, 0, none⟩ = some (.slice A0 k c0) := (blk_cell hkx5.out 0).trans rfl; have m1 : w5.cell? ⟨w.heap.size + 1 + 1, 1, none⟩ = some (.slice A1 k c1) := (blk_cell hkx5.out 1).trans rfl; have mf0 := blk_frozen hkx5.out 0; have mf1 := blk_frozen hkx5.out 1; have zk5 := blk_lt hkx5.out; replace hO5 := Aside0.mk hO5; replace hb5 := Aside0.mk hb5; clear hg5) | (at_builtin; refine Kd.R_append k167 (w0 := w) w.heap.size rfl (.tmp 35) (.tmp 38) 152 167 (.agg #[(.int .i64 0), (.slice none 0 0)]) 32 rfl Try.underlying152 info167 rfl (by decide) (by omega) (.slice A1 k c1) (memN k) (⟨1, [1]⟩ : S167) [.int .i64 1, .slice (some ⟨w5.heap.size, 0, none⟩) 1 1] (fun k => w.heap.size + 1 + 1 < k) (fun k => k = w5.heap.size) rfl (by show (Value.slice (some ⟨w5.heap.size + 1, 0, none⟩) 1 1) = _; simp) (k167_mkM _ _ _ (⟨1, [1]⟩ : S167) (R_oneO (by simpa using blk_new (w5.setCell ⟨w.heap.size + 1 + 1, 0, none⟩ (.slice A5 ((openN ps k).length + 1) c5)) (.cells #[.int .i64 1] 3)) (by omega) rfl)) (fun k hk => ⟨by omega, fun h => by have := Kd.R_lt hM5.out k h.symm; omega⟩) (fun k hk => by have h : w5.heap.size + 1 ≤ k := (by simpa using hk); omega) (Kd.R_alloc (Kd.R_far hM5.out (p := ⟨w.heap.size + 1 + 1, 0, none⟩) (fun k hk => by show k ≠ w.heap.size + 1 + 1; omega) (.slice A5 ((openN ps k).length + 1) c5)) (.cells #[.int .i64 1] 3)) (below_alloc (Below.setCell (p := ⟨w.heap.size + 1 + 1, 0, none⟩) hb5.out (by show w.heap.size ≤ w.heap.size + 1 + 1; omega) (.slice A5 ((openN ps k).length + 1) c5)) _) (by simp; omega) (by have := ln1.out; omega) ?_; intro v6 w6 hM6 hb6 hg6 _; obtain ⟨A6, c6, rfl⟩ := Kd.R_slice hM6; rw [List.length_append, List.length_singleton] at hM6; have hO6 := Aside0.mk (Kd.R_over' (Kd.R_alloc (Kd.R_far hO5.out (p := ⟨w.heap.size + 1 + 1, 0, none⟩) (fun k hk => by show k ≠ w.heap.size + 1 + 1; omega) (.slice A5 ((openN ps k).length + 1) c5)) (.cells #[.int .i64 1] 3)) (Kd.R_typed (Kd.R_alloc (Kd.R_far hM5.out (p := ⟨w.heap.size + 1 + 1, 0, none⟩) (fun k hk => by show k ≠ w.heap.size + 1 + 1; omega) (.slice A5 ((openN ps k).length + 1) c5)) (.cells #[.int .i64 1] 3))) (fun q hq => by have h : q ∈ [4] := hq; simp at h; omega) hg6); have hbx6 := Aside0.mk (blk_grown (blk_alloc ((Below.heap_setCell w5 ⟨w.heap.size + 1 + 1, 0, none⟩ (.slice A5 ((openN ps k).length + 1) c5) _ (by show w.heap.size ≠ w.heap.size + 1 + 1; omega)).trans hbx5.out) (.cells #[.int .i64 1] 3)) hg6 (Kd.R_ne hM5.out hbx5.out (by decide))); have hrs6 := Aside0.mk (blk_grown (blk_alloc ((Below.heap_setCell w5 ⟨w.heap.size + 1 + 1, 0, none⟩ (.slice A5 ((openN ps k).length + 1) c5) _ (by show w.heap.size + 1 ≠ w.heap.size + 1 + 1; omega)).trans hrs5.out) (.cells #[.int .i64 1] 3)) hg6 (Kd.R_ne hM5.out hrs5.out (by decide))); have hkx6 := Aside0.mk (blk_grown (blk_alloc (show (w5.setCell ⟨w.heap.size + 1 + 1, 0, none⟩ (.slice A5 ((openN ps k).length + 1) c5)).heap[w.heap.size + 1 + 1]? = some (.cells #[(.slice A5 ((openN ps k).length + 1) c5), .slice A1 k c1, .slice none 0 0] 155 (0, 0)) from by have h := blk_put hkx5.out 0 (.slice A5 ((openN ps k).length + 1) c5) rfl; simpa using h) (.cells #[.int .i64 1] 3)) hg6 (Kd.R_ne hM5.out hkx5.out (by decide))); have n1 : w6.cell? ⟨w.heap.size + 1 + 1, 1, none⟩ = some (.slice A1 k c1) := (blk_cell hkx6.out 1).trans rfl; have nf1 := blk_frozen hkx6.out 1; have zk6 := blk_lt hkx6.out; replace hM6 := Aside0.mk hM6; replace hb6 := Aside0.mk hb6; clear hg6))
        have eqO : openN ps (k + 1) = openN ps k ++ [true] := by rw [openN_succ, eo.out]
        have eqM : memN (k + 1) = memN k ++ [⟨1, [1]⟩] := by simp [memN, List.replicate_succ']
        have P6 : (w6.setCell ⟨w.heap.size + 1 + 1, 1, none⟩ (.slice A6 ((memN k).length + 1) c6)).heap[w.heap.size + 1 + 1]? = some (.cells #[(.slice A5 ((openN ps k).length + 1) c5), .slice A6 ((memN k).length + 1) c6, .slice none 0 0] 155 (0, 0)) := by have h := blk_put hkx6.out 1 (.slice A6 ((memN k).length + 1) c6) rfl; simpa using h
        refine ⟨⟨k + 1, _, _, by omega, by simp, ⟨(Below.heap_setCell w6 ⟨w.heap.size + 1 + 1, 1, none⟩ _ _ (by show w.heap.size ≠ w.heap.size + 1 + 1; omega)).trans hbx6.out⟩, ⟨(Below.heap_setCell w6 ⟨w.heap.size + 1 + 1, 1, none⟩ _ _ (by show w.heap.size + 1 ≠ w.heap.size + 1 + 1; omega)).trans hrs6.out⟩, ⟨P6⟩, ⟨?_⟩, ⟨?_⟩, ⟨Below.setCell (p := ⟨w.heap.size + 1 + 1, 1, none⟩) hb6.out (by show w.heap.size ≤ w.heap.size + 1 + 1; omega) _⟩⟩, by simp [intOf]; omega⟩
        · rw [eqO]; exact Kd.R_far hO6.out (p := ⟨w.heap.size + 1 + 1, 1, none⟩) (fun k hk => by show k ≠ w.heap.size + 1 + 1; omega) _
        · rw [eqM]; exact Kd.R_far hM6.out (p := ⟨w.heap.size + 1 + 1, 1, none⟩) (fun k hk => by show k ≠ w.heap.size + 1 + 1; omega) _
      · by_cases hp : k < ps.length
        · have e1 : ((k : Int) == 3) = false := by simp; omega
          have e2 : ((k : Int) != 3) = true := by simp; omega
          have e3 : decide ((k : Int) < (ps.length : Int)) = true := by simp; omega
          have e4 : (k : Int) < (ps.length : Int) := by omega
          obtain ⟨x, hx0⟩ : ∃ x, ps[k]? = some x := ⟨_, List.getElem?_eq_getElem hp⟩
          obtain ⟨ad, eA, hblk, -, -, -, -, -, -, -, -, -, -, h10⟩ := get138 (Kd.C_below hC.out hW.out) hx0
          have eo : openAt ps k = x.f7 := by unfold openAt; rw [if_neg h3, if_pos hp]; simp [List.getD, hx0]
          obtain ⟨b7, hb7⟩ : ∃ b7, b7 = x.f7 := ⟨_, rfl⟩
          rw [← hb7] at h10 eo
          replace h3 := Aside0.mk h3
          replace eo := Aside0.mk eo
          replace hp := Aside0.mk hp
          clear hb7 hx0
          subst eA
          go_wp2_with (first | (at_builtin; refine Kd.R_append Kd.bool (w0 := w) w.heap.size rfl (.tmp 29) (.tmp 31) 149 4 (.bool false) 1 rfl Try.underlying149 info4' rfl (by decide) (by omega) (.slice A0 k c0) (openN ps k) b7 [.bool b7] (fun k => w.heap.size + 1 + 1 < k) (fun _ => False) rfl rfl rfl (fun _ hk => hk.elim) (fun h hh => by omega) hO.out hW.out (below_size hW.out) (by have := ln0.out; omega) ?_; intro v5 w5 hO5 hb5 hg5 _; obtain ⟨A5, c5, rfl⟩ := Kd.R_slice hO5; rw [List.length_append, List.length_singleton] at hO5; have hM5 := Aside0.mk (Kd.R_over' hM.out (Kd.R_typed hO.out) (fun q hq => by have h : q ∈ [167, 3] := hq; simp at h; omega) hg5); have hbx5 := Aside0.mk (blk_grown hbx.out hg5 (Kd.R_ne hO.out hbx.out (by decide))); have hrs5 := Aside0.mk (blk_grown hrs.out hg5 (Kd.R_ne hO.out hrs.out (by decide))); have hkx5 := Aside0.mk (blk_grown hkx.out hg5 (Kd.R_ne hO.out hkx.out (by decide))); have m0 : w5.cell? ⟨w.heap.size + 1 + 1, 0, none⟩ = some (.slice A0 k c0) := (blk_cell hkx5.out 0).trans rfl; have m1 : w5.cell? ⟨w.heap.size + 1 + 1, 1, none⟩ = some (.slice A1 k c1) := (blk_cell hkx5.out 1).trans rfl; have mf0 := blk_frozen hkx5.out 0; have mf1 := blk_frozen hkx5.out 1; have zk5 := blk_lt hkx5.out; replace hO5 := Aside0.mk hO5; replace hb5 := Aside0.mk hb5; clear hg5) | (at_builtin; refine Kd.R_append k167 (w0 := w) w.heap.size rfl (.tmp 35) (.tmp 38) 152 167 (.agg #[(.int .i64 0), (.slice none 0 0)]) 32 rfl Try.underlying152 info167 rfl (by decide) (by omega) (.slice A1 k c1) (memN k) (⟨1, [1]⟩ : S167) [.int .i64 1, .slice (some ⟨w5.heap.size, 0, none⟩) 1 1] (fun k => w.heap.size + 1 + 1 < k) (fun k => k = w5.heap.size) rfl (by show (Value.slice (some ⟨w5.heap.size + 1, 0, none⟩) 1 1) = _; simp) (k167_mkM _ _ _ (⟨1, [1]⟩ : S167) (R_oneO (by simpa using blk_new (w5.setCell ⟨w.heap.size + 1 + 1, 0, none⟩ (.slice A5 ((openN ps k).length + 1) c5)) (.cells #[.int .i64 1] 3)) (by omega) rfl)) (fun k hk => ⟨by omega, fun h => by have := Kd.R_lt hM5.out k h.symm; omega⟩) (fun k hk => by have h : w5.heap.size + 1 ≤ k := (by simpa using hk); omega) (Kd.R_alloc (Kd.R_far hM5.out (p := ⟨w.heap.size + 1 + 1, 0, none⟩) (fun k hk => by show k ≠ w.heap.size + 1 + 1; omega) (.slice A5 ((openN ps k).length + 1) c5)) (.cells #[.int .i64 1] 3)) (below_alloc (Below.setCell (p := ⟨w.heap.size + 1 + 1, 0, none⟩) hb5.out (by show w.heap.size ≤ w.heap.size + 1 + 1; omega) (.slice A5 ((openN ps k).length + 1) c5)) _) (by simp; omega) (by have := ln1.out; omega) ?_; intro v6 w6 hM6 hb6 hg6 _; obtain ⟨A6, c6, rfl⟩ := Kd.R_slice hM6; rw [List.length_append, List.length_singleton] at hM6; have hO6 := Aside0.mk (Kd.R_over' (Kd.R_alloc (Kd.R_far hO5.out (p := ⟨w.heap.size + 1 + 1, 0, none⟩) (fun k hk => by show k ≠ w.heap.size + 1 + 1; omega) (.slice A5 ((openN ps k).length + 1) c5)) (.cells #[.int .i64 1] 3)) (Kd.R_typed (Kd.R_alloc (Kd.R_far hM5.out (p := ⟨w.heap.size + 1 + 1, 0, none⟩) (fun k hk => by show k ≠ w.heap.size + 1 + 1; omega) (.slice A5 ((openN ps k).length + 1) c5)) (.cells #[.int .i64 1] 3))) (fun q hq => by have h : q ∈ [4] := hq; simp at h; omega) hg6); have hbx6 := Aside0.mk (blk_grown (blk_alloc ((Below.heap_setCell w5 ⟨w.heap.size + 1 + 1, 0, none⟩ (.slice A5 ((openN ps k).length + 1) c5) _ (by show w.heap.size ≠ w.heap.size + 1 + 1; omega)).trans hbx5.out) (.cells #[.int .i64 1] 3)) hg6 (Kd.R_ne hM5.out hbx5.out (by decide))); have hrs6 := Aside0.mk (blk_grown (blk_alloc ((Below.heap_setCell w5 ⟨w.heap.size + 1 + 1, 0, none⟩ (.slice A5 ((openN ps k).length + 1) c5) _ (by show w.heap.size + 1 ≠ w.heap.size + 1 + 1; omega)).trans hrs5.out) (.cells #[.int .i64 1] 3)) hg6 (Kd.R_ne hM5.out hrs5.out (by decide))); have hkx6 := Aside0.mk (blk_grown (blk_alloc (show (w5.setCell ⟨w.heap.size + 1 + 1, 0, none⟩ (.slice A5 ((openN ps k).length + 1) c5)).heap[w.heap.size + 1 + 1]? = some (.cells #[(.slice A5 ((openN ps k).length + 1) c5), .slice A1 k c1, .slice none 0 0] 155 (0, 0)) from by have h := blk_put hkx5.out 0 (.slice A5 ((openN ps k).length + 1) c5) rfl; simpa using h) (.cells #[.int .i64 1] 3)) hg6 (Kd.R_ne hM5.out hkx5.out (by decide))); have n1 : w6.cell? ⟨w.heap.size + 1 + 1, 1, none⟩ = some (.slice A1 k c1) := (blk_cell hkx6.out 1).trans rfl; have nf1 := blk_frozen hkx6.out 1; have zk6 := blk_lt hkx6.out; replace hM6 := Aside0.mk hM6; replace hb6 := Aside0.mk hb6; clear hg6))
          have eqO : openN ps (k + 1) = openN ps k ++ [b7] := by rw [openN_succ, eo.out]
          have eqM : memN (k + 1) = memN k ++ [⟨1, [1]⟩] := by simp [memN, List.replicate_succ']
          have P6 : (w6.setCell ⟨w.heap.size + 1 + 1, 1, none⟩ (.slice A6 ((memN k).length + 1) c6)).heap[w.heap.size + 1 + 1]? = some (.cells #[(.slice A5 ((openN ps k).length + 1) c5), .slice A6 ((memN k).length + 1) c6, .slice none 0 0] 155 (0, 0)) := by have h := blk_put hkx6.out 1 (.slice A6 ((memN k).length + 1) c6) rfl; simpa using h
          refine ⟨⟨k + 1, _, _, by omega, by simp, ⟨(Below.heap_setCell w6 ⟨w.heap.size + 1 + 1, 1, none⟩ _ _ (by show w.heap.size ≠ w.heap.size + 1 + 1; omega)).trans hbx6.out⟩, ⟨(Below.heap_setCell w6 ⟨w.heap.size + 1 + 1, 1, none⟩ _ _ (by show w.heap.size + 1 ≠ w.heap.size + 1 + 1; omega)).trans hrs6.out⟩, ⟨P6⟩, ⟨?_⟩, ⟨?_⟩, ⟨Below.setCell (p := ⟨w.heap.size + 1 + 1, 1, none⟩) hb6.out (by show w.heap.size ≤ w.heap.size + 1 + 1; omega) _⟩⟩, by simp [intOf]; omega⟩
          · rw [eqO]; exact Kd.R_far hO6.out (p := ⟨w.heap.size + 1 + 1, 1, none⟩) (fun k hk => by show k ≠ w.heap.size + 1 + 1; omega) _
          · rw [eqM]; exact Kd.R_far hM6.out (p := ⟨w.heap.size + 1 + 1, 1, none⟩) (fun k hk => by show k ≠ w.heap.size + 1 + 1; omega) _
        · have e1 : ((k : Int) == 3) = false := by simp; omega
          have e2 : ((k : Int) != 3) = true := by simp; omega
          have e3 : decide ((k : Int) < (ps.length : Int)) = false := by simp; omega
          have e4 : ¬ (k : Int) < (ps.length : Int) := by omega
          have eo : openAt ps k = false := by unfold openAt; rw [if_neg h3, if_neg hp]
          replace h3 := Aside0.mk h3
          replace eo := Aside0.mk eo
          replace hp := Aside0.mk hp
          go_wp2_with (first | (at_builtin; refine Kd.R_append Kd.bool (w0 := w) w.heap.size rfl (.tmp 29) (.tmp 31) 149 4 (.bool false) 1 rfl Try.underlying149 info4' rfl (by decide) (by omega) (.slice A0 k c0) (openN ps k) false [.bool false] (fun k => w.heap.size + 1 + 1 < k) (fun _ => False) rfl rfl rfl (fun _ hk => hk.elim) (fun h hh => by omega) hO.out hW.out (below_size hW.out) (by have := ln0.out; omega) ?_; intro v5 w5 hO5 hb5 hg5 _; obtain ⟨A5, c5, rfl⟩ := Kd.R_slice hO5; rw [List.length_append, List.length_singleton] at hO5; have hM5 := Aside0.mk (Kd.R_over' hM.out (Kd.R_typed hO.out) (fun q hq => by have h : q ∈ [167, 3] := hq; simp at h; omega) hg5); have hbx5 := Aside0.mk (blk_grown hbx.out hg5 (Kd.R_ne hO.out hbx.out (by decide))); have hrs5 := Aside0.mk (blk_grown hrs.out hg5 (Kd.R_ne hO.out hrs.out (by decide))); have hkx5 := Aside0.mk (blk_grown hkx.out hg5 (Kd.R_ne hO.out hkx.out (by decide))); have m0 : w5.cell? ⟨w.heap.size + 1 + 1, 0, none⟩ = some (.slice A0 k c0) := (blk_cell hkx5.out 0).trans rfl; have m1 : w5.cell? ⟨w.heap.size + 1 + 1, 1, none⟩ = some (.slice A1 k c1) := (blk_cell hkx5.out 1).trans rfl; have mf0 := blk_frozen hkx5.out 0; have mf1 := blk_frozen hkx5.out 1; have zk5 := blk_lt hkx5.out; replace hO5 := Aside0.mk hO5; replace hb5 := Aside0.mk hb5; clear hg5) | (at_builtin; refine Kd.R_append k167 (w0 := w) w.heap.size rfl (.tmp 35) (.tmp 38) 152 167 (.agg #[(.int .i64 0), (.slice none 0 0)]) 32 rfl Try.underlying152 info167 rfl (by decide) (by omega) (.slice A1 k c1) (memN k) (⟨1, [1]⟩ : S167) [.int .i64 1, .slice (some ⟨w5.heap.size, 0, none⟩) 1 1] (fun k => w.heap.size + 1 + 1 < k) (fun k => k = w5.heap.size) rfl (by show (Value.slice (some ⟨w5.heap.size + 1, 0, none⟩) 1 1) = _; simp) (k167_mkM _ _ _ (⟨1, [1]⟩ : S167) (R_oneO (by simpa using blk_new (w5.setCell ⟨w.heap.size + 1 + 1, 0, none⟩ (.slice A5 ((openN ps k).length + 1) c5)) (.cells #[.int .i64 1] 3)) (by omega) rfl)) (fun k hk => ⟨by omega, fun h => by have := Kd.R_lt hM5.out k h.symm; omega⟩) (fun k hk => by have h : w5.heap.size + 1 ≤ k := (by simpa using hk); omega) (Kd.R_alloc (Kd.R_far hM5.out (p := ⟨w.heap.size + 1 + 1, 0, none⟩) (fun k hk => by show k ≠ w.heap.size + 1 + 1; omega) (.slice A5 ((openN ps k).length + 1) c5)) (.cells #[.int .i64 1] 3)) (below_alloc (Below.setCell (p := ⟨w.heap.size + 1 + 1, 0, none⟩) hb5.out (by show w.heap.size ≤ w.heap.size + 1 + 1; omega) (.slice A5 ((openN ps k).length + 1) c5)) _) (by simp; omega) (by have := ln1.out; omega) ?_; intro v6 w6 hM6 hb6 hg6 _; obtain ⟨A6, c6, rfl⟩ := Kd.R_slice hM6; rw [List.length_append, List.length_singleton] at hM6; have hO6 := Aside0.mk (Kd.R_over' (Kd.R_alloc (Kd.R_far hO5.out (p := ⟨w.heap.size + 1 + 1, 0, none⟩) (fun k hk => by show k ≠ w.heap.size + 1 + 1; omega) (.slice A5 ((openN ps k).length + 1) c5)) (.cells #[.int .i64 1] 3)) (Kd.R_typed (Kd.R_alloc (Kd.R_far hM5.out (p := ⟨w.heap.size + 1 + 1, 0, none⟩) (fun k hk => by show k ≠ w.heap.size + 1 + 1; omega) (.slice A5 ((openN ps k).length + 1) c5)) (.cells #[.int .i64 1] 3))) (fun q hq => by have h : q ∈ [4] := hq; simp at h; omega) hg6); have hbx6 := Aside0.mk (blk_grown (blk_alloc ((Below.heap_setCell w5 ⟨w.heap.size + 1 + 1, 0, none⟩ (.slice A5 ((openN ps k).length + 1) c5) _ (by show w.heap.size ≠ w.heap.size + 1 + 1; omega)).trans hbx5.out) (.cells #[.int .i64 1] 3)) hg6 (Kd.R_ne hM5.out hbx5.out (by decide))); have hrs6 := Aside0.mk (blk_grown (blk_alloc ((Below.heap_setCell w5 ⟨w.heap.size + 1 + 1, 0, none⟩ (.slice A5 ((openN ps k).length + 1) c5) _ (by show w.heap.size + 1 ≠ w.heap.size + 1 + 1; omega)).trans hrs5.out) (.cells #[.int .i64 1] 3)) hg6 (Kd.R_ne hM5.out hrs5.out (by decide))); have hkx6 := Aside0.mk (blk_grown (blk_alloc (show (w5.setCell ⟨w.heap.size + 1 + 1, 0, none⟩ (.slice A5 ((openN ps k).length + 1) c5)).heap[w.heap.size + 1 + 1]? = some (.cells #[(.slice A5 ((openN ps k).length + 1) c5), .slice A1 k c1, .slice none 0 0] 155 (0, 0)) from by have h := blk_put hkx5.out 0 (.slice A5 ((openN ps k).length + 1) c5) rfl; simpa using h) (.cells #[.int .i64 1] 3)) hg6 (Kd.R_ne hM5.out hkx5.out (by decide))); have n1 : w6.cell? ⟨w.heap.size + 1 + 1, 1, none⟩ = some (.slice A1 k c1) := (blk_cell hkx6.out 1).trans rfl; have nf1 := blk_frozen hkx6.out 1; have zk6 := blk_lt hkx6.out; replace hM6 := Aside0.mk hM6; replace hb6 := Aside0.mk hb6; clear hg6))
          have eqO : openN ps (k + 1) = openN ps k ++ [false] := by rw [openN_succ, eo.out]
          have eqM : memN (k + 1) = memN k ++ [⟨1, [1]⟩] := by simp [memN, List.replicate_succ']
          have P6 : (w6.setCell ⟨w.heap.size + 1 + 1, 1, none⟩ (.slice A6 ((memN k).length + 1) c6)).heap[w.heap.size + 1 + 1]? = some (.cells #[(.slice A5 ((openN ps k).length + 1) c5), .slice A6 ((memN k).length + 1) c6, .slice none 0 0] 155 (0, 0)) := by have h := blk_put hkx6.out 1 (.slice A6 ((memN k).length + 1) c6) rfl; simpa using h
          refine ⟨⟨k + 1, _, _, by omega, by simp, ⟨(Below.heap_setCell w6 ⟨w.heap.size + 1 + 1, 1, none⟩ _ _ (by show w.heap.size ≠ w.heap.size + 1 + 1; omega)).trans hbx6.out⟩, ⟨(Below.heap_setCell w6 ⟨w.heap.size + 1 + 1, 1, none⟩ _ _ (by show w.heap.size + 1 ≠ w.heap.size + 1 + 1; omega)).trans hrs6.out⟩, ⟨P6⟩, ⟨?_⟩, ⟨?_⟩, ⟨Below.setCell (p := ⟨w.heap.size + 1 + 1, 1, none⟩) hb6.out (by show w.heap.size ≤ w.heap.size + 1 + 1; omega) _⟩⟩, by simp [intOf]; omega⟩
          · rw [eqO]; exact Kd.R_far hO6.out (p := ⟨w.heap.size + 1 + 1, 1, none⟩) (fun k hk => by show k ≠ w.heap.size + 1 + 1; omega) _
          · rw [eqM]; exact Kd.R_far hM6.out (p := ⟨w.heap.size + 1 + 1, 1, none⟩) (fun k hk => by show k ≠ w.heap.size + 1 + 1; omega) _
    · have hk4 : k = 4 := by omega
      subst hk4
      have i4 : ¬ ((4 : Nat) : Int) < 4 := by omega
      have k2 : wr.cell? ⟨w.heap.size + 1 + 1, 2, none⟩ = some (.slice none 0 0) := (blk_cell hkx.out 2).trans rfl
      have r0 : wr.cell? ⟨w.heap.size + 1, 0, none⟩ = some (.slice none 0 0) := (blk_cell hrs.out 0).trans rfl
      have r1 : wr.cell? ⟨w.heap.size + 1, 1, none⟩ = some (.slice none 0 0) := (blk_cell hrs.out 1).trans rfl
      have r2 : wr.cell? ⟨w.heap.size + 1, 2, none⟩ = some (.slice none 0 0) := (blk_cell hrs.out 2).trans rfl
      have f0 := blk_frozen hrs.out 0
      have f1 := blk_frozen hrs.out 1
      have f2 := blk_frozen hrs.out 2
      have hO4 := hO.out
      have hM4 := hM.out
      replace hO4 := Aside0.mk hO4
      replace hM4 := Aside0.mk hM4
      go_wp2
      have FF : ∀ {α : Type} {d : Kd α} {t : Nat} {v : Value} {xs : List α}, Kd.R d t wr w.heap.size (fun k => w.heap.size + 1 + 1 < k) v xs → Kd.R d t (((wr.setCell ⟨w.heap.size + 1, 0, none⟩ (.slice A0 4 c0)).setCell ⟨w.heap.size + 1, 1, none⟩ (.slice A1 4 c1)).setCell ⟨w.heap.size + 1, 2, none⟩ (.slice none 0 0)) w.heap.size (fun _ => True) v xs := fun h => Kd.R_mono (Kd.R_far (Kd.R_far (Kd.R_far h (p := ⟨w.heap.size + 1, 0, none⟩) (fun k hk => by show k ≠ w.heap.size + 1; omega) _) (p := ⟨w.heap.size + 1, 1, none⟩) (fun k hk => by show k ≠ w.heap.size + 1; omega) _) (p := ⟨w.heap.size + 1, 2, none⟩) (fun k hk => by show k ≠ w.heap.size + 1; omega) _) (fun _ _ => trivial)
      refine bodyPost_ret (v := .agg #[.slice A0 4 c0, .slice A1 4 c1, .slice none 0 0]) ?_ rfl ⟨A0, c0, A1, c1, rfl, FF hO4.out, FF hM4.out, by (repeat (refine below_set ?_ (by omega))); exact hW.out⟩
      simp [results, Try.results123, go_sem, zr, r0, r1, r2]
end Go.Proofs.Ytbdmnjobhfhinaa.M
namespace Go.Proofs.Ytbdmnjobhfhinaa.M
open Go.RowKit Go.Proofs.YtbdmnjobhfhinaaW.PrintWords Go.Proofs.YtbdmnjobhfhinaaW.PrintLast Go.Proofs.YtbdmnjobhfhinaaW.PrintMore
set_option linter.unusedVariables false
set_option linter.unusedSimpArgs false
set_option maxHeartbeats 4000000
set_option maxRecDepth 100000
/-- Is there a fabric of this net. -/
def newOk (bs : List S65) (ls : List S145) : Bool := netOkS bs ls && ls.all hostB
def NewPost (bs : List S65) (ls : List S145) (w : World) (q : Bool) (e : Ending) (w' : World) : Prop :=
  ∃ P0 n0 c0 P1 n1 c1 P2 n2 c2, e = .returned (.tuple #[.agg #[.slice P0 n0 c0, .slice P1 n1 c1, .slice P2 n2 c2], .bool q]) ∧ (q = true → n2 = bs.length ∧ Kd.R k155 155 w' w.heap.size (fun _ => True) (.slice P2 n2 c2) (bs.map l21CardL)) ∧ Below w.heap.size w w'
theorem fabricNew_bad (A B : Option Addr) (ca cb : Nat) (bs : List S65) (ls : List S145) (w : World) (hA : Kd.C k65 w A bs.length bs) (hB : Kd.C k145 w B ls.length ls) (hq : netOkS bs ls = false) : Calls Try.prog 63 #[.agg #[.slice A bs.length ca, .slice B ls.length cb]] w (NewPost bs ls w false) := by
  have hu32 := Try.underlying32
  have hu83 := Try.underlying83
  have hu145 := Try.underlying145
  have hlB := clen hB
  have hlA := clen hA
  have hbx0 := Aside0.mk (blk_alloc (blk_new w (.cells #[.slice A bs.length ca, .slice B ls.length cb] 32)) (.cells #[.slice none 0 0, .slice none 0 0, .slice none 0 0] 83))
  have hrs0 := Aside0.mk (blk_new (w.alloc (.cells #[.slice A bs.length ca, .slice B ls.length cb] 32)) (.cells #[.slice none 0 0, .slice none 0 0, .slice none 0 0] 83))
  have hs0 : (w.alloc (.cells #[.slice A bs.length ca, .slice B ls.length cb] 32)).heap.size = w.heap.size + 1 := by simp
  rw [hs0] at hrs0
  clear hs0
  have hW0 := Aside0.mk (below_alloc (below_alloc (Below.refl w.heap.size w) (.cells #[.slice A bs.length ca, .slice B ls.length cb] 32)) (.cells #[.slice none 0 0, .slice none 0 0, .slice none 0 0] 83))
  have F47 := fun W h1 h2 => specNetOk_c A B ca cb bs ls W h1 h2
  replace hA := Aside0.mk hA
  replace hB := Aside0.mk hB
  rw [hq] at F47
  go_enter Try.func63, Try.ntmps63
  go_wp2_with (go_at_call 47; (with_reducible refine (F47 _ (Kd.C_below hA.out hW0.out) (Kd.C_below hB.out hW0.out)).mono ?_); rintro e w1 ⟨rfl, hb⟩; have hbx1 := Aside0.mk (blk_below hbx0.out hb); have hrs1 := Aside0.mk (blk_below hrs0.out hb); have zb := blk_lt hbx1.out; have zr := blk_lt hrs1.out; have b0 : w1.cell? ⟨w.heap.size, 0, none⟩ = some (.slice A bs.length ca) := (blk_cell hbx1.out 0).trans rfl; have b1 : w1.cell? ⟨w.heap.size, 1, none⟩ = some (.slice B ls.length cb) := (blk_cell hbx1.out 1).trans rfl; have hW1 := Aside0.mk (bthen hW0.out hb); have r0 : w1.cell? ⟨w.heap.size + 1, 0, none⟩ = some (.slice none 0 0) := (blk_cell hrs1.out 0).trans rfl; have r1 : w1.cell? ⟨w.heap.size + 1, 1, none⟩ = some (.slice none 0 0) := (blk_cell hrs1.out 1).trans rfl; have r2 : w1.cell? ⟨w.heap.size + 1, 2, none⟩ = some (.slice none 0 0) := (blk_cell hrs1.out 2).trans rfl; have f0 := blk_frozen hrs1.out 0; have f1 := blk_frozen hrs1.out 1; have f2 := blk_frozen hrs1.out 2; clear hb)
  refine bodyPost_ret (v := .tuple #[.agg #[.slice none 0 0, .slice none 0 0, .slice none 0 0], .bool false]) ?_ rfl ⟨_, _, _, _, _, _, _, _, _, rfl, (fun h => nomatch h), by (repeat (refine below_set ?_ (by omega))); exact hW1.out⟩
  simp [results, Try.results63, go_sem, zr, r0, r1, r2]
theorem fabricNew_c (A B : Option Addr) (ca cb : Nat) (bs : List S65) (ls : List S145) (w : World) (hA : Kd.C k65 w A bs.length bs) (hB : Kd.C k145 w B ls.length ls) (hq : netOkS bs ls = true) (hs1 : bs.length ≤ 1048576) (hs2 : ls.length ≤ 1048576) (hps : ∀ x ∈ bs, x.f1.length ≤ 1048576) : Calls Try.prog 63 #[.agg #[.slice A bs.length ca, .slice B ls.length cb]] w (NewPost bs ls w (ls.all hostB)) := by
  have hu32 := Try.underlying32
  have hu83 := Try.underlying83
  have hu145 := Try.underlying145
  have hlB := clen hB
  have hlA := clen hA
  have hbx0 := Aside0.mk (blk_alloc (blk_new w (.cells #[.slice A bs.length ca, .slice B ls.length cb] 32)) (.cells #[.slice none 0 0, .slice none 0 0, .slice none 0 0] 83))
  have hrs0 := Aside0.mk (blk_new (w.alloc (.cells #[.slice A bs.length ca, .slice B ls.length cb] 32)) (.cells #[.slice none 0 0, .slice none 0 0, .slice none 0 0] 83))
  have hs0 : (w.alloc (.cells #[.slice A bs.length ca, .slice B ls.length cb] 32)).heap.size = w.heap.size + 1 := by simp
  rw [hs0] at hrs0
  clear hs0
  have hW0 := Aside0.mk (below_alloc (below_alloc (Below.refl w.heap.size w) (.cells #[.slice A bs.length ca, .slice B ls.length cb] 32)) (.cells #[.slice none 0 0, .slice none 0 0, .slice none 0 0] 83))
  have F47 := fun W h1 h2 => specNetOk_c A B ca cb bs ls W h1 h2
  have F122 := fun W h1 h2 => l10Copy_c A B ca cb bs ls W h1 h2 hs1 hs2 hps
  clear hps
  replace hA := Aside0.mk hA
  replace hB := Aside0.mk hB
  rw [hq] at F47
  obtain ⟨q, hQ⟩ : ∃ q, q = ls.all hostB := ⟨_, rfl⟩
  rw [← hQ]
  replace hQ := Aside0.mk hQ
  go_enter Try.func63, Try.ntmps63
  go_wp2_with (first | (go_at_call 47; (with_reducible refine (F47 _ (Kd.C_below hA.out hW0.out) (Kd.C_below hB.out hW0.out)).mono ?_); rintro e w1 ⟨rfl, hb⟩; have hbx1 := Aside0.mk (blk_below hbx0.out hb); have hrs1 := Aside0.mk (blk_below hrs0.out hb); have zb := blk_lt hbx1.out; have zr := blk_lt hrs1.out; have b0 : w1.cell? ⟨w.heap.size, 0, none⟩ = some (.slice A bs.length ca) := (blk_cell hbx1.out 0).trans rfl; have b1 : w1.cell? ⟨w.heap.size, 1, none⟩ = some (.slice B ls.length cb) := (blk_cell hbx1.out 1).trans rfl; have hW1 := Aside0.mk (bthen hW0.out hb); clear hb) | (go_at_call 122; (with_reducible refine (F122 _ (Kd.C_below hA.out hW1.out) (Kd.C_below hB.out hW1.out)).mono ?_); rintro e w2 ⟨A1, c1, B1c, d1c, rfl, -, -, hb⟩; have hbx2 := Aside0.mk (blk_below hbx1.out hb); have hrs2 := Aside0.mk (blk_below hrs1.out hb); have hsz := hb.size; have hW2 := Aside0.mk (bthen hW1.out hb); clear hb))
  have hz2 := Aside0.mk (show w.heap.size + 1 < w2.heap.size by omega)
  have hbx3 := Aside0.mk (blk_alloc hbx2.out (.cells #[.slice A1 bs.length c1, .slice B1c ls.length d1c, .slice none 0 0] 83))
  have hrs3 := Aside0.mk (blk_alloc hrs2.out (.cells #[.slice A1 bs.length c1, .slice B1c ls.length d1c, .slice none 0 0] 83))
  have hX3 := Aside0.mk (blk_new w2 (.cells #[.slice A1 bs.length c1, .slice B1c ls.length d1c, .slice none 0 0] 83))
  have hW3 := Aside0.mk (below_alloc hW2.out (.cells #[.slice A1 bs.length c1, .slice B1c ls.length d1c, .slice none 0 0] 83))
  clear hbx1 hrs1 zb zr b0 b1 hW1 hbx2 hrs2 hsz hW2 F47 F122
  go_loopw [5] (fun vi wr => ∃ (k : Nat), k ≤ ls.length ∧ vi = .int .i64 k ∧ Aside0 ((ls.take k).all hostB = true) ∧ Aside0 (wr.heap[w.heap.size]? = some (.cells #[.slice A bs.length ca, .slice B ls.length cb] 32 (0, 0))) ∧ Aside0 (wr.heap[w.heap.size + 1]? = some (.cells #[.slice none 0 0, .slice none 0 0, .slice none 0 0] 83 (0, 0))) ∧ Aside0 (wr.heap[w2.heap.size]? = some (.cells #[.slice A1 bs.length c1, .slice B1c ls.length d1c, .slice none 0 0] 83 (0, 0))) ∧ Aside0 (Below w.heap.size w wr)) (fun vi _ => ls.length - (intOf vi).toNat)
  case atStart => exact ⟨0, Nat.zero_le _, rfl, ⟨by simp⟩, ⟨hbx3.out⟩, ⟨hrs3.out⟩, ⟨hX3.out⟩, ⟨hW3.out⟩⟩
  case round =>
    clear hbx3 hrs3 hX3 hW3 hbx0 hrs0 hW0
    obtain ⟨k, hk, rfl, hp, hbx, hrs, hX, hW⟩ := hrel
    have b1 : wr.cell? ⟨w.heap.size, 1, none⟩ = some (.slice B ls.length cb) := (blk_cell hbx.out 1).trans rfl
    have zb := blk_lt hbx.out
    have zr := blk_lt hrs.out
    have zX := blk_lt hX.out
    by_cases hlt : k < ls.length
    · obtain ⟨x, hx0⟩ : ∃ x, ls[k]? = some x := ⟨_, List.getElem?_eq_getElem hlt⟩
      obtain ⟨ad, eA, hblk, h0, h1, h2, h3⟩ := get145 (Kd.C_below hB.out hW.out) hx0
      subst eA
      have i0 : (0 : Int) ≤ (k : Int) := by omega
      have i1 : (k : Int) < (ls.length : Int) := by omega
      have hmem : x ∈ ls := List.mem_of_getElem? hx0
      have et : (ls.take (k + 1)).all hostB = hostB x := by rw [List.take_add_one, hx0]; simp only [Option.toList]; rw [List.all_append, hp.out]; simp
      replace hx0 := Aside0.mk hx0
      cases hbad : hostB x
      · have hq0 : q = false := by
          rw [hQ.out]; apply Bool.eq_false_iff.2; intro h; rw [List.all_eq_true] at h; rw [h x hmem] at hbad; exact absurd hbad (by decide)
        subst hq0
        have r0 : wr.cell? ⟨w.heap.size + 1, 0, none⟩ = some (.slice none 0 0) := (blk_cell hrs.out 0).trans rfl
        have r1 : wr.cell? ⟨w.heap.size + 1, 1, none⟩ = some (.slice none 0 0) := (blk_cell hrs.out 1).trans rfl
        have r2 : wr.cell? ⟨w.heap.size + 1, 2, none⟩ = some (.slice none 0 0) := (blk_cell hrs.out 2).trans rfl
        have f0 := blk_frozen hrs.out 0
        have f1 := blk_frozen hrs.out 1
        have f2 := blk_frozen hrs.out 2
        have hcase : (x.f1 == 3) = true ∨ ((x.f1 == 3) = false ∧ (x.f3 == 3) = true) := by
          unfold hostB at hbad; cases h1 : (x.f1 == 3) <;> cases h2 : (x.f3 == 3) <;> simp_all
        rcases hcase with g1 | ⟨g1, g2⟩
        · clear hbad et
          go_wp2
          refine bodyPost_ret (v := .tuple #[.agg #[.slice none 0 0, .slice none 0 0, .slice none 0 0], .bool false]) ?_ rfl ⟨_, _, _, _, _, _, _, _, _, rfl, (fun h => nomatch h), by (repeat (refine below_set ?_ (by omega))); exact hW.out⟩
          simp [results, Try.results63, go_sem, zr, r0, r1, r2]
        · clear hbad et
          go_wp2
          refine bodyPost_ret (v := .tuple #[.agg #[.slice none 0 0, .slice none 0 0, .slice none 0 0], .bool false]) ?_ rfl ⟨_, _, _, _, _, _, _, _, _, rfl, (fun h => nomatch h), by (repeat (refine below_set ?_ (by omega))); exact hW.out⟩
          simp [results, Try.results63, go_sem, zr, r0, r1, r2]
      · have g1 : (x.f1 == 3) = false := by unfold hostB at hbad; cases h1 : (x.f1 == 3) <;> simp_all
        have g2 : (x.f3 == 3) = false := by unfold hostB at hbad; cases h1 : (x.f3 == 3) <;> simp_all
        rw [hbad] at et
        replace et := Aside0.mk et
        clear hbad
        go_wp2
        go_roundw
        case rel => exact ⟨k + 1, by omega, by go_num, ⟨et.out⟩, ⟨hbx.out⟩, ⟨hrs.out⟩, ⟨hX.out⟩, ⟨hW.out⟩⟩
        case measure => simp [intOf]; omega
    · have hkl : k = ls.length := by omega
      subst hkl
      have hq1 : q = true := by rw [hQ.out, ← hp.out, List.take_length]
      subst hq1
      clear hp hQ
      go_wp2
      go_loopw [6] (fun vi wr => ∃ (k : Nat) (V : Value) (acc : List S155), k ≤ bs.length ∧ vi = .int .i64 k ∧ Aside0 (acc = (bs.take k).map l21CardL) ∧ Aside0 (wr.heap[w.heap.size]? = some (.cells #[.slice A bs.length ca, .slice B ls.length cb] 32 (0, 0))) ∧ Aside0 (wr.heap[w.heap.size + 1]? = some (.cells #[.slice none 0 0, .slice none 0 0, .slice none 0 0] 83 (0, 0))) ∧ Aside0 (wr.heap[w2.heap.size]? = some (.cells #[.slice A1 bs.length c1, .slice B1c ls.length d1c, V] 83 (0, 0))) ∧ Aside0 (Kd.R k155 155 wr w.heap.size (fun k => w.heap.size + 1 < k ∧ k ≠ w2.heap.size) V acc) ∧ Aside0 (Below w.heap.size w wr)) (fun vi _ => bs.length - (intOf vi).toNat)
      case atStart => exact ⟨0, .slice none 0 0, [], Nat.zero_le _, rfl, ⟨by simp⟩, ⟨hbx.out⟩, ⟨hrs.out⟩, ⟨hX.out⟩, ⟨Kd.R_nil _ _ _ _ _⟩, ⟨hW.out⟩⟩
      case round =>
        clear hbx hrs hX hW zb zr zX b1
        obtain ⟨k, V, acc, hk, rfl, hacc, hbxr, hrsr, hXr, hO, hW⟩ := hrel
        have b0 : wr.cell? ⟨w.heap.size, 0, none⟩ = some (.slice A bs.length ca) := (blk_cell hbxr.out 0).trans rfl
        have zb := blk_lt hbxr.out
        have zr := blk_lt hrsr.out
        have zX := blk_lt hXr.out
        obtain ⟨Ao, co, rfl⟩ := Kd.R_slice hO.out
        have hal : acc.length ≤ bs.length := by rw [hacc.out]; simp; omega
        have x0 : wr.cell? ⟨w2.heap.size, 0, none⟩ = some (.slice A1 bs.length c1) := (blk_cell hXr.out 0).trans rfl
        have x1 : wr.cell? ⟨w2.heap.size, 1, none⟩ = some (.slice B1c ls.length d1c) := (blk_cell hXr.out 1).trans rfl
        have x2 : wr.cell? ⟨w2.heap.size, 2, none⟩ = some (.slice Ao acc.length co) := (blk_cell hXr.out 2).trans rfl
        by_cases hlt : k < bs.length
        · obtain ⟨x, hx0⟩ : ∃ x, bs[k]? = some x := ⟨_, List.getElem?_eq_getElem hlt⟩
          obtain ⟨ad, A3, c3, eA, hblk, h0, h1, hl1, hC1⟩ := get65 (Kd.C_below hA.out hW.out) hx0
          have i1 : (0 : Int) ≤ (k : Int) := by omega
          have i2 : (k : Int) < (bs.length : Int) := by omega
          obtain ⟨y0, ps⟩ := x
          simp only at h0 h1 hl1 hC1
          have F := fun W h => l21Card_c y0 A3 c3 ps W h
          subst eA
          replace hx0 := Aside0.mk hx0
          replace hC1 := Aside0.mk hC1
          have zo := Kd.R_lt hO.out
          replace zo := Aside0.mk zo
          clear x0 x1
          go_wp2
          refine region_seq (fun w' => w'.cell? ⟨w.heap.size, 0, none⟩ = some (.slice (some ad) bs.length ca) ∧ w'.cell? ⟨w2.heap.size, 2, none⟩ = some (.slice Ao acc.length co) ∧ w'.cell? (ad.add (k * 2)) = some (.int .i64 y0) ∧ w'.cell? ⟨(ad.add (k * 2)).block, (ad.add (k * 2)).off + 1, none⟩ = some (.slice A3 ps.length c3)) [9, 11] [(0, .p), (2, .p), (4, .p), (1, .t), (3, .t), (5, .p), (6, .t), (7, .o), (8, .o), (9, .l), (10, .p), (11, .l)] (by kernel_rfl) sFNtab sFNbits (fun _ _ d _ _ h => by cases d <;> exact h) (by kernel_rfl) ⟨b0, x2, h0, h1⟩ (fun hHeld => ?_)
          repeat (first | (refine seq_p (v := ?_) (a' := ?_) rfl rfl (Or.inl ⟨by rfl, ?_⟩) ?_ ?_; rotate_left; (intro w'; go_simp; with_reducible rfl); rotate_left; (simp only [Act.put, List.setIfInBounds_toArray, List.set_cons_zero, List.set_cons_succ, i64_w, i32_w]; rfl)) | (refine seq_t (v := ?_) (a' := ?_) rfl rfl (Or.inl ⟨by rfl, ?_⟩) hHeld ?_ ?_; rotate_left; (rintro w' ⟨s0, s1, s2, s3⟩; go_simp; with_reducible rfl); rotate_left; (simp only [Act.put, List.setIfInBounds_toArray, List.set_cons_zero, List.set_cons_succ, i64_w, i32_w]; rfl)))
          refine seq_o (N := some 52) (by rfl) (by rfl) (fun K hK => ?_)
          refine goes_ Try.func123 (by kernel_rfl) rfl #[.agg #[.int .i64 y0, .slice A3 ps.length c3]] (by rfl) rfl rfl (by simp only [List.map_toArray, List.map_cons, List.map_nil]; rfl) ?_
          with_reducible refine (F _ (Kd.C_below hC1.out (by repeat (first | exact Below.refl _ _ | apply pw_below_drewN | apply below_drew1 | apply below_drew)))).mono ?_
          rintro e' w3 ⟨B0, d0, B1, d1, rfl, hP0, hP1, hb3⟩
          refine ⟨_, rfl, ?_⟩
          have hb3' := hb3
          have z3 : wr.heap.size ≤ w3.heap.size := hb3.size
          refine hK.out _ _ ⟨(hb3.cell (p := ⟨w.heap.size, 0, none⟩) zb).trans b0, (hb3.cell (p := ⟨w2.heap.size, 2, none⟩) zX).trans x2, (hb3.cell (p := ad.add (k * 2)) hblk).trans h0, (hb3.cell (p := ⟨(ad.add (k * 2)).block, (ad.add (k * 2)).off + 1, none⟩) hblk).trans h1⟩ (fun hHeld2 => ?_)
          clear hK K
          refine seq_norm (a' := ?_) ?_ ?_
          rotate_left
          · show Act.put _ _ _ = _; simp only [Act.put, List.setIfInBounds_toArray, List.set_cons_zero, List.set_cons_succ, i64_w, i32_w]; rfl
          refine seq_o (N := some 53) (by rfl) (by rfl) (fun K hK => ?_)
          refine event_step (W := w3) (w1 := w3.alloc (.cells #[.slice B0 4 d0, .slice B1 4 d1, .slice none 0 0] 155)) (v := .slice (some ⟨w3.heap.size, 0, none⟩) 1 1) (by rfl) (by first | rfl | go_simp) ?_
          have hba : Below w3.heap.size w3 (w3.alloc (.cells #[.slice B0 4 d0, .slice B1 4 d1, .slice none 0 0] 155)) := below_alloc (Below.refl _ _) _
          refine hK.out _ _ ⟨(hba.cell (p := ⟨w.heap.size, 0, none⟩) (Nat.lt_of_lt_of_le zb z3)).trans hHeld2.1, (hba.cell (p := ⟨w2.heap.size, 2, none⟩) (Nat.lt_of_lt_of_le zX z3)).trans hHeld2.2.1, (hba.cell (p := ad.add (k * 2)) (Nat.lt_of_lt_of_le hblk z3)).trans hHeld2.2.2.1, (hba.cell (p := ⟨(ad.add (k * 2)).block, (ad.add (k * 2)).off + 1, none⟩) (Nat.lt_of_lt_of_le hblk z3)).trans hHeld2.2.2.2⟩ (fun hHeld3 => ?_)
          clear hK K
          refine seq_norm (a' := ?_) ?_ ?_
          rotate_left
          · show Act.put _ _ _ = _; simp only [Act.put, List.setIfInBounds_toArray, List.set_cons_zero, List.set_cons_succ, i64_w, i32_w]; rfl
          have hW3 := bthen (below_drew hW.out) hb3
          have hO3 := Kd.R_below (Kd.R_drew hO.out) hb3
          have hbx3 := blk_below (blk_drew hbxr.out) hb3
          have hrs3 := blk_below (blk_drew hrsr.out) hb3
          have hX3 := blk_below (blk_drew hXr.out) hb3
          have hQ0 : Kd.R Kd.bool 4 w3 w.heap.size (fun k => wr.heap.size ≤ k) (.slice B0 4 d0) (openN ps 4) := Kd.R_lower (Kd.R_mono (Kd.R_bound hP0) (fun k hk => hk.2.1)) (below_size (below_drew hW.out))
          have hQ1 : Kd.R k167 167 w3 w.heap.size (fun k => wr.heap.size ≤ k) (.slice B1 4 d1) (memN 4) := Kd.R_lower (Kd.R_mono (Kd.R_bound hP1) (fun k hk => hk.2.1)) (below_size (below_drew hW.out))
          refine seq_l (N := some 54) (by rfl) (by rfl) (fun K hK => ?_)
          refine Kd.R_append_step k155 (w0 := w) (W := w3) w.heap.size (by rfl) (.tmp 46) (.tmp 53) 81 155 (.agg #[(.slice none 0 0), (.slice none 0 0), (.slice none 0 0)]) 72 rfl Try.underlying81 info155 rfl (by decide) (by omega) (.slice Ao acc.length co) acc (⟨openN ps 4, memN 4, []⟩ : S155) [.slice B0 4 d0, .slice B1 4 d1, .slice none 0 0] (fun k => w.heap.size + 1 < k ∧ k ≠ w2.heap.size) (fun k => wr.heap.size ≤ k) rfl rfl (k155_mkM _ _ _ (⟨openN ps 4, memN 4, []⟩ : S155) hQ0 hQ1 (Kd.R_nil _ _ _ _ _)) (fun k hk => ⟨⟨by have := hz2.out; omega, by omega⟩, fun h => by have := zo.out k h.symm; omega⟩) (fun k hk => ⟨by have := hz2.out; omega, by omega⟩) hO3 hW3 (below_size hW3) (by omega) ?_
          intro v5 w5 hO5 hb5 hg5 _
          have hbx5 := blk_grown hbx3 hg5 (Kd.R_ne hO3 hbx3 (by decide))
          have hrs5 := blk_grown hrs3 hg5 (Kd.R_ne hO3 hrs3 (by decide))
          have hX5 := blk_grown hX3 hg5 (Kd.R_ne hO3 hX3 (by decide))
          refine hK.out _ _ ?_
          clear hK K
          refine seq_norm (a' := ?_) ?_ ?_
          rotate_left
          · show Act.put _ _ _ = _; simp only [Act.put, List.setIfInBounds_toArray, List.set_cons_zero, List.set_cons_succ, i64_w, i32_w]; rfl
          have m2 : w5.cell? ⟨w2.heap.size, 2, none⟩ = some (.slice Ao acc.length co) := (blk_cell hX5 2).trans rfl
          have mf2 := blk_frozen hX5 2
          have zX5 := blk_lt hX5
          replace hO5 := Aside0.mk hO5
          replace hbx5 := Aside0.mk hbx5
          replace hrs5 := Aside0.mk hrs5
          replace hX5 := Aside0.mk hX5
          replace hb5 := Aside0.mk hb5
          obtain ⟨A5, c5', rfl⟩ := Kd.R_slice hO5.out
          repeat (refine seq_p (v := ?_) (a' := ?_) rfl rfl (Or.inl ⟨by rfl, ?_⟩) ?_ ?_; rotate_left; (intro w'; go_simp; with_reducible rfl); rotate_left; (simp only [Act.put, List.setIfInBounds_toArray, List.set_cons_zero, List.set_cons_succ, i64_w, i32_w]; rfl))
          refine seq_l (N := none) (by rfl) (by rfl) (fun K hK => ?_)
          rw [if_pos (by rfl)]
          go_wp2
          refine hK.out _ _ ?_
          clear hK K
          refine seq_done ?_
          go_wp2
          go_roundw
          case rel => exact ⟨k + 1, .slice A5 (acc.length + 1) c5', acc ++ [⟨openN ps 4, memN 4, []⟩], by omega, by go_num, ⟨by rw [hacc.out, List.take_add_one, hx0.out, List.map_append]; rfl⟩, ⟨(Below.heap_setCell _ _ _ _ (by show w.heap.size ≠ w2.heap.size; have := hz2.out; omega)).trans hbx5.out⟩, ⟨(Below.heap_setCell _ _ _ _ (by show w.heap.size + 1 ≠ w2.heap.size; have := hz2.out; omega)).trans hrs5.out⟩, ⟨by have h := blk_put hX5.out 2 (.slice A5 (acc.length + 1) c5') rfl; simpa using h⟩, ⟨Kd.R_far (by have h := hO5.out; rw [List.length_append, List.length_singleton] at h; exact h) (p := ⟨w2.heap.size, 2, none⟩) (fun _ hk => hk.2) _⟩, ⟨Below.setCell (p := ⟨w2.heap.size, 2, none⟩) hb5.out (by show w.heap.size ≤ w2.heap.size; have := hz2.out; omega) _⟩⟩
          case measure => simp [intOf]; omega
        · have hkl : k = bs.length := by omega
          subst hkl
          have ea : acc = bs.map l21CardL := by rw [hacc.out, List.take_length]
          have el : acc.length = bs.length := by rw [ea]; simp
          rw [el] at x2
          have hO4 := hO.out
          rw [el, ea] at hO4
          replace hO4 := Aside0.mk hO4
          clear el ea hal hacc hXr hO
          have r0 : wr.cell? ⟨w.heap.size + 1, 0, none⟩ = some (.slice none 0 0) := (blk_cell hrsr.out 0).trans rfl
          have r1 : wr.cell? ⟨w.heap.size + 1, 1, none⟩ = some (.slice none 0 0) := (blk_cell hrsr.out 1).trans rfl
          have r2 : wr.cell? ⟨w.heap.size + 1, 2, none⟩ = some (.slice none 0 0) := (blk_cell hrsr.out 2).trans rfl
          have f0 := blk_frozen hrsr.out 0
          have f1 := blk_frozen hrsr.out 1
          have f2 := blk_frozen hrsr.out 2
          go_wp2
          refine bodyPost_ret (v := .tuple #[.agg #[.slice A1 bs.length c1, .slice B1c ls.length d1c, .slice Ao bs.length co], .bool true]) ?_ rfl ⟨_, _, _, _, _, _, _, _, _, rfl, fun _ => ⟨rfl, Kd.R_mono (Kd.R_far (Kd.R_far (Kd.R_far hO4.out (p := ⟨w.heap.size + 1, 0, none⟩) (fun k hk => by show k ≠ w.heap.size + 1; omega) _) (p := ⟨w.heap.size + 1, 1, none⟩) (fun k hk => by show k ≠ w.heap.size + 1; omega) _) (p := ⟨w.heap.size + 1, 2, none⟩) (fun k hk => by show k ≠ w.heap.size + 1; omega) _) (fun _ _ => trivial)⟩, by (repeat (refine below_set ?_ (by omega))); exact hW.out⟩
          simp [results, Try.results63, go_sem, zr, r0, r1, r2]
end Go.Proofs.Ytbdmnjobhfhinaa.M
namespace Go.Proofs.Ytbdmnjobhfhinaa.M
open Go.RowKit Go.Proofs.YtbdmnjobhfhinaaW.PrintWords Go.Proofs.YtbdmnjobhfhinaaW.PrintLast Go.Proofs.YtbdmnjobhfhinaaW.PrintMore
set_option linter.unusedVariables false
set_option linter.unusedSimpArgs false
set_option maxHeartbeats 4000000
set_option maxRecDepth 100000
theorem fabricNew_q (A B : Option Addr) (ca cb : Nat) (bs : List S65) (ls : List S145) (w : World) (hA : Kd.C k65 w A bs.length bs) (hB : Kd.C k145 w B ls.length ls) (hs1 : bs.length ≤ 1048576) (hs2 : ls.length ≤ 1048576) (hps : ∀ x ∈ bs, x.f1.length ≤ 1048576) : Calls Try.prog 63 #[.agg #[.slice A bs.length ca, .slice B ls.length cb]] w (NewPost bs ls w (newOk bs ls)) := by
  unfold newOk
  cases hq : netOkS bs ls
  · rw [Bool.false_and]; exact fabricNew_bad A B ca cb bs ls w hA hB hq
  · rw [Bool.true_and]; exact fabricNew_c A B ca cb bs ls w hA hB hq hs1 hs2 hps
theorem fabOkB_new (bs : List S65) (ls : List S145) (cs : List S155) : fabOkB bs ls cs = (newOk bs ls && decide (cs.length = bs.length) && cardsI bs cs) := by
  unfold fabOkB newOk
  rw [netOk_eq, Bool.and_comm (ls.all hostB)]
theorem specFabricOk_c (A B C : Option Addr) (ca cb cc : Nat) (bs : List S65) (ls : List S145) (cs : List S155) (w : World) (hA : Kd.C k65 w A bs.length bs) (hB : Kd.C k145 w B ls.length ls) (hC : Kd.C k155 w C cs.length cs) (hs1 : bs.length ≤ 1048576) (hs2 : ls.length ≤ 1048576) (hps : ∀ x ∈ bs, x.f1.length ≤ 1048576) :
    Calls Try.prog 52 #[.agg #[.slice A bs.length ca, .slice B ls.length cb, .slice C cs.length cc]] w fun e w' => e = .returned (.bool (fabOkB bs ls cs)) ∧ Below w.heap.size w w' := by
  have hu83 := Try.underlying83
  have hu32 := Try.underlying32
  have hu155 := Try.underlying155
  have hlC := clen hC
  have hlA := clen hA
  have hbx0 := Aside0.mk (blk_new w (.cells #[.slice A bs.length ca, .slice B ls.length cb, .slice C cs.length cc] 83))
  have hW0 := Aside0.mk (below_alloc (Below.refl w.heap.size w) (.cells #[.slice A bs.length ca, .slice B ls.length cb, .slice C cs.length cc] 83))
  have F63 := fun W h1 h2 => fabricNew_q A B ca cb bs ls W h1 h2 hs1 hs2 hps
  have hports : newOk bs ls = true → ∀ b ∈ bs, b.f1.length ≤ 4 := fun h => by
    unfold newOk at h
    simp only [Bool.and_eq_true] at h
    exact netOk_ports h.1
  obtain ⟨R, hR⟩ : ∃ R, R = fabOkB bs ls cs := ⟨_, rfl⟩
  rw [← hR]
  rw [fabOkB_new] at hR
  generalize newOk bs ls = q at *
  clear hps
  replace hA := Aside0.mk hA
  replace hB := Aside0.mk hB
  replace hC := Aside0.mk hC
  cases q
  · simp only [Bool.false_and] at hR
    subst hR
    clear hports
    go_enter Try.func52, Try.ntmps52
    go_wp2_with (go_at_call 63; (with_reducible refine (F63 _ (Kd.C_below hA.out hW0.out) (Kd.C_below hB.out hW0.out)).mono ?_); rintro e w1 ⟨P0, n0, p0, P1, n1, p1, D, nd, d, rfl, hv, hb⟩; have hbx1 := Aside0.mk (blk_below hbx0.out hb); have b2 : w1.cell? ⟨w.heap.size, 2, none⟩ = some (.slice C cs.length cc) := (blk_cell hbx1.out 2).trans rfl; have z1 := blk_lt hbx1.out; have hW1 := Aside0.mk (bthen hW0.out hb); clear hb; clear hv)
    go_ret
    exact ⟨rfl, by repeat (first | exact hW1.out | apply below_alloc)⟩
  by_cases hlen : cs.length = bs.length
  · rw [decide_eq_true hlen] at hR
    simp only [Bool.true_and] at hR
    have d1 : (bs.length == cs.length) = true := by simp; omega
    have d2 : decide (bs.length = cs.length) = true := decide_eq_true hlen.symm
    have d3 : ((bs.length : Int) != (cs.length : Int)) = false := by simp; omega
    have d4 : ((bs.length : Int) == (cs.length : Int)) = true := by simp; omega
    replace hR := Aside0.mk hR
    replace hlen := Aside0.mk hlen
    replace hports := Aside0.mk (hports rfl)
    go_enter Try.func52, Try.ntmps52
    go_wp2_with (go_at_call 63; (with_reducible refine (F63 _ (Kd.C_below hA.out hW0.out) (Kd.C_below hB.out hW0.out)).mono ?_); rintro e w1 ⟨P0, n0, p0, P1, n1, p1, D, nd, d, rfl, hv, hb⟩; have hbx1 := Aside0.mk (blk_below hbx0.out hb); have b2 : w1.cell? ⟨w.heap.size, 2, none⟩ = some (.slice C cs.length cc) := (blk_cell hbx1.out 2).trans rfl; have z1 := blk_lt hbx1.out; have hW1 := Aside0.mk (bthen hW0.out hb); clear hb; obtain ⟨rfl, hD⟩ := hv rfl; have hD1 := Aside0.mk (show Kd.C k155 w1 D bs.length (bs.map l21CardL) from by have h := (Kd.R_reads' hD).2.2; rwa [show (bs.map l21CardL).length = bs.length by simp] at h); clear hD hv)
    have hbxX := Aside0.mk (blk_alloc hbx1.out (.cells #[.slice P0 n0 p0, .slice P1 n1 p1, .slice D bs.length d] 83))
    have hXX := Aside0.mk (blk_new w1 (.cells #[.slice P0 n0 p0, .slice P1 n1 p1, .slice D bs.length d] 83))
    have hDX := Aside0.mk (Kd.C_below hD1.out (below_alloc (Below.refl w1.heap.size w1) (.cells #[.slice P0 n0 p0, .slice P1 n1 p1, .slice D bs.length d] 83)))
    have hWX := Aside0.mk (below_alloc hW1.out (.cells #[.slice P0 n0 p0, .slice P1 n1 p1, .slice D bs.length d] 83))
    clear hbx1 b2 z1 hD1 d1 d2 d3 d4 F63 hbx0 hW0
    go_loopw [5] (fun vi wr => ∃ k : Nat, k ≤ cs.length ∧ vi = .int .i64 k ∧ Aside0 (R = cardsI (bs.drop k) (cs.drop k)) ∧ Aside0 (wr.heap[w.heap.size]? = some (.cells #[.slice A bs.length ca, .slice B ls.length cb, .slice C cs.length cc] 83 (0, 0))) ∧ Aside0 (wr.heap[w1.heap.size]? = some (.cells #[.slice P0 n0 p0, .slice P1 n1 p1, .slice D bs.length d] 83 (0, 0))) ∧ Aside0 (Kd.C k155 wr D bs.length (bs.map l21CardL)) ∧ Aside0 (Below w.heap.size w wr)) (fun vi _ => cs.length - (intOf vi).toNat)
    case atStart => exact ⟨0, Nat.zero_le _, rfl, ⟨by simpa using hR.out⟩, ⟨hbxX.out⟩, ⟨hXX.out⟩, ⟨hDX.out⟩, ⟨hWX.out⟩⟩
    case round =>
      clear hbxX hXX hDX hWX
      obtain ⟨k, hk, rfl, hp, hbr, hX, hD, hW⟩ := hrel
      have b2 : wr.cell? ⟨w.heap.size, 2, none⟩ = some (.slice C cs.length cc) := (blk_cell hbr.out 2).trans rfl
      have z1 := blk_lt hbr.out
      have zX := blk_lt hX.out
      by_cases hlt : k < cs.length
      · obtain ⟨x, hx0⟩ : ∃ x, cs[k]? = some x := ⟨_, List.getElem?_eq_getElem hlt⟩
        obtain ⟨y, hy0⟩ : ∃ y, bs[k]? = some y := ⟨_, List.getElem?_eq_getElem (by have := hlen.out; omega)⟩
        have hy4 := hports.out y (List.mem_of_getElem? hy0)
        have hd0 : (bs.map l21CardL)[k]? = some (l21CardL y) := by rw [List.getElem?_map, hy0]; rfl
        obtain ⟨ad, A0, c0, A1, c1, A2, c2, eA, hblk, h0, h1, h2, hl0, hC0, hl1, hC1, hl2, hC2⟩ := get155 (Kd.C_below hC.out hW.out) hx0
        obtain ⟨dd, D0, e0, D1, e1, D2, e2, eD, hdblk, g0, -, -, -, hG0, -, -, -, -⟩ := get155 (by have h := hD.out; rwa [show bs.length = (bs.map l21CardL).length by simp] at h) hd0
        subst eA eD
        have hG4 : (l21CardL y).f0.length = 4 := by simp [l21CardL, openN]
        have i1 : (0 : Int) ≤ (k : Int) := by omega
        have i2 : (k : Int) < (cs.length : Int) := by omega
        have i3 : (k : Int) < (bs.length : Int) := by have := hlen.out; omega
        have e := hp.out
        rw [drop_cons_of hx0, drop_cons_of hy0, cardsI] at e
        obtain ⟨o, ms, tb⟩ := x
        have hGO : (l21CardL y).f0 = opensL y.f1 := openN_eq hy4
        obtain ⟨GO, eG⟩ : ∃ G, G = (l21CardL y).f0 := ⟨_, rfl⟩
        rw [← eG] at hG4 g0 hG0 hGO
        rw [← hGO] at e
        rw [hG4] at g0 hG0
        simp only at e h0 h1 h2 hC0 hC1 hC2 hl0
        have F112 := fun W h0 h1 h2 => specCardOk_c A0 A1 A2 c0 c1 c2 ⟨o, ms, tb⟩ W h0 h1 h2
        obtain ⟨qc, hqc⟩ : ∃ q, q = cardOkB ⟨o, ms, tb⟩ := ⟨_, rfl⟩
        rw [← hqc] at e F112
        simp only at F112
        have lo := clen hC0
        clear hGO eG hd0 hy4 hqc
        replace hx0 := Aside0.mk hx0
        replace hy0 := Aside0.mk hy0
        replace hC0 := Aside0.mk hC0
        replace hC1 := Aside0.mk hC1
        replace hC2 := Aside0.mk hC2
        replace hG0 := Aside0.mk hG0
        replace hG4 := Aside0.mk hG4
        cases qc
        · simp only [Bool.false_and] at e
          subst e
          go_wp2_with (go_at_call 112; (with_reducible refine (F112 _ (Kd.C_below hC0.out (below_alloc (Below.refl wr.heap.size wr) _)) (Kd.C_below hC1.out (below_alloc (Below.refl wr.heap.size wr) _)) (Kd.C_below hC2.out (below_alloc (Below.refl wr.heap.size wr) _))).mono ?_); rintro e5 w2 ⟨rfl, hb⟩; have hZ2 := Aside0.mk (blk_below (blk_new wr (.cells #[.slice A0 o.length c0, .slice A1 ms.length c1, .slice A2 tb.length c2] 155)) hb); have z0 : w2.cell? ⟨wr.heap.size, 0, none⟩ = some (.slice A0 o.length c0) := (blk_cell hZ2.out 0).trans rfl; have zZ := blk_lt hZ2.out; have hB2 := Aside0.mk (bthen (below_alloc (Below.refl wr.heap.size wr) (.cells #[.slice A0 o.length c0, .slice A1 ms.length c1, .slice A2 tb.length c2] 155)) hb); have hW2 := Aside0.mk (bthen hW.out hB2.out); clear hb)
          go_ret
          exact ⟨rfl, hW2.out⟩
        · simp only [Bool.true_and] at e
          by_cases h4 : o.length = 4
          · have h4b : ((o.length : Int) != 4) = false := by simp; omega
            have h4i : (o.length : Int) = 4 := by omega
            have h4c : (o.length == 4) = true := by simp; omega
            have h4d : decide (o.length = 4) = true := decide_eq_true h4
            obtain ⟨qe, hqe⟩ : ∃ q, q = decide (o = GO) := ⟨_, rfl⟩
            rw [← hqe] at e
            replace e := Aside0.mk e
            replace hqe := Aside0.mk hqe
            replace h4i := Aside0.mk h4i
            replace h4 := Aside0.mk h4
            go_wp2_with (go_at_call 112; (with_reducible refine (F112 _ (Kd.C_below hC0.out (below_alloc (Below.refl wr.heap.size wr) _)) (Kd.C_below hC1.out (below_alloc (Below.refl wr.heap.size wr) _)) (Kd.C_below hC2.out (below_alloc (Below.refl wr.heap.size wr) _))).mono ?_); rintro e5 w2 ⟨rfl, hb⟩; have hZ2 := Aside0.mk (blk_below (blk_new wr (.cells #[.slice A0 o.length c0, .slice A1 ms.length c1, .slice A2 tb.length c2] 155)) hb); have z0 : w2.cell? ⟨wr.heap.size, 0, none⟩ = some (.slice A0 o.length c0) := (blk_cell hZ2.out 0).trans rfl; have zZ := blk_lt hZ2.out; have hB2 := Aside0.mk (bthen (below_alloc (Below.refl wr.heap.size wr) (.cells #[.slice A0 o.length c0, .slice A1 ms.length c1, .slice A2 tb.length c2] 155)) hb); have hW2 := Aside0.mk (bthen hW.out hB2.out); clear hb)
            have hX2 := Aside0.mk (blk_below hX.out hB2.out)
            have hg0 := (hB2.out.cell (p := dd.add (k * 3)) hdblk).trans g0
            have hCo := Aside0.mk (Kd.C_below hC0.out hB2.out)
            have hCg := Aside0.mk (Kd.C_below hG0.out hB2.out)
            have hdb2 : (dd.add (k * 3)).block < w2.heap.size := Nat.lt_of_lt_of_le hdblk hB2.out.size
            clear h4b h4c h4d h0 h1 h2 hblk z0 zZ F112
            obtain ⟨wo, hwo⟩ : ∃ wo, wo = wr := ⟨_, rfl⟩
            subst hwo
            go_loopw [7] (fun vi wi => ∃ p : Nat, p ≤ 4 ∧ vi = .int .i64 p ∧ Aside0 (qe = decide (o.drop p = GO.drop p)) ∧ Aside0 (Below w2.heap.size w2 wi)) (fun vi _ => 4 - (intOf vi).toNat)
            case atStart => exact ⟨0, by omega, rfl, ⟨by simpa using hqe.out⟩, ⟨Below.refl _ _⟩⟩
            case round =>
              obtain ⟨p, hpp, rfl, hpr, hWi⟩ := hrel
              have hZi := Aside0.mk (blk_below hZ2.out hWi.out)
              have hXi := Aside0.mk (blk_below hX2.out hWi.out)
              have z0 : wr.cell? ⟨wo.heap.size, 0, none⟩ = some (.slice A0 o.length c0) := (blk_cell hZi.out 0).trans rfl
              have x2 : wr.cell? ⟨w1.heap.size, 2, none⟩ = some (.slice (some dd) bs.length d) := (blk_cell hXi.out 2).trans rfl
              have zZi := blk_lt hZi.out
              have zXi := blk_lt hXi.out
              have g0i := (hWi.out.cell (p := dd.add (k * 3)) hdb2).trans hg0
              have hdbi : (dd.add (k * 3)).block < wr.heap.size := Nat.lt_of_lt_of_le hdb2 hWi.out.size
              by_cases hlt4 : p < 4
              · obtain ⟨x, hx⟩ : ∃ x, o[p]? = some x := ⟨_, List.getElem?_eq_getElem (by have := h4.out; omega)⟩
                obtain ⟨y', hy⟩ : ∃ y, GO[p]? = some y := ⟨_, List.getElem?_eq_getElem (by have := hG4.out; omega)⟩
                obtain ⟨ao, eo, hblo, s0⟩ := getSc (Kd.C_below hCo.out hWi.out) hx
                obtain ⟨ag, eg, hblg, s1⟩ := getSc (by have h := Kd.C_below hCg.out hWi.out; rw [← hG4.out] at h; exact h) hy
                have j1 : (0 : Int) ≤ (p : Int) := by omega
                have j2 : (p : Int) < (o.length : Int) := by have := h4.out; omega
                have j3 : (p : Int) < 4 := by omega
                have ep := hpr.out
                rw [drop_cons_of hx, drop_cons_of hy] at ep
                simp only [List.cons.injEq] at ep
                subst eo eg
                replace hx := Aside0.mk hx
                replace hy := Aside0.mk hy
                cases x <;> cases y'
                all_goals simp at ep
                · replace ep := Aside0.mk ep
                  go_wp2
                  go_quiet (fail)
                  go_wp2
                  go_roundw
                  case rel => exact ⟨p + 1, by omega, by go_num, ⟨by simpa using ep.out⟩, ⟨by repeat (first | exact hWi.out | apply below_alloc | apply pw_below_drewN | apply below_drew1)⟩⟩
                  case measure => simp [intOf]; omega
                · subst ep
                  have e' := e.out
                  rw [Bool.false_and] at e'
                  clear e hpr hqe
                  subst e'
                  have hBi := Aside0.mk (bthen hW.out (bthen hB2.out hWi.out))
                  go_wp2
                  go_quiet (fail)
                  go_wp2
                  go_ret
                  exact ⟨rfl, by repeat (first | exact hBi.out | apply below_alloc | apply pw_below_drewN | apply below_drew1)⟩
                · subst ep
                  have e' := e.out
                  rw [Bool.false_and] at e'
                  clear e hpr hqe
                  subst e'
                  have hBi := Aside0.mk (bthen hW.out (bthen hB2.out hWi.out))
                  go_wp2
                  go_quiet (fail)
                  go_wp2
                  go_ret
                  exact ⟨rfl, by repeat (first | exact hBi.out | apply below_alloc | apply pw_below_drewN | apply below_drew1)⟩
                · replace ep := Aside0.mk ep
                  go_wp2
                  go_quiet (fail)
                  go_wp2
                  go_roundw
                  case rel => exact ⟨p + 1, by omega, by go_num, ⟨by simpa using ep.out⟩, ⟨by repeat (first | exact hWi.out | apply below_alloc | apply pw_below_drewN | apply below_drew1)⟩⟩
                  case measure => simp [intOf]; omega
              · have hp4 : p = 4 := by omega
                subst hp4
                have eq1 : qe = true := by
                  rw [hpr.out, List.drop_eq_nil_of_le (by have := h4.out; omega), List.drop_eq_nil_of_le (by have := hG4.out; omega)]; rfl
                subst eq1
                have e' := e.out
                rw [Bool.true_and] at e'
                replace e' := Aside0.mk e'
                have j3 : ¬ ((4 : Nat) : Int) < 4 := by omega
                clear e hpr hqe
                have hBi := Aside0.mk (bthen hB2.out hWi.out)
                go_wp2
                go_roundw
                case rel => exact ⟨k + 1, by omega, by go_num, ⟨e'.out⟩, ⟨blk_below hbr.out hBi.out⟩, ⟨blk_below hX.out hBi.out⟩, ⟨Kd.C_below hD.out hBi.out⟩, ⟨bthen hW.out hBi.out⟩⟩
                case measure => simp [intOf]; omega
          · rw [decide_eq_false (fun h => h4 (by rw [h]; exact hG4.out)), Bool.false_and] at e
            subst e
            have h4i : ¬ (o.length : Int) = 4 := by omega
            have h4b : ((o.length : Int) != 4) = true := by simp; omega
            have h4c : (o.length == 4) = false := by simp; omega
            have h4d : decide (o.length = 4) = false := decide_eq_false h4
            go_wp2_with (go_at_call 112; (with_reducible refine (F112 _ (Kd.C_below hC0.out (below_alloc (Below.refl wr.heap.size wr) _)) (Kd.C_below hC1.out (below_alloc (Below.refl wr.heap.size wr) _)) (Kd.C_below hC2.out (below_alloc (Below.refl wr.heap.size wr) _))).mono ?_); rintro e5 w2 ⟨rfl, hb⟩; have hZ2 := Aside0.mk (blk_below (blk_new wr (.cells #[.slice A0 o.length c0, .slice A1 ms.length c1, .slice A2 tb.length c2] 155)) hb); have z0 : w2.cell? ⟨wr.heap.size, 0, none⟩ = some (.slice A0 o.length c0) := (blk_cell hZ2.out 0).trans rfl; have zZ := blk_lt hZ2.out; have hB2 := Aside0.mk (bthen (below_alloc (Below.refl wr.heap.size wr) (.cells #[.slice A0 o.length c0, .slice A1 ms.length c1, .slice A2 tb.length c2] 155)) hb); have hW2 := Aside0.mk (bthen hW.out hB2.out); clear hb)
            go_ret
            exact ⟨rfl, hW2.out⟩
      · have hkl : k = cs.length := by omega
        have e := hp.out
        rw [hkl, List.drop_length] at e
        have e' : R = true := by rw [e]; cases bs.drop cs.length <;> rfl
        clear e hp
        subst e'
        subst hkl
        go_wp2
        go_ret
        exact ⟨rfl, hW.out⟩
  · rw [decide_eq_false hlen] at hR
    simp only [Bool.true_and, Bool.and_false, Bool.false_and] at hR
    subst hR
    have hlen' : ¬ (bs.length : Int) = (cs.length : Int) := by omega
    clear hports
    go_enter Try.func52, Try.ntmps52
    go_wp2_with (go_at_call 63; (with_reducible refine (F63 _ (Kd.C_below hA.out hW0.out) (Kd.C_below hB.out hW0.out)).mono ?_); rintro e w1 ⟨P0, n0, p0, P1, n1, p1, D, nd, d, rfl, hv, hb⟩; have hbx1 := Aside0.mk (blk_below hbx0.out hb); have b2 : w1.cell? ⟨w.heap.size, 2, none⟩ = some (.slice C cs.length cc) := (blk_cell hbx1.out 2).trans rfl; have z1 := blk_lt hbx1.out; have hW1 := Aside0.mk (bthen hW0.out hb); clear hb; obtain ⟨rfl, hD⟩ := hv rfl; clear hD hv)
    go_ret
    exact ⟨rfl, by repeat (first | exact hW1.out | apply below_alloc)⟩
end Go.Proofs.Ytbdmnjobhfhinaa.M
