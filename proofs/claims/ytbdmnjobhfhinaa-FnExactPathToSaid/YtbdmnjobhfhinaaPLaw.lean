/- None No conditions beside those that each theorem states. -/
import Derived.Test.YtbdmnjobhfhinaaVh
import Derived.Test.YtbdmnjobhfhinaaVe
namespace Go.Proofs.Ytbdmnjobhfhinaa.M
open Go.RowKit Go.Proofs.YtbdmnjobhfhinaaW.PrintWords Go.Proofs.YtbdmnjobhfhinaaW.PrintLast Go.Proofs.YtbdmnjobhfhinaaW.PrintMore
set_option linter.unusedVariables false
set_option linter.unusedSimpArgs false
set_option maxHeartbeats 4000000
set_option maxRecDepth 100000
theorem lawPathTo (A B : Option Addr) (ca cb : Nat) (bs : List S172) (ls : List S175) (x t : Int) (w : World) (hA : Kd.C k172 w A bs.length bs) (hB : Kd.C k175 w B ls.length ls) : Calls Try.prog 5 #[.agg #[.slice A bs.length ca, .slice B ls.length cb], .int .i64 x, .int .i64 t] w fun e w' => e = .returned (.bool true) ∧ Below w.heap.size w w' := by
  have hu25 := Try.underlying25
  have hu32 := Try.underlying32
  have F13 := fun W h1 h2 => szNet_c A B ca cb bs ls 1048576 W h1 h2 (by omega) (by omega)
  obtain ⟨s, hs⟩ : ∃ s, s = szN bs ls 1048576 := ⟨_, rfl⟩
  simp only [← hs] at F13
  have hbx0 := Aside0.mk (blk_new w (.cells #[.slice A bs.length ca, .slice B ls.length cb] 25))
  have hW0 := Aside0.mk (below_alloc (Below.refl w.heap.size w) (.cells #[.slice A bs.length ca, .slice B ls.length cb] 25))
  by_cases hneg : s < 0
  · replace hs := Aside0.mk hs
    replace hA := Aside0.mk hA
    replace hB := Aside0.mk hB
    go_enter Try.func5, Try.ntmps5
    go_wp2_with (fail)
    go_at_call 13
    (with_reducible refine (F13 _ (Kd.C_below hA.out hW0.out) (Kd.C_below hB.out hW0.out)).mono ?_)
    rintro e w1 ⟨rfl, hb⟩
    replace hb := Aside0.mk (bthen hW0.out hb)
    go_wp2
    go_ret
    exact ⟨rfl, hb.out⟩
  · have hpos : 0 ≤ s := by omega
    obtain ⟨hn1, hn2, hn3⟩ := szN_ok (hs ▸ hpos)
    have F15 := fun W h1 h2 => toNet_c A B ca cb bs ls W h1 h2 hn1 hn2 hn3
    have hn4 : ∀ c ∈ bs.map cBridge, c.f1.length ≤ 1048576 := by
      intro c hc
      obtain ⟨b, hb, rfl⟩ := List.mem_map.1 hc
      simpa [cBridge] using hn3 b hb
    obtain ⟨bs', hbs⟩ : ∃ b, b = bs.map cBridge := ⟨_, rfl⟩
    obtain ⟨ls', hls⟩ : ∃ b, b = ls.map cLink := ⟨_, rfl⟩
    have hl1 : bs'.length = bs.length := by rw [hbs, List.length_map]
    have hl2 : ls'.length = ls.length := by rw [hls, List.length_map]
    simp only [← hbs, ← hls] at F15 hn4
    have F14 := fun A B ca cb W h1 h2 => specPath_f A B ca cb bs' ls' x t W h1 h2 (by omega)
    have F16 := fun A B ca cb W h1 h2 h3 => implPath_f A B ca cb bs' ls' x t W h1 h2 (by omega) (by omega) h3
    have F18 := fun A B A' B' ca cb ca' cb' W h1 h2 h3 h4 => eqNet_t A B A' B' ca cb ca' cb' bs' ls' W h1 h2 h3 h4
    have F19 := fun base ok va vb W h1 h2 h3 => markNet_c base ok va vb bs' ls' W h1 h2 h3 (by omega) (by omega) hn4
    have hG := outPath_len bs' ls' x t
    generalize outPath bs' ls' x t = G at F14 F16 hG
    simp only [hl1, hl2] at F14 F16 F18
    have hGn : G.length ≤ 1048576 := by omega
    have F17 := fun A B ca cb W h1 h2 => eqIntS_t A B ca cb G W h1 h2
    have F20 := fun base ok v W h1 => (show Calls Try.prog 20 #[v, .int .i64 1] W _ from markIntS_u base 1 ok v G W h1 (by omega))
    have F21 := fun A c W h1 => (show Calls Try.prog 21 #[.slice A G.length c, .int .i64 1] W _ from heldIntS_t A c 1 G.length W h1 (by omega))
    replace hs := Aside0.mk hs
    replace hA := Aside0.mk hA
    replace hB := Aside0.mk hB
    replace hl1 := Aside0.mk hl1
    replace hl2 := Aside0.mk hl2
    clear hbs hls hn4 hn3 hG
    have hpos' : ¬ s < 0 := by omega
    go_enter Try.func5, Try.ntmps5
    go_wp2_with (fail)
    go_at_call 13
    (with_reducible refine (F13 _ (Kd.C_below hA.out hW0.out) (Kd.C_below hB.out hW0.out)).mono ?_)
    rintro e w1 ⟨rfl, hb⟩
    have hbx1 := Aside0.mk (blk_below hbx0.out hb)
    have hW1 := Aside0.mk (bthen hW0.out hb)
    have c0 : w1.cell? ⟨w.heap.size, 0, none⟩ = some (.slice A bs.length ca) := (blk_cell hbx1.out 0).trans rfl
    have c1 : w1.cell? ⟨w.heap.size, 1, none⟩ = some (.slice B ls.length cb) := (blk_cell hbx1.out 1).trans rfl
    have z1 := blk_lt hbx1.out
    clear hb hbx0
    go_wp2_with (fail)
    go_at_call 15
    (with_reducible refine (F15 _ (Kd.C_below hA.out hW1.out) (Kd.C_below hB.out hW1.out)).mono ?_)
    rintro e w2 ⟨A1, ca1, B1, cb1, rfl, hca1, hcb1, hR1, hL1, hb⟩
    have hbx2 := Aside0.mk (blk_below hbx1.out hb)
    have hW2 := Aside0.mk (bthen hW1.out hb)
    have kA1 := (Kd.R_reads' hR1).2.2
    have kB1 := (Kd.R_reads' hL1).2.2
    rw [hl1.out] at kA1
    rw [hl2.out] at kB1
    replace kA1 := Aside0.mk kA1
    replace kB1 := Aside0.mk kB1
    clear hb hR1 hL1 c0 c1 z1 hbx1
    go_wp2_with (fail)
    go_at_call 27
    (with_reducible refine (F14 A1 B1 ca1 cb1 _ kA1.out kB1.out).mono ?_)
    rintro e w3 ⟨v0, rfl, hV0, hb⟩
    have hbx3 := Aside0.mk (blk_below hbx2.out hb)
    have hW3 := Aside0.mk (bthen hW2.out hb)
    obtain ⟨Av, cv, rfl⟩ := Kd.R_slice hV0
    have hV3 := Aside0.mk (Kd.R_lower (Kd.R_mono (Kd.R_bound hV0) (fun k hk => (show w.heap.size < k ∧ k < w3.heap.size from ⟨by have := hk.2.1; have := blk_lt hbx2.out; omega, hk.2.2.1⟩))) (below_size hW2.out))
    have c0 : w3.cell? ⟨w.heap.size, 0, none⟩ = some (.slice A bs.length ca) := (blk_cell hbx3.out 0).trans rfl
    have c1 : w3.cell? ⟨w.heap.size, 1, none⟩ = some (.slice B ls.length cb) := (blk_cell hbx3.out 1).trans rfl
    have z1 := blk_lt hbx3.out
    clear hb hV0 hbx2 kA1 kB1 hca1 hcb1
    go_wp2_with (fail)
    go_at_call 15
    (with_reducible refine (F15 _ (Kd.C_below hA.out hW3.out) (Kd.C_below hB.out hW3.out)).mono ?_)
    rintro e w4 ⟨A2, ca2, B2, cb2, rfl, hca2, hcb2, hR2, hL2, hb⟩
    have hbx4 := Aside0.mk (blk_below hbx3.out hb)
    have hW4 := Aside0.mk (bthen hW3.out hb)
    have hV4 := Aside0.mk (Kd.R_below hV3.out hb)
    have z34 := hb.size
    have hbx3' := Aside0.mk hbx3.out
    have z4 := blk_lt hbx4.out
    have kR4 := Aside0.mk (Kd.R_mono (Kd.R_bound hR2) (fun k hk => (show w3.heap.size ≤ k ∧ k < w4.heap.size from ⟨hk.2.1, hk.2.2.1⟩)))
    have kL4 := Aside0.mk (Kd.R_mono (Kd.R_bound hL2) (fun k hk => (show w3.heap.size ≤ k ∧ k < w4.heap.size from ⟨hk.2.1, hk.2.2.1⟩)))
    clear hb hR2 hL2 c0 c1 z1 hbx3
    have z34' := Aside0.mk z34
    clear z34
    go_wp2_with (fail)
    go_at_call 28
    (with_reducible refine (F16 A2 B2 ca2 cb2 _ (by have h := (Kd.R_reads' (Kd.R_alloc kR4.out (.cells #[.slice A2 bs.length ca2, .slice B2 ls.length cb2] 32))).2.2; rw [hl1.out] at h; exact h) (by have h := (Kd.R_reads' (Kd.R_alloc kL4.out (.cells #[.slice A2 bs.length ca2, .slice B2 ls.length cb2] 32))).2.2; rw [hl2.out] at h; exact h) hca2).mono ?_)
    rintro e w5 ⟨v1, rfl, hG0, hb⟩
    have hbx5 := Aside0.mk (blk_below (blk_alloc hbx4.out _) hb)
    have hX5 := Aside0.mk (blk_below (blk_new w4 (.cells #[.slice A2 bs.length ca2, .slice B2 ls.length cb2] 32)) hb)
    have hW5 := Aside0.mk (bthen (below_alloc hW4.out _) hb)
    have hV5 := Aside0.mk (Kd.R_below (Kd.R_alloc hV4.out _) hb)
    have kR5 := Aside0.mk (Kd.R_below (Kd.R_alloc kR4.out _) hb)
    have kL5 := Aside0.mk (Kd.R_below (Kd.R_alloc kL4.out _) hb)
    obtain ⟨Ag, cg, rfl⟩ := Kd.R_slice hG0
    have hG5 := Aside0.mk (Kd.R_lower (Kd.R_mono (Kd.R_bound hG0) (fun k hk => (show w4.heap.size < k ∧ k < w5.heap.size from ⟨by have h := hk.2.1; simp at h; omega, hk.2.2.1⟩))) (below_size (below_alloc hW4.out _)))
    clear hb hG0 hbx4 kR4 kL4 hV4 z4
    go_wp2_with (fail)
    go_at_call 17
    (with_reducible refine (F17 Ag Av cg cv _ (Kd.R_reads' hG5.out).2.2 (Kd.R_reads' hV5.out).2.2).mono ?_)
    rintro e w6 ⟨rfl, hb⟩
    have hbx6 := Aside0.mk (blk_below hbx5.out hb)
    have hX6 := Aside0.mk (blk_below hX5.out hb)
    have hW6 := Aside0.mk (bthen hW5.out hb)
    have hV6 := Aside0.mk (Kd.R_below hV5.out hb)
    have kR6 := Aside0.mk (Kd.R_below kR5.out hb)
    have kL6 := Aside0.mk (Kd.R_below kL5.out hb)
    have hG6 := Aside0.mk (Kd.R_below hG5.out hb)
    clear hb hbx5 hX5 hV5 kR5 kL5 hG5
    go_wp2_with (fail)
    refine wp_same (fun wq hq _ => ?_)
    have hbxq := Aside0.mk (blk_below hbx6.out hq)
    have hXq := Aside0.mk (blk_below hX6.out hq)
    have hWq := Aside0.mk (bthen hW6.out hq)
    have hVq := Aside0.mk (Kd.R_below hV6.out hq)
    have kRq := Aside0.mk (Kd.R_below kR6.out hq)
    have kLq := Aside0.mk (Kd.R_below kL6.out hq)
    have hGq := Aside0.mk (Kd.R_below hG6.out hq)
    clear hq hbx6 hX6 hV6 kR6 kL6 hG6 hW6
    have c0 : wq.cell? ⟨w.heap.size, 0, none⟩ = some (.slice A bs.length ca) := (blk_cell hbxq.out 0).trans rfl
    have c1 : wq.cell? ⟨w.heap.size, 1, none⟩ = some (.slice B ls.length cb) := (blk_cell hbxq.out 1).trans rfl
    have d0 : wq.cell? ⟨w4.heap.size, 0, none⟩ = some (.slice A2 bs.length ca2) := (blk_cell hXq.out 0).trans rfl
    have d1 : wq.cell? ⟨w4.heap.size, 1, none⟩ = some (.slice B2 ls.length cb2) := (blk_cell hXq.out 1).trans rfl
    have z1 := blk_lt hbxq.out
    have z2 := blk_lt hXq.out
    go_region_held3 (fun w' => w'.cell? ⟨w.heap.size, 0, none⟩ = some (.slice A bs.length ca) ∧ w'.cell? ⟨w.heap.size, 1, none⟩ = some (.slice B ls.length cb) ∧ w'.cell? ⟨w4.heap.size, 0, none⟩ = some (.slice A2 bs.length ca2) ∧ w'.cell? ⟨w4.heap.size, 1, none⟩ = some (.slice B2 ls.length cb2)) (first | exact ⟨c0, c1, d0, d1⟩ | exact ⟨c0.out, c1.out, d0.out, d1.out⟩ | exact hs7.out | exact hs8.out) (first | (go_at_call 15; (with_reducible refine (F15 _ (Kd.C_below hA.out (by repeat (first | exact hWq.out | apply pw_below_drewN | apply below_drew1 | apply below_drew))) (Kd.C_below hB.out (by repeat (first | exact hWq.out | apply pw_below_drewN | apply below_drew1 | apply below_drew)))).mono ?_); rintro e w7 ⟨A3, ca3, B3, cb3, rfl, _, _, hR3, hL3, hb7⟩; have hs7 := Aside0.mk (show w7.cell? ⟨w.heap.size, 0, none⟩ = some (.slice A bs.length ca) ∧ w7.cell? ⟨w.heap.size, 1, none⟩ = some (.slice B ls.length cb) ∧ w7.cell? ⟨w4.heap.size, 0, none⟩ = some (.slice A2 bs.length ca2) ∧ w7.cell? ⟨w4.heap.size, 1, none⟩ = some (.slice B2 ls.length cb2) from ⟨(hb7.cell z1).trans c0, (hb7.cell z1).trans c1, (hb7.cell z2).trans d0, (hb7.cell z2).trans d1⟩); have kA3 := (Kd.R_reads' hR3).2.2; have kB3 := (Kd.R_reads' hL3).2.2; rw [hl1.out] at kA3; rw [hl2.out] at kB3; replace kA3 := Aside0.mk kA3; replace kB3 := Aside0.mk kB3; clear hR3 hL3; have hq7 := Aside0.mk (show Below wq.heap.size wq w7 from bthen (by repeat (first | exact Below.refl _ _ | apply pw_below_drewN | apply below_drew1 | apply below_drew)) hb7); clear hb7) | (go_at_call 18; (with_reducible refine (F18 A2 B2 A3 B3 ca2 cb2 ca3 cb3 _ (Kd.C_below (by have h := (Kd.R_reads' kRq.out).2.2; rw [hl1.out] at h; exact h) (by repeat (first | exact hq7.out | apply pw_below_drewN | apply below_drew1 | apply below_drew))) (Kd.C_below (by have h := (Kd.R_reads' kLq.out).2.2; rw [hl2.out] at h; exact h) (by repeat (first | exact hq7.out | apply pw_below_drewN | apply below_drew1 | apply below_drew))) (Kd.C_below kA3.out (by repeat (first | exact Below.refl _ _ | apply pw_below_drewN | apply below_drew1 | apply below_drew))) (Kd.C_below kB3.out (by repeat (first | exact Below.refl _ _ | apply pw_below_drewN | apply below_drew1 | apply below_drew)))).mono ?_); rintro e w8 ⟨rfl, hb8⟩; have hs8 := Aside0.mk (show w8.cell? ⟨w.heap.size, 0, none⟩ = some (.slice A bs.length ca) ∧ w8.cell? ⟨w.heap.size, 1, none⟩ = some (.slice B ls.length cb) ∧ w8.cell? ⟨w4.heap.size, 0, none⟩ = some (.slice A2 bs.length ca2) ∧ w8.cell? ⟨w4.heap.size, 1, none⟩ = some (.slice B2 ls.length cb2) from by have z3 := hq7.out.size; have y1 := hs7.out; exact ⟨(hb8.cell (p := ⟨w.heap.size, 0, none⟩) (by simp; omega)).trans y1.1, (hb8.cell (p := ⟨w.heap.size, 1, none⟩) (by simp; omega)).trans y1.2.1, (hb8.cell (p := ⟨w4.heap.size, 0, none⟩) (by simp; omega)).trans y1.2.2.1, (hb8.cell (p := ⟨w4.heap.size, 1, none⟩) (by simp; omega)).trans y1.2.2.2⟩); have hq8 := Aside0.mk (show Below wq.heap.size wq w8 from bthen (by repeat (first | exact hq7.out | apply pw_below_drewN | apply below_drew1 | apply below_drew)) hb8); clear hb8))
    have hr2 := hq8.out
    have hbx8 := Aside0.mk (blk_below hbxq.out hr2)
    have hX8 := Aside0.mk (blk_below hXq.out hr2)
    have hW8 := Aside0.mk (bthen hWq.out hr2)
    have hV8 := Aside0.mk (Kd.R_below hVq.out hr2)
    have kR8 := Aside0.mk (Kd.R_below kRq.out hr2)
    have kL8 := Aside0.mk (Kd.R_below kLq.out hr2)
    have hG8 := Aside0.mk (Kd.R_below hGq.out hr2)
    clear hr2 hq8 hs8 hq7 hs7 hbxq hXq hWq hVq kRq kLq hGq c0 c1 d0 d1 z1 z2
    have d0 : w8.cell? ⟨w4.heap.size, 0, none⟩ = some (.slice A2 bs.length ca2) := (blk_cell hX8.out 0).trans rfl
    have d1 : w8.cell? ⟨w4.heap.size, 1, none⟩ = some (.slice B2 ls.length cb2) := (blk_cell hX8.out 1).trans rfl
    have z2 := blk_lt hX8.out
    go_wp2_with (fail)
    go_at_call 19
    (with_reducible refine (F19 w3.heap.size _ _ _ _ kR8.out kL8.out (by have := z34'.out; omega)).mono ?_)
    rintro e w9 ⟨k, rfl, hK, hb⟩
    have z3 := blk_lt hbx3'.out
    have hbx9 := Aside0.mk (blk_kept hbx8.out hK (fun h => by omega))
    have hW9 := Aside0.mk (hW8.out.trans (hb.mono (by omega)))
    have hV9 := Aside0.mk (Kd.R_kept hV8.out hK (fun k h1 h2 => by omega))
    have hG9 := Aside0.mk (Kd.R_kept hG8.out hK (fun k h1 h2 => by omega))
    clear hK hb hX8 hbx8 hW8 hV8 hG8 kR8 kL8 d0 d1 z2 z3
    have hk0 : ¬ (k : Int) < 0 := by omega
    go_wp2_with (fail)
    go_at_call 17
    (with_reducible refine (F17 Ag Av cg cv _ (Kd.R_reads' hG9.out).2.2 (Kd.R_reads' hV9.out).2.2).mono ?_)
    rintro e w10 ⟨rfl, hb⟩
    have hbx10 := Aside0.mk (blk_below hbx9.out hb)
    have hW10 := Aside0.mk (bthen hW9.out hb)
    have hV10 := Aside0.mk (Kd.R_below hV9.out hb)
    have hG10 := Aside0.mk (Kd.R_below hG9.out hb)
    clear hb hbx9 hW9 hV9 hG9
    go_wp2_with (fail)
    go_at_call 20
    (with_reducible refine (F20 _ _ _ _ hG10.out).mono ?_)
    rintro e w11 ⟨rfl, hM, hg⟩
    have gb : ∀ k, (Value.slice Ag G.length cg).ownBlock = some k → w4.heap.size < k := fun k hk => (hG10.out.1 k hk).1
    have z10 := blk_lt hbx10.out
    have hW11 := Aside0.mk (hW10.out.grown hg (by omega) (fun k hk => by have := gb k hk; have := z34'.out; have := blk_lt hbx3'.out; omega))
    have hbx11 := Aside0.mk (blk_grown hbx10.out hg (fun e => by have := gb _ e.symm; have := z34'.out; have := blk_lt hbx3'.out; omega))
    have hV11 := Aside0.mk (Kd.R_grown hV10.out hg (fun k h1 e => by have := gb k e.symm; have := z34'.out; omega))
    have hM11 := Aside0.mk hM
    have nn : 0 ≤ ((1 + G.length : Nat) : Int) := by omega
    have nneg : ¬ ((1 + G.length : Nat) : Int) < 0 := by omega
    clear hg hM gb hG10 hW10 hbx10 hV10 z10
    generalize hMM : ((1 + G.length : Nat) : Int) = MM at *
    replace hMM := Aside0.mk hMM
    go_wp2_with (fail)
    go_at_call 21
    (with_reducible refine (F21 Ag cg _ (by have h := (Kd.R_reads' hM11.out).2.2; exact h)).mono ?_)
    rintro e w12 ⟨rfl, hb⟩
    have hbx12 := Aside0.mk (blk_below hbx11.out hb)
    have hW12 := Aside0.mk (bthen hW11.out hb)
    have hV12 := Aside0.mk (Kd.R_below hV11.out hb)
    have hM12 := Aside0.mk (Kd.R_below hM11.out hb)
    have c0 : w12.cell? ⟨w.heap.size, 0, none⟩ = some (.slice A bs.length ca) := (blk_cell hbx12.out 0).trans rfl
    have c1 : w12.cell? ⟨w.heap.size, 1, none⟩ = some (.slice B ls.length cb) := (blk_cell hbx12.out 1).trans rfl
    have z1 := blk_lt hbx12.out
    clear hb hbx11 hW11 hV11 hM11
    go_wp2_with (fail)
    go_at_call 15
    (with_reducible refine (F15 _ (Kd.C_below hA.out hW12.out) (Kd.C_below hB.out hW12.out)).mono ?_)
    rintro e w13 ⟨A4, ca4, B4, cb4, rfl, hca4, hcb4, hR4, hL4, hb⟩
    have hW13 := Aside0.mk (bthen hW12.out hb)
    have hV13 := Aside0.mk (Kd.R_below hV12.out hb)
    have hM13 := Aside0.mk (Kd.R_below hM12.out hb)
    have kA4 := (Kd.R_reads' hR4).2.2
    have kB4 := (Kd.R_reads' hL4).2.2
    rw [hl1.out] at kA4
    rw [hl2.out] at kB4
    replace kA4 := Aside0.mk kA4
    replace kB4 := Aside0.mk kB4
    clear hb hR4 hL4 c0 c1 z1 hbx12 hW12 hV12 hM12
    go_wp2_with (fail)
    go_at_call 28
    (with_reducible refine (F16 A4 B4 ca4 cb4 _ kA4.out kB4.out hca4).mono ?_)
    rintro e w14 ⟨v2, rfl, hH0, hb⟩
    have hW14 := Aside0.mk (bthen hW13.out hb)
    have hV14 := Aside0.mk (Kd.R_below hV13.out hb)
    have hM14 := Aside0.mk (Kd.R_below hM13.out hb)
    obtain ⟨Ah, ch, rfl⟩ := Kd.R_slice hH0
    replace hH0 := Aside0.mk (Kd.R_reads' hH0).2.2
    clear hb hW13 hV13 hM13 kA4 kB4 hca4 hcb4
    go_wp2_with (fail)
    go_at_call 17
    (with_reducible refine (F17 Ah Av ch cv _ hH0.out (Kd.R_reads' hV14.out).2.2).mono ?_)
    rintro e w15 ⟨rfl, hb⟩
    have hW15 := Aside0.mk (bthen hW14.out hb)
    have hM15 := Aside0.mk (Kd.R_below hM14.out hb)
    clear hb hW14 hV14 hM14 hH0
    go_wp2_with (fail)
    go_at_call 21
    (with_reducible refine (F21 Ag cg _ (by have h := (Kd.R_reads' hM15.out).2.2; exact h)).mono ?_)
    rintro e w16 ⟨rfl, hb⟩
    have hW16 := Aside0.mk (bthen hW15.out hb)
    clear hb hW15 hM15
    go_wp2
    go_ret
    exact ⟨rfl, hW16.out⟩
end Go.Proofs.Ytbdmnjobhfhinaa.M

