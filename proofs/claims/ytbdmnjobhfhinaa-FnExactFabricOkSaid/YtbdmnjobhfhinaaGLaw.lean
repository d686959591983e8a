/- None No conditions beside those that each theorem states. -/
import Derived.Test.YtbdmnjobhfhinaaVl
import Derived.Test.YtbdmnjobhfhinaaVi
import Derived.Test.YtbdmnjobhfhinaaVf
namespace Go.Proofs.Ytbdmnjobhfhinaa.M
open Go.RowKit Go.Proofs.YtbdmnjobhfhinaaW.PrintWords Go.Proofs.YtbdmnjobhfhinaaW.PrintLast Go.Proofs.YtbdmnjobhfhinaaW.PrintMore
set_option linter.unusedVariables false
set_option linter.unusedSimpArgs false
set_option maxHeartbeats 4000000
set_option maxRecDepth 100000
theorem szN_le {bs : List S172} {ls : List S175} : szN bs ls 1048576 ≤ 1048576 := by
  unfold szN
  split
  · omega
  · rename_i h
    have h1 := szL_le ls.length (szBS bs 1048576)
    have h2 : szBS bs 1048576 ≤ 1048576 := by
      unfold szBS
      split
      · omega
      · rename_i h2
        rcases szBs_range bs (1048576 - bs.length) (by omega) with h3 | h3 <;> omega
    omega
theorem lawFabricOk (A B C : Option Addr) (ca cb cc : Nat) (bs : List S172) (ls : List S175) (cs : List S220) (w : World) (hA : Kd.C k172 w A bs.length bs) (hB : Kd.C k175 w B ls.length ls) (hC : Kd.C k220 w C cs.length cs) : Calls Try.prog 9 #[.agg #[.slice A bs.length ca, .slice B ls.length cb, .slice C cs.length cc]] w fun e w' => e = .returned (.bool true) ∧ Below w.heap.size w w' := by
  have hu78 := Try.underlying78
  have hu83 := Try.underlying83
  have hu25 := Try.underlying25
  have hu32 := Try.underlying32
  have F51 := fun W h1 h2 h3 => szFabric_c A B C ca cb cc bs ls cs 1048576 W h1 h2 h3 (by omega) (by omega) szN_le
  obtain ⟨s, hs⟩ : ∃ s, s = szF bs ls cs 1048576 := ⟨_, rfl⟩
  simp only [← hs] at F51
  have hbx0 := Aside0.mk (blk_new w (.cells #[.slice A bs.length ca, .slice B ls.length cb, .slice C cs.length cc] 78))
  have hW0 := Aside0.mk (below_alloc (Below.refl w.heap.size w) (.cells #[.slice A bs.length ca, .slice B ls.length cb, .slice C cs.length cc] 78))
  by_cases hneg : s < 0
  · replace hs := Aside0.mk hs
    replace hA := Aside0.mk hA
    replace hB := Aside0.mk hB
    replace hC := Aside0.mk hC
    go_enter Try.func9, Try.ntmps9
    go_wp2_with (fail)
    go_at_call 51
    (with_reducible refine (F51 _ (Kd.C_below hA.out hW0.out) (Kd.C_below hB.out hW0.out) (Kd.C_below hC.out hW0.out)).mono ?_)
    rintro e w1 ⟨rfl, hb⟩
    replace hb := Aside0.mk (bthen hW0.out hb)
    go_wp2
    go_ret
    exact ⟨rfl, hb.out⟩
  · have hpos : 0 ≤ s := by omega
    have hs' := hs
    unfold szF at hs'
    obtain ⟨hpN, hpA⟩ : 0 ≤ szN bs ls 1048576 ∧ 0 ≤ szA szCd cs (szN bs ls 1048576) := by
      split at hs' <;> omega
    obtain ⟨hn1, hn2, hn3⟩ := szN_ok hpN
    obtain ⟨hn5, hn6⟩ := szA_ok takes_Cd (fun x left h0 h1 h2 => szCd_ok h0 h1 h2) hpN szN_le hpA
    clear hpN hpA hs'
    have F53 := fun W h1 h2 h3 => toFabric_c A B C ca cb cc bs ls cs W h1 h2 h3 hn1 hn2 hn3 hn5 hn6
    have hn4 : ∀ c ∈ bs.map cBridge, c.f1.length ≤ 1048576 := by
      intro c hc
      obtain ⟨b, hb, rfl⟩ := List.mem_map.1 hc
      simpa [cBridge] using hn3 b hb
    obtain ⟨bs', hbs⟩ : ∃ b, b = bs.map cBridge := ⟨_, rfl⟩
    obtain ⟨ls', hls⟩ : ∃ b, b = ls.map cLink := ⟨_, rfl⟩
    obtain ⟨cs', hcs⟩ : ∃ b, b = cs.map cCard := ⟨_, rfl⟩
    have hl1 : bs'.length = bs.length := by rw [hbs, List.length_map]
    have hl2 : ls'.length = ls.length := by rw [hls, List.length_map]
    have hl3 : cs'.length = cs.length := by rw [hcs, List.length_map]
    simp only [← hbs, ← hls, ← hcs] at F53 hn4
    have F52 := fun A B C ca cb cc W h1 h2 h3 => specFabricOk_c A B C ca cb cc bs' ls' cs' W h1 h2 h3 (by omega) (by omega) hn4
    have F54 := fun A B C ca cb cc W h1 h2 h3 h4 => implFabricOk_c A B C ca cb cc bs' ls' cs' W h1 h2 h3 (by omega) h4
    have F55 := fun A B C A' B' C' ca cb cc ca' cb' cc' W h1 h2 h3 h4 h5 h6 => eqFabric_t A B C A' B' C' ca cb cc ca' cb' cc' bs' ls' cs' W h1 h2 h3 h4 h5 h6
    generalize fabOkB bs' ls' cs' = G at F52 F54
    simp only [hl1, hl2, hl3] at F52 F54 F55
    replace hs := Aside0.mk hs
    replace hA := Aside0.mk hA
    replace hB := Aside0.mk hB
    replace hC := Aside0.mk hC
    replace hl1 := Aside0.mk hl1
    replace hl2 := Aside0.mk hl2
    replace hl3 := Aside0.mk hl3
    clear hbs hls hcs hn4 hn3 hn6
    have hpos' : ¬ s < 0 := by omega
    cases G
    all_goals
      go_enter Try.func9, Try.ntmps9
      go_wp2_with (fail)
      go_at_call 51
      (with_reducible refine (F51 _ (Kd.C_below hA.out hW0.out) (Kd.C_below hB.out hW0.out) (Kd.C_below hC.out hW0.out)).mono ?_)
      rintro e w1 ⟨rfl, hb⟩
      have hbx1 := Aside0.mk (blk_below hbx0.out hb)
      have hW1 := Aside0.mk (bthen hW0.out hb)
      have c0 : w1.cell? ⟨w.heap.size, 0, none⟩ = some (.slice A bs.length ca) := (blk_cell hbx1.out 0).trans rfl
      have c1 : w1.cell? ⟨w.heap.size, 1, none⟩ = some (.slice B ls.length cb) := (blk_cell hbx1.out 1).trans rfl
      have c2 : w1.cell? ⟨w.heap.size, 2, none⟩ = some (.slice C cs.length cc) := (blk_cell hbx1.out 2).trans rfl
      have z1 := blk_lt hbx1.out
      clear hb hbx0
      go_wp2_with (fail)
      go_at_call 53
      (with_reducible refine (F53 _ (Kd.C_below hA.out hW1.out) (Kd.C_below hB.out hW1.out) (Kd.C_below hC.out hW1.out)).mono ?_)
      rintro e w2 ⟨A1, ca1, B1, cb1, C1, cc1, rfl, hca1, hR1, hL1, hC1, hb⟩
      have hbx2 := Aside0.mk (blk_below hbx1.out hb)
      have hW2 := Aside0.mk (bthen hW1.out hb)
      have kA1 := (Kd.R_reads' hR1).2.2
      have kB1 := (Kd.R_reads' hL1).2.2
      have kC1 := (Kd.R_reads' hC1).2.2
      rw [hl1.out] at kA1
      rw [hl2.out] at kB1
      rw [hl3.out] at kC1
      replace kA1 := Aside0.mk kA1
      replace kB1 := Aside0.mk kB1
      replace kC1 := Aside0.mk kC1
      clear hb hR1 hL1 hC1 c0 c1 c2 z1 hbx1
      go_wp2_with (fail)
      go_at_call 52
      (with_reducible refine (F52 A1 B1 C1 ca1 cb1 cc1 _ kA1.out kB1.out kC1.out).mono ?_)
      rintro e w3 ⟨rfl, hb⟩
      have hbx3 := Aside0.mk (blk_below hbx2.out hb)
      have hW3 := Aside0.mk (bthen hW2.out hb)
      have c0 : w3.cell? ⟨w.heap.size, 0, none⟩ = some (.slice A bs.length ca) := (blk_cell hbx3.out 0).trans rfl
      have c1 : w3.cell? ⟨w.heap.size, 1, none⟩ = some (.slice B ls.length cb) := (blk_cell hbx3.out 1).trans rfl
      have c2 : w3.cell? ⟨w.heap.size, 2, none⟩ = some (.slice C cs.length cc) := (blk_cell hbx3.out 2).trans rfl
      have z1 := blk_lt hbx3.out
      clear hb hbx2 kA1 kB1 kC1 hca1
      go_wp2_with (fail)
      go_at_call 53
      (with_reducible refine (F53 _ (Kd.C_below hA.out hW3.out) (Kd.C_below hB.out hW3.out) (Kd.C_below hC.out hW3.out)).mono ?_)
      rintro e w4 ⟨A2, ca2, B2, cb2, C2, cc2, rfl, hca2, hR2, hL2, hC2, hb⟩
      have hbx4 := Aside0.mk (blk_below hbx3.out hb)
      have hW4 := Aside0.mk (bthen hW3.out hb)
      have kA2 := (Kd.R_reads' hR2).2.2
      have kB2 := (Kd.R_reads' hL2).2.2
      have kC2 := (Kd.R_reads' hC2).2.2
      rw [hl1.out] at kA2
      rw [hl2.out] at kB2
      rw [hl3.out] at kC2
      replace kA2 := Aside0.mk (Kd.C_below kA2 (below_alloc (Below.refl w4.heap.size w4) (.cells #[.slice A2 bs.length ca2, .slice B2 ls.length cb2, .slice C2 cs.length cc2] 83)))
      replace kB2 := Aside0.mk (Kd.C_below kB2 (below_alloc (Below.refl w4.heap.size w4) (.cells #[.slice A2 bs.length ca2, .slice B2 ls.length cb2, .slice C2 cs.length cc2] 83)))
      replace kC2 := Aside0.mk (Kd.C_below kC2 (below_alloc (Below.refl w4.heap.size w4) (.cells #[.slice A2 bs.length ca2, .slice B2 ls.length cb2, .slice C2 cs.length cc2] 83)))
      clear hb hR2 hL2 hC2 c0 c1 c2 z1 hbx3
      go_wp2_with (fail)
      go_at_call 54
      (with_reducible refine (F54 A2 B2 C2 ca2 cb2 cc2 _ kA2.out kB2.out kC2.out hca2).mono ?_)
      rintro e w5 ⟨rfl, hb⟩
      have hbx5 := Aside0.mk (blk_below (blk_alloc hbx4.out _) hb)
      have hX5 := Aside0.mk (blk_below (blk_new w4 (.cells #[.slice A2 bs.length ca2, .slice B2 ls.length cb2, .slice C2 cs.length cc2] 83)) hb)
      have hW5 := Aside0.mk (bthen (below_alloc hW4.out _) hb)
      have kA5 := Aside0.mk (Kd.C_below kA2.out hb)
      have kB5 := Aside0.mk (Kd.C_below kB2.out hb)
      have kC5 := Aside0.mk (Kd.C_below kC2.out hb)
      clear hb hbx4 kA2 kB2 kC2
      go_wp2_with (fail)
      refine wp_same (fun wq hq hqz => ?_)
      have hbxq := Aside0.mk (blk_below hbx5.out hq)
      have hXq := Aside0.mk (blk_below hX5.out hq)
      have hWq := Aside0.mk (bthen hW5.out hq)
      have kAq := Aside0.mk (Kd.C_below kA5.out hq)
      have kBq := Aside0.mk (Kd.C_below kB5.out hq)
      have kCq := Aside0.mk (Kd.C_below kC5.out hq)
      clear hq hqz hbx5 hX5 hW5 kA5 kB5 kC5
      have c0 : wq.cell? ⟨w.heap.size, 0, none⟩ = some (.slice A bs.length ca) := (blk_cell hbxq.out 0).trans rfl
      have c1 : wq.cell? ⟨w.heap.size, 1, none⟩ = some (.slice B ls.length cb) := (blk_cell hbxq.out 1).trans rfl
      have c2 : wq.cell? ⟨w.heap.size, 2, none⟩ = some (.slice C cs.length cc) := (blk_cell hbxq.out 2).trans rfl
      have d0 : wq.cell? ⟨w4.heap.size, 0, none⟩ = some (.slice A2 bs.length ca2) := (blk_cell hXq.out 0).trans rfl
      have d1 : wq.cell? ⟨w4.heap.size, 1, none⟩ = some (.slice B2 ls.length cb2) := (blk_cell hXq.out 1).trans rfl
      have d2 : wq.cell? ⟨w4.heap.size, 2, none⟩ = some (.slice C2 cs.length cc2) := (blk_cell hXq.out 2).trans rfl
      have z1 := blk_lt hbxq.out
      have z2 := blk_lt hXq.out
      go_region_held3 (fun w' => w'.cell? ⟨w.heap.size, 0, none⟩ = some (.slice A bs.length ca) ∧ w'.cell? ⟨w.heap.size, 1, none⟩ = some (.slice B ls.length cb) ∧ w'.cell? ⟨w.heap.size, 2, none⟩ = some (.slice C cs.length cc) ∧ w'.cell? ⟨w4.heap.size, 0, none⟩ = some (.slice A2 bs.length ca2) ∧ w'.cell? ⟨w4.heap.size, 1, none⟩ = some (.slice B2 ls.length cb2) ∧ w'.cell? ⟨w4.heap.size, 2, none⟩ = some (.slice C2 cs.length cc2)) (first | exact ⟨c0, c1, c2, d0, d1, d2⟩ | exact hs7.out | exact hs8.out) (first | (go_at_call 53; (with_reducible refine (F53 _ (Kd.C_below hA.out (by repeat (first | exact hWq.out | apply pw_below_drewN | apply below_drew1 | apply below_drew))) (Kd.C_below hB.out (by repeat (first | exact hWq.out | apply pw_below_drewN | apply below_drew1 | apply below_drew))) (Kd.C_below hC.out (by repeat (first | exact hWq.out | apply pw_below_drewN | apply below_drew1 | apply below_drew)))).mono ?_); rintro e w7 ⟨A3, ca3, B3, cb3, C3, cc3, rfl, _, hR3, hL3, hC3, hb7⟩; have hs7 := Aside0.mk (show w7.cell? ⟨w.heap.size, 0, none⟩ = some (.slice A bs.length ca) ∧ w7.cell? ⟨w.heap.size, 1, none⟩ = some (.slice B ls.length cb) ∧ w7.cell? ⟨w.heap.size, 2, none⟩ = some (.slice C cs.length cc) ∧ w7.cell? ⟨w4.heap.size, 0, none⟩ = some (.slice A2 bs.length ca2) ∧ w7.cell? ⟨w4.heap.size, 1, none⟩ = some (.slice B2 ls.length cb2) ∧ w7.cell? ⟨w4.heap.size, 2, none⟩ = some (.slice C2 cs.length cc2) from ⟨(hb7.cell z1).trans c0, (hb7.cell z1).trans c1, (hb7.cell z1).trans c2, (hb7.cell z2).trans d0, (hb7.cell z2).trans d1, (hb7.cell z2).trans d2⟩); have kA3 := (Kd.R_reads' hR3).2.2; have kB3 := (Kd.R_reads' hL3).2.2; have kC3 := (Kd.R_reads' hC3).2.2; rw [hl1.out] at kA3; rw [hl2.out] at kB3; rw [hl3.out] at kC3; replace kA3 := Aside0.mk kA3; replace kB3 := Aside0.mk kB3; replace kC3 := Aside0.mk kC3; clear hR3 hL3 hC3; have hq7 := Aside0.mk (show Below wq.heap.size wq w7 from bthen (by repeat (first | exact Below.refl _ _ | apply pw_below_drewN | apply below_drew1 | apply below_drew)) hb7); clear hb7) | (go_at_call 55; (with_reducible refine (F55 A2 B2 C2 A3 B3 C3 ca2 cb2 cc2 ca3 cb3 cc3 _ (Kd.C_below kAq.out (by repeat (first | exact hq7.out | apply pw_below_drewN | apply below_drew1 | apply below_drew))) (Kd.C_below kBq.out (by repeat (first | exact hq7.out | apply pw_below_drewN | apply below_drew1 | apply below_drew))) (Kd.C_below kCq.out (by repeat (first | exact hq7.out | apply pw_below_drewN | apply below_drew1 | apply below_drew))) (Kd.C_below kA3.out (by repeat (first | exact Below.refl _ _ | apply pw_below_drewN | apply below_drew1 | apply below_drew))) (Kd.C_below kB3.out (by repeat (first | exact Below.refl _ _ | apply pw_below_drewN | apply below_drew1 | apply below_drew))) (Kd.C_below kC3.out (by repeat (first | exact Below.refl _ _ | apply pw_below_drewN | apply below_drew1 | apply below_drew)))).mono ?_); rintro e w8 ⟨rfl, hb8⟩; have hs8 := Aside0.mk (show w8.cell? ⟨w.heap.size, 0, none⟩ = some (.slice A bs.length ca) ∧ w8.cell? ⟨w.heap.size, 1, none⟩ = some (.slice B ls.length cb) ∧ w8.cell? ⟨w.heap.size, 2, none⟩ = some (.slice C cs.length cc) ∧ w8.cell? ⟨w4.heap.size, 0, none⟩ = some (.slice A2 bs.length ca2) ∧ w8.cell? ⟨w4.heap.size, 1, none⟩ = some (.slice B2 ls.length cb2) ∧ w8.cell? ⟨w4.heap.size, 2, none⟩ = some (.slice C2 cs.length cc2) from by have z3 := hq7.out.size; have y1 := hs7.out; exact ⟨(hb8.cell (p := ⟨w.heap.size, 0, none⟩) (by simp; omega)).trans y1.1, (hb8.cell (p := ⟨w.heap.size, 1, none⟩) (by simp; omega)).trans y1.2.1, (hb8.cell (p := ⟨w.heap.size, 2, none⟩) (by simp; omega)).trans y1.2.2.1, (hb8.cell (p := ⟨w4.heap.size, 0, none⟩) (by simp; omega)).trans y1.2.2.2.1, (hb8.cell (p := ⟨w4.heap.size, 1, none⟩) (by simp; omega)).trans y1.2.2.2.2.1, (hb8.cell (p := ⟨w4.heap.size, 2, none⟩) (by simp; omega)).trans y1.2.2.2.2.2⟩); have hq8 := Aside0.mk (show Below wq.heap.size wq w8 from bthen (by repeat (first | exact hq7.out | apply pw_below_drewN | apply below_drew1 | apply below_drew)) hb8); clear hb8))
      have hW8 := Aside0.mk (bthen hWq.out hq8.out)
      clear hq8 hs8 hq7 hs7 c0 c1 c2 d0 d1 d2
      go_wp2
      go_ret
      exact ⟨rfl, hW8.out⟩
end Go.Proofs.Ytbdmnjobhfhinaa.M
