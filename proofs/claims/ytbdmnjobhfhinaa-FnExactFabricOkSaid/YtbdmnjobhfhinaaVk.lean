/- A right fabric, in the program. No conditions beside those that each theorem states. -/
import Derived.Test.YtbdmnjobhfhinaaVj
import Derived.Test.YtbdmnjobhfhinaaVc
import Derived.Test.YtbdmnjobhfhinaaVb
import Derived.Test.YtbdmnjobhfhinaaVf
namespace Go.Proofs.Ytbdmnjobhfhinaa.M
open Go.RowKit Go.Proofs.YtbdmnjobhfhinaaW.PrintWords Go.Proofs.YtbdmnjobhfhinaaW.PrintLast Go.Proofs.YtbdmnjobhfhinaaW.PrintMore
set_option linter.unusedVariables false
set_option linter.unusedSimpArgs false
set_option maxHeartbeats 4000000
set_option maxRecDepth 100000
def hostB (x : S145) : Bool := !(x.f1 == 3) && !(x.f3 == 3)
def opensL (ps : List S138) : List Bool := ((ps.map (fun p => p.f7)) ++ (List.replicate 4 false).drop ps.length).set 3 true
theorem hostsOk_c (A B : Option Addr) (ca cb : Nat) (bs : List S65) (ls : List S145) (w : World) (hA : Kd.C k65 w A bs.length bs) (hB : Kd.C k145 w B ls.length ls) (hsz : ls.length ≤ 1048576) (hca : bs.length ≤ ca) :
    Calls Try.prog 114 #[.agg #[.slice A bs.length ca, .slice B ls.length cb]] w fun e w' => e = .returned (.bool (ls.all hostB && netOkI bs ls)) ∧ Below w.heap.size w w' := by
  have hu32 := Try.underlying32
  have hu145 := Try.underlying145
  have hbx0 := Aside0.mk (blk_new w (.cells #[.slice A bs.length ca, .slice B ls.length cb] 32))
  have hW0 := Aside0.mk (below_alloc (Below.refl w.heap.size w) (.cells #[.slice A bs.length ca, .slice B ls.length cb] 32))
  have F46 := fun W h1 h2 => implNetOk_c A B ca cb bs ls W h1 h2 hsz hca
  generalize netOkI bs ls = qn at *
  obtain ⟨R, hR⟩ : ∃ R, R = (ls.all hostB && qn) := ⟨_, rfl⟩
  rw [← hR]
  replace hA := Aside0.mk hA
  replace hB := Aside0.mk hB
  replace hR := Aside0.mk hR
  go_enter Try.func114, Try.ntmps114
  go_wp2
  go_loopw [8] (fun i wr => ∃ k : Nat, k ≤ ls.length ∧ i = .int .i64 k ∧ Aside0 (R = ((ls.drop k).all hostB && qn)) ∧ Aside0 (wr.heap[w.heap.size]? = some (.cells #[.slice A bs.length ca, .slice B ls.length cb] 32 (0, 0))) ∧ Aside0 (Below w.heap.size w wr)) (fun i _ => ls.length - (intOf i).toNat)
  case atStart => exact ⟨0, Nat.zero_le _, rfl, ⟨by simpa using hR.out⟩, ⟨hbx0.out⟩, ⟨hW0.out⟩⟩
  case round =>
    obtain ⟨k, hk, rfl, hp, hbr, hW⟩ := hrel
    have b0 : wr.cell? ⟨w.heap.size, 0, none⟩ = some (.slice A bs.length ca) := (blk_cell hbr.out 0).trans rfl
    have b1 : wr.cell? ⟨w.heap.size, 1, none⟩ = some (.slice B ls.length cb) := (blk_cell hbr.out 1).trans rfl
    have hsz1 := blk_lt hbr.out
    by_cases hlt : k < ls.length
    · obtain ⟨x, hx0⟩ : ∃ x, ls[k]? = some x := ⟨_, List.getElem?_eq_getElem hlt⟩
      obtain ⟨ad, eA, hblk, h0, h1, h2, h3⟩ := get145 (Kd.C_below hB.out hW.out) hx0
      subst eA
      have i1 : (0 : Int) ≤ (k : Int) := by omega
      have i2 : (k : Int) < (ls.length : Int) := by omega
      have e := hp.out
      rw [drop_cons_of hx0, List.all_cons, hostB] at e
      obtain ⟨x0, x1, x2, x3⟩ := x
      simp only at e h0 h1 h2 h3
      replace hx0 := Aside0.mk hx0
      by_cases h13 : x1 = 3
      · subst h13
        simp at e
        subst e
        go_wp2
        go_ret
        exact ⟨rfl, below_alloc hW.out _⟩
      · have e1 : (x1 == 3) = false := by simpa using h13
        by_cases h33 : x3 = 3
        · subst h33
          simp at e
          subst e
          go_wp2
          go_ret
          exact ⟨rfl, below_alloc hW.out _⟩
        · have e3 : (x3 == 3) = false := by simpa using h33
          rw [e1, e3] at e
          simp only [Bool.not_false, Bool.true_and] at e
          replace e := Aside0.mk e
          go_wp2
          go_roundw
          case rel => exact ⟨k + 1, by omega, by go_num, ⟨e.out⟩, ⟨blk_alloc hbr.out _⟩, ⟨below_alloc hW.out _⟩⟩
          case measure => simp [intOf]; omega
    · have hkl : k = ls.length := by omega
      have e := hp.out
      rw [hkl, List.drop_length, List.all_nil, Bool.true_and] at e
      subst hkl
      replace e := Aside0.mk e
      go_wp2_with (go_at_call 46; (with_reducible refine (F46 _ (Kd.C_below hA.out hW.out) (Kd.C_below hB.out hW.out)).mono ?_); rintro e4 w4 ⟨rfl, hb4⟩; replace hb4 := Aside0.mk (bthen hW.out hb4))
      go_ret
      exact ⟨rb e.out.symm, hb4.out⟩
theorem opens_c (id : Int) (A : Option Addr) (c : Nat) (ps : List S138) (w : World) (hC : Kd.C k138 w A ps.length ps) (h4 : ps.length ≤ 4) : Calls Try.prog 117 #[.agg #[.int .i64 id, .slice A ps.length c]] w fun e w' => ∃ B cb, e = .returned (.slice B 4 cb) ∧ Kd.R Kd.bool 4 w' w.heap.size (fun _ => True) (.slice B 4 cb) (opensL ps) ∧ Below w.heap.size w w' := by
  have hu65 := Try.underlying65
  have hu138 := Try.underlying138
  have hu119 := Try.underlying119
  have hbx0 := Aside0.mk (blk_new w (.cells #[.int .i64 id, .slice A ps.length c] 65))
  have hW0 := Aside0.mk (below_alloc (Below.refl w.heap.size w) (.cells #[.int .i64 id, .slice A ps.length c] 65))
  obtain ⟨G, hG⟩ : ∃ G, G = opensL ps := ⟨_, rfl⟩
  rw [← hG]
  unfold opensL at hG
  replace hC := Aside0.mk hC
  replace hG := Aside0.mk hG
  go_enter Try.func117, Try.ntmps117
  go_wp2_with (first | ((with_reducible refine gate_dst (N := 6) rfl ?_); refine Kd.R_make Kd.bool _ 4 rfl (N := 6) rfl 149 _ _ rfl (4 : Int) rfl rfl Try.underlying149 (.bool false) 1 info4' rfl (by decide) (by omega) false (ok := fun _ => True) (okp := fun _ => True) rfl (fun _ hk => hk) trivial (by omega) (by omega) (Below.refl _ _) (Nat.le_refl _) ?_; intro vt w1 hT hb _ _; obtain ⟨Ao, co, eo⟩ := Kd.R_slice hT; rw [List.length_replicate] at eo; subst eo; have hbx1 := Aside0.mk (blk_below hbx0.out hb); have b1 : w1.cell? ⟨w.heap.size, 1, none⟩ = some (.slice A ps.length c) := (blk_cell hbx1.out 1).trans rfl; have z1 := blk_lt hbx1.out; replace hT := Aside0.mk (Kd.R_lower hT (below_size hW0.out)); replace hb := Aside0.mk (bthen hW0.out hb)))
  replace hT := hT
  go_loopw [10] (fun i wr => ∃ (k : Nat) (acc : List Bool), k ≤ ps.length ∧ acc.length = 4 ∧ i = .int .i64 k ∧ Aside0 (acc = (ps.take k).map (fun p => p.f7) ++ (List.replicate 4 false).drop k) ∧ Aside0 (Kd.R Kd.bool 4 wr w.heap.size (fun _ => True) (.slice Ao 4 co) acc) ∧ Aside0 (wr.heap[w.heap.size]? = some (.cells #[.int .i64 id, .slice A ps.length c] 65 (0, 0))) ∧ Aside0 (Below w.heap.size w wr)) (fun i _ => ps.length - (intOf i).toNat)
  case atStart => exact ⟨0, List.replicate 4 false, Nat.zero_le _, by simp, rfl, ⟨by simp⟩, ⟨hT.out⟩, ⟨hbx1.out⟩, ⟨hb.out⟩⟩
  case round =>
    obtain ⟨k, acc, hk, hal, rfl, hp, hO, hbr, hW⟩ := hrel
    obtain ⟨gt, ct, eot, hgb, hgt, _⟩ := Kd.R_form hO.out (by omega)
    rw [hal] at eot
    injection eot with ea _ ec
    subst ea ec
    by_cases hlt : k < ps.length
    · obtain ⟨x, hx0⟩ : ∃ x, ps[k]? = some x := ⟨_, List.getElem?_eq_getElem hlt⟩
      obtain ⟨ad, eA, hblk, h0, h1, h2, h3, h4', h5, h6, h7, h8, h9, h10⟩ := get138 (Kd.C_below hC.out hW.out) hx0
      have b1' : wr.cell? ⟨w.heap.size, 1, none⟩ = some (.slice A ps.length c) := (blk_cell hbr.out 1).trans rfl
      subst eA
      have i1 : (0 : Int) ≤ (k : Int) := by omega
      have i2 : (k : Int) < (ps.length : Int) := by omega
      have i3 : (k : Int) < 4 := by omega
      have e := map_step (fun p : S138 => p.f7) hx0 hp.out (by simp; omega)
      obtain ⟨hc, hf⟩ := Kd.R_celln false hO.out (k : Int) i1 i3
      have HP := Kd.R_alloc (Kd.R_putg hO.out (k : Int) x.f7).1 (.cells #[.bool x.f0, .bool x.f1, .int .i64 x.f2.f0, .int .i64 x.f2.f1, .int .i64 x.f2.f2, .int .i64 x.f2.f3, .int .i64 x.f3, .int .i64 x.f4, .int .i64 x.f5, .int .i64 x.f6, .bool x.f7] 138)
      simp only [Int.toNat_natCast] at hc hf HP
      have zg : gt < wr.heap.size + 1 := by omega
      have zg2 : gt ≠ wr.heap.size := by omega
      have zg3 : wr.heap.size ≠ gt := by omega
      replace hx0 := Aside0.mk hx0
      replace e := Aside0.mk e
      replace HP := Aside0.mk HP
      have hgb' := Aside0.mk hgb
      have hne := Aside0.mk (Kd.R_ne hO.out hbr.out (by decide))
      go_wp2
      go_roundw
      case rel => exact ⟨k + 1, acc.set k x.f7, by omega, by simp; exact hal, by go_num, ⟨e.out⟩, ⟨HP.out⟩, ⟨blk_alloc ((Below.heap_setCell _ _ _ _ (fun h => hne.out (by rw [h]; rfl))).trans hbr.out) _⟩, ⟨below_alloc (Below.setCell (p := ⟨gt, k, none⟩) hW.out hgb'.out _) _⟩⟩
      case measure => simp [intOf]; omega
    · have : k = ps.length := by omega
      subst this
      obtain ⟨hc, hf⟩ := Kd.R_celln false hO.out (3 : Int) (by omega) (by omega)
      have HP := (Kd.R_putg hO.out (3 : Int) true).1
      simp only [show Int.toNat 3 = 3 from rfl] at hc hf HP
      have hgb' := Aside0.mk hgb
      have e := hp.out
      rw [List.take_length] at e
      have eG : acc.set 3 true = G := by rw [e, hG.out]
      rw [eG] at HP
      replace HP := Aside0.mk HP
      clear e eG
      go_wp2
      go_ret
      exact ⟨_, _, rfl, HP.out, Below.setCell (p := ⟨gt, 3, none⟩) hW.out hgb'.out _⟩
theorem equalBool_c (A B : Option Addr) (ca cb : Nat) (l m : List Bool) (w : World) (hA : Kd.C Kd.bool w A l.length l) (hB : Kd.C Kd.bool w B m.length m) : Calls Try.prog 116 #[.slice A l.length ca, .slice B m.length cb] w fun e w' => e = .returned (.bool (decide (l = m))) ∧ Below w.heap.size w w' := by
  have hl := clen hA
  have hm := clen hB
  obtain ⟨R, hR⟩ : ∃ R, R = decide (l = m) := ⟨_, rfl⟩
  rw [← hR]
  by_cases hlen : l.length = m.length
  · have d1 : (l.length == m.length) = true := by simpa using hlen
    have d2 : decide (l.length = m.length) = true := decide_eq_true hlen
    have d3 : ((l.length : Int) != (m.length : Int)) = false := by simp; omega
    have d4 : ((l.length : Int) == (m.length : Int)) = true := by simp; omega
    replace hA := Aside0.mk hA
    replace hB := Aside0.mk hB
    replace hR := Aside0.mk hR
    replace hlen := Aside0.mk hlen
    go_enter Try.func116, Try.ntmps116
    go_wp2
    go_loopw [13] (fun i wr => ∃ k : Nat, k ≤ l.length ∧ i = .int .i64 k ∧ Aside0 (R = decide (l.drop k = m.drop k)) ∧ Aside0 (Below w.heap.size w wr)) (fun i _ => l.length - (intOf i).toNat)
    case atStart => exact ⟨0, Nat.zero_le _, rfl, ⟨by simpa using hR.out⟩, ⟨Below.refl _ _⟩⟩
    case round =>
      clear d1 d2 d3 d4
      obtain ⟨k, hk, rfl, hp, hW⟩ := hrel
      by_cases hlt : k < l.length
      · obtain ⟨x, hx0⟩ : ∃ x, l[k]? = some x := ⟨_, List.getElem?_eq_getElem hlt⟩
        obtain ⟨y, hy0⟩ : ∃ y, m[k]? = some y := ⟨_, List.getElem?_eq_getElem (by have := hlen.out; omega)⟩
        obtain ⟨ad, eA, hblk, h0⟩ := getSc (Kd.C_below hA.out hW.out) hx0
        obtain ⟨bd, eB, hblk', g0⟩ := getSc (Kd.C_below hB.out hW.out) hy0
        subst eA eB
        have i1 : (0 : Int) ≤ (k : Int) := by omega
        have i2 : (k : Int) < (l.length : Int) := by omega
        have i3 : (k : Int) < (m.length : Int) := by have := hlen.out; omega
        have e := hp.out
        rw [drop_cons_of hx0, drop_cons_of hy0] at e
        simp only [List.cons.injEq] at e
        replace hx0 := Aside0.mk hx0
        replace hy0 := Aside0.mk hy0
        cases x <;> cases y
        all_goals simp at e
        · replace e := Aside0.mk e
          go_wp2
          go_quiet (fail)
          go_wp2
          go_roundw
          case rel => exact ⟨k + 1, by omega, by go_num, ⟨by simpa using e.out⟩, ⟨by repeat (first | exact hW.out | apply below_alloc | apply pw_below_drewN | apply below_drew1)⟩⟩
          case measure => simp [intOf]; omega
        · subst e
          go_wp2
          go_quiet (fail)
          go_wp2
          go_ret
          exact ⟨rfl, by repeat (first | exact hW.out | apply below_alloc | apply pw_below_drewN | apply below_drew1)⟩
        · subst e
          go_wp2
          go_quiet (fail)
          go_wp2
          go_ret
          exact ⟨rfl, by repeat (first | exact hW.out | apply below_alloc | apply pw_below_drewN | apply below_drew1)⟩
        · replace e := Aside0.mk e
          go_wp2
          go_quiet (fail)
          go_wp2
          go_roundw
          case rel => exact ⟨k + 1, by omega, by go_num, ⟨by simpa using e.out⟩, ⟨by repeat (first | exact hW.out | apply below_alloc | apply pw_below_drewN | apply below_drew1)⟩⟩
          case measure => simp [intOf]; omega
      · have : k = l.length := by omega
        subst this
        have e := hp.out
        rw [List.drop_length, hlen.out, List.drop_length] at e
        simp at e
        subst e
        go_wp2
        go_ret
        exact ⟨rfl, hW.out⟩
  · have hne : ¬ l = m := fun h => hlen (by rw [h])
    rw [decide_eq_false hne] at hR
    subst hR
    have hlen' : ¬ (l.length : Int) = (m.length : Int) := by omega
    clear hne
    replace hA := Aside0.mk hA
    replace hB := Aside0.mk hB
    go_enter Try.func116, Try.ntmps116
    go_wp2
    go_ret
    exact ⟨rfl, Below.refl _ _⟩
end Go.Proofs.Ytbdmnjobhfhinaa.M
namespace Go.Proofs.Ytbdmnjobhfhinaa.M
open Go.RowKit Go.Proofs.YtbdmnjobhfhinaaW.PrintWords Go.Proofs.YtbdmnjobhfhinaaW.PrintLast Go.Proofs.YtbdmnjobhfhinaaW.PrintMore
def iFOT : Bool × List (List Nat × List Nat) := (true, [([], []), ([0], [0]), ([1], [1]), ([2, 1], [2]), ([3], [3]), ([4, 3], [3, 4]), ([3], [3]), ([6, 3], [3, 6]), ([7, 3], [3, 7]), ([3], [3]), ([8, 9, 3], [3, 8, 9]), ([10, 3], [3, 10]), ([11, 3, 3], [3, 11]), ([5, 12, 12, 3], [3, 5, 12]), ([13, 3], [3, 13]), ([3, 14], [3, 14])])
def iFOB : List Nat := [0, 1, 3, 7, 15, 31, 15, 79, 207, 15, 975, 1999, 4047, 8191, 16383, 32767]
theorem iFOtab : rtab .any (opsOf Try.f54 6) = iFOT := by kernel_rfl
theorem iFObits : waitsOk iFOT.2 iFOB = true := by kernel_rfl
def sLCT : Bool × List (List Nat × List Nat) := (true, [([], []), ([0], [0]), ([], []), ([], []), ([3], [3]), ([2, 4], [2, 4]), ([1, 5], [1, 5]), ([6, 5, 0, 1, 2, 3, 4, 5, 6], [6])])
def sLCB : List Nat := [0, 1, 0, 0, 8, 28, 63, 127]
theorem sLCtab : rtab .any (opsOf Try.f174 1) = sLCT := by kernel_rfl
theorem sLCbits : waitsOk sLCT.2 sLCB = true := by kernel_rfl
def sNCT : Bool × List (List Nat × List Nat) := (true, [([], []), ([0], [0]), ([], []), ([2], [2]), ([], []), ([3, 4], [3, 4]), ([5], [5]), ([6], [6]), ([7], [7]), ([1, 8, 7], [1, 8]), ([0, 1, 2, 3, 4, 5, 6, 7, 8, 9], []), ([10, 9, 9, 0, 1, 2, 3, 4, 5, 6, 7, 8, 9], [9, 10])])
def sNCB : List Nat := [0, 1, 0, 4, 0, 28, 60, 124, 252, 511, 1023, 2047]
theorem sNCtab : rtab .any (opsOf Try.f122 5) = sNCT := by kernel_rfl
theorem sNCbits : waitsOk sNCT.2 sNCB = true := by kernel_rfl
def sFNT : Bool × List (List Nat × List Nat) := (true, [([], []), ([0], [0]), ([], []), ([2], [2]), ([], []), ([3, 4], [3, 4]), ([5], [5]), ([6], [6]), ([7], [7]), ([1, 8, 7], [1, 8]), ([0, 1, 2, 3, 4, 5, 6, 7, 8, 9], []), ([10, 9, 9, 0, 1, 2, 3, 4, 5, 6, 7, 8, 9], [9, 10])])
def sFNB : List Nat := [0, 1, 0, 4, 0, 28, 60, 124, 252, 511, 1023, 2047]
theorem sFNtab : rtab .any (opsOf Try.f63 12) = sFNT := by kernel_rfl
theorem sFNbits : waitsOk sFNT.2 sFNB = true := by kernel_rfl
end Go.Proofs.Ytbdmnjobhfhinaa.M
namespace Go.Proofs.Ytbdmnjobhfhinaa.M
open Go.RowKit Go.Proofs.YtbdmnjobhfhinaaW.PrintWords Go.Proofs.YtbdmnjobhfhinaaW.PrintLast Go.Proofs.YtbdmnjobhfhinaaW.PrintMore
set_option linter.unusedVariables false
set_option linter.unusedSimpArgs false
set_option maxHeartbeats 4000000
set_option maxRecDepth 100000
/-- Each card right, and open where its bridge is. -/
def cardsI : List S65 → List S155 → Bool
  | b :: bs, c :: cs => cardOkB c && decide (c.f0 = opensL b.f1) && cardsI bs cs
  | _, _ => true
def fabOkB (bs : List S65) (ls : List S145) (cs : List S155) : Bool := (ls.all hostB && netOkI bs ls) && decide (cs.length = bs.length) && cardsI bs cs
theorem implFabricOk_c (A B C : Option Addr) (ca cb cc : Nat) (bs : List S65) (ls : List S145) (cs : List S155) (w : World) (hA : Kd.C k65 w A bs.length bs) (hB : Kd.C k145 w B ls.length ls) (hC : Kd.C k155 w C cs.length cs) (hsz : ls.length ≤ 1048576) (hca : bs.length ≤ ca) :
    Calls Try.prog 54 #[.agg #[.slice A bs.length ca, .slice B ls.length cb, .slice C cs.length cc]] w fun e w' => e = .returned (.bool (fabOkB bs ls cs)) ∧ Below w.heap.size w w' := by
  have hu83 := Try.underlying83
  have hu32 := Try.underlying32
  have hu155 := Try.underlying155
  have hu65 := Try.underlying65
  have hlC := clen hC
  have hbx0 := Aside0.mk (blk_new w (.cells #[.slice A bs.length ca, .slice B ls.length cb, .slice C cs.length cc] 83))
  have hW0 := Aside0.mk (below_alloc (Below.refl w.heap.size w) (.cells #[.slice A bs.length ca, .slice B ls.length cb, .slice C cs.length cc] 83))
  have F114 := fun W h1 h2 => hostsOk_c A B ca cb bs ls W h1 h2 hsz hca
  have hports : (ls.all hostB && netOkI bs ls) = true → ∀ b ∈ bs, b.f1.length ≤ 4 := fun h => by
    simp only [Bool.and_eq_true, netOk_eq] at h
    exact netOk_ports h.2
  obtain ⟨R, hR⟩ : ∃ R, R = fabOkB bs ls cs := ⟨_, rfl⟩
  rw [← hR]
  unfold fabOkB at hR
  generalize (ls.all hostB && netOkI bs ls) = q at *
  replace hA := Aside0.mk hA
  replace hB := Aside0.mk hB
  replace hC := Aside0.mk hC
  cases q
  · simp only [Bool.false_and] at hR
    subst hR
    clear hports
    go_enter Try.func54, Try.ntmps54
    go_wp2_with (go_at_call 114; (with_reducible refine (F114 _ (Kd.C_below hA.out hW0.out) (Kd.C_below hB.out hW0.out)).mono ?_); rintro e w1 ⟨rfl, hb⟩; replace hb := Aside0.mk (bthen hW0.out hb))
    go_ret
    exact ⟨rfl, hb.out⟩
  by_cases hlen : cs.length = bs.length
  · rw [decide_eq_true hlen] at hR
    simp only [Bool.true_and] at hR
    have d1 : (cs.length == bs.length) = true := by simpa using hlen
    have d2 : decide (cs.length = bs.length) = true := decide_eq_true hlen
    have d3 : ((cs.length : Int) != (bs.length : Int)) = false := by simp; omega
    have d4 : ((cs.length : Int) == (bs.length : Int)) = true := by simp; omega
    replace hR := Aside0.mk hR
    replace hlen := Aside0.mk hlen
    replace hports := Aside0.mk (hports rfl)
    go_enter Try.func54, Try.ntmps54
    go_wp2_with (go_at_call 114; (with_reducible refine (F114 _ (Kd.C_below hA.out hW0.out) (Kd.C_below hB.out hW0.out)).mono ?_); rintro e w1 ⟨rfl, hb⟩; have hbx1 := Aside0.mk (blk_below hbx0.out hb); have b0 : w1.cell? ⟨w.heap.size, 0, none⟩ = some (.slice A bs.length ca) := (blk_cell hbx1.out 0).trans rfl; have b2 : w1.cell? ⟨w.heap.size, 2, none⟩ = some (.slice C cs.length cc) := (blk_cell hbx1.out 2).trans rfl; have z1 := blk_lt hbx1.out; replace hb := Aside0.mk (bthen hW0.out hb))
    go_loopw [22] (fun i wr => ∃ k : Nat, k ≤ cs.length ∧ i = .int .i64 k ∧ Aside0 (R = cardsI (bs.drop k) (cs.drop k)) ∧ Aside0 (wr.heap[w.heap.size]? = some (.cells #[.slice A bs.length ca, .slice B ls.length cb, .slice C cs.length cc] 83 (0, 0))) ∧ Aside0 (Below w.heap.size w wr)) (fun i _ => cs.length - (intOf i).toNat)
    case atStart => exact ⟨0, Nat.zero_le _, rfl, ⟨by simpa using hR.out⟩, ⟨hbx1.out⟩, ⟨hb.out⟩⟩
    case round =>
      clear d1 d2 d3 d4 b0 b2 z1
      obtain ⟨k, hk, rfl, hp, hbr, hW⟩ := hrel
      have b0 : wr.cell? ⟨w.heap.size, 0, none⟩ = some (.slice A bs.length ca) := (blk_cell hbr.out 0).trans rfl
      have z1 := blk_lt hbr.out
      by_cases hlt : k < cs.length
      · obtain ⟨x, hx0⟩ : ∃ x, cs[k]? = some x := ⟨_, List.getElem?_eq_getElem hlt⟩
        obtain ⟨y, hy0⟩ : ∃ y, bs[k]? = some y := ⟨_, List.getElem?_eq_getElem (by have := hlen.out; omega)⟩
        have hy4 := hports.out y (List.mem_of_getElem? hy0)
        obtain ⟨ad, A0, c0, A1, c1, A2, c2, eA, hblk, h0, h1, h2, hl0, hC0, hl1, hC1, hl2, hC2⟩ := get155 (Kd.C_below hC.out hW.out) hx0
        obtain ⟨bd, B1, e1, eB, hblkb, g0, g1, hlb, hCb⟩ := get65 (Kd.C_below hA.out hW.out) hy0
        subst eA
        have i1 : (0 : Int) ≤ (k : Int) := by omega
        have i2 : (k : Int) < (cs.length : Int) := by omega
        have i3 : (k : Int) < (bs.length : Int) := by have := hlen.out; omega
        have e := hp.out
        rw [drop_cons_of hx0, drop_cons_of hy0, cardsI] at e
        obtain ⟨o, ms, tb⟩ := x
        obtain ⟨y0, ps⟩ := y
        simp only at e h0 h1 h2 hC0 hC1 hC2 g0 g1 hCb hy4 hl0
        have F115 := fun W h0 h1 h2 => implCardOk_c A0 A1 A2 c0 c1 c2 ⟨o, ms, tb⟩ W h0 h1 h2
        have F117 := fun W h => opens_c y0 B1 e1 ps W h hy4
        obtain ⟨qc, hqc⟩ : ∃ q, q = cardOkB ⟨o, ms, tb⟩ := ⟨_, rfl⟩
        rw [← hqc] at e F115
        simp only at F115
        subst eB
        replace hx0 := Aside0.mk hx0
        replace hy0 := Aside0.mk hy0
        replace hqc := Aside0.mk hqc
        replace hC0 := Aside0.mk hC0
        replace hC1 := Aside0.mk hC1
        replace hC2 := Aside0.mk hC2
        replace hCb := Aside0.mk hCb
        obtain ⟨GO, hGO⟩ : ∃ G, G = opensL ps := ⟨_, rfl⟩
        rw [← hGO] at e F117
        replace hGO := Aside0.mk hGO
        cases qc
        · simp only [Bool.false_and] at e
          subst e
          go_wp2
          refine wp_same (fun wq hq _ => ?_)
          have hX := blk_below (blk_new wr (.cells #[.slice A0 o.length c0, .slice A1 ms.length c1, .slice A2 tb.length c2] 155)) hq
          have x0 : wq.cell? ⟨wr.heap.size, 0, none⟩ = some (.slice A0 o.length c0) := (blk_cell hX 0).trans rfl
          have x1 : wq.cell? ⟨wr.heap.size, 1, none⟩ = some (.slice A1 ms.length c1) := (blk_cell hX 1).trans rfl
          have x2 : wq.cell? ⟨wr.heap.size, 2, none⟩ = some (.slice A2 tb.length c2) := (blk_cell hX 2).trans rfl
          have zX := blk_lt hX
          have hq0 := Aside0.mk (bthen (below_alloc (Below.refl wr.heap.size wr) (.cells #[.slice A0 o.length c0, .slice A1 ms.length c1, .slice A2 tb.length c2] 155)) hq)
          have a0 : wq.cell? ⟨w.heap.size, 0, none⟩ = some (.slice (some bd) bs.length ca) := (hq0.out.cell (p := ⟨w.heap.size, 0, none⟩) z1).trans b0
          have t0 : wq.cell? (bd.add (k * 2)) = some (.int .i64 y0) := (hq0.out.cell hblkb).trans g0
          have t1 : wq.cell? ⟨(bd.add (k * 2)).block, (bd.add (k * 2)).off + 1, none⟩ = some (.slice B1 ps.length e1) := (hq0.out.cell (p := ⟨(bd.add (k * 2)).block, (bd.add (k * 2)).off + 1, none⟩) hblkb).trans g1
          have zw : w.heap.size < wq.heap.size := by omega
          have zb : (bd.add (k * 2)).block < wq.heap.size := by omega
          clear hX hq b0 h0 h1 h2 g0 g1 hblk hblkb
          refine region_seq (fun w' => w'.cell? ⟨wr.heap.size, 0, none⟩ = some (.slice A0 o.length c0) ∧ w'.cell? ⟨wr.heap.size, 1, none⟩ = some (.slice A1 ms.length c1) ∧ w'.cell? ⟨wr.heap.size, 2, none⟩ = some (.slice A2 tb.length c2)) [1] [(0, .t), (1, .l), (2, .p), (3, .p), (4, .p), (5, .p), (6, .p), (7, .p), (8, .p), (9, .p), (10, .p), (11, .p), (12, .p), (13, .p), (14, .p), (15, .p)] (by kernel_rfl) iFOtab iFObits (fun _ _ d _ _ h => by cases d <;> exact h) (by kernel_rfl) ⟨x0, x1, x2⟩ (fun hHeld => ?_)
          (refine seq_t (v := ?_) (a' := ?_) rfl rfl (Or.inl ⟨by rfl, ?_⟩) hHeld ?_ ?_; rotate_left; (rintro w' ⟨s0, s1, s2⟩; go_simp; with_reducible rfl); rotate_left; (simp only [Act.put, List.setIfInBounds_toArray, List.set_cons_zero, List.set_cons_succ, i64_w, i32_w]; rfl))
          refine seq_l (N := some 28) (by rfl) (by rfl) (fun K hK => ?_)
          refine goes_ Try.func115 (by kernel_rfl) rfl #[.agg #[.slice A0 o.length c0, .slice A1 ms.length c1, .slice A2 tb.length c2]] (by rfl) rfl rfl (by simp only [List.map_toArray, List.map_cons, List.map_nil]; rfl) ?_
          with_reducible refine (F115 _ (Kd.C_below hC0.out (by repeat (first | exact hq0.out | exact Below.refl _ _ | apply pw_below_drewN | apply below_drew1 | apply below_drew))) (Kd.C_below hC1.out (by repeat (first | exact hq0.out | exact Below.refl _ _ | apply pw_below_drewN | apply below_drew1 | apply below_drew))) (Kd.C_below hC2.out (by repeat (first | exact hq0.out | exact Below.refl _ _ | apply pw_below_drewN | apply below_drew1 | apply below_drew)))).mono ?_
          rintro e5 w5 ⟨rfl, hb5⟩
          have hq5 := Aside0.mk (bthen (show Below wr.heap.size wr _ from (by repeat (first | exact hq0.out | exact Below.refl _ _ | apply pw_below_drewN | apply below_drew1 | apply below_drew))) hb5)
          refine ⟨_, rfl, ?_⟩
          refine hK.out _ _ ?_
          clear hK K hb5
          refine seq_norm (a' := ?_) ?_ ?_
          rotate_left
          · show Act.put _ _ _ = _; simp only [Act.put, List.setIfInBounds_toArray, List.set_cons_zero, List.set_cons_succ, i64_w, i32_w]; rfl
          repeat (first | (refine seq_p (v := ?_) (a' := ?_) rfl rfl (Or.inl ⟨by rfl, ?_⟩) ?_ ?_; rotate_left; (intro w'; go_simp; with_reducible rfl); rotate_left; (simp only [Act.put, List.setIfInBounds_toArray, List.set_cons_zero, List.set_cons_succ, i64_w, i32_w]; rfl)) | (refine seq_p (v := undef) (a' := ?_) rfl rfl (Or.inr ⟨by rfl, rfl⟩) ?_ ?_; rotate_left; (simp only [Act.put, List.setIfInBounds_toArray, List.set_cons_zero, List.set_cons_succ, i64_w, i32_w]; rfl)))
          refine seq_done ?_
          go_wp2
          go_ret
          exact ⟨rfl, bthen hW.out hq5.out⟩
        · simp only [Bool.true_and] at e
          have F116 := fun D cd W h1 h2 => equalBool_c A0 D c0 cd o GO W h1 h2
          obtain ⟨qe, hqe⟩ : ∃ q, q = decide (o = GO) := ⟨_, rfl⟩
          rw [← hqe] at e F116
          have hG4 : GO.length = 4 := by rw [hGO.out]; unfold opensL; simp; omega
          simp only [hG4] at F116
          replace hG4 := Aside0.mk hG4
          replace hqe := Aside0.mk hqe
          go_wp2
          refine wp_same (fun wq hq _ => ?_)
          have hX := blk_below (blk_new wr (.cells #[.slice A0 o.length c0, .slice A1 ms.length c1, .slice A2 tb.length c2] 155)) hq
          have x0 : wq.cell? ⟨wr.heap.size, 0, none⟩ = some (.slice A0 o.length c0) := (blk_cell hX 0).trans rfl
          have x1 : wq.cell? ⟨wr.heap.size, 1, none⟩ = some (.slice A1 ms.length c1) := (blk_cell hX 1).trans rfl
          have x2 : wq.cell? ⟨wr.heap.size, 2, none⟩ = some (.slice A2 tb.length c2) := (blk_cell hX 2).trans rfl
          have zX := blk_lt hX
          have hq0 := Aside0.mk (bthen (below_alloc (Below.refl wr.heap.size wr) (.cells #[.slice A0 o.length c0, .slice A1 ms.length c1, .slice A2 tb.length c2] 155)) hq)
          have a0 : wq.cell? ⟨w.heap.size, 0, none⟩ = some (.slice (some bd) bs.length ca) := (hq0.out.cell (p := ⟨w.heap.size, 0, none⟩) z1).trans b0
          have t0 : wq.cell? (bd.add (k * 2)) = some (.int .i64 y0) := (hq0.out.cell hblkb).trans g0
          have t1 : wq.cell? ⟨(bd.add (k * 2)).block, (bd.add (k * 2)).off + 1, none⟩ = some (.slice B1 ps.length e1) := (hq0.out.cell (p := ⟨(bd.add (k * 2)).block, (bd.add (k * 2)).off + 1, none⟩) hblkb).trans g1
          have zw : w.heap.size < wq.heap.size := by omega
          have zb : (bd.add (k * 2)).block < wq.heap.size := by omega
          clear hX hq b0 h0 h1 h2 g0 g1 hblk hblkb
          go_region_held3 (fun w' => w'.cell? ⟨w.heap.size, 0, none⟩ = some (.slice (some bd) bs.length ca) ∧ w'.cell? ⟨wr.heap.size, 0, none⟩ = some (.slice A0 o.length c0) ∧ w'.cell? ⟨wr.heap.size, 1, none⟩ = some (.slice A1 ms.length c1) ∧ w'.cell? ⟨wr.heap.size, 2, none⟩ = some (.slice A2 tb.length c2) ∧ w'.cell? (bd.add (k * 2)) = some (.int .i64 y0) ∧ w'.cell? ⟨(bd.add (k * 2)).block, (bd.add (k * 2)).off + 1, none⟩ = some (.slice B1 ps.length e1)) (first | exact ⟨a0, x0, x1, x2, t0, t1⟩ | exact hs7.out | exact hs6.out | exact hs5.out) (first | (go_at_call 115; (with_reducible refine (F115 _ (Kd.C_below hC0.out (by repeat (first | exact hq0.out | exact Below.refl _ _ | apply pw_below_drewN | apply below_drew1 | apply below_drew))) (Kd.C_below hC1.out (by repeat (first | exact hq0.out | exact Below.refl _ _ | apply pw_below_drewN | apply below_drew1 | apply below_drew))) (Kd.C_below hC2.out (by repeat (first | exact hq0.out | exact Below.refl _ _ | apply pw_below_drewN | apply below_drew1 | apply below_drew)))).mono ?_); rintro e5 w5 ⟨rfl, hb5⟩; have hs5 := Aside0.mk (show w5.cell? ⟨w.heap.size, 0, none⟩ = some (.slice (some bd) bs.length ca) ∧ w5.cell? ⟨wr.heap.size, 0, none⟩ = some (.slice A0 o.length c0) ∧ w5.cell? ⟨wr.heap.size, 1, none⟩ = some (.slice A1 ms.length c1) ∧ w5.cell? ⟨wr.heap.size, 2, none⟩ = some (.slice A2 tb.length c2) ∧ w5.cell? (bd.add (k * 2)) = some (.int .i64 y0) ∧ w5.cell? ⟨(bd.add (k * 2)).block, (bd.add (k * 2)).off + 1, none⟩ = some (.slice B1 ps.length e1) from ⟨(hb5.cell (p := ⟨w.heap.size, 0, none⟩) zw).trans a0, (hb5.cell (p := ⟨wr.heap.size, 0, none⟩) zX).trans x0, (hb5.cell (p := ⟨wr.heap.size, 1, none⟩) zX).trans x1, (hb5.cell (p := ⟨wr.heap.size, 2, none⟩) zX).trans x2, (hb5.cell (p := (bd.add (k * 2))) zb).trans t0, (hb5.cell (p := ⟨(bd.add (k * 2)).block, (bd.add (k * 2)).off + 1, none⟩) zb).trans t1⟩); have hs5z := Aside0.mk (show wq.heap.size ≤ w5.heap.size from hb5.size); have hq5 := Aside0.mk (bthen (show Below wr.heap.size wr _ from (by repeat (first | exact hq0.out | exact Below.refl _ _ | apply pw_below_drewN | apply below_drew1 | apply below_drew))) hb5); clear hb5) | (go_at_call 117; (with_reducible refine (F117 _ (Kd.C_below hCb.out (by repeat (first | exact hq5.out | exact Below.refl _ _ | apply pw_below_drewN | apply below_drew1 | apply below_drew)))).mono ?_); rintro e6 w6 ⟨D, cd, rfl, hD, hb6⟩; have hs6 := Aside0.mk (show w6.cell? ⟨w.heap.size, 0, none⟩ = some (.slice (some bd) bs.length ca) ∧ w6.cell? ⟨wr.heap.size, 0, none⟩ = some (.slice A0 o.length c0) ∧ w6.cell? ⟨wr.heap.size, 1, none⟩ = some (.slice A1 ms.length c1) ∧ w6.cell? ⟨wr.heap.size, 2, none⟩ = some (.slice A2 tb.length c2) ∧ w6.cell? (bd.add (k * 2)) = some (.int .i64 y0) ∧ w6.cell? ⟨(bd.add (k * 2)).block, (bd.add (k * 2)).off + 1, none⟩ = some (.slice B1 ps.length e1) from ⟨(hb6.cell (p := ⟨w.heap.size, 0, none⟩) (Nat.lt_of_lt_of_le zw hs5z.out)).trans hs5.out.1, (hb6.cell (p := ⟨wr.heap.size, 0, none⟩) (Nat.lt_of_lt_of_le zX hs5z.out)).trans hs5.out.2.1, (hb6.cell (p := ⟨wr.heap.size, 1, none⟩) (Nat.lt_of_lt_of_le zX hs5z.out)).trans hs5.out.2.2.1, (hb6.cell (p := ⟨wr.heap.size, 2, none⟩) (Nat.lt_of_lt_of_le zX hs5z.out)).trans hs5.out.2.2.2.1, (hb6.cell (p := (bd.add (k * 2))) (Nat.lt_of_lt_of_le zb hs5z.out)).trans hs5.out.2.2.2.2.1, (hb6.cell (p := ⟨(bd.add (k * 2)).block, (bd.add (k * 2)).off + 1, none⟩) (Nat.lt_of_lt_of_le zb hs5z.out)).trans hs5.out.2.2.2.2.2⟩); have hs6z := Aside0.mk (show wq.heap.size ≤ w6.heap.size from Nat.le_trans hs5z.out hb6.size); have hq6 := Aside0.mk (bthen (show Below wr.heap.size wr _ from (by repeat (first | exact hq5.out | exact Below.refl _ _ | apply pw_below_drewN | apply below_drew1 | apply below_drew))) hb6); replace hD := Aside0.mk (Kd.R_reads' hD).2.2; clear hb6) | (go_at_call 116; (with_reducible refine (F116 D cd _ (Kd.C_below hC0.out (by repeat (first | exact hq6.out | exact Below.refl _ _ | apply pw_below_drewN | apply below_drew1 | apply below_drew))) (Kd.C_below (by have h := hD.out; rw [hG4.out] at h; exact h) (by repeat (first | exact Below.refl _ _ | exact Below.refl _ _ | apply pw_below_drewN | apply below_drew1 | apply below_drew)))).mono ?_); rintro e7 w7 ⟨rfl, hb7⟩; have hs7 := Aside0.mk (show w7.cell? ⟨w.heap.size, 0, none⟩ = some (.slice (some bd) bs.length ca) ∧ w7.cell? ⟨wr.heap.size, 0, none⟩ = some (.slice A0 o.length c0) ∧ w7.cell? ⟨wr.heap.size, 1, none⟩ = some (.slice A1 ms.length c1) ∧ w7.cell? ⟨wr.heap.size, 2, none⟩ = some (.slice A2 tb.length c2) ∧ w7.cell? (bd.add (k * 2)) = some (.int .i64 y0) ∧ w7.cell? ⟨(bd.add (k * 2)).block, (bd.add (k * 2)).off + 1, none⟩ = some (.slice B1 ps.length e1) from ⟨(hb7.cell (p := ⟨w.heap.size, 0, none⟩) (Nat.lt_of_lt_of_le zw hs6z.out)).trans hs6.out.1, (hb7.cell (p := ⟨wr.heap.size, 0, none⟩) (Nat.lt_of_lt_of_le zX hs6z.out)).trans hs6.out.2.1, (hb7.cell (p := ⟨wr.heap.size, 1, none⟩) (Nat.lt_of_lt_of_le zX hs6z.out)).trans hs6.out.2.2.1, (hb7.cell (p := ⟨wr.heap.size, 2, none⟩) (Nat.lt_of_lt_of_le zX hs6z.out)).trans hs6.out.2.2.2.1, (hb7.cell (p := (bd.add (k * 2))) (Nat.lt_of_lt_of_le zb hs6z.out)).trans hs6.out.2.2.2.2.1, (hb7.cell (p := ⟨(bd.add (k * 2)).block, (bd.add (k * 2)).off + 1, none⟩) (Nat.lt_of_lt_of_le zb hs6z.out)).trans hs6.out.2.2.2.2.2⟩); have hq7 := Aside0.mk (bthen (show Below wr.heap.size wr _ from (by repeat (first | exact hq6.out | exact Below.refl _ _ | apply pw_below_drewN | apply below_drew1 | apply below_drew))) hb7); clear hb7))
          cases qe
          · rw [Bool.false_and] at e
            subst e
            go_wp2
            go_ret
            exact ⟨rfl, bthen hW.out hq7.out⟩
          · rw [Bool.true_and] at e
            replace e := Aside0.mk e
            go_wp2
            go_roundw
            case rel => exact ⟨k + 1, by omega, by go_num, ⟨e.out⟩, ⟨blk_below hbr.out hq7.out⟩, ⟨bthen hW.out hq7.out⟩⟩
            case measure => simp [intOf]; omega
      · have hkl : k = cs.length := by omega
        have e := hp.out
        rw [hkl, List.drop_length] at e
        have e' : R = true := by rw [e]; cases bs.drop cs.length <;> rfl
        subst e'
        subst hkl
        go_wp2
        go_ret
        exact ⟨rfl, hW.out⟩
  · rw [decide_eq_false hlen] at hR
    simp only [Bool.true_and, Bool.and_false, Bool.false_and] at hR
    subst hR
    have hlen' : ¬ (cs.length : Int) = (bs.length : Int) := by omega
    clear hports
    go_enter Try.func54, Try.ntmps54
    go_wp2_with (go_at_call 114; (with_reducible refine (F114 _ (Kd.C_below hA.out hW0.out) (Kd.C_below hB.out hW0.out)).mono ?_); rintro e w1 ⟨rfl, hb⟩; have hbx1 := Aside0.mk (blk_below hbx0.out hb); have b0 : w1.cell? ⟨w.heap.size, 0, none⟩ = some (.slice A bs.length ca) := (blk_cell hbx1.out 0).trans rfl; have b2 : w1.cell? ⟨w.heap.size, 2, none⟩ = some (.slice C cs.length cc) := (blk_cell hbx1.out 2).trans rfl; have z1 := blk_lt hbx1.out; replace hb := Aside0.mk (bthen hW0.out hb))
    go_ret
    exact ⟨rfl, hb.out⟩
end Go.Proofs.Ytbdmnjobhfhinaa.M
