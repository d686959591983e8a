/- Cards: which are right, in the reference and in the program. No conditions beside those that each theorem states. -/
import Derived.Test.YtbdmnjobhfhinaaVi
import Derived.Test.YtbdmnjobhfhinaaVb
namespace Go.Proofs.Ytbdmnjobhfhinaa.M
open Go.RowKit Go.Proofs.YtbdmnjobhfhinaaW.PrintWords Go.Proofs.YtbdmnjobhfhinaaW.PrintLast Go.Proofs.YtbdmnjobhfhinaaW.PrintMore
set_option linter.unusedVariables false
set_option linter.unusedSimpArgs false
set_option maxHeartbeats 4000000
set_option maxRecDepth 100000
/-- Whole numbers 1 to 4, rising. -/
def incL : Int → List Int → Bool
  | _, [] => true
  | prev, x :: xs => inB x 1 4 && decide (prev < x) && incL x xs
def hasI (n : Int) (l : List Int) : Bool := l.any (fun x => x == n)
def memOkB (m : S167) : Bool := incL 0 m.f1 && (inB m.f0 1 4 && hasI m.f0 m.f1)
def befB (a b : S250) : Bool := decide (a.f1 < b.f1) || (a.f1 == b.f1 && decide (a.f0 < b.f0))
def heardOkB (x : S250) : Bool := inB x.f0 1 9 && inB x.f1 1 4 && inB x.f2 0 3 && inB x.f3 1 20
def tabL : S250 → List S250 → Bool
  | _, [] => true
  | prev, x :: xs => heardOkB x && befB prev x && tabL x xs
def tabOkB (l : List S250) : Bool := tabL z250 l && decide (l.length ≤ 12)
def cardOkB (c : S155) : Bool := c.f1.all memOkB && (inB c.f0.length 1 4 && decide (c.f1.length = c.f0.length) && tabOkB c.f2)
def prevI (l : List Int) (k : Nat) : Int := if k = 0 then 0 else l.getD (k - 1) 0
def prevH (l : List S250) (k : Nat) : S250 := if k = 0 then z250 else l.getD (k - 1) z250
theorem prevI_succ {l : List Int} {k : Nat} {x : Int} (h : l[k]? = some x) : prevI l (k + 1) = x := by
  unfold prevI; rw [if_neg (by omega), Nat.add_sub_cancel, List.getD_eq_getElem?_getD, h]; rfl
theorem prevH_succ {l : List S250} {k : Nat} {x : S250} (h : l[k]? = some x) : prevH l (k + 1) = x := by
  unfold prevH; rw [if_neg (by omega), Nat.add_sub_cancel, List.getD_eq_getElem?_getD, h]; rfl
theorem inB_true {x lo hi : Int} (h : inB x lo hi = true) : lo ≤ x ∧ x ≤ hi := by simpa [inB] using h
theorem l4Has_c (A : Option Addr) (c : Nat) (l : List Int) (n : Int) (w : World) (hA : Kd.C (Kd.int .i64) w A l.length l) : Calls Try.prog 206 #[.slice A l.length c, .int .i64 n] w fun e w' => e = .returned (.bool (hasI n l)) ∧ Below w.heap.size w w' := by
  have hlen := clen hA
  replace hA := Aside0.mk hA
  obtain ⟨R, hR⟩ : ∃ R, R = hasI n l := ⟨_, rfl⟩
  rw [← hR]
  replace hR := Aside0.mk hR
  go_enter Try.func206, Try.ntmps206
  go_wp2
  go_loopw [5] (fun i wr => ∃ k : Nat, k ≤ l.length ∧ i = .int .i64 k ∧ Aside0 (R = hasI n (l.drop k)) ∧ Aside0 (Below w.heap.size w wr)) (fun i _ => l.length - (intOf i).toNat)
  case atStart => exact ⟨0, Nat.zero_le _, rfl, ⟨by simpa using hR.out⟩, ⟨Below.refl _ _⟩⟩
  case round =>
    obtain ⟨k, hk, rfl, hp, hW⟩ := hrel
    by_cases hlt : k < l.length
    · obtain ⟨x, hx0⟩ : ∃ x, l[k]? = some x := ⟨_, List.getElem?_eq_getElem hlt⟩
      obtain ⟨ad, eA, hblk, h0⟩ := getInt (Kd.C_below hA.out hW.out) hx0
      subst eA
      have i1 : (0 : Int) ≤ (k : Int) := by omega
      have i2 : (k : Int) < (l.length : Int) := by omega
      have e := hp.out
      rw [drop_cons_of hx0, hasI, List.any_cons] at e
      by_cases hxn : x = n
      · subst hxn
        simp only [BEq.rfl, Bool.true_or] at e
        subst e
        replace hx0 := Aside0.mk hx0
        go_wp2
        go_ret
        exact ⟨rfl, hW.out⟩
      · have : (x == n) = false := by simpa using hxn
        rw [this, Bool.false_or] at e
        replace e := Aside0.mk e
        replace hx0 := Aside0.mk hx0
        clear this
        go_wp2
        go_roundw
        case rel => exact ⟨k + 1, by omega, by go_num, ⟨e.out⟩, ⟨hW.out⟩⟩
        case measure => simp [intOf]; omega
    · have : k = l.length := by omega
      subst this
      have e := hp.out
      rw [List.drop_length, hasI, List.any_nil] at e
      subst e
      go_wp2
      go_ret
      exact ⟨rfl, hW.out⟩
def idxI (n : Int) : List Int → Int → Int
  | [], _ => -1
  | x :: xs, i => if n = x then i else idxI n xs (i + 1)
theorem idxI_has (n : Int) : ∀ (l : List Int) (i : Int), 0 ≤ i → decide (0 ≤ idxI n l i) = hasI n l
  | [], i, _ => rfl
  | x :: xs, i, hi => by
    rw [idxI, hasI, List.any_cons]
    by_cases h : n = x
    · subst h; simp [hi]
    · rw [if_neg h, idxI_has n xs (i + 1) (by omega), show (x == n) = false by simpa using fun e => h e.symm, Bool.false_or]; rfl
theorem indexInt_c (A : Option Addr) (c : Nat) (l : List Int) (n : Int) (w : World) (hA : Kd.C (Kd.int .i64) w A l.length l) : Calls Try.prog 243 #[.slice A l.length c, .int .i64 n] w fun e w' => e = .returned (.int .i64 (idxI n l 0)) ∧ Below w.heap.size w w' := by
  have hlen := clen hA
  replace hA := Aside0.mk hA
  obtain ⟨R, hR⟩ : ∃ R, R = idxI n l 0 := ⟨_, rfl⟩
  rw [← hR]
  replace hR := Aside0.mk hR
  go_enter Try.func243, Try.ntmps243
  go_wp2
  go_loopw [8] (fun i wr => ∃ k : Nat, k ≤ l.length ∧ i = .int .i64 k ∧ Aside0 (R = idxI n (l.drop k) k) ∧ Aside0 (Below w.heap.size w wr)) (fun i _ => l.length - (intOf i).toNat)
  case atStart => exact ⟨0, Nat.zero_le _, rfl, ⟨by simpa using hR.out⟩, ⟨Below.refl _ _⟩⟩
  case round =>
    obtain ⟨k, hk, rfl, hp, hW⟩ := hrel
    by_cases hlt : k < l.length
    · obtain ⟨x, hx0⟩ : ∃ x, l[k]? = some x := ⟨_, List.getElem?_eq_getElem hlt⟩
      obtain ⟨ad, eA, hblk, h0⟩ := getInt (Kd.C_below hA.out hW.out) hx0
      subst eA
      have i1 : (0 : Int) ≤ (k : Int) := by omega
      have i2 : (k : Int) < (l.length : Int) := by omega
      have e := hp.out
      rw [drop_cons_of hx0, idxI] at e
      by_cases hxn : n = x
      · rw [if_pos hxn] at e
        subst hxn
        subst e
        replace hx0 := Aside0.mk hx0
        go_wp2
        go_ret
        exact ⟨rfl, hW.out⟩
      · rw [if_neg hxn] at e
        replace e := Aside0.mk e
        replace hx0 := Aside0.mk hx0
        go_wp2
        go_roundw
        case rel => exact ⟨k + 1, by omega, by go_num, ⟨by rw [e.out]; rfl⟩, ⟨hW.out⟩⟩
        case measure => simp [intOf]; omega
    · have : k = l.length := by omega
      subst this
      have e := hp.out
      rw [List.drop_length, idxI] at e
      subst e
      go_wp2
      go_ret
      exact ⟨rfl, hW.out⟩
theorem containsInt_c (A : Option Addr) (c : Nat) (l : List Int) (n : Int) (w : World) (hA : Kd.C (Kd.int .i64) w A l.length l) : Calls Try.prog 220 #[.slice A l.length c, .int .i64 n] w fun e w' => e = .returned (.bool (hasI n l)) ∧ Below w.heap.size w w' := by
  replace hA := Aside0.mk hA
  go_enter Try.func220, Try.ntmps220
  go_wp2_with (go_at_call 243; (with_reducible refine (indexInt_c A c l n _ hA.out).mono ?_); rintro e w2 ⟨rfl, hb⟩; replace hb := Aside0.mk hb)
  go_ret
  exact ⟨rb (idxI_has n l 0 (by omega)), hb.out⟩
theorem isVlan_c (x : Int) (w : World) : Calls Try.prog 219 #[.int .i64 x] w fun e w' => e = .returned (.bool (inB x 1 4)) ∧ w = w' := by
  go_enter Try.func219, Try.ntmps219
  go_wp2_with (go_at_call 72; refine (inRange_c _ _ _ _).mono ?_; rintro e w1 ⟨rfl, rfl⟩)
  go_ret
  exact ⟨rfl, rfl⟩
theorem isAddr_c (x : Int) (w : World) : Calls Try.prog 221 #[.int .i64 x] w fun e w' => e = .returned (.bool (inB x 1 9)) ∧ w = w' := by
  go_enter Try.func221, Try.ntmps221
  go_wp2_with (go_at_call 72; refine (inRange_c _ _ _ _).mono ?_; rintro e w1 ⟨rfl, rfl⟩)
  go_ret
  exact ⟨rfl, rfl⟩
abbrev v250 (a : S250) : Value := .agg #[.int .i64 a.f0, .int .i64 a.f1, .int .i64 a.f2, .int .i64 a.f3]
theorem l3Before_c (a b : S250) (w : World) : Calls Try.prog 215 #[v250 a, v250 b] w fun e w' => e = .returned (.bool (befB a b)) ∧ Below w.heap.size w w' := by
  have hu := Try.underlying250
  go_enter Try.func215, Try.ntmps215
  go_wp2
  all_goals (go_ret; exact ⟨rb (by unfold befB; first | (simp_all; done) | (simp_all; omega)), by repeat (first | exact Below.refl _ _ | apply below_alloc | apply pw_below_drewN | apply below_drew1)⟩)
theorem ahead_c (a b : S250) (w : World) : Calls Try.prog 222 #[v250 a, v250 b] w fun e w' => e = .returned (.bool (befB a b)) ∧ Below w.heap.size w w' := by
  have hu := Try.underlying250
  go_enter Try.func222, Try.ntmps222
  go_wp2
  all_goals (go_ret; exact ⟨rb (by unfold befB; first | (simp_all; done) | (simp_all; omega)), by repeat (first | exact Below.refl _ _ | apply below_alloc | apply pw_below_drewN | apply below_drew1)⟩)
end Go.Proofs.Ytbdmnjobhfhinaa.M
namespace Go.Proofs.Ytbdmnjobhfhinaa.M
open Go.RowKit Go.Proofs.YtbdmnjobhfhinaaW.PrintWords Go.Proofs.YtbdmnjobhfhinaaW.PrintLast Go.Proofs.YtbdmnjobhfhinaaW.PrintMore
set_option linter.unusedVariables false
set_option linter.unusedSimpArgs false
set_option maxHeartbeats 4000000
set_option maxRecDepth 100000
theorem l1In_q (x lo hi : Int) (w : World) : Calls Try.prog 69 #[.int .i64 x, .int .i64 lo, .int .i64 hi] w fun e w' => e = .returned (.bool (inB x lo hi)) ∧ w' = w := (l1In_c x lo hi w).mono fun e w' ⟨h, hw⟩ => ⟨h, hw.symm⟩
theorem specMemberOk_c (v : Int) (A : Option Addr) (c : Nat) (l : List Int) (w : World) (hA : Kd.C (Kd.int .i64) w A l.length l) : Calls Try.prog 168 #[.agg #[.int .i64 v, .slice A l.length c]] w fun e w' => e = .returned (.bool (memOkB ⟨v, l⟩)) ∧ Below w.heap.size w w' := by
  have hu := Try.underlying167
  have hlen := clen hA
  have hbx0 := Aside0.mk (blk_new w (.cells #[.int .i64 v, .slice A l.length c] 167))
  have hW0 := Aside0.mk (below_alloc (Below.refl w.heap.size w) (.cells #[.int .i64 v, .slice A l.length c] 167))
  have F69v := fun W => l1In_c v 1 4 W
  have F206 := fun W h => l4Has_c A c l v W h
  obtain ⟨R, hR⟩ : ∃ R, R = memOkB ⟨v, l⟩ := ⟨_, rfl⟩
  rw [← hR]
  unfold memOkB at hR
  simp only at hR
  generalize inB v 1 4 = qv at *
  generalize hasI v l = qh at *
  replace hA := Aside0.mk hA
  replace hR := Aside0.mk hR
  go_enter Try.func168, Try.ntmps168
  go_wp2
  go_loopw [3] (fun i wr => ∃ k : Nat, k ≤ l.length ∧ i = .int .i64 k ∧ Aside0 (R = (incL (prevI l k) (l.drop k) && (qv && qh))) ∧ Aside0 (wr.heap[w.heap.size]? = some (.cells #[.int .i64 v, .slice A l.length c] 167 (0, 0))) ∧ Aside0 (Below w.heap.size w wr)) (fun i _ => l.length - (intOf i).toNat)
  case atStart => exact ⟨0, Nat.zero_le _, rfl, ⟨by simpa [prevI] using hR.out⟩, ⟨hbx0.out⟩, ⟨hW0.out⟩⟩
  case round =>
    obtain ⟨k, hk, rfl, hp, hbx, hW⟩ := hrel
    have b0 : wr.cell? ⟨w.heap.size, 0, none⟩ = some (.int .i64 v) := (blk_cell hbx.out 0).trans rfl
    have b1 : wr.cell? ⟨w.heap.size, 1, none⟩ = some (.slice A l.length c) := (blk_cell hbx.out 1).trans rfl
    have hsz := blk_lt hbx.out
    by_cases hlt : k < l.length
    · obtain ⟨x, hx0⟩ : ∃ x, l[k]? = some x := ⟨_, List.getElem?_eq_getElem hlt⟩
      obtain ⟨ad, eA, hblk, h0⟩ := getInt (Kd.C_below hA.out hW.out) hx0
      have i1 : (0 : Int) ≤ (k : Int) := by omega
      have i2 : (k : Int) < (l.length : Int) := by omega
      have e := hp.out
      rw [drop_cons_of hx0, incL] at e
      have hnext := prevI_succ hx0
      have F := fun W => l1In_q x 1 4 W
      obtain ⟨q, hq⟩ : ∃ q, q = inB x 1 4 := ⟨_, rfl⟩
      rw [← hq] at F e
      have w1 : IntKind.i64.wrap ((k : Int) - 1) = (k : Int) - 1 := IntWalk.i64_in _ (by omega)
      cases q
      · simp only [Bool.false_and] at e
        subst e
        subst eA
        replace hx0 := Aside0.mk hx0
        replace hq := Aside0.mk hq
        replace hnext := Aside0.mk hnext
        go_wp2
        go_quiet ((go_at_call 69; (with_reducible exact Calls.quiet_of_same (F _))))
        go_wp2
        go_ret
        exact ⟨rfl, by repeat (first | exact hW.out | apply below_alloc | apply pw_below_drewN | apply below_drew1)⟩
      · have hxr := inB_true hq.symm
        simp only [Bool.true_and] at e
        by_cases hk0 : k = 0
        · have i6 : (k : Int) ≤ 0 := by omega
          have d1 : decide ((0 : Int) < (k : Int)) = false := by simp; omega
          have d2 : decide (0 < k) = false := by simp; omega
          have d3 : ¬ 0 < k := by omega
          have hlt0 : decide (prevI l k < x) = true := by unfold prevI; rw [if_pos hk0]; simp; omega
          replace hk0 := Aside0.mk hk0
          rw [hlt0, Bool.true_and, ← hnext] at e
          subst eA
          replace e := Aside0.mk e
          replace hx0 := Aside0.mk hx0
          replace hq := Aside0.mk hq
          replace hnext := Aside0.mk hnext
          clear hlt0
          go_wp2
          go_quiet ((go_at_call 69; (with_reducible exact Calls.quiet_of_same (F _))))
          go_wp2
          go_roundw
          case rel => exact ⟨k + 1, by omega, by go_num, ⟨e.out⟩, ⟨blk_below hbx.out (by repeat (first | exact Below.refl _ _ | apply below_alloc | apply pw_below_drewN | apply below_drew1))⟩, ⟨by repeat (first | exact hW.out | apply below_alloc | apply pw_below_drewN | apply below_drew1)⟩⟩
          case measure => simp [intOf]; omega
        · obtain ⟨j, hj⟩ : ∃ j, k = j + 1 := ⟨k - 1, by omega⟩
          obtain ⟨y, hy0⟩ : ∃ y, l[j]? = some y := ⟨_, List.getElem?_eq_getElem (by omega)⟩
          obtain ⟨ad2, eA2, hblk2, g0⟩ := getInt (Kd.C_below hA.out hW.out) hy0
          rw [eA] at eA2
          cases eA2
          have hpy : prevI l k = y := by rw [hj]; exact prevI_succ hy0
          rw [hpy] at e
          have wj : IntKind.i64.wrap ((k : Int) - 1) = (j : Int) := by rw [w1]; omega
          have i3 : (0 : Int) ≤ (j : Int) := by omega
          have i4 : (j : Int) < (l.length : Int) := by omega
          have i5 : (0 : Int) < (k : Int) := by omega
          have d1 : decide ((0 : Int) < (k : Int)) = true := by simp; omega
          have d2 : decide (0 < k) = true := by simp; omega
          have d3 : 0 < k := by omega
          clear w1
          replace hj := Aside0.mk hj
          subst eA
          replace hx0 := Aside0.mk hx0
          replace hq := Aside0.mk hq
          replace hy0 := Aside0.mk hy0
          replace hpy := Aside0.mk hpy
          by_cases hyx : y < x
          · rw [decide_eq_true hyx, Bool.true_and, ← hnext] at e
            replace e := Aside0.mk e
            replace hnext := Aside0.mk hnext
            go_wp2
            go_quiet ((go_at_call 69; (with_reducible exact Calls.quiet_of_same (F _))))
            go_wp2
            go_roundw
            case rel => exact ⟨k + 1, by omega, by go_num, ⟨e.out⟩, ⟨blk_below hbx.out (by repeat (first | exact Below.refl _ _ | apply below_alloc | apply pw_below_drewN | apply below_drew1))⟩, ⟨by repeat (first | exact hW.out | apply below_alloc | apply pw_below_drewN | apply below_drew1)⟩⟩
            case measure => simp [intOf]; omega
          · have hxy : x ≤ y := by omega
            rw [decide_eq_false hyx, Bool.false_and, Bool.false_and] at e
            subst e
            replace hnext := Aside0.mk hnext
            go_wp2
            go_quiet ((go_at_call 69; (with_reducible exact Calls.quiet_of_same (F _))))
            go_wp2
            go_ret
            exact ⟨rfl, by repeat (first | exact hW.out | apply below_alloc | apply pw_below_drewN | apply below_drew1)⟩
    · have : k = l.length := by omega
      subst this
      have e := hp.out
      rw [List.drop_length, incL, Bool.true_and] at e
      replace e := Aside0.mk e
      cases qv
      all_goals (
        go_wp2_with (first | (go_at_call 69; (with_reducible refine (F69v _).mono ?_); rintro e w1 ⟨rfl, rfl⟩) | (go_at_call 206; (with_reducible refine (F206 _ (Kd.C_below hA.out hW.out)).mono ?_); rintro e w2 ⟨rfl, hb⟩; replace hb := Aside0.mk hb))
        go_ret
        exact ⟨rb (by rw [e.out]; simp), by first | exact hW.out | exact bthen hW.out hb.out⟩)
end Go.Proofs.Ytbdmnjobhfhinaa.M
namespace Go.Proofs.Ytbdmnjobhfhinaa.M
open Go.RowKit Go.Proofs.YtbdmnjobhfhinaaW.PrintWords Go.Proofs.YtbdmnjobhfhinaaW.PrintLast Go.Proofs.YtbdmnjobhfhinaaW.PrintMore
set_option linter.unusedVariables false
set_option linter.unusedSimpArgs false
set_option maxHeartbeats 4000000
set_option maxRecDepth 100000
theorem implMemberOk_c (v : Int) (A : Option Addr) (c : Nat) (l : List Int) (w : World) (hA : Kd.C (Kd.int .i64) w A l.length l) : Calls Try.prog 170 #[.agg #[.int .i64 v, .slice A l.length c]] w fun e w' => e = .returned (.bool (memOkB ⟨v, l⟩)) ∧ Below w.heap.size w w' := by
  have hu := Try.underlying167
  have hlen := clen hA
  have hbx0 := Aside0.mk (blk_new w (.cells #[.int .i64 v, .slice A l.length c] 167))
  have hW0 := Aside0.mk (below_alloc (Below.refl w.heap.size w) (.cells #[.int .i64 v, .slice A l.length c] 167))
  have F69v := fun W => isVlan_c v W
  have F206 := fun W h => containsInt_c A c l v W h
  obtain ⟨R, hR⟩ : ∃ R, R = memOkB ⟨v, l⟩ := ⟨_, rfl⟩
  rw [← hR]
  unfold memOkB at hR
  simp only at hR
  generalize inB v 1 4 = qv at *
  generalize hasI v l = qh at *
  replace hA := Aside0.mk hA
  replace hR := Aside0.mk hR
  go_enter Try.func170, Try.ntmps170
  go_wp2
  go_loopw [8] (fun i wr => ∃ k : Nat, k ≤ l.length ∧ i = .int .i64 k ∧ Aside0 (R = (incL (prevI l k) (l.drop k) && (qv && qh))) ∧ Aside0 (wr.heap[w.heap.size]? = some (.cells #[.int .i64 v, .slice A l.length c] 167 (0, 0))) ∧ Aside0 (Below w.heap.size w wr)) (fun i _ => l.length - (intOf i).toNat)
  case atStart => exact ⟨0, Nat.zero_le _, rfl, ⟨by simpa [prevI] using hR.out⟩, ⟨hbx0.out⟩, ⟨hW0.out⟩⟩
  case round =>
    obtain ⟨k, hk, rfl, hp, hbx, hW⟩ := hrel
    have b0 : wr.cell? ⟨w.heap.size, 0, none⟩ = some (.int .i64 v) := (blk_cell hbx.out 0).trans rfl
    have b1 : wr.cell? ⟨w.heap.size, 1, none⟩ = some (.slice A l.length c) := (blk_cell hbx.out 1).trans rfl
    have hsz := blk_lt hbx.out
    by_cases hlt : k < l.length
    · obtain ⟨x, hx0⟩ : ∃ x, l[k]? = some x := ⟨_, List.getElem?_eq_getElem hlt⟩
      obtain ⟨ad, eA, hblk, h0⟩ := getInt (Kd.C_below hA.out hW.out) hx0
      have i1 : (0 : Int) ≤ (k : Int) := by omega
      have i2 : (k : Int) < (l.length : Int) := by omega
      have e := hp.out
      rw [drop_cons_of hx0, incL] at e
      have hnext := prevI_succ hx0
      have F := fun W => isVlan_c x W
      obtain ⟨q, hq⟩ : ∃ q, q = inB x 1 4 := ⟨_, rfl⟩
      rw [← hq] at F e
      have w1 : IntKind.i64.wrap ((k : Int) - 1) = (k : Int) - 1 := IntWalk.i64_in _ (by omega)
      cases q
      · simp only [Bool.false_and] at e
        subst e
        subst eA
        replace hx0 := Aside0.mk hx0
        replace hq := Aside0.mk hq
        replace hnext := Aside0.mk hnext
        go_wp2_with (go_at_call 219; (with_reducible refine (F _).mono ?_); rintro e w1 ⟨rfl, rfl⟩)
        go_ret
        exact ⟨rfl, by repeat (first | exact hW.out | apply below_alloc | apply pw_below_drewN | apply below_drew1)⟩
      · have hxr := inB_true hq.symm
        simp only [Bool.true_and] at e
        by_cases hk0 : k = 0
        · have i6 : (k : Int) ≤ 0 := by omega
          have d1 : decide ((0 : Int) < (k : Int)) = false := by simp; omega
          have d2 : decide (0 < k) = false := by simp; omega
          have d3 : ¬ 0 < k := by omega
          have hlt0 : decide (prevI l k < x) = true := by unfold prevI; rw [if_pos hk0]; simp; omega
          replace hk0 := Aside0.mk hk0
          rw [hlt0, Bool.true_and, ← hnext] at e
          subst eA
          replace e := Aside0.mk e
          replace hx0 := Aside0.mk hx0
          replace hq := Aside0.mk hq
          replace hnext := Aside0.mk hnext
          clear hlt0
          go_wp2_with (go_at_call 219; (with_reducible refine (F _).mono ?_); rintro e w1 ⟨rfl, rfl⟩)
          go_roundw
          case rel => exact ⟨k + 1, by omega, by go_num, ⟨e.out⟩, ⟨blk_below hbx.out (by repeat (first | exact Below.refl _ _ | apply below_alloc | apply pw_below_drewN | apply below_drew1))⟩, ⟨by repeat (first | exact hW.out | apply below_alloc | apply pw_below_drewN | apply below_drew1)⟩⟩
          case measure => simp [intOf]; omega
        · obtain ⟨j, hj⟩ : ∃ j, k = j + 1 := ⟨k - 1, by omega⟩
          obtain ⟨y, hy0⟩ : ∃ y, l[j]? = some y := ⟨_, List.getElem?_eq_getElem (by omega)⟩
          obtain ⟨ad2, eA2, hblk2, g0⟩ := getInt (Kd.C_below hA.out hW.out) hy0
          rw [eA] at eA2
          cases eA2
          have hpy : prevI l k = y := by rw [hj]; exact prevI_succ hy0
          rw [hpy] at e
          have wj : IntKind.i64.wrap ((k : Int) - 1) = (j : Int) := by rw [w1]; omega
          have i3 : (0 : Int) ≤ (j : Int) := by omega
          have i4 : (j : Int) < (l.length : Int) := by omega
          have i5 : (0 : Int) < (k : Int) := by omega
          have d1 : decide ((0 : Int) < (k : Int)) = true := by simp; omega
          have d2 : decide (0 < k) = true := by simp; omega
          have d3 : 0 < k := by omega
          clear w1
          replace hj := Aside0.mk hj
          subst eA
          replace hx0 := Aside0.mk hx0
          replace hq := Aside0.mk hq
          replace hy0 := Aside0.mk hy0
          replace hpy := Aside0.mk hpy
          by_cases hyx : y < x
          · rw [decide_eq_true hyx, Bool.true_and, ← hnext] at e
            replace e := Aside0.mk e
            replace hnext := Aside0.mk hnext
            go_wp2_with (go_at_call 219; (with_reducible refine (F _).mono ?_); rintro e w1 ⟨rfl, rfl⟩)
            go_roundw
            case rel => exact ⟨k + 1, by omega, by go_num, ⟨e.out⟩, ⟨blk_below hbx.out (by repeat (first | exact Below.refl _ _ | apply below_alloc | apply pw_below_drewN | apply below_drew1))⟩, ⟨by repeat (first | exact hW.out | apply below_alloc | apply pw_below_drewN | apply below_drew1)⟩⟩
            case measure => simp [intOf]; omega
          · have hxy : x ≤ y := by omega
            rw [decide_eq_false hyx, Bool.false_and, Bool.false_and] at e
            subst e
            replace hnext := Aside0.mk hnext
            go_wp2_with (go_at_call 219; (with_reducible refine (F _).mono ?_); rintro e w1 ⟨rfl, rfl⟩)
            go_ret
            exact ⟨rfl, by repeat (first | exact hW.out | apply below_alloc | apply pw_below_drewN | apply below_drew1)⟩
    · have : k = l.length := by omega
      subst this
      have e := hp.out
      rw [List.drop_length, incL, Bool.true_and] at e
      replace e := Aside0.mk e
      cases qv
      all_goals (
        go_wp2_with (first | (go_at_call 219; (with_reducible refine (F69v _).mono ?_); rintro e w1 ⟨rfl, rfl⟩) | (go_at_call 220; (with_reducible refine (F206 _ (Kd.C_below hA.out hW.out)).mono ?_); rintro e w2 ⟨rfl, hb⟩; replace hb := Aside0.mk hb))
        go_ret
        exact ⟨rb (by rw [e.out]; simp), by first | exact hW.out | exact bthen hW.out hb.out⟩)
end Go.Proofs.Ytbdmnjobhfhinaa.M
namespace Go.Proofs.Ytbdmnjobhfhinaa.M
open Go.RowKit Go.Proofs.YtbdmnjobhfhinaaW.PrintWords Go.Proofs.YtbdmnjobhfhinaaW.PrintLast Go.Proofs.YtbdmnjobhfhinaaW.PrintMore
set_option linter.unusedVariables false
set_option linter.unusedSimpArgs false
set_option maxHeartbeats 4000000
set_option maxRecDepth 100000
theorem specTableOk_c (A : Option Addr) (c : Nat) (l : List S250) (w : World) (hA : Kd.C k250 w A l.length l) : Calls Try.prog 167 #[.slice A l.length c] w fun e w' => e = .returned (.bool (tabOkB l)) ∧ Below w.heap.size w w' := by
  have hu := Try.underlying250
  have hlen := clen hA
  obtain ⟨R, hR⟩ : ∃ R, R = tabOkB l := ⟨_, rfl⟩
  rw [← hR]
  unfold tabOkB at hR
  replace hA := Aside0.mk hA
  replace hR := Aside0.mk hR
  go_enter Try.func167, Try.ntmps167
  go_wp2
  go_loopw [3] (fun i wr => ∃ k : Nat, k ≤ l.length ∧ i = .int .i64 k ∧ Aside0 (R = (tabL (prevH l k) (l.drop k) && decide (l.length ≤ 12))) ∧ Aside0 (Below w.heap.size w wr)) (fun i _ => l.length - (intOf i).toNat)
  case atStart => exact ⟨0, Nat.zero_le _, rfl, ⟨by simpa [prevH] using hR.out⟩, ⟨Below.refl _ _⟩⟩
  case round =>
    obtain ⟨k, hk, rfl, hp, hW⟩ := hrel
    by_cases hlt : k < l.length
    · obtain ⟨x, hx0⟩ : ∃ x, l[k]? = some x := ⟨_, List.getElem?_eq_getElem hlt⟩
      obtain ⟨ad, eA, hblk, h0, h1, h2, h3⟩ := get250 (Kd.C_below hA.out hW.out) hx0
      have i1 : (0 : Int) ≤ (k : Int) := by omega
      have i2 : (k : Int) < (l.length : Int) := by omega
      have e := hp.out
      rw [drop_cons_of hx0, tabL] at e
      have hnext := prevH_succ hx0
      obtain ⟨x0, x1, x2, x3⟩ := x
      unfold heardOkB at e
      simp only at e h0 h1 h2 h3
      have F1 := fun W => l1In_q x0 1 9 W
      have F2 := fun W => l1In_q x1 1 4 W
      have F3 := fun W => l1In_q x2 0 3 W
      have F4 := fun W => l1In_q x3 1 20 W
      obtain ⟨q1, hq1⟩ : ∃ q, q = inB x0 1 9 := ⟨_, rfl⟩
      obtain ⟨q2, hq2⟩ : ∃ q, q = inB x1 1 4 := ⟨_, rfl⟩
      obtain ⟨q3, hq3⟩ : ∃ q, q = inB x2 0 3 := ⟨_, rfl⟩
      obtain ⟨q4, hq4⟩ : ∃ q, q = inB x3 1 20 := ⟨_, rfl⟩
      rw [← hq1] at F1 e
      rw [← hq2] at F2 e
      rw [← hq3] at F3 e
      rw [← hq4] at F4 e
      replace hx0 := Aside0.mk hx0
      have w1 : IntKind.i64.wrap ((k : Int) - 1) = (k : Int) - 1 := IntWalk.i64_in _ (by omega)
      cases q1
      · simp only [Bool.false_and, Bool.and_false] at e
        subst e
        subst eA
        replace hq1 := Aside0.mk hq1
        replace hq2 := Aside0.mk hq2
        replace hq3 := Aside0.mk hq3
        replace hq4 := Aside0.mk hq4
        replace hnext := Aside0.mk hnext
        go_wp2
        refine wp_same (fun wq hq _ => ?_)
        have hX := blk_below (blk_new wr (.cells #[.int .i64 x0, .int .i64 x1, .int .i64 x2, .int .i64 x3] 250)) hq
        have a0 : wq.cell? ⟨wr.heap.size, 0, none⟩ = some (.int .i64 x0) := (blk_cell hX 0).trans rfl
        have a1 : wq.cell? ⟨wr.heap.size, 1, none⟩ = some (.int .i64 x1) := (blk_cell hX 1).trans rfl
        have a2 : wq.cell? ⟨wr.heap.size, 2, none⟩ = some (.int .i64 x2) := (blk_cell hX 2).trans rfl
        have a3 : wq.cell? ⟨wr.heap.size, 3, none⟩ = some (.int .i64 x3) := (blk_cell hX 3).trans rfl
        have zX := blk_lt hX
        have hq0 := Aside0.mk (bthen (below_alloc (Below.refl wr.heap.size wr) (.cells #[.int .i64 x0, .int .i64 x1, .int .i64 x2, .int .i64 x3] 250)) hq)
        clear hX hq h0 h1 h2 h3 hblk
        go_quiet ((first | (go_at_call 69; (with_reducible exact Calls.quiet_of_same (F1 _))) | (go_at_call 69; (with_reducible exact Calls.quiet_of_same (F2 _))) | (go_at_call 69; (with_reducible exact Calls.quiet_of_same (F3 _))) | (go_at_call 69; (with_reducible exact Calls.quiet_of_same (F4 _)))))
        go_wp2
        go_ret
        exact ⟨rfl, by repeat (first | exact hW.out | apply below_alloc | apply pw_below_drewN | apply below_drew1 | refine bthen ?_ hq0.out | refine bthen ?_ hb5.out)⟩
      cases q2
      · simp only [Bool.false_and, Bool.and_false] at e
        subst e
        subst eA
        replace hq1 := Aside0.mk hq1
        replace hq2 := Aside0.mk hq2
        replace hq3 := Aside0.mk hq3
        replace hq4 := Aside0.mk hq4
        replace hnext := Aside0.mk hnext
        go_wp2
        refine wp_same (fun wq hq _ => ?_)
        have hX := blk_below (blk_new wr (.cells #[.int .i64 x0, .int .i64 x1, .int .i64 x2, .int .i64 x3] 250)) hq
        have a0 : wq.cell? ⟨wr.heap.size, 0, none⟩ = some (.int .i64 x0) := (blk_cell hX 0).trans rfl
        have a1 : wq.cell? ⟨wr.heap.size, 1, none⟩ = some (.int .i64 x1) := (blk_cell hX 1).trans rfl
        have a2 : wq.cell? ⟨wr.heap.size, 2, none⟩ = some (.int .i64 x2) := (blk_cell hX 2).trans rfl
        have a3 : wq.cell? ⟨wr.heap.size, 3, none⟩ = some (.int .i64 x3) := (blk_cell hX 3).trans rfl
        have zX := blk_lt hX
        have hq0 := Aside0.mk (bthen (below_alloc (Below.refl wr.heap.size wr) (.cells #[.int .i64 x0, .int .i64 x1, .int .i64 x2, .int .i64 x3] 250)) hq)
        clear hX hq h0 h1 h2 h3 hblk
        go_quiet ((first | (go_at_call 69; (with_reducible exact Calls.quiet_of_same (F1 _))) | (go_at_call 69; (with_reducible exact Calls.quiet_of_same (F2 _))) | (go_at_call 69; (with_reducible exact Calls.quiet_of_same (F3 _))) | (go_at_call 69; (with_reducible exact Calls.quiet_of_same (F4 _)))))
        go_wp2
        go_ret
        exact ⟨rfl, by repeat (first | exact hW.out | apply below_alloc | apply pw_below_drewN | apply below_drew1 | refine bthen ?_ hq0.out | refine bthen ?_ hb5.out)⟩
      cases q3
      · simp only [Bool.false_and, Bool.and_false] at e
        subst e
        subst eA
        replace hq1 := Aside0.mk hq1
        replace hq2 := Aside0.mk hq2
        replace hq3 := Aside0.mk hq3
        replace hq4 := Aside0.mk hq4
        replace hnext := Aside0.mk hnext
        go_wp2
        refine wp_same (fun wq hq _ => ?_)
        have hX := blk_below (blk_new wr (.cells #[.int .i64 x0, .int .i64 x1, .int .i64 x2, .int .i64 x3] 250)) hq
        have a0 : wq.cell? ⟨wr.heap.size, 0, none⟩ = some (.int .i64 x0) := (blk_cell hX 0).trans rfl
        have a1 : wq.cell? ⟨wr.heap.size, 1, none⟩ = some (.int .i64 x1) := (blk_cell hX 1).trans rfl
        have a2 : wq.cell? ⟨wr.heap.size, 2, none⟩ = some (.int .i64 x2) := (blk_cell hX 2).trans rfl
        have a3 : wq.cell? ⟨wr.heap.size, 3, none⟩ = some (.int .i64 x3) := (blk_cell hX 3).trans rfl
        have zX := blk_lt hX
        have hq0 := Aside0.mk (bthen (below_alloc (Below.refl wr.heap.size wr) (.cells #[.int .i64 x0, .int .i64 x1, .int .i64 x2, .int .i64 x3] 250)) hq)
        clear hX hq h0 h1 h2 h3 hblk
        go_quiet ((first | (go_at_call 69; (with_reducible exact Calls.quiet_of_same (F1 _))) | (go_at_call 69; (with_reducible exact Calls.quiet_of_same (F2 _))) | (go_at_call 69; (with_reducible exact Calls.quiet_of_same (F3 _))) | (go_at_call 69; (with_reducible exact Calls.quiet_of_same (F4 _)))))
        go_wp2
        go_ret
        exact ⟨rfl, by repeat (first | exact hW.out | apply below_alloc | apply pw_below_drewN | apply below_drew1 | refine bthen ?_ hq0.out | refine bthen ?_ hb5.out)⟩
      cases q4
      · simp only [Bool.false_and, Bool.and_false] at e
        subst e
        subst eA
        replace hq1 := Aside0.mk hq1
        replace hq2 := Aside0.mk hq2
        replace hq3 := Aside0.mk hq3
        replace hq4 := Aside0.mk hq4
        replace hnext := Aside0.mk hnext
        go_wp2
        refine wp_same (fun wq hq _ => ?_)
        have hX := blk_below (blk_new wr (.cells #[.int .i64 x0, .int .i64 x1, .int .i64 x2, .int .i64 x3] 250)) hq
        have a0 : wq.cell? ⟨wr.heap.size, 0, none⟩ = some (.int .i64 x0) := (blk_cell hX 0).trans rfl
        have a1 : wq.cell? ⟨wr.heap.size, 1, none⟩ = some (.int .i64 x1) := (blk_cell hX 1).trans rfl
        have a2 : wq.cell? ⟨wr.heap.size, 2, none⟩ = some (.int .i64 x2) := (blk_cell hX 2).trans rfl
        have a3 : wq.cell? ⟨wr.heap.size, 3, none⟩ = some (.int .i64 x3) := (blk_cell hX 3).trans rfl
        have zX := blk_lt hX
        have hq0 := Aside0.mk (bthen (below_alloc (Below.refl wr.heap.size wr) (.cells #[.int .i64 x0, .int .i64 x1, .int .i64 x2, .int .i64 x3] 250)) hq)
        clear hX hq h0 h1 h2 h3 hblk
        go_quiet ((first | (go_at_call 69; (with_reducible exact Calls.quiet_of_same (F1 _))) | (go_at_call 69; (with_reducible exact Calls.quiet_of_same (F2 _))) | (go_at_call 69; (with_reducible exact Calls.quiet_of_same (F3 _))) | (go_at_call 69; (with_reducible exact Calls.quiet_of_same (F4 _)))))
        go_wp2
        go_ret
        exact ⟨rfl, by repeat (first | exact hW.out | apply below_alloc | apply pw_below_drewN | apply below_drew1 | refine bthen ?_ hq0.out | refine bthen ?_ hb5.out)⟩
      have hx1 := inB_true hq2.symm
      simp only [Bool.and_self, Bool.true_and] at e
      replace hq1 := Aside0.mk hq1
      replace hq2 := Aside0.mk hq2
      replace hq3 := Aside0.mk hq3
      replace hq4 := Aside0.mk hq4
      by_cases hk0 : k = 0
      · have hbt : befB (prevH l k) ⟨x0, x1, x2, x3⟩ = true := by
          have hd : decide ((0 : Int) < x1) = true := by simp; omega
          unfold prevH befB; rw [if_pos hk0]
          show (decide ((0 : Int) < x1) || _) = true
          rw [hd]; rfl
        rw [hbt, Bool.true_and, ← hnext] at e
        have d1 : decide ((0 : Int) < (k : Int)) = false := by simp; omega
        have d2 : decide (0 < k) = false := by simp; omega
        have d3 : ¬ 0 < k := by omega
        subst eA
        clear hbt
        replace e := Aside0.mk e
        replace hnext := Aside0.mk hnext
        replace hk0 := Aside0.mk hk0
        go_wp2
        refine wp_same (fun wq hq _ => ?_)
        have hX := blk_below (blk_new wr (.cells #[.int .i64 x0, .int .i64 x1, .int .i64 x2, .int .i64 x3] 250)) hq
        have a0 : wq.cell? ⟨wr.heap.size, 0, none⟩ = some (.int .i64 x0) := (blk_cell hX 0).trans rfl
        have a1 : wq.cell? ⟨wr.heap.size, 1, none⟩ = some (.int .i64 x1) := (blk_cell hX 1).trans rfl
        have a2 : wq.cell? ⟨wr.heap.size, 2, none⟩ = some (.int .i64 x2) := (blk_cell hX 2).trans rfl
        have a3 : wq.cell? ⟨wr.heap.size, 3, none⟩ = some (.int .i64 x3) := (blk_cell hX 3).trans rfl
        have zX := blk_lt hX
        have hq0 := Aside0.mk (bthen (below_alloc (Below.refl wr.heap.size wr) (.cells #[.int .i64 x0, .int .i64 x1, .int .i64 x2, .int .i64 x3] 250)) hq)
        clear hX hq h0 h1 h2 h3 hblk
        go_quiet ((first | (go_at_call 69; (with_reducible exact Calls.quiet_of_same (F1 _))) | (go_at_call 69; (with_reducible exact Calls.quiet_of_same (F2 _))) | (go_at_call 69; (with_reducible exact Calls.quiet_of_same (F3 _))) | (go_at_call 69; (with_reducible exact Calls.quiet_of_same (F4 _)))))
        go_wp2
        go_roundw
        case rel => exact ⟨k + 1, by omega, by go_num, ⟨e.out⟩, ⟨by repeat (first | exact hW.out | apply below_alloc | apply pw_below_drewN | apply below_drew1 | refine bthen ?_ hq0.out | refine bthen ?_ hb5.out)⟩⟩
        case measure => simp [intOf]; omega
      · obtain ⟨j, hj⟩ : ∃ j, k = j + 1 := ⟨k - 1, by omega⟩
        obtain ⟨y, hy0⟩ : ∃ y, l[j]? = some y := ⟨_, List.getElem?_eq_getElem (by omega)⟩
        have hpy : prevH l k = y := by rw [hj]; exact prevH_succ hy0
        rw [hpy] at e
        have F5 := fun W => l3Before_c y ⟨x0, x1, x2, x3⟩ W
        obtain ⟨qb, hqb⟩ : ∃ q, q = befB y ⟨x0, x1, x2, x3⟩ := ⟨_, rfl⟩
        rw [← hqb] at e F5
        have wj : IntKind.i64.wrap ((k : Int) - 1) = (j : Int) := by rw [w1]; omega
        have i3 : (0 : Int) ≤ (j : Int) := by omega
        have i4 : (j : Int) < (l.length : Int) := by omega
        have i5 : (0 : Int) < (k : Int) := by omega
        have d1 : decide ((0 : Int) < (k : Int)) = true := by simp; omega
        have d2 : decide (0 < k) = true := by simp; omega
        have d3 : 0 < k := by omega
        clear w1
        subst eA
        replace hj := Aside0.mk hj
        replace hpy := Aside0.mk hpy
        replace hqb := Aside0.mk hqb
        replace hy0 := Aside0.mk hy0
        obtain ⟨y0, y1, y2, y3⟩ := y
        cases qb
        · simp only [Bool.false_and] at e
          subst e
          replace hnext := Aside0.mk hnext
          go_wp2
          refine wp_same (fun wq hq _ => ?_)
          have hX := blk_below (blk_new wr (.cells #[.int .i64 x0, .int .i64 x1, .int .i64 x2, .int .i64 x3] 250)) hq
          have a0 : wq.cell? ⟨wr.heap.size, 0, none⟩ = some (.int .i64 x0) := (blk_cell hX 0).trans rfl
          have a1 : wq.cell? ⟨wr.heap.size, 1, none⟩ = some (.int .i64 x1) := (blk_cell hX 1).trans rfl
          have a2 : wq.cell? ⟨wr.heap.size, 2, none⟩ = some (.int .i64 x2) := (blk_cell hX 2).trans rfl
          have a3 : wq.cell? ⟨wr.heap.size, 3, none⟩ = some (.int .i64 x3) := (blk_cell hX 3).trans rfl
          have zX := blk_lt hX
          have hq0 := Aside0.mk (bthen (below_alloc (Below.refl wr.heap.size wr) (.cells #[.int .i64 x0, .int .i64 x1, .int .i64 x2, .int .i64 x3] 250)) hq)
          clear hX hq h0 h1 h2 h3 hblk
          obtain ⟨adj, eAj, hbj, b0, b1, b2, b3⟩ := get250 (Kd.C_below (Kd.C_below hA.out hW.out) hq0.out) hy0.out
          cases eAj
          simp only at b0 b1 b2 b3
          go_region_held3 (fun w' => w'.cell? ⟨wr.heap.size, 0, none⟩ = some (.int .i64 x0) ∧ w'.cell? ⟨wr.heap.size, 1, none⟩ = some (.int .i64 x1) ∧ w'.cell? ⟨wr.heap.size, 2, none⟩ = some (.int .i64 x2) ∧ w'.cell? ⟨wr.heap.size, 3, none⟩ = some (.int .i64 x3) ∧ w'.cell? (ad.add (j * 4)) = some (.int .i64 y0) ∧ w'.cell? ⟨(ad.add (j * 4)).block, (ad.add (j * 4)).off + 1, none⟩ = some (.int .i64 y1) ∧ w'.cell? ⟨(ad.add (j * 4)).block, (ad.add (j * 4)).off + 2, none⟩ = some (.int .i64 y2) ∧ w'.cell? ⟨(ad.add (j * 4)).block, (ad.add (j * 4)).off + 3, none⟩ = some (.int .i64 y3)) (first | exact ⟨a0, a1, a2, a3, b0, b1, b2, b3⟩ | exact hs5.out) (first | (go_at_call 69; (with_reducible refine (F1 _).mono ?_); rintro e1 w1 ⟨rfl, rfl⟩) | (go_at_call 69; (with_reducible refine (F2 _).mono ?_); rintro e1 w1 ⟨rfl, rfl⟩) | (go_at_call 69; (with_reducible refine (F3 _).mono ?_); rintro e1 w1 ⟨rfl, rfl⟩) | (go_at_call 69; (with_reducible refine (F4 _).mono ?_); rintro e1 w1 ⟨rfl, rfl⟩) | (go_at_call 215; (with_reducible refine (F5 _).mono ?_); rintro e5 w5 ⟨rfl, hb5⟩; have hs5 := Aside0.mk (show w5.cell? ⟨wr.heap.size, 0, none⟩ = some (.int .i64 x0) ∧ w5.cell? ⟨wr.heap.size, 1, none⟩ = some (.int .i64 x1) ∧ w5.cell? ⟨wr.heap.size, 2, none⟩ = some (.int .i64 x2) ∧ w5.cell? ⟨wr.heap.size, 3, none⟩ = some (.int .i64 x3) ∧ w5.cell? (ad.add (j * 4)) = some (.int .i64 y0) ∧ w5.cell? ⟨(ad.add (j * 4)).block, (ad.add (j * 4)).off + 1, none⟩ = some (.int .i64 y1) ∧ w5.cell? ⟨(ad.add (j * 4)).block, (ad.add (j * 4)).off + 2, none⟩ = some (.int .i64 y2) ∧ w5.cell? ⟨(ad.add (j * 4)).block, (ad.add (j * 4)).off + 3, none⟩ = some (.int .i64 y3) from ⟨(hb5.cell zX).trans a0, (hb5.cell zX).trans a1, (hb5.cell zX).trans a2, (hb5.cell zX).trans a3, (hb5.cell hbj).trans b0, (hb5.cell (p := ⟨(ad.add (j * 4)).block, (ad.add (j * 4)).off + 1, none⟩) hbj).trans b1, (hb5.cell (p := ⟨(ad.add (j * 4)).block, (ad.add (j * 4)).off + 2, none⟩) hbj).trans b2, (hb5.cell (p := ⟨(ad.add (j * 4)).block, (ad.add (j * 4)).off + 3, none⟩) hbj).trans b3⟩); replace hb5 := Aside0.mk hb5))
          go_wp2
          go_ret
          exact ⟨rfl, by repeat (first | exact hW.out | apply below_alloc | apply pw_below_drewN | apply below_drew1 | refine bthen ?_ hq0.out | refine bthen ?_ hb5.out)⟩
        · rw [Bool.true_and, ← hnext] at e
          replace e := Aside0.mk e
          replace hnext := Aside0.mk hnext
          go_wp2
          refine wp_same (fun wq hq _ => ?_)
          have hX := blk_below (blk_new wr (.cells #[.int .i64 x0, .int .i64 x1, .int .i64 x2, .int .i64 x3] 250)) hq
          have a0 : wq.cell? ⟨wr.heap.size, 0, none⟩ = some (.int .i64 x0) := (blk_cell hX 0).trans rfl
          have a1 : wq.cell? ⟨wr.heap.size, 1, none⟩ = some (.int .i64 x1) := (blk_cell hX 1).trans rfl
          have a2 : wq.cell? ⟨wr.heap.size, 2, none⟩ = some (.int .i64 x2) := (blk_cell hX 2).trans rfl
          have a3 : wq.cell? ⟨wr.heap.size, 3, none⟩ = some (.int .i64 x3) := (blk_cell hX 3).trans rfl
          have zX := blk_lt hX
          have hq0 := Aside0.mk (bthen (below_alloc (Below.refl wr.heap.size wr) (.cells #[.int .i64 x0, .int .i64 x1, .int .i64 x2, .int .i64 x3] 250)) hq)
          clear hX hq h0 h1 h2 h3 hblk
          obtain ⟨adj, eAj, hbj, b0, b1, b2, b3⟩ := get250 (Kd.C_below (Kd.C_below hA.out hW.out) hq0.out) hy0.out
          cases eAj
          simp only at b0 b1 b2 b3
          go_region_held3 (fun w' => w'.cell? ⟨wr.heap.size, 0, none⟩ = some (.int .i64 x0) ∧ w'.cell? ⟨wr.heap.size, 1, none⟩ = some (.int .i64 x1) ∧ w'.cell? ⟨wr.heap.size, 2, none⟩ = some (.int .i64 x2) ∧ w'.cell? ⟨wr.heap.size, 3, none⟩ = some (.int .i64 x3) ∧ w'.cell? (ad.add (j * 4)) = some (.int .i64 y0) ∧ w'.cell? ⟨(ad.add (j * 4)).block, (ad.add (j * 4)).off + 1, none⟩ = some (.int .i64 y1) ∧ w'.cell? ⟨(ad.add (j * 4)).block, (ad.add (j * 4)).off + 2, none⟩ = some (.int .i64 y2) ∧ w'.cell? ⟨(ad.add (j * 4)).block, (ad.add (j * 4)).off + 3, none⟩ = some (.int .i64 y3)) (first | exact ⟨a0, a1, a2, a3, b0, b1, b2, b3⟩ | exact hs5.out) (first | (go_at_call 69; (with_reducible refine (F1 _).mono ?_); rintro e1 w1 ⟨rfl, rfl⟩) | (go_at_call 69; (with_reducible refine (F2 _).mono ?_); rintro e1 w1 ⟨rfl, rfl⟩) | (go_at_call 69; (with_reducible refine (F3 _).mono ?_); rintro e1 w1 ⟨rfl, rfl⟩) | (go_at_call 69; (with_reducible refine (F4 _).mono ?_); rintro e1 w1 ⟨rfl, rfl⟩) | (go_at_call 215; (with_reducible refine (F5 _).mono ?_); rintro e5 w5 ⟨rfl, hb5⟩; have hs5 := Aside0.mk (show w5.cell? ⟨wr.heap.size, 0, none⟩ = some (.int .i64 x0) ∧ w5.cell? ⟨wr.heap.size, 1, none⟩ = some (.int .i64 x1) ∧ w5.cell? ⟨wr.heap.size, 2, none⟩ = some (.int .i64 x2) ∧ w5.cell? ⟨wr.heap.size, 3, none⟩ = some (.int .i64 x3) ∧ w5.cell? (ad.add (j * 4)) = some (.int .i64 y0) ∧ w5.cell? ⟨(ad.add (j * 4)).block, (ad.add (j * 4)).off + 1, none⟩ = some (.int .i64 y1) ∧ w5.cell? ⟨(ad.add (j * 4)).block, (ad.add (j * 4)).off + 2, none⟩ = some (.int .i64 y2) ∧ w5.cell? ⟨(ad.add (j * 4)).block, (ad.add (j * 4)).off + 3, none⟩ = some (.int .i64 y3) from ⟨(hb5.cell zX).trans a0, (hb5.cell zX).trans a1, (hb5.cell zX).trans a2, (hb5.cell zX).trans a3, (hb5.cell hbj).trans b0, (hb5.cell (p := ⟨(ad.add (j * 4)).block, (ad.add (j * 4)).off + 1, none⟩) hbj).trans b1, (hb5.cell (p := ⟨(ad.add (j * 4)).block, (ad.add (j * 4)).off + 2, none⟩) hbj).trans b2, (hb5.cell (p := ⟨(ad.add (j * 4)).block, (ad.add (j * 4)).off + 3, none⟩) hbj).trans b3⟩); replace hb5 := Aside0.mk hb5))
          go_wp2
          go_roundw
          case rel => exact ⟨k + 1, by omega, by go_num, ⟨e.out⟩, ⟨by repeat (first | exact hW.out | apply below_alloc | apply pw_below_drewN | apply below_drew1 | refine bthen ?_ hq0.out | refine bthen ?_ hb5.out)⟩⟩
          case measure => simp [intOf]; omega
    · have : k = l.length := by omega
      subst this
      have e := hp.out
      rw [List.drop_length, tabL, Bool.true_and] at e
      replace e := Aside0.mk e
      go_wp2
      go_ret
      exact ⟨rb (by rw [e.out]; simp; omega), hW.out⟩
end Go.Proofs.Ytbdmnjobhfhinaa.M
namespace Go.Proofs.Ytbdmnjobhfhinaa.M
open Go.RowKit Go.Proofs.YtbdmnjobhfhinaaW.PrintWords Go.Proofs.YtbdmnjobhfhinaaW.PrintLast Go.Proofs.YtbdmnjobhfhinaaW.PrintMore
set_option linter.unusedVariables false
set_option linter.unusedSimpArgs false
set_option maxHeartbeats 4000000
set_option maxRecDepth 100000
theorem implTableOk_c (A : Option Addr) (c : Nat) (l : List S250) (w : World) (hA : Kd.C k250 w A l.length l) : Calls Try.prog 171 #[.slice A l.length c] w fun e w' => e = .returned (.bool (tabOkB l)) ∧ Below w.heap.size w w' := by
  have hu := Try.underlying250
  have hlen := clen hA
  obtain ⟨R, hR⟩ : ∃ R, R = tabOkB l := ⟨_, rfl⟩
  rw [← hR]
  unfold tabOkB at hR
  replace hA := Aside0.mk hA
  replace hR := Aside0.mk hR
  go_enter Try.func171, Try.ntmps171
  go_wp2
  go_loopw [7] (fun i wr => ∃ k : Nat, k ≤ l.length ∧ i = .int .i64 k ∧ Aside0 (R = (tabL (prevH l k) (l.drop k) && decide (l.length ≤ 12))) ∧ Aside0 (Below w.heap.size w wr)) (fun i _ => l.length - (intOf i).toNat)
  case atStart => exact ⟨0, Nat.zero_le _, rfl, ⟨by simpa [prevH] using hR.out⟩, ⟨Below.refl _ _⟩⟩
  case round =>
    obtain ⟨k, hk, rfl, hp, hW⟩ := hrel
    by_cases hlt : k < l.length
    · obtain ⟨x, hx0⟩ : ∃ x, l[k]? = some x := ⟨_, List.getElem?_eq_getElem hlt⟩
      obtain ⟨ad, eA, hblk, h0, h1, h2, h3⟩ := get250 (Kd.C_below hA.out hW.out) hx0
      have i1 : (0 : Int) ≤ (k : Int) := by omega
      have i2 : (k : Int) < (l.length : Int) := by omega
      have e := hp.out
      rw [drop_cons_of hx0, tabL] at e
      have hnext := prevH_succ hx0
      obtain ⟨x0, x1, x2, x3⟩ := x
      unfold heardOkB at e
      simp only at e h0 h1 h2 h3
      have F1 := fun W => isAddr_c x0 W
      have F2 := fun W => isVlan_c x1 W
      have F3 := fun W => isPort_c x2 W
      have F4 := fun W => inRange_c x3 1 20 W
      obtain ⟨q1, hq1⟩ : ∃ q, q = inB x0 1 9 := ⟨_, rfl⟩
      obtain ⟨q2, hq2⟩ : ∃ q, q = inB x1 1 4 := ⟨_, rfl⟩
      obtain ⟨q3, hq3⟩ : ∃ q, q = inB x2 0 3 := ⟨_, rfl⟩
      obtain ⟨q4, hq4⟩ : ∃ q, q = inB x3 1 20 := ⟨_, rfl⟩
      rw [← hq1] at F1 e
      rw [← hq2] at F2 e
      rw [← hq3] at F3 e
      rw [← hq4] at F4 e
      replace hx0 := Aside0.mk hx0
      have w1 : IntKind.i64.wrap ((k : Int) - 1) = (k : Int) - 1 := IntWalk.i64_in _ (by omega)
      cases q1
      · simp only [Bool.false_and, Bool.and_false] at e
        subst e
        subst eA
        replace hq1 := Aside0.mk hq1
        replace hq2 := Aside0.mk hq2
        replace hq3 := Aside0.mk hq3
        replace hq4 := Aside0.mk hq4
        replace hnext := Aside0.mk hnext
        go_wp2_with (first | (go_at_call 221; (with_reducible refine (F1 _).mono ?_); rintro e1 w1 ⟨rfl, rfl⟩) | (go_at_call 219; (with_reducible refine (F2 _).mono ?_); rintro e1 w1 ⟨rfl, rfl⟩) | (go_at_call 198; (with_reducible refine (F3 _).mono ?_); rintro e1 w1 ⟨rfl, rfl⟩) | (go_at_call 72; (with_reducible refine (F4 _).mono ?_); rintro e1 w1 ⟨rfl, rfl⟩))
        go_ret
        exact ⟨rfl, by repeat (first | exact hW.out | apply below_alloc | apply pw_below_drewN | apply below_drew1 | refine bthen ?_ hq0.out | refine bthen ?_ hb5.out)⟩
      cases q2
      · simp only [Bool.false_and, Bool.and_false] at e
        subst e
        subst eA
        replace hq1 := Aside0.mk hq1
        replace hq2 := Aside0.mk hq2
        replace hq3 := Aside0.mk hq3
        replace hq4 := Aside0.mk hq4
        replace hnext := Aside0.mk hnext
        go_wp2_with (first | (go_at_call 221; (with_reducible refine (F1 _).mono ?_); rintro e1 w1 ⟨rfl, rfl⟩) | (go_at_call 219; (with_reducible refine (F2 _).mono ?_); rintro e1 w1 ⟨rfl, rfl⟩) | (go_at_call 198; (with_reducible refine (F3 _).mono ?_); rintro e1 w1 ⟨rfl, rfl⟩) | (go_at_call 72; (with_reducible refine (F4 _).mono ?_); rintro e1 w1 ⟨rfl, rfl⟩))
        go_ret
        exact ⟨rfl, by repeat (first | exact hW.out | apply below_alloc | apply pw_below_drewN | apply below_drew1 | refine bthen ?_ hq0.out | refine bthen ?_ hb5.out)⟩
      cases q3
      · simp only [Bool.false_and, Bool.and_false] at e
        subst e
        subst eA
        replace hq1 := Aside0.mk hq1
        replace hq2 := Aside0.mk hq2
        replace hq3 := Aside0.mk hq3
        replace hq4 := Aside0.mk hq4
        replace hnext := Aside0.mk hnext
        go_wp2_with (first | (go_at_call 221; (with_reducible refine (F1 _).mono ?_); rintro e1 w1 ⟨rfl, rfl⟩) | (go_at_call 219; (with_reducible refine (F2 _).mono ?_); rintro e1 w1 ⟨rfl, rfl⟩) | (go_at_call 198; (with_reducible refine (F3 _).mono ?_); rintro e1 w1 ⟨rfl, rfl⟩) | (go_at_call 72; (with_reducible refine (F4 _).mono ?_); rintro e1 w1 ⟨rfl, rfl⟩))
        go_ret
        exact ⟨rfl, by repeat (first | exact hW.out | apply below_alloc | apply pw_below_drewN | apply below_drew1 | refine bthen ?_ hq0.out | refine bthen ?_ hb5.out)⟩
      cases q4
      · simp only [Bool.false_and, Bool.and_false] at e
        subst e
        subst eA
        replace hq1 := Aside0.mk hq1
        replace hq2 := Aside0.mk hq2
        replace hq3 := Aside0.mk hq3
        replace hq4 := Aside0.mk hq4
        replace hnext := Aside0.mk hnext
        go_wp2_with (first | (go_at_call 221; (with_reducible refine (F1 _).mono ?_); rintro e1 w1 ⟨rfl, rfl⟩) | (go_at_call 219; (with_reducible refine (F2 _).mono ?_); rintro e1 w1 ⟨rfl, rfl⟩) | (go_at_call 198; (with_reducible refine (F3 _).mono ?_); rintro e1 w1 ⟨rfl, rfl⟩) | (go_at_call 72; (with_reducible refine (F4 _).mono ?_); rintro e1 w1 ⟨rfl, rfl⟩))
        go_ret
        exact ⟨rfl, by repeat (first | exact hW.out | apply below_alloc | apply pw_below_drewN | apply below_drew1 | refine bthen ?_ hq0.out | refine bthen ?_ hb5.out)⟩
      have hx1 := inB_true hq2.symm
      simp only [Bool.and_self, Bool.true_and] at e
      replace hq1 := Aside0.mk hq1
      replace hq2 := Aside0.mk hq2
      replace hq3 := Aside0.mk hq3
      replace hq4 := Aside0.mk hq4
      by_cases hk0 : k = 0
      · have hbt : befB (prevH l k) ⟨x0, x1, x2, x3⟩ = true := by
          have hd : decide ((0 : Int) < x1) = true := by simp; omega
          unfold prevH befB; rw [if_pos hk0]
          show (decide ((0 : Int) < x1) || _) = true
          rw [hd]; rfl
        rw [hbt, Bool.true_and, ← hnext] at e
        have d1 : decide ((0 : Int) < (k : Int)) = false := by simp; omega
        have d2 : decide (0 < k) = false := by simp; omega
        have d3 : ¬ 0 < k := by omega
        subst eA
        clear hbt
        replace e := Aside0.mk e
        replace hnext := Aside0.mk hnext
        replace hk0 := Aside0.mk hk0
        go_wp2_with (first | (go_at_call 221; (with_reducible refine (F1 _).mono ?_); rintro e1 w1 ⟨rfl, rfl⟩) | (go_at_call 219; (with_reducible refine (F2 _).mono ?_); rintro e1 w1 ⟨rfl, rfl⟩) | (go_at_call 198; (with_reducible refine (F3 _).mono ?_); rintro e1 w1 ⟨rfl, rfl⟩) | (go_at_call 72; (with_reducible refine (F4 _).mono ?_); rintro e1 w1 ⟨rfl, rfl⟩))
        refine wp_same (fun wq hq _ => ?_)
        have hX := blk_below (blk_new wr (.cells #[.int .i64 x0, .int .i64 x1, .int .i64 x2, .int .i64 x3] 250)) hq
        have a0 : wq.cell? ⟨wr.heap.size, 0, none⟩ = some (.int .i64 x0) := (blk_cell hX 0).trans rfl
        have a1 : wq.cell? ⟨wr.heap.size, 1, none⟩ = some (.int .i64 x1) := (blk_cell hX 1).trans rfl
        have a2 : wq.cell? ⟨wr.heap.size, 2, none⟩ = some (.int .i64 x2) := (blk_cell hX 2).trans rfl
        have a3 : wq.cell? ⟨wr.heap.size, 3, none⟩ = some (.int .i64 x3) := (blk_cell hX 3).trans rfl
        have zX := blk_lt hX
        have hq0 := Aside0.mk (bthen (below_alloc (Below.refl wr.heap.size wr) (.cells #[.int .i64 x0, .int .i64 x1, .int .i64 x2, .int .i64 x3] 250)) hq)
        clear hX hq h0 h1 h2 h3 hblk
        go_quiet (fail)
        go_wp2
        go_roundw
        case rel => exact ⟨k + 1, by omega, by go_num, ⟨e.out⟩, ⟨by repeat (first | exact hW.out | apply below_alloc | apply pw_below_drewN | apply below_drew1 | refine bthen ?_ hq0.out | refine bthen ?_ hb5.out)⟩⟩
        case measure => simp [intOf]; omega
      · obtain ⟨j, hj⟩ : ∃ j, k = j + 1 := ⟨k - 1, by omega⟩
        obtain ⟨y, hy0⟩ : ∃ y, l[j]? = some y := ⟨_, List.getElem?_eq_getElem (by omega)⟩
        have hpy : prevH l k = y := by rw [hj]; exact prevH_succ hy0
        rw [hpy] at e
        have F5 := fun W => ahead_c y ⟨x0, x1, x2, x3⟩ W
        obtain ⟨qb, hqb⟩ : ∃ q, q = befB y ⟨x0, x1, x2, x3⟩ := ⟨_, rfl⟩
        rw [← hqb] at e F5
        have wj : IntKind.i64.wrap ((k : Int) - 1) = (j : Int) := by rw [w1]; omega
        have i3 : (0 : Int) ≤ (j : Int) := by omega
        have i4 : (j : Int) < (l.length : Int) := by omega
        have i5 : (0 : Int) < (k : Int) := by omega
        have d1 : decide ((0 : Int) < (k : Int)) = true := by simp; omega
        have d2 : decide (0 < k) = true := by simp; omega
        have d3 : 0 < k := by omega
        clear w1
        subst eA
        replace hj := Aside0.mk hj
        replace hpy := Aside0.mk hpy
        replace hqb := Aside0.mk hqb
        replace hy0 := Aside0.mk hy0
        obtain ⟨y0, y1, y2, y3⟩ := y
        cases qb
        · simp only [Bool.false_and] at e
          subst e
          replace hnext := Aside0.mk hnext
          go_wp2_with (first | (go_at_call 221; (with_reducible refine (F1 _).mono ?_); rintro e1 w1 ⟨rfl, rfl⟩) | (go_at_call 219; (with_reducible refine (F2 _).mono ?_); rintro e1 w1 ⟨rfl, rfl⟩) | (go_at_call 198; (with_reducible refine (F3 _).mono ?_); rintro e1 w1 ⟨rfl, rfl⟩) | (go_at_call 72; (with_reducible refine (F4 _).mono ?_); rintro e1 w1 ⟨rfl, rfl⟩))
          refine wp_same (fun wq hq _ => ?_)
          have hX := blk_below (blk_new wr (.cells #[.int .i64 x0, .int .i64 x1, .int .i64 x2, .int .i64 x3] 250)) hq
          have a0 : wq.cell? ⟨wr.heap.size, 0, none⟩ = some (.int .i64 x0) := (blk_cell hX 0).trans rfl
          have a1 : wq.cell? ⟨wr.heap.size, 1, none⟩ = some (.int .i64 x1) := (blk_cell hX 1).trans rfl
          have a2 : wq.cell? ⟨wr.heap.size, 2, none⟩ = some (.int .i64 x2) := (blk_cell hX 2).trans rfl
          have a3 : wq.cell? ⟨wr.heap.size, 3, none⟩ = some (.int .i64 x3) := (blk_cell hX 3).trans rfl
          have zX := blk_lt hX
          have hq0 := Aside0.mk (bthen (below_alloc (Below.refl wr.heap.size wr) (.cells #[.int .i64 x0, .int .i64 x1, .int .i64 x2, .int .i64 x3] 250)) hq)
          clear hX hq h0 h1 h2 h3 hblk
          obtain ⟨adj, eAj, hbj, b0, b1, b2, b3⟩ := get250 (Kd.C_below (Kd.C_below hA.out hW.out) hq0.out) hy0.out
          cases eAj
          simp only at b0 b1 b2 b3
          go_region_held3 (fun w' => w'.cell? ⟨wr.heap.size, 0, none⟩ = some (.int .i64 x0) ∧ w'.cell? ⟨wr.heap.size, 1, none⟩ = some (.int .i64 x1) ∧ w'.cell? ⟨wr.heap.size, 2, none⟩ = some (.int .i64 x2) ∧ w'.cell? ⟨wr.heap.size, 3, none⟩ = some (.int .i64 x3) ∧ w'.cell? (ad.add (j * 4)) = some (.int .i64 y0) ∧ w'.cell? ⟨(ad.add (j * 4)).block, (ad.add (j * 4)).off + 1, none⟩ = some (.int .i64 y1) ∧ w'.cell? ⟨(ad.add (j * 4)).block, (ad.add (j * 4)).off + 2, none⟩ = some (.int .i64 y2) ∧ w'.cell? ⟨(ad.add (j * 4)).block, (ad.add (j * 4)).off + 3, none⟩ = some (.int .i64 y3)) (first | exact ⟨a0, a1, a2, a3, b0, b1, b2, b3⟩ | exact hs5.out) (first | (go_at_call 222; (with_reducible refine (F5 _).mono ?_); rintro e5 w5 ⟨rfl, hb5⟩; have hs5 := Aside0.mk (show w5.cell? ⟨wr.heap.size, 0, none⟩ = some (.int .i64 x0) ∧ w5.cell? ⟨wr.heap.size, 1, none⟩ = some (.int .i64 x1) ∧ w5.cell? ⟨wr.heap.size, 2, none⟩ = some (.int .i64 x2) ∧ w5.cell? ⟨wr.heap.size, 3, none⟩ = some (.int .i64 x3) ∧ w5.cell? (ad.add (j * 4)) = some (.int .i64 y0) ∧ w5.cell? ⟨(ad.add (j * 4)).block, (ad.add (j * 4)).off + 1, none⟩ = some (.int .i64 y1) ∧ w5.cell? ⟨(ad.add (j * 4)).block, (ad.add (j * 4)).off + 2, none⟩ = some (.int .i64 y2) ∧ w5.cell? ⟨(ad.add (j * 4)).block, (ad.add (j * 4)).off + 3, none⟩ = some (.int .i64 y3) from ⟨(hb5.cell zX).trans a0, (hb5.cell zX).trans a1, (hb5.cell zX).trans a2, (hb5.cell zX).trans a3, (hb5.cell hbj).trans b0, (hb5.cell (p := ⟨(ad.add (j * 4)).block, (ad.add (j * 4)).off + 1, none⟩) hbj).trans b1, (hb5.cell (p := ⟨(ad.add (j * 4)).block, (ad.add (j * 4)).off + 2, none⟩) hbj).trans b2, (hb5.cell (p := ⟨(ad.add (j * 4)).block, (ad.add (j * 4)).off + 3, none⟩) hbj).trans b3⟩); replace hb5 := Aside0.mk hb5))
          go_wp2
          go_ret
          exact ⟨rfl, by repeat (first | exact hW.out | apply below_alloc | apply pw_below_drewN | apply below_drew1 | refine bthen ?_ hq0.out | refine bthen ?_ hb5.out)⟩
        · rw [Bool.true_and, ← hnext] at e
          replace e := Aside0.mk e
          replace hnext := Aside0.mk hnext
          go_wp2_with (first | (go_at_call 221; (with_reducible refine (F1 _).mono ?_); rintro e1 w1 ⟨rfl, rfl⟩) | (go_at_call 219; (with_reducible refine (F2 _).mono ?_); rintro e1 w1 ⟨rfl, rfl⟩) | (go_at_call 198; (with_reducible refine (F3 _).mono ?_); rintro e1 w1 ⟨rfl, rfl⟩) | (go_at_call 72; (with_reducible refine (F4 _).mono ?_); rintro e1 w1 ⟨rfl, rfl⟩))
          refine wp_same (fun wq hq _ => ?_)
          have hX := blk_below (blk_new wr (.cells #[.int .i64 x0, .int .i64 x1, .int .i64 x2, .int .i64 x3] 250)) hq
          have a0 : wq.cell? ⟨wr.heap.size, 0, none⟩ = some (.int .i64 x0) := (blk_cell hX 0).trans rfl
          have a1 : wq.cell? ⟨wr.heap.size, 1, none⟩ = some (.int .i64 x1) := (blk_cell hX 1).trans rfl
          have a2 : wq.cell? ⟨wr.heap.size, 2, none⟩ = some (.int .i64 x2) := (blk_cell hX 2).trans rfl
          have a3 : wq.cell? ⟨wr.heap.size, 3, none⟩ = some (.int .i64 x3) := (blk_cell hX 3).trans rfl
          have zX := blk_lt hX
          have hq0 := Aside0.mk (bthen (below_alloc (Below.refl wr.heap.size wr) (.cells #[.int .i64 x0, .int .i64 x1, .int .i64 x2, .int .i64 x3] 250)) hq)
          clear hX hq h0 h1 h2 h3 hblk
          obtain ⟨adj, eAj, hbj, b0, b1, b2, b3⟩ := get250 (Kd.C_below (Kd.C_below hA.out hW.out) hq0.out) hy0.out
          cases eAj
          simp only at b0 b1 b2 b3
          go_region_held3 (fun w' => w'.cell? ⟨wr.heap.size, 0, none⟩ = some (.int .i64 x0) ∧ w'.cell? ⟨wr.heap.size, 1, none⟩ = some (.int .i64 x1) ∧ w'.cell? ⟨wr.heap.size, 2, none⟩ = some (.int .i64 x2) ∧ w'.cell? ⟨wr.heap.size, 3, none⟩ = some (.int .i64 x3) ∧ w'.cell? (ad.add (j * 4)) = some (.int .i64 y0) ∧ w'.cell? ⟨(ad.add (j * 4)).block, (ad.add (j * 4)).off + 1, none⟩ = some (.int .i64 y1) ∧ w'.cell? ⟨(ad.add (j * 4)).block, (ad.add (j * 4)).off + 2, none⟩ = some (.int .i64 y2) ∧ w'.cell? ⟨(ad.add (j * 4)).block, (ad.add (j * 4)).off + 3, none⟩ = some (.int .i64 y3)) (first | exact ⟨a0, a1, a2, a3, b0, b1, b2, b3⟩ | exact hs5.out) (first | (go_at_call 222; (with_reducible refine (F5 _).mono ?_); rintro e5 w5 ⟨rfl, hb5⟩; have hs5 := Aside0.mk (show w5.cell? ⟨wr.heap.size, 0, none⟩ = some (.int .i64 x0) ∧ w5.cell? ⟨wr.heap.size, 1, none⟩ = some (.int .i64 x1) ∧ w5.cell? ⟨wr.heap.size, 2, none⟩ = some (.int .i64 x2) ∧ w5.cell? ⟨wr.heap.size, 3, none⟩ = some (.int .i64 x3) ∧ w5.cell? (ad.add (j * 4)) = some (.int .i64 y0) ∧ w5.cell? ⟨(ad.add (j * 4)).block, (ad.add (j * 4)).off + 1, none⟩ = some (.int .i64 y1) ∧ w5.cell? ⟨(ad.add (j * 4)).block, (ad.add (j * 4)).off + 2, none⟩ = some (.int .i64 y2) ∧ w5.cell? ⟨(ad.add (j * 4)).block, (ad.add (j * 4)).off + 3, none⟩ = some (.int .i64 y3) from ⟨(hb5.cell zX).trans a0, (hb5.cell zX).trans a1, (hb5.cell zX).trans a2, (hb5.cell zX).trans a3, (hb5.cell hbj).trans b0, (hb5.cell (p := ⟨(ad.add (j * 4)).block, (ad.add (j * 4)).off + 1, none⟩) hbj).trans b1, (hb5.cell (p := ⟨(ad.add (j * 4)).block, (ad.add (j * 4)).off + 2, none⟩) hbj).trans b2, (hb5.cell (p := ⟨(ad.add (j * 4)).block, (ad.add (j * 4)).off + 3, none⟩) hbj).trans b3⟩); replace hb5 := Aside0.mk hb5))
          go_wp2
          go_roundw
          case rel => exact ⟨k + 1, by omega, by go_num, ⟨e.out⟩, ⟨by repeat (first | exact hW.out | apply below_alloc | apply pw_below_drewN | apply below_drew1 | refine bthen ?_ hq0.out | refine bthen ?_ hb5.out)⟩⟩
          case measure => simp [intOf]; omega
    · have : k = l.length := by omega
      subst this
      have e := hp.out
      rw [List.drop_length, tabL, Bool.true_and] at e
      replace e := Aside0.mk e
      go_wp2
      go_ret
      exact ⟨rb (by rw [e.out]; simp; omega), hW.out⟩

end Go.Proofs.Ytbdmnjobhfhinaa.M
namespace Go.Proofs.Ytbdmnjobhfhinaa.M
open Go.RowKit Go.Proofs.YtbdmnjobhfhinaaW.PrintWords Go.Proofs.YtbdmnjobhfhinaaW.PrintLast Go.Proofs.YtbdmnjobhfhinaaW.PrintMore
set_option linter.unusedVariables false
set_option linter.unusedSimpArgs false
set_option maxHeartbeats 4000000
set_option maxRecDepth 100000
theorem specCardOk_c (A0 A1 A2 : Option Addr) (c0 c1 c2 : Nat) (x : S155) (w : World) (h0 : Kd.C Kd.bool w A0 x.f0.length x.f0) (h1 : Kd.C k167 w A1 x.f1.length x.f1) (h2 : Kd.C k250 w A2 x.f2.length x.f2) : Calls Try.prog 112 #[.agg #[.slice A0 x.f0.length c0, .slice A1 x.f1.length c1, .slice A2 x.f2.length c2]] w fun e w' => e = .returned (.bool (cardOkB x)) ∧ Below w.heap.size w w' := by
  have hu := Try.underlying155
  have hu2 := Try.underlying167
  have hl0 := clen h0
  have hl1 := clen h1
  obtain ⟨o, ms, tb⟩ := x
  simp only at h0 h1 h2 hl0 hl1 ⊢
  have hbx0 := Aside0.mk (blk_new w (.cells #[.slice A0 o.length c0, .slice A1 ms.length c1, .slice A2 tb.length c2] 155))
  have hW0 := Aside0.mk (below_alloc (Below.refl w.heap.size w) (.cells #[.slice A0 o.length c0, .slice A1 ms.length c1, .slice A2 tb.length c2] 155))
  have F69 := fun W => l1In_c o.length 1 4 W
  have F167 := fun W h => specTableOk_c A2 c2 tb W h
  obtain ⟨R, hR⟩ : ∃ R, R = cardOkB ⟨o, ms, tb⟩ := ⟨_, rfl⟩
  rw [← hR]
  unfold cardOkB at hR
  simp only at hR
  generalize inB o.length 1 4 = q1 at *
  generalize tabOkB tb = q3 at *
  replace h0 := Aside0.mk h0
  replace h1 := Aside0.mk h1
  replace h2 := Aside0.mk h2
  cases q1
  · simp only [Bool.false_and, Bool.and_false] at hR
    subst hR
    go_enter Try.func112, Try.ntmps112
    go_wp2_with (go_at_call 69; (with_reducible refine (F69 _).mono ?_); rintro e w1 ⟨rfl, rfl⟩)
    go_ret
    exact ⟨rfl, hW0.out⟩
  by_cases heq : ms.length = o.length
  · rw [decide_eq_true heq] at hR
    have d1 : decide (ms.length = o.length) = true := decide_eq_true heq
    have d2 : (ms.length == o.length) = true := by simpa using heq
    have d3 : ((ms.length : Int) == (o.length : Int)) = true := by simp; omega
    have d4 : ((ms.length : Int) != (o.length : Int)) = false := by simp; omega
    replace heq := Aside0.mk heq
    cases q3
    · simp only [Bool.true_and, Bool.and_false] at hR
      subst hR
      go_enter Try.func112, Try.ntmps112
      go_wp2_with (first | (go_at_call 69; (with_reducible refine (F69 _).mono ?_); rintro e w1 ⟨rfl, rfl⟩) | (go_at_call 167; (with_reducible refine (F167 _ (Kd.C_below h2.out hW0.out)).mono ?_); rintro e w2 ⟨rfl, hb⟩; replace hb := Aside0.mk (bthen hW0.out hb)))
      go_ret
      exact ⟨rfl, hb.out⟩
    · simp only [Bool.true_and, Bool.and_true] at hR
      replace hR := Aside0.mk hR
      go_enter Try.func112, Try.ntmps112
      go_wp2_with (first | (go_at_call 69; (with_reducible refine (F69 _).mono ?_); rintro e w1 ⟨rfl, rfl⟩) | (go_at_call 167; (with_reducible refine (F167 _ (Kd.C_below h2.out hW0.out)).mono ?_); rintro e w2 ⟨rfl, hb⟩; have hbx := Aside0.mk (blk_below hbx0.out hb); replace hb := Aside0.mk (bthen hW0.out hb)))
      go_loopw [3] (fun i wr => ∃ k : Nat, k ≤ ms.length ∧ i = .int .i64 k ∧ Aside0 (R = (ms.drop k).all memOkB) ∧ Aside0 (wr.heap[w.heap.size]? = some (.cells #[.slice A0 o.length c0, .slice A1 ms.length c1, .slice A2 tb.length c2] 155 (0, 0))) ∧ Aside0 (Below w.heap.size w wr)) (fun i _ => ms.length - (intOf i).toNat)
      case atStart => exact ⟨0, Nat.zero_le _, rfl, ⟨by simpa using hR.out⟩, ⟨hbx.out⟩, ⟨hb.out⟩⟩
      case round =>
        clear d1 d2 d3 d4
        obtain ⟨k, hk, rfl, hp, hbr, hW⟩ := hrel
        have b1 : wr.cell? ⟨w.heap.size, 1, none⟩ = some (.slice A1 ms.length c1) := (blk_cell hbr.out 1).trans rfl
        have hsz := blk_lt hbr.out
        by_cases hlt : k < ms.length
        · obtain ⟨m, hm0⟩ : ∃ m, ms[k]? = some m := ⟨_, List.getElem?_eq_getElem hlt⟩
          obtain ⟨ad, A3, c3, eA, hblk, g0, g1, hlm, hC⟩ := get167 (Kd.C_below h1.out hW.out) hm0
          subst eA
          have i1 : (0 : Int) ≤ (k : Int) := by omega
          have i2 : (k : Int) < (ms.length : Int) := by omega
          have e := hp.out
          rw [drop_cons_of hm0, List.all_cons] at e
          have F := fun W h => specMemberOk_c m.f0 A3 c3 m.f1 W h
          obtain ⟨q, hq⟩ : ∃ q, q = memOkB ⟨m.f0, m.f1⟩ := ⟨_, rfl⟩
          have hq2 : q = memOkB m := hq
          rw [← hq] at F
          rw [← hq2] at e
          replace hC := Aside0.mk hC
          replace hm0 := Aside0.mk hm0
          replace hq := Aside0.mk hq
          replace hq2 := Aside0.mk hq2
          cases q
          · rw [Bool.false_and] at e
            subst e
            go_wp2_with (go_at_call 168; (with_reducible refine (F _ hC.out).mono ?_); rintro e w3 ⟨rfl, hb3⟩; replace hb3 := Aside0.mk (bthen hW.out hb3))
            go_ret
            exact ⟨rfl, hb3.out⟩
          · rw [Bool.true_and] at e
            replace e := Aside0.mk e
            go_wp2_with (go_at_call 168; (with_reducible refine (F _ hC.out).mono ?_); rintro e w3 ⟨rfl, hb3⟩; have hbr3 := Aside0.mk (blk_below hbr.out hb3); replace hb3 := Aside0.mk (bthen hW.out hb3))
            go_roundw
            case rel => exact ⟨k + 1, by omega, by go_num, ⟨e.out⟩, ⟨hbr3.out⟩, ⟨hb3.out⟩⟩
            case measure => simp [intOf]; omega
        · have : k = ms.length := by omega
          subst this
          have e := hp.out
          rw [List.drop_length, List.all_nil] at e
          subst e
          go_wp2
          go_ret
          exact ⟨rfl, hW.out⟩
  · rw [decide_eq_false heq] at hR
    simp only [Bool.true_and, Bool.false_and, Bool.and_false] at hR
    subst hR
    have heq' : ¬ (ms.length : Int) = (o.length : Int) := by omega
    go_enter Try.func112, Try.ntmps112
    go_wp2_with (first | (go_at_call 69; (with_reducible refine (F69 _).mono ?_); rintro e w1 ⟨rfl, rfl⟩))
    go_ret
    exact ⟨rfl, hW0.out⟩
theorem implCardOk_c (A0 A1 A2 : Option Addr) (c0 c1 c2 : Nat) (x : S155) (w : World) (h0 : Kd.C Kd.bool w A0 x.f0.length x.f0) (h1 : Kd.C k167 w A1 x.f1.length x.f1) (h2 : Kd.C k250 w A2 x.f2.length x.f2) : Calls Try.prog 115 #[.agg #[.slice A0 x.f0.length c0, .slice A1 x.f1.length c1, .slice A2 x.f2.length c2]] w fun e w' => e = .returned (.bool (cardOkB x)) ∧ Below w.heap.size w w' := by
  have hu := Try.underlying155
  have hu2 := Try.underlying167
  have hl0 := clen h0
  have hl1 := clen h1
  obtain ⟨o, ms, tb⟩ := x
  simp only at h0 h1 h2 hl0 hl1 ⊢
  have hbx0 := Aside0.mk (blk_new w (.cells #[.slice A0 o.length c0, .slice A1 ms.length c1, .slice A2 tb.length c2] 155))
  have hW0 := Aside0.mk (below_alloc (Below.refl w.heap.size w) (.cells #[.slice A0 o.length c0, .slice A1 ms.length c1, .slice A2 tb.length c2] 155))
  have F72 := fun W => inRange_c o.length 1 4 W
  have F171 := fun W h => implTableOk_c A2 c2 tb W h
  obtain ⟨R, hR⟩ : ∃ R, R = cardOkB ⟨o, ms, tb⟩ := ⟨_, rfl⟩
  rw [← hR]
  unfold cardOkB at hR
  simp only at hR
  generalize inB o.length 1 4 = q1 at *
  generalize tabOkB tb = q3 at *
  replace h0 := Aside0.mk h0
  replace h1 := Aside0.mk h1
  replace h2 := Aside0.mk h2
  replace hR := Aside0.mk hR
  go_enter Try.func115, Try.ntmps115
  go_wp2
  go_loopw [8] (fun i wr => ∃ k : Nat, k ≤ ms.length ∧ i = .int .i64 k ∧ Aside0 (R = ((ms.drop k).all memOkB && (q1 && decide (ms.length = o.length) && q3))) ∧ Aside0 (wr.heap[w.heap.size]? = some (.cells #[.slice A0 o.length c0, .slice A1 ms.length c1, .slice A2 tb.length c2] 155 (0, 0))) ∧ Aside0 (Below w.heap.size w wr)) (fun i _ => ms.length - (intOf i).toNat)
  case atStart => exact ⟨0, Nat.zero_le _, rfl, ⟨by simpa using hR.out⟩, ⟨hbx0.out⟩, ⟨hW0.out⟩⟩
  case round =>
    obtain ⟨k, hk, rfl, hp, hbr, hW⟩ := hrel
    have b0 : wr.cell? ⟨w.heap.size, 0, none⟩ = some (.slice A0 o.length c0) := (blk_cell hbr.out 0).trans rfl
    have b1 : wr.cell? ⟨w.heap.size, 1, none⟩ = some (.slice A1 ms.length c1) := (blk_cell hbr.out 1).trans rfl
    have b2 : wr.cell? ⟨w.heap.size, 2, none⟩ = some (.slice A2 tb.length c2) := (blk_cell hbr.out 2).trans rfl
    have hsz := blk_lt hbr.out
    by_cases hlt : k < ms.length
    · obtain ⟨m, hm0⟩ : ∃ m, ms[k]? = some m := ⟨_, List.getElem?_eq_getElem hlt⟩
      obtain ⟨ad, A3, c3, eA, hblk, g0, g1, hlm, hC⟩ := get167 (Kd.C_below h1.out hW.out) hm0
      subst eA
      have i1 : (0 : Int) ≤ (k : Int) := by omega
      have i2 : (k : Int) < (ms.length : Int) := by omega
      have e := hp.out
      rw [drop_cons_of hm0, List.all_cons] at e
      have F := fun W h => implMemberOk_c m.f0 A3 c3 m.f1 W h
      obtain ⟨q, hq⟩ : ∃ q, q = memOkB ⟨m.f0, m.f1⟩ := ⟨_, rfl⟩
      have hq2 : q = memOkB m := hq
      rw [← hq] at F
      rw [← hq2] at e
      replace hC := Aside0.mk hC
      replace hm0 := Aside0.mk hm0
      replace hq := Aside0.mk hq
      replace hq2 := Aside0.mk hq2
      cases q
      · rw [Bool.false_and, Bool.false_and] at e
        subst e
        go_wp2_with (go_at_call 170; (with_reducible refine (F _ (Kd.C_alloc hC.out _)).mono ?_); rintro e w3 ⟨rfl, hb3⟩; replace hb3 := Aside0.mk (bthen (below_alloc hW.out _) hb3))
        go_ret
        exact ⟨rfl, hb3.out⟩
      · rw [Bool.true_and] at e
        replace e := Aside0.mk e
        go_wp2_with (go_at_call 170; (with_reducible refine (F _ (Kd.C_alloc hC.out _)).mono ?_); rintro e w3 ⟨rfl, hb3⟩; have hbr3 := Aside0.mk (blk_below (blk_alloc hbr.out _) hb3); replace hb3 := Aside0.mk (bthen (below_alloc hW.out _) hb3))
        go_roundw
        case rel => exact ⟨k + 1, by omega, by go_num, ⟨e.out⟩, ⟨hbr3.out⟩, ⟨hb3.out⟩⟩
        case measure => simp [intOf]; omega
    · have hkl : k = ms.length := by omega
      have e := hp.out
      rw [hkl, List.drop_length, List.all_nil, Bool.true_and] at e
      subst hkl
      clear hp hlt hk
      cases q1
      · simp only [Bool.false_and] at e
        subst e
        go_wp2_with (first | (go_at_call 72; (with_reducible refine (F72 _).mono ?_); rintro e w4 ⟨rfl, rfl⟩))
        go_ret
        exact ⟨rfl, hW.out⟩
      by_cases heq : ms.length = o.length
      · rw [decide_eq_true heq, Bool.and_self, Bool.true_and] at e
        subst e
        have heq' : (ms.length : Int) = (o.length : Int) := by omega
        go_wp2_with (first | (go_at_call 72; (with_reducible refine (F72 _).mono ?_); rintro e w4 ⟨rfl, rfl⟩) | (go_at_call 171; (with_reducible refine (F171 _ (Kd.C_below h2.out hW.out)).mono ?_); rintro e w5 ⟨rfl, hb5⟩; replace hb5 := Aside0.mk (bthen hW.out hb5)))
        go_ret
        exact ⟨rfl, hb5.out⟩
      · rw [decide_eq_false heq, Bool.and_false, Bool.false_and] at e
        subst e
        have heq' : ¬ (ms.length : Int) = (o.length : Int) := by omega
        go_wp2_with (first | (go_at_call 72; (with_reducible refine (F72 _).mono ?_); rintro e w4 ⟨rfl, rfl⟩))
        go_ret
        exact ⟨rfl, hW.out⟩
end Go.Proofs.Ytbdmnjobhfhinaa.M
