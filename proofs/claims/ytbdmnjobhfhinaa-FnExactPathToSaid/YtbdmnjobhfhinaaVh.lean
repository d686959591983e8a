/- PathTo: the reference and the program. No conditions beside those that each theorem states. -/
import Derived.Test.YtbdmnjobhfhinaaVf
import Derived.Test.YtbdmnjobhfhinaaVe
import Derived.Test.YtbdmnjobhfhinaaVc
namespace Go.Proofs.Ytbdmnjobhfhinaa.M
open Go.RowKit Go.Proofs.YtbdmnjobhfhinaaW.PrintWords Go.Proofs.YtbdmnjobhfhinaaW.PrintLast Go.Proofs.YtbdmnjobhfhinaaW.PrintMore
set_option linter.unusedVariables false
set_option linter.unusedSimpArgs false
set_option maxHeartbeats 4000000
set_option maxRecDepth 100000
theorem pathClo_c (v : S94) (b : Nat) (t : Int) (w : World) (hb : w.heap[b]? = some (.cells #[.int .i64 t] 3 (0, 0))) : Calls Try.prog 83 #[v94 v, .pointer (some ⟨b, 0, none⟩)] w fun e w' => e = .returned (.bool (v.f0 == t)) ∧ Below w.heap.size w w' := by
  have hu94 := Try.underlying94
  have hc : w.cell? ⟨b, 0, none⟩ = some (.int .i64 t) := (blk_cell hb 0).trans rfl
  have hz := blk_lt hb
  have hz2 : b < w.heap.size + 1 := by omega
  have hz3 : b ≠ w.heap.size := by omega
  obtain ⟨q, hq⟩ : ∃ q, q = (v.f0 == t) := ⟨_, rfl⟩
  rw [← hq]
  replace hq := Aside0.mk hq
  go_enter Try.func83, Try.ntmps83
  go_wp2
  go_ret
  exact ⟨rb hq.out.symm, below_alloc (Below.refl _ _) _⟩
theorem indexFunc_c (A : Option Addr) (c : Nat) (l : List S94) (b : Nat) (t : Int) (w : World) (hA : Kd.C k94 w A l.length l) (hb : w.heap[b]? = some (.cells #[.int .i64 t] 3 (0, 0))) : Calls Try.prog 82 #[.slice A l.length c, .func (.func 83) #[] #[.pointer (some ⟨b, 0, none⟩)]] w fun e w' => e = .returned (.int .i64 (firstI t l 0)) ∧ Below w.heap.size w w' := by
  have hu94 := Try.underlying94
  have hlen := clen hA
  replace hA := Aside0.mk hA
  replace hb := Aside0.mk hb
  obtain ⟨R, hR⟩ : ∃ R, R = firstI t l 0 := ⟨_, rfl⟩
  rw [← hR]
  replace hR := Aside0.mk hR
  go_enter Try.func82, Try.ntmps82
  go_wp2
  go_loopw [8] (fun i wr => ∃ k : Nat, k ≤ l.length ∧ i = .int .i64 k ∧ Aside0 (R = firstI t (l.drop k) k) ∧ Aside0 (Below w.heap.size w wr)) (fun i _ => l.length - (intOf i).toNat)
  case atStart => exact ⟨0, Nat.zero_le _, rfl, ⟨hR.out⟩, ⟨Below.refl _ _⟩⟩
  case round =>
    obtain ⟨k, hk, rfl, hp, hW⟩ := hrel
    by_cases hlt : k < l.length
    · obtain ⟨x, hx0⟩ : ∃ x, l[k]? = some x := ⟨_, List.getElem?_eq_getElem hlt⟩
      obtain ⟨ad, eA, hblk, h0, h1, h2⟩ := get94 (Kd.C_below hA.out hW.out) hx0
      subst eA
      have e := hp.out
      rw [drop_cons_of hx0, firstI] at e
      have F := fun W h => pathClo_c x b t W h
      obtain ⟨q, hq⟩ : ∃ q, q = (x.f0 == t) := ⟨_, rfl⟩
      rw [← hq] at F
      have i1 : (0 : Int) ≤ (k : Int) := by omega
      have i2 : (k : Int) < (l.length : Int) := by omega
      replace hx0 := Aside0.mk hx0
      replace e := Aside0.mk e
      replace hq := Aside0.mk hq
      cases q
      · go_wp2_with (first | (go_at_call 83; (with_reducible refine (F _ (blk_below hb.out hW.out)).mono ?_); rintro e' w1 ⟨rfl, hb1⟩; replace hb1 := Aside0.mk (bthen hW.out hb1)))
        go_roundw
        case rel => exact ⟨k + 1, by omega, by go_num, ⟨by have e2 := e.out; rw [if_neg (by have := hq.out; simpa using this.symm)] at e2; rw [e2]; rfl⟩, ⟨hb1.out⟩⟩
        case measure => simp [intOf]; omega
      · go_wp2_with (first | (go_at_call 83; (with_reducible refine (F _ (blk_below hb.out hW.out)).mono ?_); rintro e' w1 ⟨rfl, hb1⟩; replace hb1 := Aside0.mk (bthen hW.out hb1)))
        go_ret
        exact ⟨ri (by have e2 := e.out; rw [if_pos (by have := hq.out; simpa using this.symm)] at e2; exact e2.symm), hb1.out⟩
    · have : k = l.length := by omega
      subst this
      have e := hp.out
      rw [List.drop_length, firstI] at e
      subst e
      go_wp2
      go_ret
      exact ⟨rfl, hW.out⟩
end Go.Proofs.Ytbdmnjobhfhinaa.M
namespace Go.Proofs.Ytbdmnjobhfhinaa.M
open Go.RowKit Go.Proofs.YtbdmnjobhfhinaaW.PrintWords Go.Proofs.YtbdmnjobhfhinaaW.PrintLast Go.Proofs.YtbdmnjobhfhinaaW.PrintMore
set_option linter.unusedVariables false
set_option linter.unusedSimpArgs false
set_option maxHeartbeats 4000000
set_option maxRecDepth 100000
/-- Half turned: the first k and the last k are told in reverse. -/
def Turned (l acc : List Int) (k : Nat) : Prop := acc.length = l.length ∧ ∀ q, q < l.length → acc[q]? = if q < k ∨ l.length - 1 - k < q then l[l.length - 1 - q]? else l[q]?
theorem turned_zero (l : List Int) : Turned l l 0 := ⟨rfl, fun q hq => by rw [if_neg (by omega)]⟩
theorem turned_end {l acc : List Int} {k : Nat} (h : Turned l acc k) (hk : l.length ≤ 2 * k + 1) : acc = l.reverse := by
  apply List.ext_getElem?
  intro q
  by_cases hq : q < l.length
  · rw [h.2 q hq, List.getElem?_reverse hq]
    split
    · rfl
    · congr 1; omega
  · rw [List.getElem?_eq_none (by rw [h.1]; omega), List.getElem?_eq_none (by simp; omega)]
theorem turned_step {l acc : List Int} {k : Nat} (h : Turned l acc k) (hk : 2 * k + 1 < l.length) {a b : Int} (ha : acc[k]? = some a) (hb : acc[l.length - 1 - k]? = some b) : Turned l ((acc.set k b).set (l.length - 1 - k) a) (k + 1) := by
  have e1 := h.2 k (by omega)
  have e2 := h.2 (l.length - 1 - k) (by omega)
  rw [if_neg (by omega), ha] at e1
  rw [if_neg (by omega), hb] at e2
  refine ⟨by simp [h.1], fun q hq => ?_⟩
  by_cases h1 : q = l.length - 1 - k
  · subst h1
    rw [List.getElem?_set_self (by simp [h.1]; omega), if_pos (by omega), e1]
    congr 1; omega
  · rw [List.getElem?_set_ne (by omega)]
    by_cases h2 : q = k
    · subst h2
      rw [List.getElem?_set_self (by rw [h.1]; omega), if_pos (by omega), e2]
    · rw [List.getElem?_set_ne (by omega), h.2 q hq]
      by_cases h3 : q < k ∨ l.length - 1 - k < q
      · rw [if_pos h3, if_pos (by omega)]
      · rw [if_neg h3, if_neg (by omega)]
theorem reverse_c (base g n c : Nat) (ok : Nat → Prop) (l : List Int) (w : World) (hn : l.length = n) (hO : Kd.R (Kd.int .i64) 3 w base ok (.slice (some ⟨g, 0, none⟩) n c) l) (hbg : base ≤ g) (hs : n ≤ 1048576) : Calls Try.prog 84 #[.slice (some ⟨g, 0, none⟩) n c] w fun e w' => e = .returned (.tuple #[]) ∧ Kd.R (Kd.int .i64) 3 w' base ok (.slice (some ⟨g, 0, none⟩) n c) l.reverse ∧ Below base w w' := by
  replace hO := Aside0.mk hO
  have hw1 : IntKind.i64.wrap ((n : Int) - 1) = (n : Int) - 1 := IntWalk.i64_in _ (by omega)
  go_enter Try.func84, Try.ntmps84
  go_wp2
  go_loopw [2, 3] (fun vi vj wr => ∃ (k : Nat) (acc : List Int), vi = .int .i64 k ∧ vj = .int .i64 ((n : Int) - 1 - k) ∧ 2 * k ≤ n ∧ Aside0 (Turned l acc k) ∧ Aside0 (Kd.R (Kd.int .i64) 3 wr base ok (.slice (some ⟨g, 0, none⟩) n c) acc) ∧ Aside0 (Below base w wr)) (fun i _ _ => n - (intOf i).toNat)
  case atStart => exact ⟨0, l, rfl, congrArg (Value.int IntKind.i64) (by omega), by omega, ⟨turned_zero l⟩, ⟨hO.out⟩, ⟨Below.refl _ _⟩⟩
  case round =>
    obtain ⟨k, acc, rfl, rfl, hkn, hT, hR, hW⟩ := hrel
    by_cases hlt : 2 * k + 1 < n
    · obtain ⟨j, hj⟩ : ∃ j : Nat, j = n - 1 - k := ⟨_, rfl⟩
      have ej : (n : Int) - 1 - (k : Int) = (j : Int) := by omega
      rw [ej]
      have i1 : (0 : Int) ≤ (k : Int) := by omega
      have i2 : (k : Int) < (n : Int) := by omega
      have i3 : (0 : Int) ≤ (j : Int) := by omega
      have i4 : (j : Int) < (n : Int) := by omega
      have i5 : (k : Int) < (j : Int) := by omega
      have i6 : k < j := by omega
      obtain ⟨c1, f1⟩ := Kd.R_celln 0 hR.out (k : Int) i1 i2
      obtain ⟨c2, f2⟩ := Kd.R_celln 0 hR.out (j : Int) i3 i4
      have hgs := blk_lt' hR.out
      have hlen := hT.out.1
      obtain ⟨a, ha⟩ : ∃ a, acc[k]? = some a := ⟨_, List.getElem?_eq_getElem (by omega)⟩
      obtain ⟨b, hb⟩ : ∃ b, acc[j]? = some b := ⟨_, List.getElem?_eq_getElem (by omega)⟩
      have ra : rdOf 0 acc (k : Int) = a := by simp [rdOf, ha]
      have rb' : rdOf 0 acc (j : Int) = b := by simp [rdOf, hb]
      rw [ra] at c1
      rw [rb'] at c2
      have hTs := turned_step hT.out (by omega) ha (by rw [hn, ← hj]; exact hb)
      rw [hn, ← hj] at hTs
      have HP := fun m : Nat => (Kd.R_putg (Kd.R_putg (Kd.R_drewN hR.out m) (k : Int) b).1 (j : Int) a).1
      simp only [Int.toNat_natCast] at c1 c2 f1 f2 HP
      have w1 : IntKind.i64.wrap ((k : Int) + 1) = (k : Int) + 1 := IntWalk.i64_in _ (by omega)
      have w2 : IntKind.i64.wrap ((j : Int) - 1) = (j : Int) - 1 := IntWalk.i64_in _ (by omega)
      clear ra rb'
      replace hj := Aside0.mk hj
      replace ej := Aside0.mk ej
      replace ha := Aside0.mk ha
      replace hb := Aside0.mk hb
      replace hTs := Aside0.mk hTs
      replace HP := Aside0.mk HP
      replace hlen := Aside0.mk hlen
      have hn' := Aside0.mk hn
      clear hn
      go_wp2
      go_region
      all_goals go_wp2
      all_goals go_roundw
      case rel => exact ⟨k + 1, _, by go_num, congrArg (Value.int IntKind.i64) (by have := ej.out; omega), by omega, ⟨hTs.out⟩, ⟨HP.out _⟩, ⟨Below.setCell (p := ⟨g, j, none⟩) (Below.setCell (p := ⟨g, k, none⟩) (pw_below_drewN hW.out _) hbg _) hbg _⟩⟩
      case measure => simp [intOf]; omega
    · have i5 : ¬ (k : Int) < (n : Int) - 1 - (k : Int) := by omega
      have e := turned_end hT.out (by omega)
      subst e
      go_wp2
      go_end0
      exact ⟨rfl, hR.out, hW.out⟩
end Go.Proofs.Ytbdmnjobhfhinaa.M
namespace Go.Proofs.Ytbdmnjobhfhinaa.M
open Go.RowKit Go.Proofs.YtbdmnjobhfhinaaW.PrintWords Go.Proofs.YtbdmnjobhfhinaaW.PrintLast Go.Proofs.YtbdmnjobhfhinaaW.PrintMore
set_option linter.unusedVariables false
set_option linter.unusedSimpArgs false
set_option maxHeartbeats 4000000
set_option maxRecDepth 100000
theorem R_one {w : World} {base g : Nat} {x : Int} (h : w.heap[g]? = some (.cells #[.int .i64 x] 3 (0, 0))) (hb : base ≤ g) : Kd.R (Kd.int .i64) 3 w base (fun _ => True) (.slice (some ⟨g, 0, none⟩) 1 1) [x] :=
  ⟨fun _ _ => trivial, [.int .i64 x], ⟨rfl, .inr ⟨g, 1, #[.int .i64 x], rfl, hb, h, Nat.le_refl _, by decide, rfl, rfl⟩⟩, ⟨rfl, fun j p hj => by
    cases j with
    | zero => simp at hj; subst hj; rfl
    | succ j => simp at hj⟩⟩
/-- The way, once all is in range and the net is right. -/
theorem implPathTo_yes (A B : Option Addr) (ca cb : Nat) (bs : List S65) (ls : List S145) (x t : Int) (w : World) (hA : Kd.C k65 w A bs.length bs) (hB : Kd.C k145 w B ls.length ls) (hsz : ls.length ≤ 1048576) (hca : bs.length ≤ ca) (hn : netOkS bs ls = true) (hx : inB x 0 (bs.length - 1) = true) (ht : inB t 0 (bs.length - 1) = true) :
    Calls Try.prog 28 #[.agg #[.slice A bs.length ca, .slice B ls.length cb], .int .i64 x, .int .i64 t] w fun e w' => ∃ v, e = .returned v ∧ Kd.R (Kd.int .i64) 3 w' w.heap.size (fun _ => True) v (pathI bs ls x t) ∧ Below w.heap.size w w' := by
  have hu32 := Try.underlying32
  have hu94 := Try.underlying94
  have hlenA := clen hA
  have hw1 : IntKind.i64.wrap ((bs.length : Int) - 1) = (bs.length : Int) - 1 := IntWalk.i64_in _ (by omega)
  have hxr := inB_out hx.symm
  have hnI : netOkI bs ls = true := by rw [netOk_eq]; exact hn
  have F72x := fun W => inRange_c x 0 ((bs.length : Int) - 1) W
  have F72t := fun W => inRange_c t 0 ((bs.length : Int) - 1) W
  have F46 := fun W h1 h2 => implNetOk_c A B ca cb bs ls W h1 h2 hsz hca
  have F73 := fun W hg h1 h2 => flood_c w.heap.size A B ca cb bs ls x W hg h1 h2 (netOk_in hn) hxr (floodI_ok hnI x)
  have hby := by_ok hn x
  have hll : (floodI bs ls x).1.length ≤ 60 := by rw [flood_eq hn, floodS]; simp; omega
  simp only [hx] at F72x
  simp only [ht] at F72t
  simp only [hnI] at F46
  unfold pathI
  generalize floodI bs ls x = LY at *
  obtain ⟨L, Y⟩ := LY
  simp only at hby hll F73 ⊢
  have hbx0 := Aside0.mk (blk_alloc (blk_new w (.cells #[.slice A bs.length ca, .slice B ls.length cb] 32)) (.cells #[.int .i64 t] 3))
  have hW0 := Aside0.mk (below_alloc (below_alloc (Below.refl w.heap.size w) (.cells #[.slice A bs.length ca, .slice B ls.length cb] 32)) (.cells #[.int .i64 t] 3))
  have hbt0 : ((w.alloc (.cells #[.slice A bs.length ca, .slice B ls.length cb] 32)).alloc (.cells #[.int .i64 t] 3)).heap[w.heap.size + 1]? = some (.cells #[.int .i64 t] 3 (0, 0)) := by
    have h := blk_new (w.alloc (.cells #[.slice A bs.length ca, .slice B ls.length cb] 32)) (.cells #[.int .i64 t] 3)
    simpa using h
  replace hbt0 := Aside0.mk hbt0
  have hby1 := hby.1
  have hby2 := Aside0.mk hby.2
  replace hA := Aside0.mk hA
  replace hB := Aside0.mk hB
  clear hby hn hx ht hnI hxr
  have hz1 : w.heap.size < w.heap.size + 1 + 1 := by omega
  by_cases hxt : x = t
  · subst hxt
    go_enter Try.func28, Try.ntmps28
    go_wp2_with (first | (go_at_call 72; (with_reducible refine (F72x _).mono ?_); rintro e w2 ⟨rfl, rfl⟩) | (go_at_call 46; (with_reducible refine (F46 _ (Kd.C_below hA.out hW0.out) (Kd.C_below hB.out hW0.out)).mono ?_); rintro e w3 ⟨rfl, hb⟩; have hbx3 := blk_below hbx0.out hb; have hbt3 := blk_below hbt0.out hb; have c3 : w3.cell? ⟨w.heap.size + 1, 0, none⟩ = some (.int .i64 x) := (blk_cell hbt3 0).trans rfl; have z3 := blk_lt hbt3; have z4 := blk_lt hbx3; replace hb := Aside0.mk (bthen hW0.out hb); replace hbx3 := Aside0.mk hbx3; replace hbt3 := Aside0.mk hbt3))
    go_ret
    exact ⟨_, rfl, R_one (blk_new w3 (.cells #[.int .i64 x] 3)) (below_size hb.out), below_alloc hb.out _⟩
  · rw [if_neg hxt]
    obtain ⟨R, hR⟩ : ∃ R, R = (if firstI t L 0 < 0 then [] else (chainI L Y 62 (firstI t L 0) ++ [x]).reverse) := ⟨_, rfl⟩
    rw [← hR]
    obtain ⟨f, hf⟩ : ∃ f, f = firstI t L 0 := ⟨_, rfl⟩
    rw [← hf] at hR
    have hfr : f = -1 ∨ (0 ≤ f ∧ f < (L.length : Int)) := by
      rcases firstI_rel t L 0 (by omega) with ⟨h, _⟩ | ⟨k, h, ⟨v, hv, _⟩, _⟩
      · left; rw [hf, h]
      · right; have := (List.getElem?_eq_some_iff.1 hv).1; omega
    have F82 := fun A c b W h1 h2 => indexFunc_c A c L b t W h1 h2
    rw [← hf] at F82
    replace hR := Aside0.mk hR
    replace hf := Aside0.mk hf
    have hne : ¬ x = t := hxt
    clear hxt
    rcases hfr with hf0 | hf0
    · subst hf0
      go_enter Try.func28, Try.ntmps28
      go_wp2_with (first | (go_at_call 72; (with_reducible refine (F72x _).mono ?_); rintro e w2 ⟨rfl, rfl⟩) | (go_at_call 72; (with_reducible refine (F72t _).mono ?_); rintro e w2 ⟨rfl, rfl⟩) | (go_at_call 46; (with_reducible refine (F46 _ (Kd.C_below hA.out hW0.out) (Kd.C_below hB.out hW0.out)).mono ?_); rintro e w3 ⟨rfl, hb⟩; have hbx3 := blk_below hbx0.out hb; have hbt3 := blk_below hbt0.out hb; have c3 : w3.cell? ⟨w.heap.size + 1, 0, none⟩ = some (.int .i64 t) := (blk_cell hbt3 0).trans rfl; have z3 := blk_lt hbt3; have z4 := blk_lt hbx3; replace hb := Aside0.mk (bthen hW0.out hb); replace hbx3 := Aside0.mk hbx3; replace hbt3 := Aside0.mk hbt3) | (go_at_call 73; (with_reducible refine (F73 _ hbx3.out (Kd.C_below hA.out hb.out) (Kd.C_below hB.out hb.out)).mono ?_); rintro e w4 ⟨v4, u4, rfl, hL4, hY4, hb4⟩; obtain ⟨Al, cl, rfl⟩ := Kd.R_slice hL4; obtain ⟨Ay, cy, rfl⟩ := Kd.R_slice hY4; have hbt4 := Aside0.mk (blk_below hbt3.out hb4); have hb4' := Aside0.mk (bthen hb.out hb4); replace hL4 := Aside0.mk hL4; replace hY4 := Aside0.mk hY4; clear hb4) | (go_at_call 82; (with_reducible refine (F82 Al cl _ _ (Kd.R_reads' hL4.out).2.2 hbt4.out).mono ?_); rintro e w5 ⟨rfl, hb5⟩; have hb5' := Aside0.mk (bthen hb4'.out hb5); have hL5 := Aside0.mk (Kd.R_below hL4.out hb5); have hY5 := Aside0.mk (Kd.R_below hY4.out hb5); clear hb5))
      go_ret
      exact ⟨_, rfl, by rw [hR.out, if_pos (by omega)]; exact Kd.R_nil _ _ _ _ _, hb5'.out⟩
    · obtain ⟨hf1, hf2⟩ := hf0
      go_enter Try.func28, Try.ntmps28
      go_wp2_with (first | (go_at_call 72; (with_reducible refine (F72x _).mono ?_); rintro e w2 ⟨rfl, rfl⟩) | (go_at_call 72; (with_reducible refine (F72t _).mono ?_); rintro e w2 ⟨rfl, rfl⟩) | (go_at_call 46; (with_reducible refine (F46 _ (Kd.C_below hA.out hW0.out) (Kd.C_below hB.out hW0.out)).mono ?_); rintro e w3 ⟨rfl, hb⟩; have hbx3 := blk_below hbx0.out hb; have hbt3 := blk_below hbt0.out hb; have c3 : w3.cell? ⟨w.heap.size + 1, 0, none⟩ = some (.int .i64 t) := (blk_cell hbt3 0).trans rfl; have z3 := blk_lt hbt3; have z4 := blk_lt hbx3; replace hb := Aside0.mk (bthen hW0.out hb); replace hbx3 := Aside0.mk hbx3; replace hbt3 := Aside0.mk hbt3) | (go_at_call 73; (with_reducible refine (F73 _ hbx3.out (Kd.C_below hA.out hb.out) (Kd.C_below hB.out hb.out)).mono ?_); rintro e w4 ⟨v4, u4, rfl, hL4, hY4, hb4⟩; obtain ⟨Al, cl, rfl⟩ := Kd.R_slice hL4; obtain ⟨Ay, cy, rfl⟩ := Kd.R_slice hY4; have hbt4 := Aside0.mk (blk_below hbt3.out hb4); have hb4' := Aside0.mk (bthen hb.out hb4); replace hL4 := Aside0.mk hL4; replace hY4 := Aside0.mk hY4; clear hb4) | (go_at_call 82; (with_reducible refine (F82 Al cl _ _ (Kd.R_reads' hL4.out).2.2 hbt4.out).mono ?_); rintro e w5 ⟨rfl, hb5⟩; have hb5' := Aside0.mk (bthen hb4'.out hb5); have hL5 := Aside0.mk (Kd.R_below hL4.out hb5); have hY5 := Aside0.mk (Kd.R_below hY4.out hb5); clear hb5))
      obtain ⟨N, hN⟩ : ∃ N, N = w5.heap.size := ⟨_, rfl⟩
      have hNw : w.heap.size ≤ N := by rw [hN]; exact below_size hb5'.out
      have hL6 := Aside0.mk (Kd.R_mono (Kd.R_bound hL5.out) (fun k hk => (show k < N from by rw [hN]; exact hk.2.2.1)))
      have hY6 := Aside0.mk (Kd.R_mono (Kd.R_bound hY5.out) (fun k hk => (show k < N from by rw [hN]; exact hk.2.2.1)))
      replace hN := Aside0.mk hN
      clear hL5 hY5 hL4 hY4 hbx3 hbt3 hbt4 c3 z3 z4
      go_loopw [10, 11] (fun va vo wr => ∃ (i : Int) (n : Nat) (acc : List Int), va = .int .i64 i ∧ -1 ≤ i ∧ i < L.length ∧ i + 2 ≤ n ∧ (acc.length : Int) + (i + 1) ≤ 60 ∧ Aside0 (R = (acc ++ chainI L Y n i ++ [x]).reverse) ∧ Aside0 (Kd.R (Kd.int .i64) 3 wr N (fun _ => True) vo acc) ∧ Aside0 (N ≤ wr.heap.size) ∧ Aside0 (Kd.R k94 94 wr w3.heap.size (fun k => k < N) (.slice Al L.length cl) L) ∧ Aside0 (Kd.R (Kd.int .i64) 3 wr w3.heap.size (fun k => k < N) (.slice Ay Y.length cy) Y) ∧ Aside0 (Below w.heap.size w wr)) (fun va _ _ => (intOf va + 1).toNat)
      case atStart => exact ⟨f, 62, [], rfl, by omega, by omega, by omega, by simp; omega, ⟨by rw [hR.out, if_neg (by omega)]; simp⟩, ⟨Kd.R_nil _ _ _ _ _⟩, ⟨by rw [hN.out]; exact Nat.le_refl _⟩, ⟨hL6.out⟩, ⟨hY6.out⟩, ⟨hb5'.out⟩⟩
      case round =>
        obtain ⟨i, n, acc, rfl, hi1, hi2, hi3, hi4, hp, hO, hNr, hLr, hYr, hW⟩ := hrel
        obtain ⟨Ao, co, rfl⟩ := Kd.R_slice hO.out
        have hbase := Kd.R_base hO.out
        replace hbase := Aside0.mk hbase
        have hNr' := hNr.out
        by_cases h0 : 0 ≤ i
        · obtain ⟨m, rfl⟩ : ∃ m : Nat, i = m := ⟨i.toNat, by omega⟩
          obtain ⟨v, hv0⟩ : ∃ v, L[m]? = some v := ⟨_, List.getElem?_eq_getElem (by omega)⟩
          obtain ⟨y, hy0⟩ : ∃ y, Y[m]? = some y := ⟨_, List.getElem?_eq_getElem (by omega)⟩
          obtain ⟨y1, y2⟩ := hby2.out m y hy0
          obtain ⟨ad, eA, hblk, g0, g1, g2⟩ := get94 (Kd.R_reads' hLr.out).2.2 hv0
          subst eA
          obtain ⟨n', rfl⟩ : ∃ n', n = n' + 1 := ⟨n - 1, by omega⟩
          have e := hp.out
          rw [chainI, if_neg (by omega)] at e
          simp only [Int.toNat_natCast, List.getD, hv0, hy0, Option.getD_some] at e
          have i1 : (0 : Int) ≤ (m : Int) := by omega
          have i2 : (m : Int) < (L.length : Int) := by omega
          have i3 : (m : Int) < (Y.length : Int) := by omega
          obtain ⟨v0, v1, v2⟩ := v
          simp only at g0 g1 g2 e
          replace hv0 := Aside0.mk hv0
          replace hy0 := Aside0.mk hy0
          replace e := Aside0.mk e
          go_wp2_with (at_builtin; refine Kd.R_append (Kd.int .i64) (w0 := wr) N rfl (.tmp 52) (.tmp 58) 27 3 (.int .i64 0) 8 rfl Try.underlying27 info3' rfl (by decide) (by omega) (.slice Ao acc.length co) acc v0 [.int .i64 v0] (fun _ => True) (fun _ => False) rfl rfl rfl (fun _ hk => hk.elim) (fun h hh => trivial) hO.out (Below.refl _ _) hNr.out (by omega) ?_; intro va wa hO2 hB2 hg2 _; have hL2 := Kd.R_grown hLr.out hg2 (fun k hk e => by have := hbase.out k e.symm; omega); have hY2 := Kd.R_grown hYr.out hg2 (fun k hk e => by have := hbase.out k e.symm; omega); obtain ⟨yd, eY, hyb, hyc⟩ := getInt (Kd.R_reads' hY2).2.2 hy0.out; subst eY; have hW2 := Aside0.mk (hW.out.trans (hB2.mono hNw)); have hN2 := Aside0.mk (Nat.le_trans hNr.out hB2.size); replace hL2 := Aside0.mk hL2; replace hY2 := Aside0.mk hY2; replace hO2 := Aside0.mk hO2; clear hB2 hg2)
          go_roundw
          case rel => exact ⟨y, n', acc ++ [v0], rfl, by omega, by omega, by omega, by simp; omega, ⟨by rw [e.out]; simp⟩, ⟨hO2.out⟩, ⟨hN2.out⟩, ⟨hL2.out⟩, ⟨hY2.out⟩, ⟨hW2.out⟩⟩
          case measure => simp [intOf]; omega
        · have hi0 : i = -1 := by omega
          subst hi0
          obtain ⟨n', rfl⟩ : ∃ n', n = n' + 1 := ⟨n - 1, by omega⟩
          have e := hp.out
          rw [chainI, if_pos (by omega), List.append_nil] at e
          replace e := Aside0.mk e
          go_wp2_with (first | (at_builtin; refine Kd.R_append (Kd.int .i64) (w0 := wr) N rfl (.tmp 60) (.tmp 62) 27 3 (.int .i64 0) 8 rfl Try.underlying27 info3' rfl (by decide) (by omega) (.slice Ao acc.length co) acc x [.int .i64 x] (fun _ => True) (fun _ => False) rfl rfl rfl (fun _ hk => hk.elim) (fun h hh => trivial) hO.out (Below.refl _ _) hNr.out (by omega) ?_; intro va wa hO2 hB2 hg2 _; obtain ⟨gr, cr, rfl, hgr, _⟩ := Kd.R_form hO2 (by simp); have hW2 := Aside0.mk (hW.out.trans (hB2.mono hNw)); replace hO2 := Aside0.mk hO2; replace hgr := Aside0.mk hgr; clear hB2 hg2) | (go_at_call 84; (with_reducible refine (reverse_c N gr (acc.length + 1) cr _ (acc ++ [x]) _ (by simp) (by have h := hO2.out; rw [List.length_append, List.length_singleton] at h; exact h) hgr.out (by omega)).mono ?_); rintro e7 w7 ⟨rfl, hO7, hb7⟩; have hW7 := Aside0.mk (hW2.out.trans (hb7.mono hNw)); replace hO7 := Aside0.mk hO7; clear hb7))
          go_ret
          exact ⟨_, rfl, by rw [e.out]; exact Kd.R_lower (by simpa using hO7.out) hNw, hW7.out⟩
end Go.Proofs.Ytbdmnjobhfhinaa.M
namespace Go.Proofs.Ytbdmnjobhfhinaa.M
open Go.RowKit Go.Proofs.YtbdmnjobhfhinaaW.PrintWords Go.Proofs.YtbdmnjobhfhinaaW.PrintLast Go.Proofs.YtbdmnjobhfhinaaW.PrintMore
set_option linter.unusedVariables false
set_option linter.unusedSimpArgs false
set_option maxHeartbeats 4000000
set_option maxRecDepth 100000
theorem implPathTo_no (A B : Option Addr) (ca cb : Nat) (bs : List S65) (ls : List S145) (x t : Int) (w : World) (hA : Kd.C k65 w A bs.length bs) (hB : Kd.C k145 w B ls.length ls) (hsz : ls.length ≤ 1048576) (hca : bs.length ≤ ca) (hno : (netOkI bs ls && (inB x 0 (bs.length - 1) && inB t 0 (bs.length - 1))) = false) :
    Calls Try.prog 28 #[.agg #[.slice A bs.length ca, .slice B ls.length cb], .int .i64 x, .int .i64 t] w fun e w' => e = .returned (.slice none 0 0) ∧ Below w.heap.size w w' := by
  have hu32 := Try.underlying32
  have hlenA := clen hA
  have hw1 : IntKind.i64.wrap ((bs.length : Int) - 1) = (bs.length : Int) - 1 := IntWalk.i64_in _ (by omega)
  have F72x := fun W => inRange_c x 0 ((bs.length : Int) - 1) W
  have F72t := fun W => inRange_c t 0 ((bs.length : Int) - 1) W
  have F46 := fun W h1 h2 => implNetOk_c A B ca cb bs ls W h1 h2 hsz hca
  generalize inB x 0 ((bs.length : Int) - 1) = q1 at *
  generalize inB t 0 ((bs.length : Int) - 1) = q2 at *
  generalize netOkI bs ls = q3 at *
  have hW0 := Aside0.mk (below_alloc (below_alloc (Below.refl w.heap.size w) (.cells #[.slice A bs.length ca, .slice B ls.length cb] 32)) (.cells #[.int .i64 t] 3))
  have hz1 : w.heap.size < w.heap.size + 1 + 1 := by omega
  replace hA := Aside0.mk hA
  replace hB := Aside0.mk hB
  cases q1 <;> cases q2 <;> cases q3
  all_goals first | (exfalso; revert hno; decide) | skip
  all_goals (
    clear hno
    go_enter Try.func28, Try.ntmps28
    go_wp2_with (first | (go_at_call 72; (with_reducible refine (F72x _).mono ?_); rintro e w2 ⟨rfl, rfl⟩) | (go_at_call 72; (with_reducible refine (F72t _).mono ?_); rintro e w2 ⟨rfl, rfl⟩) | (go_at_call 46; (with_reducible refine (F46 _ (Kd.C_below hA.out hW0.out) (Kd.C_below hB.out hW0.out)).mono ?_); rintro e w3 ⟨rfl, hb⟩; replace hb := Aside0.mk (bthen hW0.out hb)))
    go_ret
    exact ⟨rfl, by first | exact hb.out | exact hW0.out⟩)
def outPath (bs : List S65) (ls : List S145) (x t : Int) : List Int := if netOkS bs ls && (inB x 0 (bs.length - 1) && inB t 0 (bs.length - 1)) then pathS bs ls x t else []
theorem implPath_f (A B : Option Addr) (ca cb : Nat) (bs : List S65) (ls : List S145) (x t : Int) (w : World) (hA : Kd.C k65 w A bs.length bs) (hB : Kd.C k145 w B ls.length ls) (hbz : bs.length ≤ 1048576) (hsz : ls.length ≤ 1048576) (hca : bs.length ≤ ca) :
    Calls Try.prog 28 #[.agg #[.slice A bs.length ca, .slice B ls.length cb], .int .i64 x, .int .i64 t] w fun e w' => ∃ v, e = .returned v ∧ Kd.R (Kd.int .i64) 3 w' w.heap.size (fun _ => True) v (outPath bs ls x t) ∧ Below w.heap.size w w' := by
  unfold outPath
  by_cases h : (netOkS bs ls && (inB x 0 (bs.length - 1) && inB t 0 (bs.length - 1))) = true
  · rw [if_pos h]
    simp only [Bool.and_eq_true] at h
    rw [← path_eq h.1]
    exact implPathTo_yes A B ca cb bs ls x t w hA hB hsz hca h.1 h.2.1 h.2.2
  · rw [if_neg h]
    refine (implPathTo_no A B ca cb bs ls x t w hA hB hsz hca (by rw [netOk_eq]; exact Bool.eq_false_iff.2 h)).mono fun e w' ⟨he, hb⟩ => ⟨_, he, Kd.R_nil _ _ _ _ _, hb⟩
theorem chainI_len (L : List S94) (Y : List Int) : ∀ (n : Nat) (i : Int), (chainI L Y n i).length ≤ n
  | 0, _ => by simp [chainI]
  | n + 1, i => by
    rw [chainI]
    split
    · simp
    · simp; exact chainI_len L Y n _
theorem outPath_len (bs : List S65) (ls : List S145) (x t : Int) : (outPath bs ls x t).length ≤ 63 := by
  unfold outPath
  split
  · rename_i h
    simp only [Bool.and_eq_true] at h
    rw [← path_eq h.1, pathI]
    split
    · simp
    · split
      · simp
      · have := chainI_len (floodI bs ls x).1 (floodI bs ls x).2 62 (firstI t (floodI bs ls x).1 0)
        simp; omega
  · simp
end Go.Proofs.Ytbdmnjobhfhinaa.M
namespace Go.Proofs.Ytbdmnjobhfhinaa.M
open Go.RowKit Go.Proofs.YtbdmnjobhfhinaaW.PrintWords Go.Proofs.YtbdmnjobhfhinaaW.PrintLast Go.Proofs.YtbdmnjobhfhinaaW.PrintMore
set_option linter.unusedVariables false
set_option linter.unusedSimpArgs false
set_option maxHeartbeats 4000000
set_option maxRecDepth 100000
theorem l20Back_c (A B : Option Addr) (ca cb : Nat) (bs : List S65) (ls : List S145) (v : S94) (w : World) (hA : Kd.C k65 w A bs.length bs) (hB : Kd.C k145 w B ls.length ls) (hin : ∀ x ∈ ls, LinkIn bs x) :
    Calls Try.prog 81 #[.agg #[.slice A bs.length ca, .slice B ls.length cb], v94 v] w fun e w' => e = .returned (.int .i64 (backL bs ls v)) ∧ Below w.heap.size w w' := by
  have hu32 := Try.underlying32
  have hu94 := Try.underlying94
  have F := fun W h1 h2 => l20Across_c A B ca cb bs ls v.f0 v.f1 W h1 h2 hin
  unfold backL
  generalize acrossL bs v.f0 v.f1 ls = r at *
  obtain ⟨r1, r2, r3⟩ := r
  simp only at F ⊢
  have hW0 := Aside0.mk (below_alloc (below_alloc (Below.refl w.heap.size w) (.cells #[.slice A bs.length ca, .slice B ls.length cb] 32)) (.cells #[.int .i64 v.f0, .int .i64 v.f1, .int .i64 v.f2] 94))
  have hz1 : w.heap.size < w.heap.size + 1 + 1 := by omega
  replace hA := Aside0.mk hA
  replace hB := Aside0.mk hB
  replace hin := Aside0.mk hin
  go_enter Try.func81, Try.ntmps81
  go_wp2_with (go_at_call 121; (with_reducible refine (F _ (Kd.C_below hA.out hW0.out) (Kd.C_below hB.out hW0.out)).mono ?_); rintro e w3 ⟨rfl, hb⟩; replace hb := Aside0.mk (bthen hW0.out hb))
  go_ret
  exact ⟨rfl, hb.out⟩
def posN (x : Int) (L : List S94) (at_ : Int) : Nat := if at_ = x then 0 else (firstI at_ L 0 + 1).toNat
theorem posN_first {x : Int} {L : List S94} {k : Nat} {v : S94} (hv : L[k]? = some v) (hx : v.f0 ≠ x) (hf : ∀ (j : Nat) (u : S94), j < k → L[j]? = some u → u.f0 ≠ v.f0) : posN x L v.f0 = k + 1 := by
  unfold posN; rw [if_neg hx, firstI_of hv rfl hf]; omega
theorem posN_back {bs : List S65} {ls : List S145} (hn : netOkS bs ls = true) {x : Int} {k : Nat} {v : S94} (hv : (floodS bs ls x)[k]? = some v) (hx : v.f0 ≠ x) (hf : ∀ (j : Nat) (u : S94), j < k → (floodS bs ls x)[j]? = some u → u.f0 ≠ v.f0) : posN x (floodS bs ls x) (backL bs ls v) ≤ k := by
  rcases back_ok hn hv hx hf with h | ⟨i, u, hi, hu, he, hux, huf⟩
  · rw [h]; unfold posN; rw [if_pos rfl]; omega
  · rw [← he, posN_first hu hux huf]; omega
theorem posN_le (x : Int) (L : List S94) (t : Int) : posN x L t ≤ L.length := by
  unfold posN
  split
  · omega
  · rcases firstI_rel t L 0 (by omega) with ⟨h, _⟩ | ⟨k, h, ⟨v, hv, _⟩, _⟩
    · rw [h]; omega
    · have := (List.getElem?_eq_some_iff.1 hv).1; rw [h]; omega
theorem specPathTo_yes (A B : Option Addr) (ca cb : Nat) (bs : List S65) (ls : List S145) (x t : Int) (w : World) (hA : Kd.C k65 w A bs.length bs) (hB : Kd.C k145 w B ls.length ls) (hbz : bs.length ≤ 1048576) (hn : netOkS bs ls = true) (hx : inB x 0 (bs.length - 1) = true) (ht : inB t 0 (bs.length - 1) = true) :
    Calls Try.prog 27 #[.agg #[.slice A bs.length ca, .slice B ls.length cb], .int .i64 x, .int .i64 t] w fun e w' => ∃ v, e = .returned v ∧ Kd.R (Kd.int .i64) 3 w' w.heap.size (fun _ => True) v (pathS bs ls x t) ∧ Below w.heap.size w w' := by
  have hu32 := Try.underlying32
  have hu94 := Try.underlying94
  have hlenA := clen hA
  have hw1 : IntKind.i64.wrap ((bs.length : Int) - 1) = (bs.length : Int) - 1 := IntWalk.i64_in _ (by omega)
  have F47 := fun W h1 h2 => specNetOk_c A B ca cb bs ls W h1 h2
  have F69x := fun W => l1In_c x 0 ((bs.length : Int) - 1) W
  have F69t := fun W => l1In_c t 0 ((bs.length : Int) - 1) W
  have F22 := fun W h1 h2 => specFlood_f A B ca cb bs ls x W h1 h2 hbz
  have F81 := fun v W h1 h2 => l20Back_c A B ca cb bs ls v W h1 h2 (netOk_in hn)
  have hG : outFlood bs ls x = floodS bs ls x := by unfold outFlood; rw [hn, hx]; rfl
  rw [hG] at F22
  have hlL : (floodS bs ls x).length ≤ 60 := by unfold floodS; simp; omega
  have hpb := fun (k : Nat) (v : S94) h1 h2 h3 => posN_back (bs := bs) (ls := ls) hn (x := x) (k := k) (v := v) h1 h2 h3
  simp only [hx] at F69x
  simp only [ht] at F69t
  simp only [hn] at F47
  unfold pathS
  generalize floodS bs ls x = L at *
  obtain ⟨R, hR⟩ : ∃ R, R = chainS bs ls x L 62 t [t] := ⟨_, rfl⟩
  rw [← hR]
  have hpos := posN_le x L t
  have hbx0 := Aside0.mk (blk_new w (.cells #[.slice A bs.length ca, .slice B ls.length cb] 32))
  have hW0 := Aside0.mk (below_alloc (Below.refl w.heap.size w) (.cells #[.slice A bs.length ca, .slice B ls.length cb] 32))
  replace hA := Aside0.mk hA
  replace hB := Aside0.mk hB
  replace hR := Aside0.mk hR
  replace hpb := Aside0.mk hpb
  clear hn hx ht hG
  go_enter Try.func27, Try.ntmps27
  go_wp2_with (first | (go_at_call 47; (with_reducible refine (F47 _ (Kd.C_below hA.out hW0.out) (Kd.C_below hB.out hW0.out)).mono ?_); rintro e w1 ⟨rfl, hb⟩; have hbx := blk_below hbx0.out hb; have hbc0 : w1.cell? ⟨w.heap.size, 0, none⟩ = some (.slice A bs.length ca) := (blk_cell hbx 0).trans rfl; have hbc1 : w1.cell? ⟨w.heap.size, 1, none⟩ = some (.slice B ls.length cb) := (blk_cell hbx 1).trans rfl; have hsz := blk_lt hbx; have hsz' : w.heap.size < w1.heap.size + 1 := (by omega); have hsz'' : w.heap.size ≠ w1.heap.size := (by omega); replace hb := Aside0.mk (bthen hW0.out hb); replace hbx := Aside0.mk hbx) | (go_at_call 69; (with_reducible refine (F69x _).mono ?_); rintro e w2 ⟨rfl, rfl⟩) | (go_at_call 69; (with_reducible refine (F69t _).mono ?_); rintro e w2 ⟨rfl, rfl⟩) | (go_at_call 22; (with_reducible refine (F22 _ (Kd.C_below hA.out (below_alloc hb.out _)) (Kd.C_below hB.out (below_alloc hb.out _))).mono ?_); rintro e w3 ⟨v3, rfl, hL3, hb3⟩; obtain ⟨Al, cl, rfl⟩ := Kd.R_slice hL3; have hbx3 := Aside0.mk (blk_below (blk_alloc hbx.out _) hb3); have hO3 := Aside0.mk (Kd.R_below (R_one (blk_new w1 (.cells #[.int .i64 t] 3)) (below_size hb.out)) hb3); have hL4 := Aside0.mk (Kd.R_reads' hL3).2.2; have hb4 := Aside0.mk (bthen (below_alloc hb.out _) hb3); clear hL3 hb3))
  go_loopw [7, 9] (fun vo va wr => ∃ (at_ : Int) (acc : List Int) (n : Nat), va = .int .i64 at_ ∧ posN x L at_ + 1 ≤ n ∧ acc.length + posN x L at_ ≤ 62 ∧ Aside0 (R = chainS bs ls x L n at_ acc) ∧ Aside0 (Kd.R (Kd.int .i64) 3 wr w.heap.size (fun _ => True) vo acc) ∧ Aside0 (Kd.C k94 wr Al L.length L) ∧ Aside0 (wr.heap[w.heap.size]? = some (.cells #[.slice A bs.length ca, .slice B ls.length cb] 32 (0, 0))) ∧ Aside0 (Below w.heap.size w wr)) (fun _ va _ => posN x L (intOf va))
  case atStart => exact ⟨t, [t], 62, rfl, by omega, by simp; omega, ⟨hR.out⟩, ⟨hO3.out⟩, ⟨hL4.out⟩, ⟨hbx3.out⟩, ⟨hb4.out⟩⟩
  case round =>
    obtain ⟨at_, acc, n, rfl, hn1, hn2, hp, hO, hL, hbxr, hW⟩ := hrel
    obtain ⟨Ao, co, rfl⟩ := Kd.R_slice hO.out
    obtain ⟨n', rfl⟩ : ∃ n', n = n' + 1 := ⟨n - 1, by omega⟩
    have e := hp.out
    rw [chainS] at e
    by_cases hxa : at_ = x
    · rw [if_pos hxa] at e
      replace e := Aside0.mk e
      go_wp2
      go_ret
      exact ⟨_, rfl, by rw [e.out]; exact hO.out, hW.out⟩
    · rw [if_neg hxa] at e
      replace e := Aside0.mk e
      have hbc0 : wr.cell? ⟨w.heap.size, 0, none⟩ = some (.slice A bs.length ca) := (blk_cell hbxr.out 0).trans rfl
      have hbc1 : wr.cell? ⟨w.heap.size, 1, none⟩ = some (.slice B ls.length cb) := (blk_cell hbxr.out 1).trans rfl
      have hszr := blk_lt hbxr.out
      have hC := Aside0.mk (Kd.R_reads' hO.out).2.2
      go_wp2
      go_loop [9, 10, 11] (fun va vb vi => ∃ k : Nat, k ≤ L.length ∧ va = .int .i64 at_ ∧ vb = .bool false ∧ vi = .int .i64 k ∧ Aside0 (∀ (j : Nat) (u : S94), j < k → L[j]? = some u → u.f0 ≠ at_)) (fun _ _ vi => L.length - (intOf vi).toNat)
      case atStart => exact ⟨0, Nat.zero_le _, rfl, rfl, rfl, ⟨fun j u hj => by omega⟩⟩
      case round =>
        obtain ⟨k, hk, rfl, rfl, rfl, hf⟩ := hrel
        by_cases hlt : k < L.length
        · obtain ⟨v, hv0⟩ : ∃ v, L[k]? = some v := ⟨_, List.getElem?_eq_getElem hlt⟩
          obtain ⟨ad, eA, hblk, g0, g1, g2⟩ := get94 hL.out hv0
          subst eA
          have i1 : (0 : Int) ≤ (k : Int) := by omega
          have i2 : (k : Int) < (L.length : Int) := by omega
          by_cases hva : v.f0 = at_
          · have hpk := posN_first (x := x) hv0 (by rw [hva]; exact hxa) (by rw [hva]; exact hf.out)
            have hbk := hpb.out k v hv0 (by rw [hva]; exact hxa) (by rw [hva]; exact hf.out)
            have hfi := firstI_of hv0 hva hf.out
            have e2 := e.out
            rw [hfi, if_neg (by omega), Int.toNat_natCast, List.getD_eq_getElem?_getD, hv0, Option.getD_some] at e2
            have F := fun W h1 h2 => F81 v W h1 h2
            rw [hva] at hpk
            obtain ⟨v0, v1, v2⟩ := v
            simp only at hva g0 g1 g2
            subst hva
            generalize backL bs ls ⟨v0, v1, v2⟩ = b at *
            replace e2 := Aside0.mk e2
            replace hv0 := Aside0.mk hv0
            clear hfi
            go_wp2
            refine wp_same (fun wq hq _ => ?_)
            clear hbc0 hbc1 hszr hblk g0 g1 g2 hC
            have hLq := Aside0.mk (Kd.C_below hL.out hq)
            have hOq := Aside0.mk (Kd.R_below hO.out hq)
            have hbxq := Aside0.mk (blk_below hbxr.out hq)
            have hWq := Aside0.mk (bthen hW.out hq)
            clear hq
            obtain ⟨ad2, eA2, hblk, g0, g1, g2⟩ := get94 hLq.out hv0.out
            cases eA2
            simp only at g0 g1 g2
            have hbc0 : wq.cell? ⟨w.heap.size, 0, none⟩ = some (.slice A bs.length ca) := (blk_cell hbxq.out 0).trans rfl
            have hbc1 : wq.cell? ⟨w.heap.size, 1, none⟩ = some (.slice B ls.length cb) := (blk_cell hbxq.out 1).trans rfl
            have hszq := blk_lt hbxq.out
            go_region_held3 (fun w' => w'.cell? ⟨w.heap.size, 0, none⟩ = some (.slice A bs.length ca) ∧ w'.cell? ⟨w.heap.size, 1, none⟩ = some (.slice B ls.length cb) ∧ w'.cell? (ad.add (k * 3)) = some (.int .i64 v0) ∧ w'.cell? ⟨(ad.add (k * 3)).block, (ad.add (k * 3)).off + 1, none⟩ = some (.int .i64 v1) ∧ w'.cell? ⟨(ad.add (k * 3)).block, (ad.add (k * 3)).off + 2, none⟩ = some (.int .i64 v2)) (first | exact ⟨hbc0, hbc1, g0, g1, g2⟩ | exact hs5.out) (first | (go_at_call 81; (with_reducible refine (F _ (Kd.C_below hA.out (by repeat (first | exact hWq.out | apply pw_below_drewN | apply below_drew1 | apply below_drew))) (Kd.C_below hB.out (by repeat (first | exact hWq.out | apply pw_below_drewN | apply below_drew1 | apply below_drew)))).mono ?_); rintro e5 w5 ⟨rfl, hb5⟩; have hs5 := Aside0.mk (show w5.cell? ⟨w.heap.size, 0, none⟩ = some (.slice A bs.length ca) ∧ w5.cell? ⟨w.heap.size, 1, none⟩ = some (.slice B ls.length cb) ∧ w5.cell? (ad.add (k * 3)) = some (.int .i64 v0) ∧ w5.cell? ⟨(ad.add (k * 3)).block, (ad.add (k * 3)).off + 1, none⟩ = some (.int .i64 v1) ∧ w5.cell? ⟨(ad.add (k * 3)).block, (ad.add (k * 3)).off + 2, none⟩ = some (.int .i64 v2) from ⟨(hb5.cell hszq).trans hbc0, (hb5.cell hszq).trans hbc1, (hb5.cell hblk).trans g0, (hb5.cell (p := ⟨(ad.add (k * 3)).block, (ad.add (k * 3)).off + 1, none⟩) hblk).trans g1, (hb5.cell (p := ⟨(ad.add (k * 3)).block, (ad.add (k * 3)).off + 2, none⟩) hblk).trans g2⟩); have hq5 := Aside0.mk (show Below wq.heap.size wq w5 from bthen (by repeat (first | exact Below.refl _ _ | apply pw_below_drewN | apply below_drew1 | apply below_drew)) hb5); clear hb5))
            have hL5 := Aside0.mk (Kd.C_below hLq.out hq5.out)
            have hO5 := Aside0.mk (Kd.R_below hOq.out hq5.out)
            have hbx5 := Aside0.mk (blk_below hbxq.out hq5.out)
            have hW5 := Aside0.mk (bthen hWq.out hq5.out)
            clear hs5 hq5 hbc0 hbc1 hszq hblk g0 g1 g2 hLq hOq hbxq hWq
            go_wp2_with (at_builtin; refine Kd.R_append_rows (Kd.int .i64) (w0 := w5) w5.heap.size rfl (.tmp 66) (.tmp 67) 27 3 (.int .i64 0) 8 rfl Try.underlying27 info3' rfl (by decide) (by omega) (.slice (some ⟨w5.heap.size, 0, none⟩) 1 1) [b] acc _ _ _ (fun _ => True) (fun _ => False) rfl rfl (R_one (blk_new w5 _) (Nat.le_refl _)) (Kd.C_alloc (Kd.R_reads' hO5.out).2.2 _) (fun _ _ h => h) (fun _ h => h.elim) (fun _ _ => trivial) (below_alloc (Below.refl _ _) _) (by simp) (by simp; omega) ?_; intro v6 w6 hO6 hb6 _ _; have hL6 := Aside0.mk (Kd.C_below hL5.out hb6); have hbx6 := Aside0.mk (blk_below hbx5.out hb6); have hW6 := Aside0.mk (bthen hW5.out hb6); replace hO6 := Aside0.mk (Kd.R_lower hO6 (below_size hW5.out)); clear hb6)
            go_roundw
            case rel => exact ⟨b, [b] ++ acc, n', rfl, by omega, by simp; omega, ⟨e2.out⟩, ⟨hO6.out⟩, ⟨hL6.out⟩, ⟨hbx6.out⟩, ⟨hW6.out⟩⟩
            case measure => simp only [intOf]; omega
          · replace hv0' := Aside0.mk hv0
            clear hv0
            go_wp2
            go_round
            case rel => exact ⟨k + 1, by omega, rfl, rfl, by go_num, ⟨fun j u hj hu => by
              rcases Nat.lt_or_ge j k with h | h
              · exact hf.out j u h hu
              · have : j = k := by omega
                subst this
                have h2 := hv0'.out
                rw [hu] at h2
                injection h2 with h2
                rw [h2]; exact hva⟩⟩
            case measure => simp [intOf]; omega
        · have hkl : k = L.length := by omega
          have hfi : firstI at_ L 0 = -1 := by
            rcases firstI_rel at_ L 0 (by omega) with ⟨h, _⟩ | ⟨q, _, ⟨u, h2, h3⟩, _⟩
            · exact h
            · have := (List.getElem?_eq_some_iff.1 h2).1
              exact absurd h3 (hf.out q u (by omega) h2)
          have e2 := e.out
          rw [hfi, if_pos (by omega)] at e2
          replace e2 := Aside0.mk e2
          subst hkl
          clear hfi
          go_wp2
          go_ret
          exact ⟨_, rfl, by rw [e2.out]; exact R_empty (Kd.int .i64) (by simpa using blk_new wr (.cells #[] 3)) (below_size hW.out), below_alloc hW.out _⟩
end Go.Proofs.Ytbdmnjobhfhinaa.M
namespace Go.Proofs.Ytbdmnjobhfhinaa.M
open Go.RowKit Go.Proofs.YtbdmnjobhfhinaaW.PrintWords Go.Proofs.YtbdmnjobhfhinaaW.PrintLast Go.Proofs.YtbdmnjobhfhinaaW.PrintMore
set_option linter.unusedVariables false
set_option linter.unusedSimpArgs false
set_option maxHeartbeats 4000000
set_option maxRecDepth 100000
theorem specPathTo_no (A B : Option Addr) (ca cb : Nat) (bs : List S65) (ls : List S145) (x t : Int) (w : World) (hA : Kd.C k65 w A bs.length bs) (hB : Kd.C k145 w B ls.length ls) (hno : (netOkS bs ls && (inB x 0 (bs.length - 1) && inB t 0 (bs.length - 1))) = false) :
    Calls Try.prog 27 #[.agg #[.slice A bs.length ca, .slice B ls.length cb], .int .i64 x, .int .i64 t] w fun e w' => ∃ v, e = .returned v ∧ Kd.R (Kd.int .i64) 3 w' w.heap.size (fun _ => True) v [] ∧ Below w.heap.size w w' := by
  have hu32 := Try.underlying32
  have hlenA := clen hA
  have hw1 : IntKind.i64.wrap ((bs.length : Int) - 1) = (bs.length : Int) - 1 := IntWalk.i64_in _ (by omega)
  have F47 := fun W h1 h2 => specNetOk_c A B ca cb bs ls W h1 h2
  have F69x := fun W => l1In_c x 0 ((bs.length : Int) - 1) W
  have F69t := fun W => l1In_c t 0 ((bs.length : Int) - 1) W
  generalize inB x 0 ((bs.length : Int) - 1) = q1 at *
  generalize inB t 0 ((bs.length : Int) - 1) = q2 at *
  generalize netOkS bs ls = q3 at *
  have hbx0 := Aside0.mk (blk_new w (.cells #[.slice A bs.length ca, .slice B ls.length cb] 32))
  have hW0 := Aside0.mk (below_alloc (Below.refl w.heap.size w) (.cells #[.slice A bs.length ca, .slice B ls.length cb] 32))
  replace hA := Aside0.mk hA
  replace hB := Aside0.mk hB
  cases q1 <;> cases q2 <;> cases q3
  all_goals first | (exfalso; revert hno; decide) | skip
  all_goals (
    clear hno
    go_enter Try.func27, Try.ntmps27
    go_wp2_with (first | (go_at_call 47; (with_reducible refine (F47 _ (Kd.C_below hA.out hW0.out) (Kd.C_below hB.out hW0.out)).mono ?_); rintro e w1 ⟨rfl, hb⟩; have hbx := blk_below hbx0.out hb; have hbc0 : w1.cell? ⟨w.heap.size, 0, none⟩ = some (.slice A bs.length ca) := (blk_cell hbx 0).trans rfl; have hbc1 : w1.cell? ⟨w.heap.size, 1, none⟩ = some (.slice B ls.length cb) := (blk_cell hbx 1).trans rfl; have hsz := blk_lt hbx; replace hb := Aside0.mk (bthen hW0.out hb); clear hbx) | (go_at_call 69; (with_reducible refine (F69x _).mono ?_); rintro e w2 ⟨rfl, rfl⟩) | (go_at_call 69; (with_reducible refine (F69t _).mono ?_); rintro e w2 ⟨rfl, rfl⟩))
    go_ret
    exact ⟨_, rfl, R_empty (Kd.int .i64) (by simpa using blk_new w1 (.cells #[] 3)) (below_size hb.out), below_alloc hb.out _⟩)
theorem specPath_f (A B : Option Addr) (ca cb : Nat) (bs : List S65) (ls : List S145) (x t : Int) (w : World) (hA : Kd.C k65 w A bs.length bs) (hB : Kd.C k145 w B ls.length ls) (hbz : bs.length ≤ 1048576) :
    Calls Try.prog 27 #[.agg #[.slice A bs.length ca, .slice B ls.length cb], .int .i64 x, .int .i64 t] w fun e w' => ∃ v, e = .returned v ∧ Kd.R (Kd.int .i64) 3 w' w.heap.size (fun _ => True) v (outPath bs ls x t) ∧ Below w.heap.size w w' := by
  unfold outPath
  by_cases h : (netOkS bs ls && (inB x 0 (bs.length - 1) && inB t 0 (bs.length - 1))) = true
  · rw [if_pos h]
    simp only [Bool.and_eq_true] at h
    exact specPathTo_yes A B ca cb bs ls x t w hA hB hbz h.1 h.2.1 h.2.2
  · rw [if_neg h]
    exact specPathTo_no A B ca cb bs ls x t w hA hB (Bool.eq_false_iff.2 h)
end Go.Proofs.Ytbdmnjobhfhinaa.M
