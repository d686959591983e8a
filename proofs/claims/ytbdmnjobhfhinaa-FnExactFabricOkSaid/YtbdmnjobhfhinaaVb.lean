/- The reference: right nets, what lies across, what is handed on, and all visits. No conditions beside those that each theorem states. -/
import Derived.Test.YtbdmnjobhfhinaaVa
import Derived.Test.YtbdmnjobhfhinaaMx4
import Derived.Test.YtbdmnjobhfhinaaMx0
namespace Go.Proofs.Ytbdmnjobhfhinaa.M
open Go.RowKit Go.Proofs.YtbdmnjobhfhinaaW.PrintWords Go.Proofs.YtbdmnjobhfhinaaW.PrintLast Go.Proofs.YtbdmnjobhfhinaaW.PrintMore
set_option linter.unusedVariables false
set_option linter.unusedSimpArgs false
set_option maxHeartbeats 4000000
set_option maxRecDepth 100000
theorem l1Bit_c (b : Bool) (w : World) : Calls Try.prog 104 #[.bool b] w fun e w' => e = .returned (.int .i64 (if b then 1 else 0)) ∧ w = w' := by
  cases b
  · go_enter Try.func104, Try.ntmps104
    go_wp2
    go_ret
    exact ⟨rfl, rfl⟩
  · go_enter Try.func104, Try.ntmps104
    go_wp2
    go_ret
    exact ⟨rfl, rfl⟩
def bitI (b : Bool) : Int := if b then 1 else 0
def onceL (a p : Int) : List S145 → Int
  | [] => 0
  | x :: xs => bitI (x.f0 == a && x.f1 == p) + bitI (x.f2 == a && x.f3 == p) + onceL a p xs
def memE (a p : Int) (l : List S162) : Bool := l.any fun x => a == x.f0 && p == x.f1
def idxE (a p : Int) : List S162 → Int → Int
  | [], _ => -1
  | x :: xs, i => if a = x.f0 ∧ p = x.f1 then i else idxE a p xs (i + 1)
theorem idxE_mem (a p : Int) (l : List S162) (i : Int) (hi : 0 ≤ i) : decide (0 ≤ idxE a p l i) = memE a p l := by
  induction l generalizing i with
  | nil => rfl
  | cons x xs ih =>
    unfold idxE
    split
    · rename_i h; simp [memE, h, hi]
    · rename_i h
      rw [ih (i + 1) (by omega)]
      have : (a == x.f0 && p == x.f1) = false := by
        rw [Bool.eq_false_iff]; intro hh; simp at hh; exact h hh
      simp [memE, this]
attribute [local go_sem high] eqA162
theorem index_c (A : Option Addr) (c : Nat) (l : List S162) (a p : Int) (w : World) (hC : Kd.C k162 w A l.length l) : Calls Try.prog 210 #[.slice A l.length c, .agg #[.int .i64 a, .int .i64 p]] w fun e w' => e = .returned (.int .i64 (idxE a p l 0)) ∧ Below w.heap.size w w' := by
  have hu162 := Try.underlying162
  have hlen := clen hC
  replace hC := Aside0.mk hC
  obtain ⟨R, hR⟩ : ∃ R, R = idxE a p l 0 := ⟨_, rfl⟩
  rw [← hR]
  replace hR := Aside0.mk hR
  go_enter Try.func210, Try.ntmps210
  go_wp2
  go_loopw [8] (fun i wr => ∃ k : Nat, k ≤ l.length ∧ i = .int .i64 k ∧ Aside0 (R = idxE a p (l.drop k) k) ∧ Aside0 (Below (w.alloc (.cells #[.int .i64 a, .int .i64 p] 162)).heap.size (w.alloc (.cells #[.int .i64 a, .int .i64 p] 162)) wr)) (fun i _ => l.length - (intOf i).toNat)
  case atStart => exact ⟨0, Nat.zero_le _, rfl, ⟨hR.out⟩, ⟨Below.refl _ _⟩⟩
  case round =>
    obtain ⟨k, hk, rfl, hp, hW⟩ := hrel
    obtain ⟨hc1, hf1⟩ := bcell hW.out
    by_cases hlt : k < l.length
    · obtain ⟨x, hx⟩ : ∃ x, l[k]? = some x := ⟨_, List.getElem?_eq_getElem hlt⟩
      obtain ⟨ad, rfl, hblk, h0, h1⟩ := get162 (Kd.C_below (Kd.C_below hC.out (by repeat (first | exact Below.refl _ _ | apply below_alloc))) hW.out) hx
      have e := hp.out
      rw [drop_cons_of hx, idxE] at e
      replace e := Aside0.mk e
      replace hx := Aside0.mk hx
      have i0 : (0 : Int) ≤ (k : Int) := by omega
      have i1 : (k : Int) < (l.length : Int) := by omega
      obtain ⟨q1, e1⟩ : ∃ q, (a == x.f0 && p == x.f1) = q := ⟨_, rfl⟩
      cases q1
      all_goals (
        go_wp2
        go_quiet (fail)
        go_wp2)
      all_goals (first
        | (go_roundw
           case rel => exact ⟨k + 1, by omega, by go_num, ⟨by have e2 := e.out; rw [if_neg (by intro ⟨h1, h2⟩; simp [h1, h2] at e1)] at e2; exact e2⟩, ⟨(by repeat (first | exact Below.refl _ _ | apply below_alloc | apply pw_below_drewN | apply below_drew1 | refine bthen ?_ hb.out | refine bthen ?_ hW.out))⟩⟩
           case measure => simp [intOf]; omega)
        | (go_ret
           exact ⟨ri (by have e2 := e.out; rw [if_pos (by simpa using e1)] at e2; exact e2.symm), (by repeat (first | exact Below.refl _ _ | apply below_alloc | apply pw_below_drewN | apply below_drew1 | refine bthen ?_ hb.out | refine bthen ?_ hW.out))⟩))
    · have : k = l.length := by omega
      subst this
      go_wp2
      go_ret
      exact ⟨ri (by have e := hp.out; rw [List.drop_length, idxE] at e; exact e.symm), (by repeat (first | exact Below.refl _ _ | apply below_alloc | apply pw_below_drewN | apply below_drew1 | refine bthen ?_ hb.out | refine bthen ?_ hW.out))⟩
theorem contains_c (A : Option Addr) (c : Nat) (l : List S162) (a p : Int) (w : World) (hC : Kd.C k162 w A l.length l) : Calls Try.prog 162 #[.slice A l.length c, .agg #[.int .i64 a, .int .i64 p]] w fun e w' => e = .returned (.bool (memE a p l)) ∧ Below w.heap.size w w' := by
  have hu162 := Try.underlying162
  have hlen := clen hC
  rw [← idxE_mem a p l 0 (by omega)]
  replace hC := Aside0.mk hC
  go_enter Try.func162, Try.ntmps162
  go_wp2_with (go_at_call 210; (with_reducible refine (index_c _ _ _ _ _ _ (Kd.C_below hC.out (by repeat (first | exact Below.refl _ _ | apply below_alloc | apply below_drew1)))).mono ?_); rintro e w1 ⟨rfl, hb⟩; replace hb := Aside0.mk hb)
  go_ret
  exact ⟨rfl, by repeat (first | exact Below.refl _ _ | apply below_alloc | apply pw_below_drewN | apply below_drew1 | refine bthen ?_ hb.out)⟩
theorem l10Once_c (A B : Option Addr) (ca cb : Nat) (bs : List S65) (ls : List S145) (a p : Int) (w : World) (hB : Kd.C k145 w B ls.length ls) (hlen : ls.length ≤ 1000000000) :
    Calls Try.prog 103 #[.agg #[.slice A bs.length ca, .slice B ls.length cb], .int .i64 a, .int .i64 p] w fun e w' => e = .returned (.int .i64 (onceL a p ls)) ∧ Below w.heap.size w w' := by
  have hu145 := Try.underlying145
  have hu32 := Try.underlying32
  replace hB := Aside0.mk hB
  obtain ⟨R, hR⟩ : ∃ R, R = onceL a p ls := ⟨_, rfl⟩
  rw [← hR]
  replace hR := Aside0.mk hR
  go_enter Try.func103, Try.ntmps103
  go_wp2
  go_loopw [7, 8] (fun v i wr => ∃ (k : Nat) (n : Int), k ≤ ls.length ∧ 0 ≤ n ∧ n ≤ 2 * (k : Int) ∧ i = .int .i64 k ∧ v = .int .i64 n ∧ Aside0 (R = n + onceL a p (ls.drop k)) ∧ Aside0 (Below (w.alloc (.cells #[.slice A bs.length ca, .slice B ls.length cb] 32)).heap.size (w.alloc (.cells #[.slice A bs.length ca, .slice B ls.length cb] 32)) wr)) (fun _ i _ => ls.length - (intOf i).toNat)
  case atStart => exact ⟨0, 0, Nat.zero_le _, by omega, by omega, rfl, rfl, ⟨by rw [hR.out]; simp⟩, ⟨Below.refl _ _⟩⟩
  case round =>
    obtain ⟨k, n, hk, hn0, hn1, rfl, rfl, hp, hW⟩ := hrel
    obtain ⟨hc1, hf1⟩ := bcell hW.out
    have hsz : w.heap.size < wr.heap.size := by have := hW.out.size; simp at this; omega
    by_cases hlt : k < ls.length
    · obtain ⟨x, hx⟩ : ∃ x, ls[k]? = some x := ⟨_, List.getElem?_eq_getElem hlt⟩
      obtain ⟨ad, rfl, hblk, h0, h1, h2, h3⟩ := get145 (Kd.C_below (Kd.C_below hB.out (by repeat (first | exact Below.refl _ _ | apply below_alloc))) hW.out) hx
      have e := hp.out
      rw [drop_cons_of hx, onceL] at e
      replace e := Aside0.mk e
      replace hx := Aside0.mk hx
      have i0 : (0 : Int) ≤ (k : Int) := by omega
      have i1 : (k : Int) < (ls.length : Int) := by omega
      have wa : IntKind.i64.wrap (n + 1) = n + 1 := IntWalk.i64_in _ (by omega)
      have wb : IntKind.i64.wrap n = n := IntWalk.i64_in _ (by omega)
      have wc : IntKind.i64.wrap (n + 1 + 1) = n + 1 + 1 := IntWalk.i64_in _ (by omega)
      obtain ⟨q1, e1⟩ : ∃ q, (x.f0 == a) = q := ⟨_, rfl⟩
      obtain ⟨q2, e2⟩ : ∃ q, (x.f1 == p) = q := ⟨_, rfl⟩
      obtain ⟨q3, e3⟩ : ∃ q, (x.f2 == a) = q := ⟨_, rfl⟩
      obtain ⟨q4, e4⟩ : ∃ q, (x.f3 == p) = q := ⟨_, rfl⟩
      rw [e1, e2, e3, e4] at e
      cases q1 <;> cases q2 <;> cases q3 <;> cases q4
      all_goals (
        go_wp2
        go_quiet ((go_at_call 104; exact Calls.quiet_of_same ((l1Bit_c _ _).mono fun e w' ⟨h, hw⟩ => ⟨h, hw.symm⟩)))
        go_wp2)
      all_goals (
        go_roundw
        case rel => exact ⟨k + 1, _, by omega, by omega, by omega, by go_num, rfl, ⟨by have e5 := e.out; simp [bitI] at e5; omega⟩, ⟨(by repeat (first | exact Below.refl _ _ | apply below_alloc | apply pw_below_drewN | apply below_drew1 | refine bthen ?_ hW.out))⟩⟩
        case measure => simp [intOf]; omega)
    · have : k = ls.length := by omega
      subst this
      go_wp2
      go_ret
      exact ⟨ri (by have e := hp.out; rw [List.drop_length, onceL] at e; omega), (by repeat (first | exact Below.refl _ _ | apply below_alloc | apply pw_below_drewN | apply below_drew1 | refine bthen ?_ hb.out | refine bthen ?_ hW.out))⟩
end Go.Proofs.Ytbdmnjobhfhinaa.M
namespace Go.Proofs.Ytbdmnjobhfhinaa.M
open Go.RowKit Go.Proofs.YtbdmnjobhfhinaaW.PrintWords Go.Proofs.YtbdmnjobhfhinaaW.PrintLast Go.Proofs.YtbdmnjobhfhinaaW.PrintMore
set_option linter.unusedVariables false
set_option linter.unusedSimpArgs false
set_option maxHeartbeats 4000000
set_option maxRecDepth 100000
def endB (bs : List S65) (a p : Int) : Bool := inB a 0 (bs.length - 1) && inB p 0 ((bs.getD a.toNat z65).f1.length - 1) && (portAt bs a p).f0
theorem l10End_c (A B : Option Addr) (ca cb : Nat) (bs : List S65) (ls : List S145) (a p : Int) (w : World) (hA : Kd.C k65 w A bs.length bs) :
    Calls Try.prog 105 #[.agg #[.slice A bs.length ca, .slice B ls.length cb], .int .i64 a, .int .i64 p] w fun e w' => e = .returned (.bool (endB bs a p)) ∧ Below w.heap.size w w' := by
  have hu32 := Try.underlying32
  have hlen := clen hA
  have hw1 : IntKind.i64.wrap ((bs.length : Int) - 1) = (bs.length : Int) - 1 := IntWalk.i64_in _ (by omega)
  by_cases hx : inB a 0 (bs.length - 1) = true
  · have hx' : 0 ≤ a ∧ a ≤ (bs.length : Int) - 1 := by simpa [inB] using hx
    obtain ⟨i, rfl⟩ : ∃ k : Nat, a = k := ⟨a.toNat, by omega⟩
    obtain ⟨u, hu⟩ : ∃ b, bs[i]? = some b := ⟨_, List.getElem?_eq_getElem (by omega)⟩
    obtain ⟨ad, A1, c1, rfl, hblk, h0, h1, hl, hC1⟩ := get65 hA hu
    have hlen2 := clen hC1
    have hw2 : IntKind.i64.wrap ((u.f1.length : Int) - 1) = (u.f1.length : Int) - 1 := IntWalk.i64_in _ (by omega)
    have hi1 : (0 : Int) ≤ (i : Int) := by omega
    have hi2 : (i : Int) < (bs.length : Int) := by omega
    have hd : bs.getD (i : Int).toNat z65 = u := by simp [hu]
    by_cases hy : inB p 0 ((u.f1.length : Int) - 1) = true
    · have hy' : 0 ≤ p ∧ p ≤ (u.f1.length : Int) - 1 := by simpa [inB] using hy
      obtain ⟨j, rfl⟩ : ∃ k : Nat, p = k := ⟨p.toNat, by omega⟩
      obtain ⟨s, hs⟩ : ∃ s, u.f1[j]? = some s := ⟨_, List.getElem?_eq_getElem (by omega)⟩
      obtain ⟨pd, rfl, hpblk, p0, p1, p2, p3, p4, p5, p6, p7, p8, p9, p10⟩ := get138 hC1 hs
      have hpa := portAt_eq hu hs
      have hj1 : (0 : Int) ≤ (j : Int) := by omega
      have hj2 : (j : Int) < (u.f1.length : Int) := by omega
      clear p1 p2 p3 p4 p5 p6 p7 p8 p9 p10 hx' hy'
      have F1 : ∀ W : World, Calls Try.prog 69 #[.int .i64 i, .int .i64 0, .int .i64 ((bs.length : Int) - 1)] W fun e w' => e = .returned (.bool true) ∧ W = w' := fun W => (l1In_c _ _ _ _).mono fun e w' ⟨h, hw⟩ => ⟨by rw [h, hx], hw⟩
      have F2 : ∀ W : World, Calls Try.prog 69 #[.int .i64 j, .int .i64 0, .int .i64 ((u.f1.length : Int) - 1)] W fun e w' => e = .returned (.bool true) ∧ W = w' := fun W => (l1In_c _ _ _ _).mono fun e w' ⟨h, hw⟩ => ⟨by rw [h, hy], hw⟩
      replace hx := Aside0.mk hx
      replace hy := Aside0.mk hy
      replace hd := Aside0.mk hd
      replace hu := Aside0.mk hu
      replace hs := Aside0.mk hs
      replace hpa := Aside0.mk hpa
      replace hA := Aside0.mk hA
      replace hC1 := Aside0.mk hC1
      go_enter Try.func105, Try.ntmps105
      go_wp2_with (go_at_call 69; (with_reducible first | refine (F1 _).mono ?_ | refine (F2 _).mono ?_); rintro e w1 ⟨rfl, rfl⟩)
      go_ret
      exact ⟨rb (by unfold endB; rw [hd.out, hx.out, hy.out, hpa.out]; rfl), by repeat (first | exact Below.refl _ _ | apply below_alloc | apply pw_below_drewN | apply below_drew1)⟩
    · have hy2 : inB p 0 ((u.f1.length : Int) - 1) = false := by simpa using hy
      clear hy hx'
      have F1 : ∀ W : World, Calls Try.prog 69 #[.int .i64 i, .int .i64 0, .int .i64 ((bs.length : Int) - 1)] W fun e w' => e = .returned (.bool true) ∧ W = w' := fun W => (l1In_c _ _ _ _).mono fun e w' ⟨h, hw⟩ => ⟨by rw [h, hx], hw⟩
      have F2 : ∀ W : World, Calls Try.prog 69 #[.int .i64 p, .int .i64 0, .int .i64 ((u.f1.length : Int) - 1)] W fun e w' => e = .returned (.bool false) ∧ W = w' := fun W => (l1In_c _ _ _ _).mono fun e w' ⟨h, hw⟩ => ⟨by rw [h, hy2], hw⟩
      replace hx := Aside0.mk hx
      replace hy2 := Aside0.mk hy2
      replace hd := Aside0.mk hd
      replace hu := Aside0.mk hu
      replace hA := Aside0.mk hA
      replace hC1 := Aside0.mk hC1
      go_enter Try.func105, Try.ntmps105
      go_wp2_with (go_at_call 69; (with_reducible first | refine (F1 _).mono ?_ | refine (F2 _).mono ?_); rintro e w1 ⟨rfl, rfl⟩)
      go_ret
      exact ⟨rb (by unfold endB; rw [hd.out, hx.out, hy2.out]; rfl), by repeat (first | exact Below.refl _ _ | apply below_alloc | apply pw_below_drewN | apply below_drew1)⟩
  · have hx2 : inB a 0 (bs.length - 1) = false := by simpa using hx
    have F : ∀ W : World, Calls Try.prog 69 #[.int .i64 a, .int .i64 0, .int .i64 ((bs.length : Int) - 1)] W fun e w' => e = .returned (.bool false) ∧ W = w' := fun W => (l1In_c _ _ _ _).mono fun e w' ⟨h, hw⟩ => ⟨by rw [h, hx2], hw⟩
    replace hx2 := Aside0.mk hx2
    clear hx
    replace hA := Aside0.mk hA
    go_enter Try.func105, Try.ntmps105
    go_wp2_with (go_at_call 69; (with_reducible refine (F _).mono ?_); rintro e w1 ⟨rfl, rfl⟩)
    go_ret
    exact ⟨rb (by unfold endB; rw [hx2.out]; rfl), by repeat (first | exact Below.refl _ _ | apply below_alloc | apply pw_below_drewN | apply below_drew1)⟩
theorem l1Bit_b (b : Bool) (w : World) : Calls Try.prog 104 #[.bool b] w fun e w' => e = .returned (.int .i64 (bitI b)) ∧ w = w' := l1Bit_c b w
def portsOkL (ls : List S145) (i : Int) : List S138 → Int → Bool
  | [], _ => true
  | x :: xs, p => (onceL i p ls == bitI x.f0) && portsOkL ls i xs (p + 1)
def bridgesOkL (bs : List S65) (ls : List S145) : List S65 → Nat → Bool
  | [], _ => true
  | b :: rest, i => bridgeOkB b && (bs.take i).all (fun c => !(c.f0 == b.f0)) && portsOkL ls i b.f1 0 && bridgesOkL bs ls rest (i + 1)
def linkOkB (bs : List S65) (x : S145) : Bool := !(x.f0 == x.f2) && endB bs x.f0 x.f1 && endB bs x.f2 x.f3
def netOkS (bs : List S65) (ls : List S145) : Bool := inB bs.length 1 5 && decide (ls.length ≤ 6) && bridgesOkL bs ls bs 0 && ls.all (linkOkB bs)
theorem specNetOk_c (A B : Option Addr) (ca cb : Nat) (bs : List S65) (ls : List S145) (w : World) (hA : Kd.C k65 w A bs.length bs) (hB : Kd.C k145 w B ls.length ls) :
    Calls Try.prog 47 #[.agg #[.slice A bs.length ca, .slice B ls.length cb]] w fun e w' => e = .returned (.bool (netOkS bs ls)) ∧ Below w.heap.size w w' := by
  have hu145 := Try.underlying145
  have hu65 := Try.underlying65
  have hu32 := Try.underlying32
  have hlen := clen hA
  have hlenB := clen hB
  by_cases hx : inB bs.length 1 5 = true
  · by_cases hy : ls.length ≤ 6
    · have F : ∀ W : World, Calls Try.prog 69 #[.int .i64 bs.length, .int .i64 1, .int .i64 5] W fun e w' => e = .returned (.bool true) ∧ W = w' := fun W => (l1In_c _ _ _ _).mono fun e w' ⟨h, hw⟩ => ⟨by rw [h, hx], hw⟩
      replace hx := Aside0.mk hx
      replace hA := Aside0.mk hA
      replace hB := Aside0.mk hB
      obtain ⟨R, hR⟩ : ∃ R, R = netOkS bs ls := ⟨_, rfl⟩
      have hR2 : R = (bridgesOkL bs ls bs 0 && ls.all (linkOkB bs)) := by rw [hR]; unfold netOkS; rw [hx.out]; simp [hy]
      rw [← hR]
      clear hR
      replace hR2 := Aside0.mk hR2
      go_enter Try.func47, Try.ntmps47
      go_wp2_with (go_at_call 69; (with_reducible refine (F _).mono ?_); rintro e w1 ⟨rfl, rfl⟩)
      go_loopw [3] (fun v wr => ∃ (i : Nat), i ≤ bs.length ∧ v = .int .i64 i ∧ Aside0 (R = (bridgesOkL bs ls (bs.drop i) i && ls.all (linkOkB bs))) ∧ Aside0 (Below (w.alloc (.cells #[.slice A bs.length ca, .slice B ls.length cb] 32)).heap.size (w.alloc (.cells #[.slice A bs.length ca, .slice B ls.length cb] 32)) wr)) (fun v _ => bs.length - (intOf v).toNat)
      case atStart => exact ⟨0, Nat.zero_le _, rfl, ⟨hR2.out⟩, ⟨Below.refl _ _⟩⟩
      case round =>
        obtain ⟨i, hi, rfl, hp, hW⟩ := hrel
        have hbx : wr.heap[w.heap.size]? = some (.cells #[.slice A bs.length ca, .slice B ls.length cb] 32 (0, 0)) := blk_below (blk_new _ _) hW.out
        have hbc0 : wr.cell? ⟨w.heap.size, 0, none⟩ = some (.slice A bs.length ca) := (blk_cell hbx 0).trans rfl
        have hbc1 : wr.cell? ⟨w.heap.size, 1, none⟩ = some (.slice B ls.length cb) := (blk_cell hbx 1).trans rfl
        have hsz := blk_lt hbx
        have hAr := Aside0.mk (Kd.C_below (Kd.C_below hA.out (below_alloc (Below.refl _ _) _)) hW.out)
        have hBr := Aside0.mk (Kd.C_below (Kd.C_below hB.out (below_alloc (Below.refl _ _) _)) hW.out)
        replace hbx := Aside0.mk hbx
        by_cases hlt : i < bs.length
        · obtain ⟨b, hb0⟩ : ∃ b, bs[i]? = some b := ⟨_, List.getElem?_eq_getElem hlt⟩
          obtain ⟨ad, A1, c1, rfl, hblk, h0, h1, hl, hC1⟩ := get65 hAr.out hb0
          have e := hp.out
          rw [drop_cons_of hb0, bridgesOkL] at e
          replace e := Aside0.mk e
          have i0 : (0 : Int) ≤ (i : Int) := by omega
          have i1 : (i : Int) < (bs.length : Int) := by omega
          replace hb0 := Aside0.mk hb0
          replace hC1 := Aside0.mk hC1
          obtain ⟨q, hq⟩ : ∃ q, q = bridgeOkB b := ⟨_, rfl⟩
          replace hq := Aside0.mk hq
          cases q
          · go_wp2_with (go_at_call 102; (with_reducible refine (specBridgeOk_c _ _ _ _ _ hC1.out).mono ?_); rintro e w1 ⟨rfl, hb⟩; rw [← hq.out]; replace hb := Aside0.mk hb)
            go_ret
            exact ⟨rb (by rw [e.out, ← hq.out]; simp), (by repeat (first | exact Below.refl _ _ | apply below_alloc | apply pw_below_drewN | apply below_drew1 | refine bthen ?_ hb.out | refine bthen ?_ hW.out))⟩
          · go_wp2_with (go_at_call 102; (with_reducible refine (specBridgeOk_c _ _ _ _ _ hC1.out).mono ?_); rintro e w1 ⟨rfl, hb⟩; rw [← hq.out]; replace hb := Aside0.mk hb)
            have hW1 := Aside0.mk (show Below (w.alloc (.cells #[.slice (some ad) bs.length ca, .slice B ls.length cb] 32)).heap.size (w.alloc (.cells #[.slice (some ad) bs.length ca, .slice B ls.length cb] 32)) w1 from bthen hW.out hb.out)
            have hA1 := Aside0.mk (Kd.C_below hAr.out hb.out)
            have hB1 := Aside0.mk (Kd.C_below hBr.out hb.out)
            have hbx1 := Aside0.mk (blk_below hbx.out hb.out)
            have e2 : R = ((bs.take i).all (fun c => !(c.f0 == b.f0)) && (portsOkL ls i b.f1 0 && (bridgesOkL bs ls (bs.drop (i + 1)) (i + 1) && ls.all (linkOkB bs)))) := by
              rw [e.out, ← hq.out]; simp [Bool.and_assoc]
            replace e2 := Aside0.mk e2
            clear e hAr hBr hbx hbc0 hbc1 hsz h0 h1 hblk hW hb hp
            go_loopw [4] (fun v wr => ∃ (k : Nat), k ≤ i ∧ v = .int .i64 k ∧ Aside0 ((bs.take k).all (fun c => !(c.f0 == b.f0)) = true) ∧ Aside0 (Below w1.heap.size w1 wr)) (fun v _ => i - (intOf v).toNat)
            case atStart => exact ⟨0, Nat.zero_le _, rfl, ⟨by simp⟩, ⟨Below.refl _ _⟩⟩
            case round =>
              obtain ⟨k, hk, rfl, hall, hV⟩ := hrel
              have hbx2 := blk_below hbx1.out hV.out
              have hbc0 : wr.cell? ⟨w.heap.size, 0, none⟩ = some (.slice (some ad) bs.length ca) := (blk_cell hbx2 0).trans rfl
              have hbc1 : wr.cell? ⟨w.heap.size, 1, none⟩ = some (.slice B ls.length cb) := (blk_cell hbx2 1).trans rfl
              have hsz := blk_lt hbx2
              have hA2 := Aside0.mk (Kd.C_below hA1.out hV.out)
              have hB2 := Aside0.mk (Kd.C_below hB1.out hV.out)
              replace hbx2 := Aside0.mk hbx2
              obtain ⟨ad', A1', c1', ead, hblk, h0, h1, hl', hC1'⟩ := get65 hA2.out hb0.out
              cases ead
              by_cases hkl : k < i
              · obtain ⟨c, hc0⟩ : ∃ c, bs[k]? = some c := ⟨_, List.getElem?_eq_getElem (by omega)⟩
                obtain ⟨ad', A2', c2', ead, hblk2, g0, g1, gl', gC1'⟩ := get65 hA2.out hc0
                cases ead
                replace hc0 := Aside0.mk hc0
                have k0 : (0 : Int) ≤ (k : Int) := by omega
                have k1 : (k : Int) < (bs.length : Int) := by omega
                have k2 : (k : Int) < (i : Int) := by omega
                obtain ⟨q1, e1⟩ : ∃ q, (c.f0 == b.f0) = q := ⟨_, rfl⟩
                replace gC1' := Aside0.mk gC1'
                replace hC1' := Aside0.mk hC1'
                cases q1
                · go_wp2
                  go_quiet (fail)
                  go_wp2
                  go_roundw
                  case rel => exact ⟨k + 1, by omega, by go_num, ⟨(take_all hall.out hc0.out).trans (by rw [e1]; rfl)⟩, ⟨(by repeat (first | exact Below.refl _ _ | apply below_alloc | apply pw_below_drewN | apply below_drew1 | refine bthen ?_ hb.out | refine bthen ?_ hV.out | refine bthen ?_ hW1.out | refine bthen ?_ hU.out | refine bthen ?_ hW2.out | refine bthen ?_ hW.out))⟩⟩
                  case measure => simp [intOf]; omega
                · go_wp2
                  go_quiet (fail)
                  go_wp2
                  go_ret
                  exact ⟨rb (by rw [e2.out, all_false (x := c) ((List.getElem?_take_of_lt hkl).trans hc0.out) (by rw [e1]; rfl)]; simp), (by repeat (first | exact Below.refl _ _ | apply below_alloc | apply pw_below_drewN | apply below_drew1 | refine bthen ?_ hb.out | refine bthen ?_ hV.out | refine bthen ?_ hW1.out | refine bthen ?_ hU.out | refine bthen ?_ hW2.out | refine bthen ?_ hW.out))⟩
              · have : k = i := by omega
                subst this
                go_wp2
                have e3 : R = (portsOkL ls k b.f1 0 && (bridgesOkL bs ls (bs.drop (k + 1)) (k + 1) && ls.all (linkOkB bs))) := by
                  rw [e2.out, hall.out]; rfl
                replace e3 := Aside0.mk e3
                replace hC1' := Aside0.mk hC1'
                have hl5 := clen hC1'.out
                clear e2 hall h0 h1 hblk
                go_loopw [5] (fun v wt => ∃ (p : Nat), p ≤ b.f1.length ∧ v = .int .i64 p ∧ Aside0 (R = (portsOkL ls k (b.f1.drop p) p && (bridgesOkL bs ls (bs.drop (k + 1)) (k + 1) && ls.all (linkOkB bs)))) ∧ Aside0 (Below wr.heap.size wr wt)) (fun v _ => b.f1.length - (intOf v).toNat)
                case atStart => exact ⟨0, Nat.zero_le _, rfl, ⟨e3.out⟩, ⟨Below.refl _ _⟩⟩
                case round =>
                  obtain ⟨p, hpk, rfl, hp3, hU⟩ := hrel
                  have hbx3 := blk_below hbx2.out hU.out
                  have hbd0 : wr.cell? ⟨w.heap.size, 0, none⟩ = some (.slice (some ad) bs.length ca) := (blk_cell hbx3 0).trans rfl
                  have hbd1 : wr.cell? ⟨w.heap.size, 1, none⟩ = some (.slice B ls.length cb) := (blk_cell hbx3 1).trans rfl
                  have hsz3 := blk_lt hbx3
                  have hA3 := Aside0.mk (Kd.C_below hA2.out hU.out)
                  have hB3 := Aside0.mk (Kd.C_below hB2.out hU.out)
                  replace hbx3 := Aside0.mk hbx3
                  clear hbc0 hbc1 hsz
                  obtain ⟨ad', A1', c1', ead, hblk, h0, h1, hl', hC3⟩ := get65 hA3.out hb0.out
                  cases ead
                  by_cases hpl : p < b.f1.length
                  · obtain ⟨x, hx0⟩ : ∃ x, b.f1[p]? = some x := ⟨_, List.getElem?_eq_getElem hpl⟩
                    obtain ⟨pd, epd, hpblk, p0, p1, p2, p3, p4, p5, p6, p7, p8, p9, p10⟩ := get138 hC3 hx0
                    cases epd
                    clear p1 p2 p3 p4 p5 p6 p7 p8 p9 p10
                    have e4 := hp3.out
                    rw [drop_cons_of hx0, portsOkL] at e4
                    have j0 : (0 : Int) ≤ (p : Int) := by omega
                    have j1 : (p : Int) < (b.f1.length : Int) := by omega
                    have j2 : (k : Int) < (bs.length : Int) := by omega
                    have F3 := fun W (hh : Kd.C k145 W B ls.length ls) => l10Once_c (some ad) B ca cb bs ls k p W hh (by omega)
                    have F4 := fun W => l1Bit_b x.f0 W
                    generalize onceL (k : Int) (p : Int) ls = N at F3 e4
                    generalize bitI x.f0 = M at F4 e4
                    obtain ⟨q2, eq2⟩ : ∃ q, (N != M) = q := ⟨_, rfl⟩
                    have eq3 : (N == M) = !q2 := by rw [← eq2]; show _ = !(!(N == M)); rw [Bool.not_not]
                    rw [eq3] at e4
                    replace e4 := Aside0.mk e4
                    replace hx0 := Aside0.mk hx0
                    replace hC3 := Aside0.mk hC3
                    clear eq3
                    cases q2
                    all_goals (
                      go_wp2
                      go_region_held3 (fun w' => ∀ a : Addr, a.block < wr.heap.size → w'.cell? a = wr.cell? a) (first | exact fun _ _ => rfl | exact hs3 | assumption) (first | (go_at_call 103; (with_reducible refine (F3 _ (Kd.C_below hB3.out (by repeat (first | exact Below.refl _ _ | apply below_alloc | apply pw_below_drewN | apply below_drew1 | refine bthen ?_ hb3.out)))).mono ?_); rintro e w3 ⟨rfl, hb3⟩; have hs3 := Same.of hb3; replace hb3 := Aside0.mk hb3) | (go_at_call 104; (with_reducible refine (F4 _).mono ?_); rintro e w4 ⟨rfl, rfl⟩))
                      go_wp2)
                    · go_roundw
                      case rel => exact ⟨p + 1, by omega, by go_num, ⟨by have e5 := e4.out; simp only [Bool.not_false, Bool.true_and] at e5; exact e5⟩, ⟨(by repeat (first | exact Below.refl _ _ | apply below_alloc | apply pw_below_drewN | apply below_drew1 | refine bthen ?_ hb6.out | refine bthen ?_ hb5.out | refine bthen ?_ hb3.out | refine bthen ?_ hU.out | refine bthen ?_ hV.out | refine bthen ?_ hW1.out | refine bthen ?_ hW.out))⟩⟩
                      case measure => simp [intOf]; omega
                    · go_ret
                      exact ⟨rb (by have e5 := e4.out; simpa using e5), (by repeat (first | exact Below.refl _ _ | apply below_alloc | apply pw_below_drewN | apply below_drew1 | refine bthen ?_ hb6.out | refine bthen ?_ hb5.out | refine bthen ?_ hb3.out | refine bthen ?_ hU.out | refine bthen ?_ hV.out | refine bthen ?_ hW1.out | refine bthen ?_ hW.out))⟩
                  · have : p = b.f1.length := by omega
                    subst this
                    go_wp2
                    go_roundw
                    case rel => exact ⟨k + 1, by omega, by go_num, ⟨by have e5 := hp3.out; rw [List.drop_length, portsOkL, Bool.true_and] at e5; exact e5⟩, ⟨(by repeat (first | exact Below.refl _ _ | apply below_alloc | apply pw_below_drewN | apply below_drew1 | refine bthen ?_ hb3.out | refine bthen ?_ hU.out | refine bthen ?_ hV.out | refine bthen ?_ hW1.out))⟩⟩
                    case measure => simp [intOf]; omega
        · have : i = bs.length := by omega
          subst this
          have e2 : R = ls.all (linkOkB bs) := by have e := hp.out; rw [List.drop_length, bridgesOkL, Bool.true_and] at e; exact e
          replace e2 := Aside0.mk e2
          go_wp2
          go_loopw [6] (fun v wt => ∃ (k : Nat), k ≤ ls.length ∧ v = .int .i64 k ∧ Aside0 ((ls.take k).all (linkOkB bs) = true) ∧ Aside0 (Below wr.heap.size wr wt)) (fun v _ => ls.length - (intOf v).toNat)
          case atStart => exact ⟨0, Nat.zero_le _, rfl, ⟨by simp⟩, ⟨Below.refl _ _⟩⟩
          case round =>
            obtain ⟨k, hk, rfl, hall, hU⟩ := hrel
            have hbx3 := blk_below hbx.out hU.out
            have hbd0 : wr.cell? ⟨w.heap.size, 0, none⟩ = some (.slice A bs.length ca) := (blk_cell hbx3 0).trans rfl
            have hbd1 : wr.cell? ⟨w.heap.size, 1, none⟩ = some (.slice B ls.length cb) := (blk_cell hbx3 1).trans rfl
            have hsz3 := blk_lt hbx3
            have hz4 : w.heap.size < wr.heap.size + 1 := by omega
            have hz5 : w.heap.size ≠ wr.heap.size := by omega
            have hA3 := Aside0.mk (Kd.C_below hAr.out hU.out)
            have hB3 := Aside0.mk (Kd.C_below hBr.out hU.out)
            clear hbc0 hbc1 hsz
            by_cases hlt2 : k < ls.length
            · obtain ⟨x, hx0⟩ : ∃ x, ls[k]? = some x := ⟨_, List.getElem?_eq_getElem hlt2⟩
              obtain ⟨ld, eld, hblk, l0, l1, l2, l3⟩ := get145 hB3.out hx0
              cases eld
              have hbx4 := blk_alloc hbx3 (.cells #[.int .i64 x.f0, .int .i64 x.f1, .int .i64 x.f2, .int .i64 x.f3] 145)
              have hbl4 := blk_new wr (.cells #[.int .i64 x.f0, .int .i64 x.f1, .int .i64 x.f2, .int .i64 x.f3] 145)
              replace hbx3 := Aside0.mk hbx3
              replace hbx4 := Aside0.mk hbx4
              replace hbl4 := Aside0.mk hbl4
              replace hx0 := Aside0.mk hx0
              have k0 : (0 : Int) ≤ (k : Int) := by omega
              have k1 : (k : Int) < (ls.length : Int) := by omega
              obtain ⟨q1, e1⟩ : ∃ q, (x.f0 == x.f2) = q := ⟨_, rfl⟩
              obtain ⟨q2, eq2⟩ : ∃ q, q = endB bs x.f0 x.f1 := ⟨_, rfl⟩
              obtain ⟨q3, eq3⟩ : ∃ q, q = endB bs x.f2 x.f3 := ⟨_, rfl⟩
              have F1 : ∀ W, Kd.C k65 W A bs.length bs → _ := fun W hh => l10End_c A (some ld) ca cb bs ls x.f0 x.f1 W hh
              have F2 : ∀ W, Kd.C k65 W A bs.length bs → _ := fun W hh => l10End_c A (some ld) ca cb bs ls x.f2 x.f3 W hh
              simp only [← eq2] at F1
              simp only [← eq3] at F2
              replace eq2 := Aside0.mk eq2
              replace eq3 := Aside0.mk eq3
              cases q1 <;> cases q2 <;> cases q3
              all_goals (
                go_wp2_with (go_at_call 105; (with_reducible first | refine (F1 _ (Kd.C_below hA3.out (by repeat (first | exact Below.refl _ _ | apply below_alloc | apply pw_below_drewN | apply below_drew1 | refine bthen ?_ hb5.out)))).mono ?_ | refine (F2 _ (Kd.C_below hA3.out (by repeat (first | exact Below.refl _ _ | apply below_alloc | apply pw_below_drewN | apply below_drew1 | refine bthen ?_ hb5.out)))).mono ?_); first | (rintro e w5 ⟨rfl, hb5⟩; have hz6 : w.heap.size < w5.heap.size := blk_lt (blk_below hbx4.out hb5); have u0 : w5.cell? ⟨w.heap.size, 0, none⟩ = some (.slice A bs.length ca) := (blk_cell (blk_below hbx4.out hb5) 0).trans rfl; have u1 : w5.cell? ⟨w.heap.size, 1, none⟩ = some (.slice (some ld) ls.length cb) := (blk_cell (blk_below hbx4.out hb5) 1).trans rfl; have u2 : w5.cell? ⟨wr.heap.size, 2, none⟩ = some (.int .i64 x.f2) := (blk_cell (blk_below hbl4.out hb5) 2).trans rfl; have u3 : w5.cell? ⟨wr.heap.size, 3, none⟩ = some (.int .i64 x.f3) := (blk_cell (blk_below hbl4.out hb5) 3).trans rfl; replace hb5 := Aside0.mk hb5) | (rintro e w6 ⟨rfl, hb6⟩; replace hb6 := Aside0.mk hb6)))
              all_goals (first
                | (go_roundw
                   case rel => exact ⟨k + 1, by omega, by go_num, ⟨(take_all hall.out hx0.out).trans (by unfold linkOkB; rw [e1, ← eq2.out, ← eq3.out]; rfl)⟩, ⟨(by repeat (first | exact Below.refl _ _ | apply below_alloc | apply pw_below_drewN | apply below_drew1 | refine bthen ?_ hb6.out | refine bthen ?_ hb5.out | refine bthen ?_ hb3.out | refine bthen ?_ hU.out | refine bthen ?_ hV.out | refine bthen ?_ hW1.out | refine bthen ?_ hW.out))⟩⟩
                   case measure => simp [intOf]; omega)
                | (go_ret
                   exact ⟨rb (by rw [e2.out, all_false hx0.out (by unfold linkOkB; rw [e1, ← eq2.out, ← eq3.out]; rfl)]), (by repeat (first | exact Below.refl _ _ | apply below_alloc | apply pw_below_drewN | apply below_drew1 | refine bthen ?_ hb6.out | refine bthen ?_ hb5.out | refine bthen ?_ hb3.out | refine bthen ?_ hU.out | refine bthen ?_ hV.out | refine bthen ?_ hW1.out | refine bthen ?_ hW.out))⟩))
            · have : k = ls.length := by omega
              subst this
              go_wp2
              go_ret
              exact ⟨rb (by have e := hall.out; rw [take_full] at e; rw [e2.out, e]), (by repeat (first | exact Below.refl _ _ | apply below_alloc | apply pw_below_drewN | apply below_drew1 | refine bthen ?_ hb6.out | refine bthen ?_ hb5.out | refine bthen ?_ hb3.out | refine bthen ?_ hU.out | refine bthen ?_ hV.out | refine bthen ?_ hW1.out | refine bthen ?_ hW.out))⟩
    · have hy2 : 6 < ls.length := by omega
      have hy3 : (6 : Int) < (ls.length : Int) := by omega
      have F : ∀ W : World, Calls Try.prog 69 #[.int .i64 bs.length, .int .i64 1, .int .i64 5] W fun e w' => e = .returned (.bool true) ∧ W = w' := fun W => (l1In_c _ _ _ _).mono fun e w' ⟨h, hw⟩ => ⟨by rw [h, hx], hw⟩
      replace hx := Aside0.mk hx
      replace hA := Aside0.mk hA
      replace hB := Aside0.mk hB
      go_enter Try.func47, Try.ntmps47
      go_wp2_with (go_at_call 69; (with_reducible refine (F _).mono ?_); rintro e w1 ⟨rfl, rfl⟩)
      go_ret
      exact ⟨rb (by unfold netOkS; rw [hx.out, decide_eq_false hy]; rfl), (by repeat (first | exact Below.refl _ _ | apply below_alloc | apply pw_below_drewN | apply below_drew1 | refine bthen ?_ hb6.out | refine bthen ?_ hb5.out | refine bthen ?_ hb3.out | refine bthen ?_ hU.out | refine bthen ?_ hV.out | refine bthen ?_ hW1.out | refine bthen ?_ hW.out))⟩
  · have hx2 : inB bs.length 1 5 = false := by simpa using hx
    have F : ∀ W : World, Calls Try.prog 69 #[.int .i64 bs.length, .int .i64 1, .int .i64 5] W fun e w' => e = .returned (.bool false) ∧ W = w' := fun W => (l1In_c _ _ _ _).mono fun e w' ⟨h, hw⟩ => ⟨by rw [h, hx2], hw⟩
    replace hx2 := Aside0.mk hx2
    clear hx
    replace hA := Aside0.mk hA
    replace hB := Aside0.mk hB
    go_enter Try.func47, Try.ntmps47
    go_wp2_with (go_at_call 69; (with_reducible refine (F _).mono ?_); rintro e w1 ⟨rfl, rfl⟩)
    go_ret
    exact ⟨rb (by unfold netOkS; rw [hx2.out]; rfl), (by repeat (first | exact Below.refl _ _ | apply below_alloc | apply pw_below_drewN | apply below_drew1 | refine bthen ?_ hb6.out | refine bthen ?_ hb5.out | refine bthen ?_ hb3.out | refine bthen ?_ hU.out | refine bthen ?_ hV.out | refine bthen ?_ hW1.out | refine bthen ?_ hW.out))⟩
end Go.Proofs.Ytbdmnjobhfhinaa.M
namespace Go.Proofs.Ytbdmnjobhfhinaa.M
open Go.RowKit Go.Proofs.YtbdmnjobhfhinaaW.PrintWords Go.Proofs.YtbdmnjobhfhinaaW.PrintLast Go.Proofs.YtbdmnjobhfhinaaW.PrintMore
set_option linter.unusedVariables false
set_option linter.unusedSimpArgs false
set_option maxHeartbeats 4000000
set_option maxRecDepth 100000
theorem nb {x y : Int} (h : (x == y) = false) : ¬ x = y := by simpa using h
theorem pb {x y : Int} (h : (x == y) = true) : x = y := by simpa using h
def acrossL (bs : List S65) (b p : Int) : List S145 → (Int × Int × Bool)
  | [] => (0, 0, false)
  | x :: xs => if passB bs x = true then (if x.f0 = b ∧ x.f1 = p then (x.f2, x.f3, true) else if x.f2 = b ∧ x.f3 = p then (x.f0, x.f1, true) else acrossL bs b p xs) else acrossL bs b p xs
theorem l20Across_c (A B : Option Addr) (ca cb : Nat) (bs : List S65) (ls : List S145) (b p : Int) (w : World) (hA : Kd.C k65 w A bs.length bs) (hB : Kd.C k145 w B ls.length ls) (hin : ∀ x ∈ ls, LinkIn bs x) :
    Calls Try.prog 121 #[.agg #[.slice A bs.length ca, .slice B ls.length cb], .int .i64 b, .int .i64 p] w fun e w' => e = .returned (.tuple #[.int .i64 (acrossL bs b p ls).1, .int .i64 (acrossL bs b p ls).2.1, .bool (acrossL bs b p ls).2.2]) ∧ Below w.heap.size w w' := by
  have hu145 := Try.underlying145
  have hu32 := Try.underlying32
  have hlen := clen hB
  have hlenA := clen hA
  obtain ⟨R, hR⟩ : ∃ R, R = acrossL bs b p ls := ⟨_, rfl⟩
  rw [← hR]
  replace hR := Aside0.mk hR
  replace hA := Aside0.mk hA
  replace hB := Aside0.mk hB
  replace hin := Aside0.mk hin
  go_enter Try.func121, Try.ntmps121
  go_wp2
  go_loopw [9] (fun v wr => ∃ (k : Nat), k ≤ ls.length ∧ v = .int .i64 k ∧ Aside0 (R = acrossL bs b p (ls.drop k)) ∧ Aside0 (Below (w.alloc (.cells #[.slice A bs.length ca, .slice B ls.length cb] 32)).heap.size (w.alloc (.cells #[.slice A bs.length ca, .slice B ls.length cb] 32)) wr)) (fun v _ => ls.length - (intOf v).toNat)
  case atStart => exact ⟨0, Nat.zero_le _, rfl, ⟨hR.out⟩, ⟨Below.refl _ _⟩⟩
  case round =>
    obtain ⟨k, hk, rfl, hp, hW⟩ := hrel
    have hbx := blk_below (blk_new _ _) hW.out
    have hbc0 : wr.cell? ⟨w.heap.size, 0, none⟩ = some (.slice A bs.length ca) := (blk_cell hbx 0).trans rfl
    have hbc1 : wr.cell? ⟨w.heap.size, 1, none⟩ = some (.slice B ls.length cb) := (blk_cell hbx 1).trans rfl
    have hsz := blk_lt hbx
    have hz4 : w.heap.size < wr.heap.size + 1 := by omega
    have hz5 : w.heap.size ≠ wr.heap.size := by omega
    have hAr := Kd.C_below (Kd.C_below hA.out (below_alloc (Below.refl _ _) _)) hW.out
    have hBr := Kd.C_below (Kd.C_below hB.out (below_alloc (Below.refl _ _) _)) hW.out
    replace hbx := Aside0.mk hbx
    by_cases hlt : k < ls.length
    · obtain ⟨x, hx0⟩ : ∃ x, ls[k]? = some x := ⟨_, List.getElem?_eq_getElem hlt⟩
      obtain ⟨ld, eld, hblk, l0, l1, l2, l3⟩ := get145 hBr hx0
      cases eld
      have hxi := hin.out x (List.mem_of_getElem? hx0)
      have e := hp.out
      rw [drop_cons_of hx0, acrossL] at e
      obtain ⟨x0, x1, x2, x3⟩ := x
      obtain ⟨⟨a, i, ea, ei, u, s, hu, hs⟩, ⟨c, j, ec, ej, v, t, hv, ht⟩⟩ := hxi
      subst ea ei ec ej
      have hps : passB bs ⟨a, i, c, j⟩ = (s.f7 && t.f7) := by unfold passB; rw [portAt_eq hu hs, portAt_eq hv ht]
      rw [hps] at e
      have hia : a < bs.length := (List.getElem?_eq_some_iff.1 hu).1
      have hib : c < bs.length := (List.getElem?_eq_some_iff.1 hv).1
      have hip : i < u.f1.length := (List.getElem?_eq_some_iff.1 hs).1
      have hiq : j < v.f1.length := (List.getElem?_eq_some_iff.1 ht).1
      obtain ⟨ad, A1, c1, ead, hab, a0, a1, al, aC⟩ := get65 hAr hu
      obtain ⟨bd, B1, d1, ebd, hbb, b0, b1, bl, bC⟩ := get65 hAr hv
      cases ead
      cases ebd
      have hl1 := clen aC
      have hl2 := clen bC
      obtain ⟨pd, epd, hpb2, p0, p1, p2, p3, p4, p5, p6, p7, p8, p9, p10⟩ := get138 aC hs
      obtain ⟨qd, eqd, hqb2, q0, q1, q2, q3, q4, q5, q6, q7, q8, q9, q10⟩ := get138 bC ht
      cases epd
      cases eqd
      clear p0 p1 p2 p3 p4 p5 p6 p7 p8 p9 q0 q1 q2 q3 q4 q5 q6 q7 q8 q9 hps
      have i1 : (0 : Int) ≤ (k : Int) := by omega
      have i2 : (k : Int) < (ls.length : Int) := by omega
      have i3 : (a : Int) < (bs.length : Int) := by omega
      have i4 : (c : Int) < (bs.length : Int) := by omega
      have i5 : (i : Int) < (u.f1.length : Int) := by omega
      have i6 : (j : Int) < (v.f1.length : Int) := by omega
      replace hx0 := Aside0.mk hx0
      replace hu := Aside0.mk hu
      replace hv := Aside0.mk hv
      replace hs := Aside0.mk hs
      replace ht := Aside0.mk ht
      replace hAr := Aside0.mk hAr
      replace hBr := Aside0.mk hBr
      replace aC := Aside0.mk aC
      replace bC := Aside0.mk bC
      obtain ⟨so, eso⟩ : ∃ so, so = s.f7 := ⟨_, rfl⟩
      obtain ⟨tq, eto⟩ : ∃ tq, tq = t.f7 := ⟨_, rfl⟩
      rw [← eso] at p10 e
      rw [← eto] at q10 e
      replace eso := Aside0.mk eso
      replace eto := Aside0.mk eto
      replace e := Aside0.mk e
      cases so
      · go_wp2
        go_quiet (fail)
        go_wp2
        go_roundw
        case rel => exact ⟨k + 1, by omega, by go_num, ⟨by have e2 := e.out; rw [if_neg (by simp)] at e2; exact e2⟩, ⟨(by repeat (first | exact Below.refl _ _ | apply below_alloc | apply pw_below_drewN | apply below_drew1 | refine bthen ?_ hW.out))⟩⟩
        case measure => simp [intOf]; omega
      · cases tq
        · go_wp2
          go_quiet (fail)
          go_wp2
          go_roundw
          case rel => exact ⟨k + 1, by omega, by go_num, ⟨by have e2 := e.out; rw [if_neg (by simp)] at e2; exact e2⟩, ⟨(by repeat (first | exact Below.refl _ _ | apply below_alloc | apply pw_below_drewN | apply below_drew1 | refine bthen ?_ hW.out))⟩⟩
          case measure => simp [intOf]; omega
        · have e9 := e.out
          rw [if_pos (by rfl)] at e9
          replace e9 := Aside0.mk e9
          clear e
          go_wp2
          go_quiet (fail)
          go_wp2
          all_goals (first
            | (go_roundw
               case rel => exact ⟨k + 1, by omega, by go_num, ⟨by have e2 := e9.out; rw [if_neg (by first | exact fun h => nb (by assumption) h.2 | exact fun h => absurd h.1 (by assumption)), if_neg (by first | exact fun h => nb (by assumption) h.2 | exact fun h => absurd h.1 (by assumption))] at e2; exact e2⟩, ⟨(by repeat (first | exact Below.refl _ _ | apply below_alloc | apply pw_below_drewN | apply below_drew1 | refine bthen ?_ hW.out))⟩⟩
               case measure => simp [intOf]; omega)
            | (go_quiet (fail)
               go_wp2
               have e2 := e9.out
               first | rw [if_pos ⟨by assumption, pb (by assumption)⟩] at e2 | rw [if_neg (by first | exact fun h => nb (by assumption) h.2 | exact fun h => absurd h.1 (by assumption)), if_pos ⟨by assumption, pb (by assumption)⟩] at e2
               subst e2
               go_ret3
               exact ⟨by first | rfl | simp [*], (by repeat (first | exact Below.refl _ _ | apply below_alloc | apply pw_below_drewN | apply below_drew1 | refine bthen ?_ hW.out))⟩))
    · have : k = ls.length := by omega
      subst this
      go_wp2
      go_ret3
      have e := hp.out
      rw [List.drop_length, acrossL] at e
      subst e
      exact ⟨rfl, (by repeat (first | exact Below.refl _ _ | apply below_alloc | apply pw_below_drewN | apply below_drew1 | refine bthen ?_ hW.out))⟩
end Go.Proofs.Ytbdmnjobhfhinaa.M
namespace Go.Proofs.Ytbdmnjobhfhinaa.M
open Go.RowKit Go.Proofs.YtbdmnjobhfhinaaW.PrintWords Go.Proofs.YtbdmnjobhfhinaaW.PrintLast Go.Proofs.YtbdmnjobhfhinaaW.PrintMore
set_option linter.unusedVariables false
set_option linter.unusedSimpArgs false
set_option maxHeartbeats 4000000
set_option maxRecDepth 100000
theorem R_empty {α : Type} (d : Kd α) {e : Nat} {w : World} {base g : Nat} (h : w.heap[g]? = some (.cells #[] e (0, 0))) (hb : base ≤ g) : Kd.R d e w base (fun _ => True) (.slice (some ⟨g, 0, none⟩) 0 0) [] :=
  ⟨fun _ _ => trivial, [], ⟨by simp, .inr ⟨g, 0, #[], rfl, hb, h, Nat.le_refl _, by simp [maxLen], by simp, by simp⟩⟩, Reps.none _ _⟩
def outL (bs : List S65) (ls : List S145) (b but far : Int) : List S138 → Int → List S94
  | [], _ => []
  | _ :: xs, p => if (acrossL bs b p ls).2.2 = true ∧ p ≠ but then ⟨(acrossL bs b p ls).1, (acrossL bs b p ls).2.1, far⟩ :: outL bs ls b but far xs (p + 1) else outL bs ls b but far xs (p + 1)
theorem l20Out_c (A B : Option Addr) (ca cb : Nat) (bs : List S65) (ls : List S145) (i : Nat) (b : S65) (but far : Int) (w : World) (hA : Kd.C k65 w A bs.length bs) (hB : Kd.C k145 w B ls.length ls) (hin : ∀ x ∈ ls, LinkIn bs x) (hb : bs[i]? = some b) (hpl : b.f1.length ≤ 1000) :
    Calls Try.prog 78 #[.agg #[.slice A bs.length ca, .slice B ls.length cb], .int .i64 i, .int .i64 but, .int .i64 far] w fun e w' => ∃ v, e = .returned v ∧ Kd.R k94 94 w' w.heap.size (fun _ => True) v (outL bs ls i but far b.f1 0) ∧ Below w.heap.size w w' := by
  have hu145 := Try.underlying145
  have hu32 := Try.underlying32
  have hu94 := Try.underlying94
  have hlen := clen hB
  have hlenA := clen hA
  replace hA := Aside0.mk hA
  replace hB := Aside0.mk hB
  replace hin := Aside0.mk hin
  replace hb := Aside0.mk hb
  obtain ⟨R, hR⟩ : ∃ R, R = outL bs ls i but far b.f1 0 := ⟨_, rfl⟩
  rw [← hR]
  replace hR := Aside0.mk hR
  have i0 : (0 : Int) ≤ (i : Int) := by omega
  have i1 : (i : Int) < (bs.length : Int) := by have := (List.getElem?_eq_some_iff.1 hb.out).1; omega
  go_enter Try.func78, Try.ntmps78
  go_wp2
  go_loopw [9, 10] (fun v x wr => ∃ (k : Nat) (acc : List S94), k ≤ b.f1.length ∧ x = .int .i64 k ∧ Aside0 (Kd.R k94 94 wr w.heap.size (fun _ => True) v acc) ∧ Aside0 (R = acc ++ outL bs ls i but far (b.f1.drop k) k) ∧ Aside0 (acc.length ≤ k) ∧ Aside0 (wr.heap[w.heap.size]? = some (.cells #[.slice A bs.length ca, .slice B ls.length cb] 32 (0, 0))) ∧ Aside0 (Below w.heap.size w wr)) (fun _ x _ => b.f1.length - (intOf x).toNat)
  case atStart => exact ⟨0, [], Nat.zero_le _, rfl, ⟨R_empty k94 (by simpa using blk_new (w.alloc (.cells #[.slice A bs.length ca, .slice B ls.length cb] 32)) (.cells #[] 94)) (by simp)⟩, ⟨hR.out⟩, ⟨by simp⟩, ⟨blk_alloc (blk_new w _) _⟩, ⟨by repeat (first | exact Below.refl _ _ | apply below_alloc)⟩⟩
  case round =>
    obtain ⟨k, acc, hk, rfl, hO, hp, hacc, hbx, hW⟩ := hrel
    have hbc0 : wr.cell? ⟨w.heap.size, 0, none⟩ = some (.slice A bs.length ca) := (blk_cell hbx.out 0).trans rfl
    have hbc1 : wr.cell? ⟨w.heap.size, 1, none⟩ = some (.slice B ls.length cb) := (blk_cell hbx.out 1).trans rfl
    have hsz := blk_lt hbx.out
    have hAr := Kd.C_below hA.out hW.out
    obtain ⟨ad, A1, c1, ead, hblk, h0, h1, hl, hC1⟩ := get65 hAr hb.out
    cases ead
    have hl5 := clen hC1
    by_cases hlt : k < b.f1.length
    · obtain ⟨x, hx0⟩ : ∃ x, b.f1[k]? = some x := ⟨_, List.getElem?_eq_getElem hlt⟩
      have e := hp.out
      rw [drop_cons_of hx0, outL] at e
      have F := fun W h1 h2 => l20Across_c (some ad) B ca cb bs ls i k W h1 h2 hin.out
      generalize acrossL bs (i : Int) (k : Int) ls = Q at F e
      obtain ⟨t1, t2, t3⟩ := Q
      simp only at F e
      replace e := Aside0.mk e
      replace hx0 := Aside0.mk hx0
      replace hC1 := Aside0.mk hC1
      replace hAr := Aside0.mk hAr
      obtain ⟨q, eq⟩ : ∃ q, ((k : Int) != but) = q := ⟨_, rfl⟩
      cases t3 <;> cases q
      all_goals (
        go_wp2_with (first | (go_at_call 121; (with_reducible refine (F _ (Kd.C_below hA.out (by repeat (first | exact hW.out | apply below_alloc | apply pw_below_drewN | apply below_drew1 | refine bthen ?_ hb1.out))) (Kd.C_below hB.out (by repeat (first | exact hW.out | apply below_alloc | apply pw_below_drewN | apply below_drew1 | refine bthen ?_ hb1.out)))).mono ?_); rintro e w1 ⟨rfl, hb1⟩; replace hb1 := Aside0.mk hb1) | (at_builtin; refine Kd.R_append k94 (w0 := w) w.heap.size rfl (.tmp 40) (.tmp 45) 39 94 (.agg #[(.int .i64 0), (.int .i64 0), (.int .i64 0)]) 24 rfl Try.underlying39 info94 rfl (by decide) (by omega) u9 acc (⟨t1, t2, far⟩ : S94) [.int .i64 t1, .int .i64 t2, .int .i64 far] (fun _ => True) (fun _ => False) rfl rfl (k94_mkM _ _ _ (⟨t1, t2, far⟩ : S94)) (fun _ hk => hk.elim) (fun _ _ => trivial) (Kd.R_below hO.out hb1.out) (by repeat (first | exact hW.out | apply below_alloc | apply pw_below_drewN | apply below_drew1 | refine bthen ?_ hb1.out)) (below_size (by repeat (first | exact hW.out | apply below_alloc | apply pw_below_drewN | apply below_drew1 | refine bthen ?_ hb1.out))) (by have := hacc.out; omega) ?_; intro v1 w2 hO2 hB2 hg2 _; replace hO2 := Aside0.mk hO2; replace hB2 := Aside0.mk hB2; replace hg2 := Aside0.mk hg2)))
      · go_roundw
        case rel => exact ⟨k + 1, acc, by omega, by go_num, ⟨Kd.R_below hO.out hb1.out⟩, ⟨by have e2 := e.out; rw [if_neg (by simp)] at e2; exact e2⟩, ⟨by have := hacc.out; omega⟩, ⟨blk_below hbx.out hb1.out⟩, ⟨(by repeat (first | exact hW.out | apply below_alloc | apply pw_below_drewN | apply below_drew1 | refine bthen ?_ hb1.out))⟩⟩
        case measure => simp [intOf]; omega
      · go_roundw
        case rel => exact ⟨k + 1, acc, by omega, by go_num, ⟨Kd.R_below hO.out hb1.out⟩, ⟨by have e2 := e.out; rw [if_neg (by simp)] at e2; exact e2⟩, ⟨by have := hacc.out; omega⟩, ⟨blk_below hbx.out hb1.out⟩, ⟨(by repeat (first | exact hW.out | apply below_alloc | apply pw_below_drewN | apply below_drew1 | refine bthen ?_ hb1.out))⟩⟩
        case measure => simp [intOf]; omega
      · go_roundw
        case rel => exact ⟨k + 1, acc, by omega, by go_num, ⟨Kd.R_below hO.out hb1.out⟩, ⟨by have e2 := e.out; rw [if_neg (fun h => absurd h.2 (by simpa using eq))] at e2; exact e2⟩, ⟨by have := hacc.out; omega⟩, ⟨blk_below hbx.out hb1.out⟩, ⟨(by repeat (first | exact hW.out | apply below_alloc | apply pw_below_drewN | apply below_drew1 | refine bthen ?_ hb1.out))⟩⟩
        case measure => simp [intOf]; omega
      · go_roundw
        case rel => exact ⟨k + 1, _, by omega, by go_num, ⟨hO2.out⟩, ⟨by have e2 := e.out; rw [if_pos (by simpa using eq)] at e2; rw [e2, List.append_assoc]; rfl⟩, ⟨by have := hacc.out; simp; omega⟩, ⟨blk_grown (blk_below hbx.out hb1.out) hg2.out (Kd.R_ne hO.out hbx.out (by decide))⟩, ⟨hB2.out⟩⟩
        case measure => simp [intOf]; omega
    · have : k = b.f1.length := by omega
      subst this
      replace hC1 := Aside0.mk hC1
      go_wp2
      go_ret
      have e := hp.out
      rw [List.drop_length, outL, List.append_nil] at e
      subst e
      exact ⟨_, rfl, hO.out, hW.out⟩
end Go.Proofs.Ytbdmnjobhfhinaa.M
namespace Go.Proofs.Ytbdmnjobhfhinaa.M
open Go.RowKit Go.Proofs.YtbdmnjobhfhinaaW.PrintWords Go.Proofs.YtbdmnjobhfhinaaW.PrintLast Go.Proofs.YtbdmnjobhfhinaaW.PrintMore
set_option linter.unusedVariables false
/-- How an operation of a region is taken: p: it reckons; t: it reads what S tells; o: an event behind which S holds; l: a last event, behind which S is asked no more. -/
inductive RK where | p | t | o | l
def seqB (T : Bool × List (List Nat × List Nat)) (B ds : List Nat) : List (Nat × RK) → List Bool → Bool
  | [], s => readyT T.2 s == []
  | (i, .p) :: r, s => anyT T s (s.set i true) i && seqB T B ds r (s.set i true)
  | (i, .t) :: r, s => takeW T B ds s (s.set i true) i && seqB T B ds r (s.set i true)
  | (i, .o) :: r, s => (readyT T.2 s == [i] && s.set i true == s.set i true) && decide (i ∉ ds) && seqB T B ds r (s.set i true)
  | (i, .l) :: r, s => (readyT T.2 s == [i] && s.set i true == s.set i true) && decide (i ∈ ds) && seqB T B ds r (s.set i true)
section
variable {P : Program} {ops : Array Oper} {Q : Exit → Act → World → Prop} {S : World → Prop} {ds : List Nat}
def wpSeq (P : Program) (ops : Array Oper) (Q : Exit → Act → World → Prop) (S : World → Prop) : List (Nat × RK) → Act → World → Prop
  | [], a, w => Q .normal a w
  | (i, .p) :: r, a, w => ∃ oi v, ops[i]? = some oi ∧ Yields P ops oi v a ∧ wpSeq P ops Q S r (a.put oi.dst v) w
  | (i, .t) :: r, a, w => ∃ oi v, ops[i]? = some oi ∧ YieldsIf P ops S oi v a ∧ S w ∧ wpSeq P ops Q S r (a.put oi.dst v) w
  | (i, .o) :: r, a, w => ∃ oi, ops[i]? = some oi ∧ ∀ K : Act → World → Prop, Shut (∀ a' w', S w' → (S w' → wpSeq P ops Q S r a' w') → K a' w') → if Region.wanted oi (yielded ops a.tmps) = true then Oper.wp P oi a w K Q else K (a.put oi.dst undef) w
  | (i, .l) :: r, a, w => ∃ oi, ops[i]? = some oi ∧ ∀ K : Act → World → Prop, Shut (∀ a' w', wpSeq P ops Q S r a' w' → K a' w') → if Region.wanted oi (yielded ops a.tmps) = true then Oper.wp P oi a w K Q else K (a.put oi.dst undef) w
theorem wpSeq_any {T : Bool × List (List Nat × List Nat)} {B : List Nat} (hT : rtab .any ops = T) (hB : waitsOk T.2 B = true) (hQ : ∀ c a d v w, Q (.panic c) (Act.put a d v) w → Q (.panic c) a w) :
    ∀ (r : List (Nat × RK)) (s : List Bool) (fuel : Nat) (a : Act) (w : World), r.length ≤ fuel → seqB T B ds r s = true → wpSeq P ops Q S r a w → wpAnyLast P .any ops Q S ds fuel s.toArray a w
  | [], s, fuel, a, w, _, hs, h => done_ (done_of hT (by simpa [seqB] using hs)) h
  | (i, k) :: r, s, 0, a, w, hf, _, _ => absurd hf (by simp)
  | (i, .p) :: r, s, fuel + 1, a, w, hf, hs, h => by
    simp only [seqB, Bool.and_eq_true] at hs
    obtain ⟨oi, v, hi, hy, h⟩ := h
    exact pure_ (s.set i true).toArray hi rfl (any_of hT hs.1) (fun c a w => hQ c a _ _ w) hy rfl (wpSeq_any hT hB hQ r _ fuel _ w (by simpa using hf) hs.2 h)
  | (i, .t) :: r, s, fuel + 1, a, w, hf, hs, h => by
    simp only [seqB, Bool.and_eq_true] at hs
    obtain ⟨oi, v, hi, hy, hS, h⟩ := h
    exact take_ (s.set i true).toArray hi rfl (take_ofW hT hB hs.1) (fun c a w => hQ c a _ _ w) hy hS rfl (wpSeq_any hT hB hQ r _ fuel _ w (by simpa using hf) hs.2 h)
  | (i, .o) :: r, s, fuel + 1, a, w, hf, hs, h => by
    simp only [seqB, Bool.and_eq_true] at hs
    obtain ⟨oi, hi, h⟩ := h
    refine one_ (s.set i true).toArray hi rfl (one_of hT (by simpa only [Bool.and_eq_true] using hs.1.1)) (of_decide_eq_true hs.1.2) (fun K hK => h K (by unfold Shut; exact fun a' w' hS hc => hK.out a' w' hS (fun hS' => wpSeq_any hT hB hQ r _ fuel _ _ (by simpa using hf) hs.2 (hc hS'))))
  | (i, .l) :: r, s, fuel + 1, a, w, hf, hs, h => by
    simp only [seqB, Bool.and_eq_true] at hs
    obtain ⟨oi, hi, h⟩ := h
    refine last_ (s.set i true).toArray hi rfl (one_of hT (by simpa only [Bool.and_eq_true] using hs.1.1)) (of_decide_eq_true hs.1.2) (fun K hK => h K (by unfold Shut; exact fun a' w' hc => hK.out a' w' (wpSeq_any hT hB hQ r _ fuel _ _ (by simpa using hf) hs.2 hc)))
/-- A region that draws its order, in one order that is told. -/
theorem region_seq {id : Nat} {a : Act} {w : World} (S : World → Prop) (ds : List Nat) (r : List (Nat × RK)) {T : Bool × List (List Nat × List Nat)} {B : List Nat} (hm : P.follows .mixedOrders = true) (hT : rtab .any ops = T) (hB : waitsOk T.2 B = true)
    (hQ : ∀ c a d v w, Q (.panic c) (Act.put a d v) w → Q (.panic c) a w) (hr : (decide (r.length ≤ ops.size) && seqB T B ds r (List.replicate ops.size false)) = true) (hS : S w.drew) (h : S w.drew → wpSeq P ops Q S r a w.drew) : (Code.region id ops true).wp P Q a w := by
  simp only [Bool.and_eq_true, decide_eq_true_eq] at hr
  refine start_ (ds := ds) (n := ops.size) (List.replicate ops.size false).toArray hm rfl (by simp) hS (fun h2 => ?_)
  exact wpSeq_any hT hB hQ r _ _ _ _ hr.1 hr.2 (h h2)
theorem seq_p {i : Nat} {r : List (Nat × RK)} {oi : Oper} {N : Tmp} {v : Value} {a : Act} {w : World} (hi : ops[i]? = some oi) (hN : oi.dst = some N) (hy : Yields P ops oi v a) {a' : Act} (ha : a.put (some N) v = a') (h : wpSeq P ops Q S r a' w) : wpSeq P ops Q S ((i, .p) :: r) a w := ⟨oi, v, hi, hy, by rw [hN]; exact ha ▸ h⟩
theorem seq_t {i : Nat} {r : List (Nat × RK)} {oi : Oper} {N : Tmp} {v : Value} {a : Act} {w : World} (hi : ops[i]? = some oi) (hN : oi.dst = some N) (hy : YieldsIf P ops S oi v a) (hS : S w) {a' : Act} (ha : a.put (some N) v = a') (h : wpSeq P ops Q S r a' w) : wpSeq P ops Q S ((i, .t) :: r) a w := ⟨oi, v, hi, hy, hS, by rw [hN]; exact ha ▸ h⟩
theorem seq_o {i : Nat} {r : List (Nat × RK)} {oi : Oper} {N : Option Tmp} {a : Act} {w : World} (hi : ops[i]? = some oi) (hN : oi.dst = N) (h : ∀ K : Act → World → Prop, Shut (∀ a' w', S w' → (S w' → wpSeq P ops Q S r a' w') → K a' w') → if Region.wanted oi (yielded ops a.tmps) = true then Oper.wp P oi a w K Q else K (a.put N undef) w) : wpSeq P ops Q S ((i, .o) :: r) a w := ⟨oi, hi, by subst hN; exact h⟩
theorem seq_l {i : Nat} {r : List (Nat × RK)} {oi : Oper} {N : Option Tmp} {a : Act} {w : World} (hi : ops[i]? = some oi) (hN : oi.dst = N) (h : ∀ K : Act → World → Prop, Shut (∀ a' w', wpSeq P ops Q S r a' w' → K a' w') → if Region.wanted oi (yielded ops a.tmps) = true then Oper.wp P oi a w K Q else K (a.put N undef) w) : wpSeq P ops Q S ((i, .l) :: r) a w := ⟨oi, hi, by subst hN; exact h⟩
theorem seq_norm {r : List (Nat × RK)} {a a' : Act} {w : World} (ha : a = a') (h : wpSeq P ops Q S r a' w) : wpSeq P ops Q S r a w := ha ▸ h
theorem seq_done {a : Act} {w : World} (h : Q .normal a w) : wpSeq P ops Q S [] a w := h
end
end Go.Proofs.Ytbdmnjobhfhinaa.M
namespace Go.Proofs.Ytbdmnjobhfhinaa.M
open Go.RowKit Go.Proofs.YtbdmnjobhfhinaaW.PrintWords Go.Proofs.YtbdmnjobhfhinaaW.PrintLast Go.Proofs.YtbdmnjobhfhinaaW.PrintMore
set_option linter.unusedVariables false
set_option linter.unusedSimpArgs false
set_option maxHeartbeats 4000000
set_option maxRecDepth 100000
theorem C_take {α : Type} {d : Kd α} {w : World} {A : Option Addr} {n m : Nat} {l : List α} (h : Kd.C d w A n l) (hm : m ≤ n) : Kd.C d w A m (l.take m) := by
  obtain ⟨h1, h2, h3⟩ := h
  refine ⟨by rw [List.length_take]; omega, by omega, fun h0 => ?_⟩
  obtain ⟨ad, e, hc⟩ := h3 (by omega)
  refine ⟨ad, e, fun j p hp => hc j p ?_⟩
  rw [List.getElem?_take] at hp
  split at hp
  · exact hp
  · cases hp
theorem own_form {α : Type} {d : Kd α} {e : Nat} {w : World} {base : Nat} {ok : Nat → Prop} {v : Value} {xs : List α} (h : Kd.R d e w base ok v xs) : (v = .slice none 0 0 ∧ xs = []) ∨ ∃ g c, v = .slice (some ⟨g, 0, none⟩) xs.length c ∧ xs.length ≤ c ∧ c ≤ maxLen := by
  obtain ⟨_, inner, hown, _⟩ := h
  rcases hown.2 with ⟨hv, hn⟩ | ⟨g, cap, cur, hv, _, _, h1, h2, _⟩
  · exact .inl ⟨hv, List.eq_nil_of_length_eq_zero hn⟩
  · exact .inr ⟨g, cap, hv, h1, h2⟩
theorem l1Min_c (a b : Int) (w : World) : Calls Try.prog 79 #[.int .i64 a, .int .i64 b] w fun e w' => e = .returned (.int .i64 (if a < b then a else b)) ∧ w = w' := by
  go_enter Try.func79, Try.ntmps79
  go_wp2
  all_goals (go_ret; exact ⟨ri (by first | rfl | (rw [if_pos (by omega)]) | (rw [if_neg (by omega)])), rfl⟩)
/-- What is handed on from a visit. -/
def outV (bs : List S65) (ls : List S145) (v : S94) : List S94 := outL bs ls v.f0 v.f1 (v.f2 + 1) (bs.getD v.f0.toNat z65).f1 0
/-- The reference's rounds, from number i on. -/
def bfsS (bs : List S65) (ls : List S145) : Nat → Nat → List S94 → List S94
  | 0, _, out => out
  | k + 1, i, out => match out[i]? with
    | some v => if i < 60 then bfsS bs ls k (i + 1) (out ++ outV bs ls v) else out
    | none => out
theorem bfsS_pre (bs : List S65) (ls : List S145) : ∀ (k i : Nat) (out : List S94), ∃ t, bfsS bs ls k i out = out ++ t
  | 0, _, out => ⟨[], by simp [bfsS]⟩
  | k + 1, i, out => by
    unfold bfsS
    split
    · split
      · obtain ⟨t, ht⟩ := bfsS_pre bs ls k (i + 1) (out ++ outV bs ls ‹_›)
        exact ⟨outV bs ls ‹_› ++ t, by rw [ht, List.append_assoc]⟩
      · exact ⟨[], by simp⟩
    · exact ⟨[], by simp⟩
theorem bfsS_sub {bs : List S65} {ls : List S145} {k i : Nat} {out : List S94} {v : S94} (h : v ∈ out) : v ∈ bfsS bs ls k i out := by
  obtain ⟨t, ht⟩ := bfsS_pre bs ls k i out
  rw [ht]; exact List.mem_append_left _ h
theorem outL_len (bs : List S65) (ls : List S145) (b but far : Int) : ∀ (xs : List S138) (p : Int), (outL bs ls b but far xs p).length ≤ xs.length
  | [], _ => by simp [outL]
  | _ :: xs, p => by
    have := outL_len bs ls b but far xs (p + 1)
    unfold outL
    split <;> simp <;> omega
def floodS (bs : List S65) (ls : List S145) (i : Int) : List S94 := (bfsS bs ls 60 0 (outL bs ls i (-1) 1 (bs.getD i.toNat z65).f1 0)).take 60
def sFT7 : Bool × List (List Nat × List Nat) := (true, [([], []), ([], []), ([], []), ([], []), ([2, 3], [2, 3]), ([4], [4]), ([5], [5]), ([], []), ([], []), ([7, 8], [7, 8]), ([9], [9]), ([10], [10]), ([], []), ([], []), ([12, 13], [12, 13]), ([14], [14]), ([15], [15]), ([16], [16]), ([1, 6, 11, 17], [1, 6, 11, 17]), ([0, 18, 18], [0, 18]), ([19, 19, 0, 1, 2, 3, 4, 5, 6, 7, 8, 9, 10, 11, 12, 13, 14, 15, 16, 17, 18, 19], [0, 2, 7, 12, 19])])
def sFB7 : List Nat := [0, 0, 0, 0, 12, 28, 60, 0, 0, 384, 896, 1920, 0, 0, 12288, 28672, 61440, 126976, 262142, 524287, 1048575]
theorem sFtab7 : rtab .any (opsOf Try.f22 7) = sFT7 := by kernel_rfl
theorem sFbits7 : waitsOk sFT7.2 sFB7 = true := by kernel_rfl
theorem specFlood_c (A B : Option Addr) (ca cb : Nat) (bs : List S65) (ls : List S145) (x : Int) (w : World) (hA : Kd.C k65 w A bs.length bs) (hB : Kd.C k145 w B ls.length ls) (hin : netOkS bs ls = true → ∀ y ∈ ls, LinkIn bs y) (hpl : netOkS bs ls = true → ∀ b ∈ bs, b.f1.length ≤ 4)
    (hv : netOkS bs ls = true → ∀ v ∈ bfsS bs ls 60 0 (outL bs ls x (-1) 1 (bs.getD x.toNat z65).f1 0), 0 ≤ v.f0 ∧ v.f0 < bs.length ∧ 0 ≤ v.f2 ∧ v.f2 ≤ 100) :
    Calls Try.prog 22 #[.agg #[.slice A bs.length ca, .slice B ls.length cb], .int .i64 x] w fun e w' => ∃ v, e = .returned v ∧ Kd.R k94 94 w' w.heap.size (fun _ => True) v (if netOkS bs ls && inB x 0 (bs.length - 1) then floodS bs ls x else []) ∧ Below w.heap.size w w' := by
  have hu145 := Try.underlying145
  have hu32 := Try.underlying32
  have hu94 := Try.underlying94
  have hlen := clen hB
  have hlenA := clen hA
  have hw1 : IntKind.i64.wrap ((bs.length : Int) - 1) = (bs.length : Int) - 1 := IntWalk.i64_in _ (by omega)
  obtain ⟨q1, e1⟩ : ∃ q, q = netOkS bs ls := ⟨_, rfl⟩
  obtain ⟨q2, e2⟩ : ∃ q, q = inB x 0 ((bs.length : Int) - 1) := ⟨_, rfl⟩
  have F1 := fun W h1 h2 => specNetOk_c A B ca cb bs ls W h1 h2
  have F2 := fun W => l1In_c x 0 ((bs.length : Int) - 1) W
  rw [← e1, ← e2]
  rw [← e1] at hin hpl hv
  simp only [← e1] at F1
  simp only [← e2] at F2
  replace hA := Aside0.mk hA
  replace hB := Aside0.mk hB
  replace e1 := Aside0.mk e1
  cases q1
  · clear e2 hin hpl hv
    replace hv := trivial
    go_enter Try.func22, Try.ntmps22
    go_wp2_with (first | (go_at_call 47; (with_reducible refine (F1 _ (Kd.C_below hA.out (by repeat (first | exact Below.refl _ _ | apply below_alloc))) (Kd.C_below hB.out (by repeat (first | exact Below.refl _ _ | apply below_alloc)))).mono ?_); rintro e w1 ⟨rfl, hb⟩; replace hb := Aside0.mk hb) | (go_at_call 69; (with_reducible refine (F2 _).mono ?_); rintro e w2 ⟨rfl, rfl⟩))
    go_ret
    exact ⟨_, rfl, R_empty k94 (by simpa using blk_new w1 (.cells #[] 94)) (below_size (by repeat (first | exact Below.refl _ _ | apply below_alloc | refine bthen ?_ hb.out))), by repeat (first | exact Below.refl _ _ | apply below_alloc | refine bthen ?_ hb.out)⟩
  · cases q2
    · clear hin hpl hv
      replace e2 := Aside0.mk e2
      go_enter Try.func22, Try.ntmps22
      go_wp2_with (first | (go_at_call 47; (with_reducible refine (F1 _ (Kd.C_below hA.out (by repeat (first | exact Below.refl _ _ | apply below_alloc))) (Kd.C_below hB.out (by repeat (first | exact Below.refl _ _ | apply below_alloc)))).mono ?_); rintro e w1 ⟨rfl, hb⟩; have hbx := blk_below (blk_new w (.cells #[.slice A bs.length ca, .slice B ls.length cb] 32)) hb; have hbc0 : w1.cell? ⟨w.heap.size, 0, none⟩ = some (.slice A bs.length ca) := (blk_cell hbx 0).trans rfl; have hbc1 : w1.cell? ⟨w.heap.size, 1, none⟩ = some (.slice B ls.length cb) := (blk_cell hbx 1).trans rfl; have hsz := blk_lt hbx; replace hbx := Aside0.mk hbx; replace hb := Aside0.mk hb) | (go_at_call 69; (with_reducible refine (F2 _).mono ?_); rintro e w2 ⟨rfl, rfl⟩))
      go_ret
      exact ⟨_, rfl, R_empty k94 (by simpa using blk_new w1 (.cells #[] 94)) (below_size (by repeat (first | exact Below.refl _ _ | apply below_alloc | apply pw_below_drewN | apply below_drew1 | refine bthen ?_ hb2.out | refine bthen ?_ hb.out))), (by repeat (first | exact Below.refl _ _ | apply below_alloc | apply pw_below_drewN | apply below_drew1 | refine bthen ?_ hb2.out | refine bthen ?_ hb.out))⟩
    · have hx' : 0 ≤ x ∧ x ≤ (bs.length : Int) - 1 := by simpa [inB] using e2.symm
      obtain ⟨i, rfl⟩ : ∃ k : Nat, x = k := ⟨x.toNat, by omega⟩
      obtain ⟨b, hb0⟩ : ∃ b, bs[i]? = some b := ⟨_, List.getElem?_eq_getElem (by omega)⟩
      have hbl := hpl rfl b (List.mem_of_getElem? hb0)
      have hd : bs.getD (i : Int).toNat z65 = b := by simp [hb0]
      have hfl : floodS bs ls i = (bfsS bs ls 60 0 (outL bs ls i (-1) 1 b.f1 0)).take 60 := by unfold floodS; rw [hd]
      rw [hd] at hv
      simp only [Bool.and_true, Bool.and_self, if_true]
      rw [hfl]
      replace hin := Aside0.mk (hin rfl)
      replace hpl := Aside0.mk (hpl rfl)
      have hv' := hv rfl
      clear hv
      have hstl := outL_len bs ls i (-1) 1 b.f1 0
      have F3 := fun W h1 h2 => l20Out_c A B ca cb bs ls i b (-1) 1 W h1 h2 hin.out hb0 (by omega)
      generalize outL bs ls i (-1) 1 b.f1 0 = st at *
      obtain ⟨G, hG⟩ : ∃ G, G = bfsS bs ls 60 0 st := ⟨_, rfl⟩
      rw [← hG] at hv' ⊢
      replace hG := Aside0.mk hG
      replace hv' := Aside0.mk hv'
      replace hb0 := Aside0.mk hb0
      replace e2 := Aside0.mk e2
      replace hfl := Aside0.mk hfl
      replace hd := Aside0.mk hd
      clear hx'
      go_enter Try.func22, Try.ntmps22
      go_wp2_with (first | (go_at_call 47; (with_reducible refine (F1 _ (Kd.C_below hA.out (by repeat (first | exact Below.refl _ _ | apply below_alloc))) (Kd.C_below hB.out (by repeat (first | exact Below.refl _ _ | apply below_alloc)))).mono ?_); rintro e w1 ⟨rfl, hb⟩; have hbx := blk_below (blk_new w (.cells #[.slice A bs.length ca, .slice B ls.length cb] 32)) hb; have hbc0 : w1.cell? ⟨w.heap.size, 0, none⟩ = some (.slice A bs.length ca) := (blk_cell hbx 0).trans rfl; have hbc1 : w1.cell? ⟨w.heap.size, 1, none⟩ = some (.slice B ls.length cb) := (blk_cell hbx 1).trans rfl; have hsz := blk_lt hbx; replace hbx := Aside0.mk hbx; replace hb := Aside0.mk hb) | (go_at_call 69; (with_reducible refine (F2 _).mono ?_); rintro e w2 ⟨rfl, rfl⟩) | (go_at_call 78; (with_reducible refine (F3 _ (Kd.C_below hA.out (by repeat (first | exact Below.refl _ _ | apply below_alloc | apply pw_below_drewN | apply below_drew1 | refine bthen ?_ hb2.out | refine bthen ?_ hb.out))) (Kd.C_below hB.out (by repeat (first | exact Below.refl _ _ | apply below_alloc | apply pw_below_drewN | apply below_drew1 | refine bthen ?_ hb2.out | refine bthen ?_ hb.out)))).mono ?_); rintro e w2 ⟨v2, rfl, hO, hb2⟩; have hbx2 := Aside0.mk (blk_below hbx.out hb2); replace hb2 := Aside0.mk hb2; replace hO := Aside0.mk hO))
      go_loopw [5, 6] (fun vo vi wr => ∃ (k : Nat) (acc : List S94), k ≤ 60 ∧ vi = .int .i64 k ∧ Aside0 (Kd.R k94 94 wr w.heap.size (fun _ => True) vo acc) ∧ Aside0 (G = bfsS bs ls (60 - k) k acc) ∧ Aside0 (acc.length ≤ 4 * (k + 1)) ∧ Aside0 (wr.heap[w.heap.size]? = some (.cells #[.slice A bs.length ca, .slice B ls.length cb] 32 (0, 0))) ∧ Aside0 (Below w.heap.size w wr)) (fun _ vi _ => 60 - (intOf vi).toNat)
      case atStart => exact ⟨0, st, by omega, rfl, ⟨Kd.R_lower hO.out (below_size (by repeat (first | exact Below.refl _ _ | apply below_alloc | apply pw_below_drewN | apply below_drew1 | refine bthen ?_ hb2.out | refine bthen ?_ hb.out)))⟩, ⟨hG.out⟩, ⟨by omega⟩, ⟨hbx2.out⟩, ⟨(by repeat (first | exact Below.refl _ _ | apply below_alloc | apply pw_below_drewN | apply below_drew1 | refine bthen ?_ hb2.out | refine bthen ?_ hb.out))⟩⟩
      case round =>
        obtain ⟨k, acc, hk, rfl, hO, hp, hacc, hbx, hW⟩ := hrel
        obtain ⟨Ao, co, eo⟩ := Kd.R_slice hO.out
        subst eo
        have hC := (Kd.R_reads' hO.out).2.2
        have hbc0 : wr.cell? ⟨w.heap.size, 0, none⟩ = some (.slice A bs.length ca) := (blk_cell hbx.out 0).trans rfl
        have hbc1 : wr.cell? ⟨w.heap.size, 1, none⟩ = some (.slice B ls.length cb) := (blk_cell hbx.out 1).trans rfl
        have hsz := blk_lt hbx.out
        have hal := hacc.out
        by_cases hlt : k < acc.length ∧ k < 60
        · obtain ⟨hlt1, hlt2⟩ := hlt
          obtain ⟨v, hv0⟩ : ∃ v, acc[k]? = some v := ⟨_, List.getElem?_eq_getElem hlt1⟩
          have hvG : v ∈ G := by rw [hp.out]; exact bfsS_sub (List.mem_of_getElem? hv0)
          obtain ⟨g1, g2, g3, g4⟩ := hv'.out v hvG
          have e := hp.out
          rw [show 60 - k = (60 - (k + 1)) + 1 by omega, bfsS, hv0] at e
          simp only [hlt2, if_true] at e
          obtain ⟨ad, eA, hblk, h0, h1, h2⟩ := get94 hC hv0
          cases eA
          obtain ⟨v0, v1, v3⟩ := v
          simp only at g1 g2 g3 g4 h0 h1 h2
          obtain ⟨j, rfl⟩ : ∃ j : Nat, v0 = j := ⟨v0.toNat, by omega⟩
          obtain ⟨c, hc0⟩ : ∃ c, bs[j]? = some c := ⟨_, List.getElem?_eq_getElem (by omega)⟩
          have hcl := hpl.out c (List.mem_of_getElem? hc0)
          have hov : outV bs ls ⟨j, v1, v3⟩ = outL bs ls j v1 (v3 + 1) c.f1 0 := by unfold outV; simp [hc0]
          rw [hov] at e
          have hstl2 := outL_len bs ls j v1 (v3 + 1) c.f1 0
          have F4 := fun W h1 h2 => l20Out_c A B ca cb bs ls j c v1 (v3 + 1) W h1 h2 hin.out hc0 (by omega)
          generalize outL bs ls j v1 (v3 + 1) c.f1 0 = st2 at *
          have i1 : (0 : Int) ≤ (k : Int) := by omega
          have i2 : (k : Int) < (acc.length : Int) := by omega
          have w3 : IntKind.i64.wrap (v3 + 1) = v3 + 1 := IntWalk.i64_in _ (by omega)
          replace e := Aside0.mk e
          replace hv0 := Aside0.mk hv0
          replace hc0 := Aside0.mk hc0
          replace hov := Aside0.mk hov
          replace hC := Aside0.mk hC
          replace hvG := Aside0.mk hvG
          go_wp2
          refine region_seq (fun w' => w'.cell? ⟨w.heap.size, 0, none⟩ = some (.slice A bs.length ca) ∧ w'.cell? ⟨w.heap.size, 1, none⟩ = some (.slice B ls.length cb) ∧ w'.cell? (ad.add (k * 3)) = some (.int .i64 j) ∧ w'.cell? ⟨(ad.add (k * 3)).block, (ad.add (k * 3)).off + 1, none⟩ = some (.int .i64 v1) ∧ w'.cell? ⟨(ad.add (k * 3)).block, (ad.add (k * 3)).off + 2, none⟩ = some (.int .i64 v3)) [19] [(0, .p), (2, .p), (3, .p), (4, .p), (5, .p), (7, .p), (8, .p), (9, .p), (10, .p), (12, .p), (13, .p), (14, .p), (15, .p), (1, .t), (6, .t), (11, .t), (16, .t), (17, .p), (18, .o), (19, .l), (20, .p)] (by kernel_rfl) sFtab7 sFbits7 (fun _ _ d _ _ h => by cases d <;> exact h) (by kernel_rfl) ⟨hbc0, hbc1, h0, h1, h2⟩ (fun hHeld => ?_)
          repeat (first | (refine seq_p (v := ?_) (a' := ?_) rfl rfl (Or.inl ⟨by rfl, ?_⟩) ?_ ?_; rotate_left; (intro w'; go_simp; with_reducible rfl); rotate_left; (simp only [Act.put, List.setIfInBounds_toArray, List.set_cons_zero, List.set_cons_succ, i64_w, i32_w]; rfl)) | (refine seq_t (v := ?_) (a' := ?_) rfl rfl (Or.inl ⟨by rfl, ?_⟩) hHeld ?_ ?_; rotate_left; (rintro w' ⟨s0, s1, s2, s3, s4⟩; go_simp; with_reducible rfl); rotate_left; (simp only [Act.put, List.setIfInBounds_toArray, List.set_cons_zero, List.set_cons_succ, i64_w, i32_w]; rfl)))
          refine seq_o (N := some 51) (by rfl) (by rfl) (fun K hK => ?_)
          refine goes_ Try.func78 (by kernel_rfl) rfl #[.agg #[.slice A bs.length ca, .slice B ls.length cb], .int .i64 j, .int .i64 v1, .int .i64 (v3 + 1)] (by rfl) rfl rfl (by simp only [List.map_toArray, List.map_cons, List.map_nil]; rfl) ?_
          with_reducible refine (F4 _ (Kd.C_below hA.out (by repeat (first | exact hW.out | apply below_alloc | apply pw_below_drewN | apply below_drew1 | refine bthen ?_ hb3.out))) (Kd.C_below hB.out (by repeat (first | exact hW.out | apply below_alloc | apply pw_below_drewN | apply below_drew1 | refine bthen ?_ hb3.out)))).mono ?_
          rintro e' w3 ⟨vn, rfl, hO3, hb3⟩
          refine ⟨_, rfl, ?_⟩
          have S2 := (hb3.cell (World.block_lt_of_cell? _ _ hHeld.2.2.1)).trans hHeld.2.2.1
          have S3 := (hb3.cell (World.block_lt_of_cell? _ _ hHeld.2.2.2.1)).trans hHeld.2.2.2.1
          have S4 := (hb3.cell (World.block_lt_of_cell? _ _ hHeld.2.2.2.2)).trans hHeld.2.2.2.2
          have hbx3 := blk_below (blk_drew hbx.out) hb3
          have hO4 := Aside0.mk (Kd.R_elder' (Kd.R_drew hO.out) (Kd.R_base hO3) hb3)
          have hO5 := Aside0.mk (Kd.R_lower (Kd.R_new' hO3 (Kd.R_lt (Kd.R_drew hO.out))) (below_size (by repeat (first | exact hW.out | apply below_alloc | apply pw_below_drewN | apply below_drew1 | refine bthen ?_ hb3.out))))
          obtain ⟨Ao3, co3, eo3⟩ := Kd.R_slice hO5.out
          subst eo3
          replace hb3 := Aside0.mk hb3
          refine hK.out _ _ ⟨(blk_cell hbx3 0).trans rfl, (blk_cell hbx3 1).trans rfl, S2, S3, S4⟩ (fun hHeld2 => ?_)
          clear hK K
          replace hbx3 := Aside0.mk hbx3
          refine seq_norm (a' := ?_) ?_ ?_
          rotate_left
          · show Act.put _ _ _ = _; simp only [Act.put, List.setIfInBounds_toArray, List.set_cons_zero, List.set_cons_succ, i64_w, i32_w]; rfl
          refine seq_l (N := some 52) (by rfl) (by rfl) (fun K hK => ?_)
          refine Kd.R_append_rows_step k94 (w0 := w) w.heap.size (by rfl) (.tmp 33) (.tmp 51) 39 94 (.agg #[(.int .i64 0), (.int .i64 0), (.int .i64 0)]) 24 rfl Try.underlying39 info94 rfl (by decide) (by omega) (.slice (some ad) acc.length co) acc st2 _ _ _ (fun k_ => some k_ ≠ (.slice Ao3 st2.length co3 : Value).ownBlock) (fun _ => False) rfl rfl (Kd.R_mono hO4.out (fun _ hk => hk.2)) (Kd.R_reads' hO5.out).2.2 (fun _ _ h => h) (fun _ h => h.elim) (fun k_ hk => Kd.fresh' (Kd.R_lt hO5.out) k_ hk) (by repeat (first | exact hW.out | apply below_alloc | apply pw_below_drewN | apply below_drew1 | refine bthen ?_ hb3.out)) (below_size (by repeat (first | exact hW.out | apply below_alloc | apply pw_below_drewN | apply below_drew1 | refine bthen ?_ hb3.out))) (by omega) ?_
          intro v5 w5 hO6 hb5 hg5 hat5
          have hbx5 := blk_grown hbx3.out hg5 (Kd.R_ne hO4.out hbx3.out (by decide))
          replace hO6 := Aside0.mk hO6
          replace hb5 := Aside0.mk hb5
          replace hbx5 := Aside0.mk hbx5
          clear hg5 hat5
          refine hK.out _ _ ?_
          clear hK K
          refine seq_norm (a' := ?_) ?_ ?_
          rotate_left
          · show Act.put _ _ _ = _; simp only [Act.put, List.setIfInBounds_toArray, List.set_cons_zero, List.set_cons_succ, i64_w, i32_w]; rfl
          repeat (refine seq_p (v := ?_) (a' := ?_) rfl rfl (Or.inl ⟨by rfl, ?_⟩) ?_ ?_; rotate_left; (intro w'; go_simp; with_reducible rfl); rotate_left; (simp only [Act.put, List.setIfInBounds_toArray, List.set_cons_zero, List.set_cons_succ, i64_w, i32_w]; rfl))
          refine seq_done ?_
          go_wp2
          go_roundw
          case rel => exact ⟨k + 1, acc ++ st2, by omega, by go_num, ⟨Kd.R_mono hO6.out (fun _ _ => trivial)⟩, ⟨by rw [e.out]⟩, ⟨by rw [List.length_append]; omega⟩, ⟨hbx5.out⟩, ⟨hb5.out⟩⟩
          case measure => simp [intOf]; omega
        · have hG2 : G.take 60 = acc.take (min acc.length 60) := by
            rw [hp.out]
            by_cases h60 : k = 60
            · subst h60; simp only [Nat.sub_self, bfsS]; rw [List.take_eq_take_min, Nat.min_comm]
            · have hk2 : acc.length ≤ k := by omega
              rw [show 60 - k = (60 - k - 1) + 1 by omega, bfsS, List.getElem?_eq_none hk2]
              rw [List.take_eq_take_min, Nat.min_comm]
          have F5 := fun W => l1Min_c acc.length 60 W
          rcases own_form hO.out with ⟨hv1, hnil⟩ | ⟨gg, cc, hv1, hcc, hmx⟩
          · injection hv1 with hv1 _ hv2
            subst hv1 hv2 hnil
            simp only [List.length_nil, List.take_nil, Nat.zero_min] at hG2
            replace hG2 := Aside0.mk hG2
            have F6 : ∀ W : World, Calls Try.prog 79 #[.int .i64 0, .int .i64 60] W fun e w' => e = .returned (.int .i64 0) ∧ W = w' := fun W => l1Min_c 0 60 W
            obtain ⟨m, hm⟩ : ∃ m : Nat, m = 0 := ⟨_, rfl⟩
            have acc : List S94 := []
            have hCt : Aside0 (Kd.C k94 wr none 0 ([] : List S94)) := ⟨Kd.C_nil k94 wr⟩
            clear F5
            simp only [List.length_nil] at *
            go_wp2_with (first | (go_at_call 79; (with_reducible refine (F6 _).mono ?_); rintro e w4 ⟨rfl, rfl⟩) | (at_builtin; refine Kd.R_append_rows k94 (w0 := w) w.heap.size rfl (.tmp 53) (.tmp 58) 39 94 (.agg #[(.int .i64 0), (.int .i64 0), (.int .i64 0)]) 24 rfl Try.underlying39 info94 rfl (by decide) (by omega) (.slice (some ⟨wr.heap.size, 0, none⟩) 0 0) [] ([] : List S94) _ _ _ (fun _ => True) (fun _ => False) rfl rfl (R_empty k94 (blk_new wr _) (below_size hW.out)) (Kd.C_alloc hCt.out _) (fun _ _ h => h) (fun _ h => h.elim) (fun _ _ => trivial) (by repeat (first | exact hW.out | apply below_alloc | apply pw_below_drewN | apply below_drew1)) (below_size (by repeat (first | exact hW.out | apply below_alloc | apply pw_below_drewN | apply below_drew1))) (by simp) ?_; intro v5 w5 hO6 hb5 _ _; replace hO6 := Aside0.mk hO6; replace hb5 := Aside0.mk hb5))
            go_ret
            exact ⟨_, rfl, by rw [hG2.out]; exact hO6.out, hb5.out⟩
          · injection hv1 with hv1 _ hv2
            subst hv1 hv2
            obtain ⟨m, hm⟩ : ∃ m : Nat, m = min acc.length 60 := ⟨_, rfl⟩
            rw [← hm] at hG2
            have hm2 : (if (acc.length : Int) < 60 then (acc.length : Int) else 60) = (m : Int) := by split <;> omega
            simp only [hm2] at F5
            have m1 : m ≤ acc.length := by omega
            have m2 : (0 : Int) ≤ (m : Int) := by omega
            have m3 : (m : Int) ≤ (co : Int) := by omega
            have hCt := Aside0.mk (C_take hC m1)
            replace hG2 := Aside0.mk hG2
            replace hm := Aside0.mk hm
            unfold maxLen at hmx
            clear hm2
            go_wp2_with (first | (go_at_call 79; (with_reducible refine (F5 _).mono ?_); rintro e w4 ⟨rfl, rfl⟩) | (at_builtin; refine Kd.R_append_rows k94 (w0 := w) w.heap.size rfl (.tmp 53) (.tmp 58) 39 94 (.agg #[(.int .i64 0), (.int .i64 0), (.int .i64 0)]) 24 rfl Try.underlying39 info94 rfl (by decide) (by omega) (.slice (some ⟨wr.heap.size, 0, none⟩) 0 0) [] (acc.take m) _ _ _ (fun _ => True) (fun _ => False) rfl rfl (R_empty k94 (blk_new wr _) (below_size hW.out)) (Kd.C_alloc hCt.out _) (fun _ _ h => h) (fun _ h => h.elim) (fun _ _ => trivial) (by repeat (first | exact hW.out | apply below_alloc | apply pw_below_drewN | apply below_drew1)) (below_size (by repeat (first | exact hW.out | apply below_alloc | apply pw_below_drewN | apply below_drew1))) (by simp; omega) ?_; intro v5 w5 hO6 hb5 _ _; replace hO6 := Aside0.mk hO6; replace hb5 := Aside0.mk hb5))
            all_goals (go_ret; exact ⟨_, rfl, by rw [hG2.out]; exact hO6.out, hb5.out⟩)
end Go.Proofs.Ytbdmnjobhfhinaa.M
