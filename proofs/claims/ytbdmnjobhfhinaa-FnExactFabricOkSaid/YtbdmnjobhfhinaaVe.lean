/- The law texts: comparing, marking and looking for marks. No conditions beside those that each theorem states. -/
import Derived.Test.YtbdmnjobhfhinaaVd
import Derived.Test.YtbdmnjobhfhinaaVb
import Derived.Test.YtbdmnjobhfhinaaVc
import Derived.Test.YtbdmnjobhfhinaaVa
namespace Go.Proofs.Ytbdmnjobhfhinaa.M
open Go.RowKit Go.Proofs.YtbdmnjobhfhinaaW.PrintWords Go.Proofs.YtbdmnjobhfhinaaW.PrintLast Go.Proofs.YtbdmnjobhfhinaaW.PrintMore
set_option linter.unusedVariables false
set_option linter.unusedSimpArgs false
set_option maxHeartbeats 4000000
set_option maxRecDepth 100000
abbrev v145 (a : S145) : Value := .agg #[.int .i64 a.f0, .int .i64 a.f1, .int .i64 a.f2, .int .i64 a.f3]
abbrev v94 (a : S94) : Value := .agg #[.int .i64 a.f0, .int .i64 a.f1, .int .i64 a.f2]
theorem eqVec_t (a : S119) (w : World) : Calls Try.prog 142 #[v119 a, v119 a] w fun e w' => e = .returned (.bool true) ∧ Below w.heap.size w w' := by
  have hu119 := Try.underlying119
  go_enter Try.func142, Try.ntmps142
  go_wp2
  all_goals (go_ret; exact ⟨rfl, by repeat (first | exact Below.refl _ _ | apply below_alloc | apply pw_below_drewN | apply below_drew1)⟩)
theorem eqPort_t (a : S138) (w : World) : Calls Try.prog 230 #[v138 a, v138 a] w fun e w' => e = .returned (.bool true) ∧ Below w.heap.size w w' := by
  have hu138 := Try.underlying138
  have hu119 := Try.underlying119
  go_enter Try.func230, Try.ntmps230
  go_wp2_with (go_at_call 142; refine (eqVec_t a.f2 _).mono ?_; rintro e w1 ⟨rfl, hb⟩; obtain ⟨hc, hf⟩ := bcell hb; replace hb := Aside0.mk hb)
  all_goals (go_ret; exact ⟨rfl, by repeat (first | exact Below.refl _ _ | apply below_alloc | apply pw_below_drewN | apply below_drew1 | refine bthen ?_ hb.out)⟩)
theorem eqLink_t (a : S145) (w : World) : Calls Try.prog 131 #[v145 a, v145 a] w fun e w' => e = .returned (.bool true) ∧ Below w.heap.size w w' := by
  have hu145 := Try.underlying145
  go_enter Try.func131, Try.ntmps131
  go_wp2
  all_goals (go_ret; exact ⟨rfl, by repeat (first | exact Below.refl _ _ | apply below_alloc | apply pw_below_drewN | apply below_drew1)⟩)
theorem eqVisit_t (a : S94) (w : World) : Calls Try.prog 80 #[v94 a, v94 a] w fun e w' => e = .returned (.bool true) ∧ Below w.heap.size w w' := by
  have hu94 := Try.underlying94
  go_enter Try.func80, Try.ntmps80
  go_wp2
  all_goals (go_ret; exact ⟨rfl, by repeat (first | exact Below.refl _ _ | apply below_alloc | apply pw_below_drewN | apply below_drew1)⟩)
theorem eqPortS_t (A B : Option Addr) (ca cb : Nat) (l : List S138) (w : World) (hA : Kd.C k138 w A l.length l) (hB : Kd.C k138 w B l.length l) : Calls Try.prog 185 #[.slice A l.length ca, .slice B l.length cb] w fun e w' => e = .returned (.bool true) ∧ Below w.heap.size w w' := by
  have hlen := clen hA
  replace hA := Aside0.mk hA
  replace hB := Aside0.mk hB
  go_enter Try.func185, Try.ntmps185
  go_wp2
  go_loopw [5] (fun i wr => ∃ k : Nat, k ≤ l.length ∧ i = .int .i64 k ∧ Aside0 (Below w.heap.size w wr)) (fun i _ => l.length - (intOf i).toNat)
  case atStart => exact ⟨0, Nat.zero_le _, rfl, ⟨Below.refl _ _⟩⟩
  case round =>
    obtain ⟨k, hk, rfl, hW⟩ := hrel
    by_cases hlt : k < l.length
    · obtain ⟨x, hx0⟩ : ∃ x, l[k]? = some x := ⟨_, List.getElem?_eq_getElem hlt⟩
      have i1 : (0 : Int) ≤ (k : Int) := by omega
      have i2 : (k : Int) < (l.length : Int) := by omega
      go_wp2
      refine wp_same (fun wq hbq hzq => ?_)
      obtain ⟨ad, eA, hblk, h0, h1, h2, h3, h4, h5, h6, h7, h8, h9, h10⟩ := get138 (Kd.C_below (Kd.C_below hA.out hW.out) hbq) hx0
      obtain ⟨bd, eB, hblk', g0, g1, g2, g3, g4, g5, g6, g7, g8, g9, g10⟩ := get138 (Kd.C_below (Kd.C_below hB.out hW.out) hbq) hx0
      subst eA eB
      clear hzq
      replace hbq := Aside0.mk (bthen hW.out hbq)
      replace hx0 := Aside0.mk hx0
      go_region_held3 (fun w' => ∀ a : Addr, a.block < wq.heap.size → w'.cell? a = wq.cell? a) (first | exact fun _ _ => rfl | exact hs1 | assumption) (first | (go_at_call 230; refine (eqPort_t x _).mono ?_; rintro e w1 ⟨rfl, hc⟩; have hs1 := Same.of hc; replace hc := Aside0.mk hc))
      go_wp2
      go_roundw
      case rel => exact ⟨k + 1, by omega, by go_num, ⟨by repeat (first | exact hbq.out | apply below_alloc | apply pw_below_drewN | apply below_drew1 | refine bthen ?_ hc.out)⟩⟩
      case measure => simp [intOf]; omega
    · have : k = l.length := by omega
      subst this
      go_wp2
      go_ret
      exact ⟨rfl, hW.out⟩
end Go.Proofs.Ytbdmnjobhfhinaa.M
namespace Go.Proofs.Ytbdmnjobhfhinaa.M
open Go.RowKit Go.Proofs.YtbdmnjobhfhinaaW.PrintWords Go.Proofs.YtbdmnjobhfhinaaW.PrintLast Go.Proofs.YtbdmnjobhfhinaaW.PrintMore
set_option linter.unusedVariables false
set_option linter.unusedSimpArgs false
set_option maxHeartbeats 4000000
set_option maxRecDepth 100000
theorem eqLinkS_t (A B : Option Addr) (ca cb : Nat) (l : List S145) (w : World) (hA : Kd.C k145 w A l.length l) (hB : Kd.C k145 w B l.length l) : Calls Try.prog 75 #[.slice A l.length ca, .slice B l.length cb] w fun e w' => e = .returned (.bool true) ∧ Below w.heap.size w w' := by
  have hlen := clen hA
  replace hA := Aside0.mk hA
  replace hB := Aside0.mk hB
  go_enter Try.func75, Try.ntmps75
  go_wp2
  go_loopw [5] (fun i wr => ∃ k : Nat, k ≤ l.length ∧ i = .int .i64 k ∧ Aside0 (Below w.heap.size w wr)) (fun i _ => l.length - (intOf i).toNat)
  case atStart => exact ⟨0, Nat.zero_le _, rfl, ⟨Below.refl _ _⟩⟩
  case round =>
    obtain ⟨k, hk, rfl, hW⟩ := hrel
    by_cases hlt : k < l.length
    · obtain ⟨x, hx0⟩ : ∃ x, l[k]? = some x := ⟨_, List.getElem?_eq_getElem hlt⟩
      have i1 : (0 : Int) ≤ (k : Int) := by omega
      have i2 : (k : Int) < (l.length : Int) := by omega
      go_wp2
      refine wp_same (fun wq hbq hzq => ?_)
      obtain ⟨ad, eA, hblk, h0, h1, h2, h3⟩ := get145 (Kd.C_below (Kd.C_below hA.out hW.out) hbq) hx0
      obtain ⟨bd, eB, hblk', g0, g1, g2, g3⟩ := get145 (Kd.C_below (Kd.C_below hB.out hW.out) hbq) hx0
      subst eA eB
      clear hzq
      replace hbq := Aside0.mk (bthen hW.out hbq)
      replace hx0 := Aside0.mk hx0
      go_region_held3 (fun w' => ∀ a : Addr, a.block < wq.heap.size → w'.cell? a = wq.cell? a) (first | exact fun _ _ => rfl | exact hs1 | assumption) (first | (go_at_call 131; refine (eqLink_t x _).mono ?_; rintro e w1 ⟨rfl, hc⟩; have hs1 := Same.of hc; replace hc := Aside0.mk hc))
      go_wp2
      go_roundw
      case rel => exact ⟨k + 1, by omega, by go_num, ⟨by repeat (first | exact hbq.out | apply below_alloc | apply pw_below_drewN | apply below_drew1 | refine bthen ?_ hc.out)⟩⟩
      case measure => simp [intOf]; omega
    · have : k = l.length := by omega
      subst this
      go_wp2
      go_ret
      exact ⟨rfl, hW.out⟩
theorem eqVisitS_t (A B : Option Addr) (ca cb : Nat) (l : List S94) (w : World) (hA : Kd.C k94 w A l.length l) (hB : Kd.C k94 w B l.length l) : Calls Try.prog 24 #[.slice A l.length ca, .slice B l.length cb] w fun e w' => e = .returned (.bool true) ∧ Below w.heap.size w w' := by
  have hlen := clen hA
  replace hA := Aside0.mk hA
  replace hB := Aside0.mk hB
  go_enter Try.func24, Try.ntmps24
  go_wp2
  go_loopw [5] (fun i wr => ∃ k : Nat, k ≤ l.length ∧ i = .int .i64 k ∧ Aside0 (Below w.heap.size w wr)) (fun i _ => l.length - (intOf i).toNat)
  case atStart => exact ⟨0, Nat.zero_le _, rfl, ⟨Below.refl _ _⟩⟩
  case round =>
    obtain ⟨k, hk, rfl, hW⟩ := hrel
    by_cases hlt : k < l.length
    · obtain ⟨x, hx0⟩ : ∃ x, l[k]? = some x := ⟨_, List.getElem?_eq_getElem hlt⟩
      have i1 : (0 : Int) ≤ (k : Int) := by omega
      have i2 : (k : Int) < (l.length : Int) := by omega
      go_wp2
      refine wp_same (fun wq hbq hzq => ?_)
      obtain ⟨ad, eA, hblk, h0, h1, h2⟩ := get94 (Kd.C_below (Kd.C_below hA.out hW.out) hbq) hx0
      obtain ⟨bd, eB, hblk', g0, g1, g2⟩ := get94 (Kd.C_below (Kd.C_below hB.out hW.out) hbq) hx0
      subst eA eB
      clear hzq
      replace hbq := Aside0.mk (bthen hW.out hbq)
      replace hx0 := Aside0.mk hx0
      go_region_held3 (fun w' => ∀ a : Addr, a.block < wq.heap.size → w'.cell? a = wq.cell? a) (first | exact fun _ _ => rfl | exact hs1 | assumption) (first | (go_at_call 80; refine (eqVisit_t x _).mono ?_; rintro e w1 ⟨rfl, hc⟩; have hs1 := Same.of hc; replace hc := Aside0.mk hc))
      go_wp2
      go_roundw
      case rel => exact ⟨k + 1, by omega, by go_num, ⟨by repeat (first | exact hbq.out | apply below_alloc | apply pw_below_drewN | apply below_drew1 | refine bthen ?_ hc.out)⟩⟩
      case measure => simp [intOf]; omega
    · have : k = l.length := by omega
      subst this
      go_wp2
      go_ret
      exact ⟨rfl, hW.out⟩
theorem eqBridge_t (v : Int) (A B : Option Addr) (ca cb : Nat) (l : List S138) (w : World) (hA : Kd.C k138 w A l.length l) (hB : Kd.C k138 w B l.length l) : Calls Try.prog 130 #[.agg #[.int .i64 v, .slice A l.length ca], .agg #[.int .i64 v, .slice B l.length cb]] w fun e w' => e = .returned (.bool true) ∧ Below w.heap.size w w' := by
  have hu65 := Try.underlying65
  replace hA := Aside0.mk hA
  replace hB := Aside0.mk hB
  go_enter Try.func130, Try.ntmps130
  go_wp2_with (go_at_call 185; refine (eqPortS_t A B ca cb l _ (Kd.C_below hA.out (by repeat (first | exact Below.refl _ _ | apply below_alloc | apply pw_below_drewN | apply below_drew1))) (Kd.C_below hB.out (by repeat (first | exact Below.refl _ _ | apply below_alloc | apply pw_below_drewN | apply below_drew1)))).mono ?_; rintro e w1 ⟨rfl, hb⟩; obtain ⟨hc, hf⟩ := bcell hb; replace hb := Aside0.mk hb)
  all_goals (go_ret; exact ⟨rfl, by repeat (first | exact Below.refl _ _ | apply below_alloc | apply pw_below_drewN | apply below_drew1 | refine bthen ?_ hb.out)⟩)
end Go.Proofs.Ytbdmnjobhfhinaa.M
namespace Go.Proofs.Ytbdmnjobhfhinaa.M
open Go.RowKit Go.Proofs.YtbdmnjobhfhinaaW.PrintWords Go.Proofs.YtbdmnjobhfhinaaW.PrintLast Go.Proofs.YtbdmnjobhfhinaaW.PrintMore
set_option linter.unusedVariables false
set_option linter.unusedSimpArgs false
set_option maxHeartbeats 4000000
set_option maxRecDepth 100000
theorem eqBridgeS_t (A B : Option Addr) (ca cb : Nat) (l : List S65) (w : World) (hA : Kd.C k65 w A l.length l) (hB : Kd.C k65 w B l.length l) : Calls Try.prog 74 #[.slice A l.length ca, .slice B l.length cb] w fun e w' => e = .returned (.bool true) ∧ Below w.heap.size w w' := by
  have hlen := clen hA
  replace hA := Aside0.mk hA
  replace hB := Aside0.mk hB
  go_enter Try.func74, Try.ntmps74
  go_wp2
  go_loopw [5] (fun i wr => ∃ k : Nat, k ≤ l.length ∧ i = .int .i64 k ∧ Aside0 (Below w.heap.size w wr)) (fun i _ => l.length - (intOf i).toNat)
  case atStart => exact ⟨0, Nat.zero_le _, rfl, ⟨Below.refl _ _⟩⟩
  case round =>
    obtain ⟨k, hk, rfl, hW⟩ := hrel
    by_cases hlt : k < l.length
    · obtain ⟨x, hx0⟩ : ∃ x, l[k]? = some x := ⟨_, List.getElem?_eq_getElem hlt⟩
      have i1 : (0 : Int) ≤ (k : Int) := by omega
      have i2 : (k : Int) < (l.length : Int) := by omega
      go_wp2
      refine wp_same (fun wq hbq hzq => ?_)
      obtain ⟨ad, A1, c1, eA, hblk, h0, h1, hl1, hC1⟩ := get65 (Kd.C_below (Kd.C_below hA.out hW.out) hbq) hx0
      obtain ⟨bd, B1, d1, eB, hblk', g0, g1, gl1, gC1⟩ := get65 (Kd.C_below (Kd.C_below hB.out hW.out) hbq) hx0
      subst eA eB
      clear hzq
      replace hC1 := Aside0.mk hC1
      replace gC1 := Aside0.mk gC1
      have hbq0 := Aside0.mk hbq
      replace hbq := Aside0.mk (bthen hW.out hbq)
      replace hx0 := Aside0.mk hx0
      go_region_held3 (fun w' => ∀ a : Addr, a.block < wq.heap.size → w'.cell? a = wq.cell? a) (first | exact fun _ _ => rfl | exact hs1 | assumption) (first | (go_at_call 130; refine (eqBridge_t x.f0 A1 B1 c1 d1 x.f1 _ (Kd.C_below hC1.out (by repeat (first | exact Below.refl _ _ | apply below_alloc | apply pw_below_drewN | apply below_drew1))) (Kd.C_below gC1.out (by repeat (first | exact Below.refl _ _ | apply below_alloc | apply pw_below_drewN | apply below_drew1)))).mono ?_; rintro e w1 ⟨rfl, hc⟩; have hs1 := Same.of hc; replace hc := Aside0.mk hc))
      go_wp2
      go_roundw
      case rel => exact ⟨k + 1, by omega, by go_num, ⟨by repeat (first | exact hbq.out | apply below_alloc | apply pw_below_drewN | apply below_drew1 | refine bthen ?_ hc.out)⟩⟩
      case measure => simp [intOf]; omega
    · have : k = l.length := by omega
      subst this
      go_wp2
      go_ret
      exact ⟨rfl, hW.out⟩
theorem eqNet_t (A B A' B' : Option Addr) (ca cb ca' cb' : Nat) (bs : List S65) (ls : List S145) (w : World) (hA : Kd.C k65 w A bs.length bs) (hB : Kd.C k145 w B ls.length ls) (hA' : Kd.C k65 w A' bs.length bs) (hB' : Kd.C k145 w B' ls.length ls) : Calls Try.prog 18 #[.agg #[.slice A bs.length ca, .slice B ls.length cb], .agg #[.slice A' bs.length ca', .slice B' ls.length cb']] w fun e w' => e = .returned (.bool true) ∧ Below w.heap.size w w' := by
  have hu32 := Try.underlying32
  replace hA := Aside0.mk hA
  replace hB := Aside0.mk hB
  replace hA' := Aside0.mk hA'
  replace hB' := Aside0.mk hB'
  go_enter Try.func18, Try.ntmps18
  go_wp2_with (first | (go_at_call 74; refine (eqBridgeS_t A A' ca ca' bs _ (Kd.C_below hA.out (by repeat (first | exact Below.refl _ _ | apply below_alloc | apply pw_below_drewN | apply below_drew1))) (Kd.C_below hA'.out (by repeat (first | exact Below.refl _ _ | apply below_alloc | apply pw_below_drewN | apply below_drew1)))).mono ?_; rintro e w1 ⟨rfl, hb⟩; obtain ⟨hc, hf⟩ := bcell hb; have hz1 : w.heap.size + 1 < w1.heap.size := (by have := hb.size; simp at this; omega); have hz2 : w.heap.size < w1.heap.size := (by omega); have HB := Aside0.mk (bthen (below_alloc (below_alloc (Below.refl _ _) _) _) hb); clear hb) | (go_at_call 75; refine (eqLinkS_t B B' cb cb' ls _ (Kd.C_below hB.out (by repeat (first | exact HB.out | apply below_alloc | apply pw_below_drewN | apply below_drew1))) (Kd.C_below hB'.out (by repeat (first | exact HB.out | apply below_alloc | apply pw_below_drewN | apply below_drew1)))).mono ?_; rintro e w2 ⟨rfl, hb2⟩; replace hb2 := Aside0.mk hb2))
  all_goals (go_ret; exact ⟨rfl, by repeat (first | exact HB.out | apply below_alloc | apply pw_below_drewN | apply below_drew1 | refine bthen ?_ hb2.out)⟩)
end Go.Proofs.Ytbdmnjobhfhinaa.M
namespace Go.Proofs.Ytbdmnjobhfhinaa.M
open Go.RowKit Go.Proofs.YtbdmnjobhfhinaaW.PrintWords Go.Proofs.YtbdmnjobhfhinaaW.PrintLast Go.Proofs.YtbdmnjobhfhinaaW.PrintMore
set_option linter.unusedVariables false
set_option linter.unusedSimpArgs false
set_option maxHeartbeats 4000000
set_option maxRecDepth 100000
theorem getInt {w : World} {A : Option Addr} {l : List Int} (h : Kd.C (Kd.int .i64) w A l.length l) {k : Nat} {x : Int} (hx : l[k]? = some x) : ∃ ad, A = some ad ∧ (ad.add k).block < w.heap.size ∧ w.cell? (ad.add k) = some (.int .i64 x) := by
  have hk : k < l.length := (List.getElem?_eq_some_iff.1 hx).1
  obtain ⟨ad, e, c0⟩ := Kd.at_int h k (by omega) (by omega)
  have ex : rd l k = x := by simp [rd, rdOf, hx]
  rw [ex] at c0
  simp only [Int.toNat_natCast] at c0
  exact ⟨ad, e, World.block_lt_of_cell? _ _ c0, c0⟩
theorem eqIntS_t (A B : Option Addr) (ca cb : Nat) (l : List Int) (w : World) (hA : Kd.C (Kd.int .i64) w A l.length l) (hB : Kd.C (Kd.int .i64) w B l.length l) : Calls Try.prog 17 #[.slice A l.length ca, .slice B l.length cb] w fun e w' => e = .returned (.bool true) ∧ Below w.heap.size w w' := by
  have hlen := clen hA
  replace hA := Aside0.mk hA
  replace hB := Aside0.mk hB
  go_enter Try.func17, Try.ntmps17
  go_wp2
  go_loopw [5] (fun i wr => ∃ k : Nat, k ≤ l.length ∧ i = .int .i64 k ∧ Aside0 (Below w.heap.size w wr)) (fun i _ => l.length - (intOf i).toNat)
  case atStart => exact ⟨0, Nat.zero_le _, rfl, ⟨Below.refl _ _⟩⟩
  case round =>
    obtain ⟨k, hk, rfl, hW⟩ := hrel
    by_cases hlt : k < l.length
    · obtain ⟨x, hx0⟩ : ∃ x, l[k]? = some x := ⟨_, List.getElem?_eq_getElem hlt⟩
      obtain ⟨ad, eA, hblk, h0⟩ := getInt (Kd.C_below hA.out hW.out) hx0
      obtain ⟨bd, eB, hblk', g0⟩ := getInt (Kd.C_below hB.out hW.out) hx0
      subst eA eB
      have i1 : (0 : Int) ≤ (k : Int) := by omega
      have i2 : (k : Int) < (l.length : Int) := by omega
      replace hx0 := Aside0.mk hx0
      go_wp2
      go_quiet (fail)
      go_wp2
      go_roundw
      case rel => exact ⟨k + 1, by omega, by go_num, ⟨by repeat (first | exact hW.out | apply below_alloc | apply pw_below_drewN | apply below_drew1)⟩⟩
      case measure => simp [intOf]; omega
    · have : k = l.length := by omega
      subst this
      go_wp2
      go_ret
      exact ⟨rfl, hW.out⟩
end Go.Proofs.Ytbdmnjobhfhinaa.M
namespace Go.Proofs.Ytbdmnjobhfhinaa.M
open Go.RowKit Go.Proofs.YtbdmnjobhfhinaaW.PrintWords Go.Proofs.YtbdmnjobhfhinaaW.PrintLast Go.Proofs.YtbdmnjobhfhinaaW.PrintMore
set_option linter.unusedVariables false
set_option linter.unusedSimpArgs false
set_option maxHeartbeats 4000000
set_option maxRecDepth 100000
/-- n marks from a on. -/
def marks (a n : Nat) : List Int := (List.range n).map (fun i => ((a + i : Nat) : Int))
theorem marks_at {a n k : Nat} (h : k < n) : (marks a n)[k]? = some ((a + k : Nat) : Int) := by simp [marks, h]
theorem marks_len (a n : Nat) : (marks a n).length = n := by simp [marks]
theorem heldIntS_t (A : Option Addr) (c a n : Nat) (w : World) (hA : Kd.C (Kd.int .i64) w A (marks a n).length (marks a n)) (hs : a + n ≤ 4294967296) : Calls Try.prog 21 #[.slice A n c, .int .i64 a] w fun e w' => e = .returned (.int .i64 ((a + n : Nat) : Int)) ∧ Below w.heap.size w w' := by
  replace hA := Aside0.mk hA
  go_enter Try.func21, Try.ntmps21
  go_wp2
  go_loopw [1, 5] (fun vk i wr => ∃ k : Nat, k ≤ n ∧ vk = .int .i64 ((a + k : Nat) : Int) ∧ i = .int .i64 k ∧ Aside0 (Below w.heap.size w wr)) (fun _ i _ => n - (intOf i).toNat)
  case atStart => exact ⟨0, Nat.zero_le _, rfl, rfl, ⟨Below.refl _ _⟩⟩
  case round =>
    obtain ⟨k, hk, rfl, rfl, hW⟩ := hrel
    obtain ⟨m, hm⟩ : ∃ m : Int, ((a + k : Nat) : Int) = m := ⟨_, rfl⟩
    have hw1 : IntKind.i64.wrap (m + 1) = m + 1 := IntWalk.i64_in _ (by omega)
    by_cases hlt : k < n
    · obtain ⟨ad, eA, hblk, h0⟩ := getInt (Kd.C_below hA.out hW.out) (marks_at hlt)
      subst eA
      rw [hm] at h0 ⊢
      have i1 : (0 : Int) ≤ (k : Int) := by omega
      have i2 : (k : Int) < (n : Int) := by omega
      replace hm := Aside0.mk hm
      go_wp2
      go_roundw
      case rel => exact ⟨k + 1, by omega, congrArg (Value.int IntKind.i64) (by have := hm.out; omega), by go_num, ⟨hW.out⟩⟩
      case measure => simp [intOf]; omega
    · have : k = n := by omega
      subst this
      go_wp2
      go_ret
      exact ⟨rfl, hW.out⟩
end Go.Proofs.Ytbdmnjobhfhinaa.M
namespace Go.Proofs.Ytbdmnjobhfhinaa.M
open Go.RowKit Go.Proofs.YtbdmnjobhfhinaaW.PrintWords Go.Proofs.YtbdmnjobhfhinaaW.PrintLast Go.Proofs.YtbdmnjobhfhinaaW.PrintMore
set_option linter.unusedVariables false
set_option linter.unusedSimpArgs false
set_option maxHeartbeats 4000000
set_option maxRecDepth 100000
theorem grown_refl (w : World) (r : Option Nat) : w.grownBy w r := ⟨rfl, rfl, rfl, Nat.le_refl _, fun _ _ _ => rfl⟩
theorem marks_step {a k : Nat} {l : List Int} (hk : k < l.length) : (marks a k ++ l.drop k).set k ((a + k : Nat) : Int) = marks a (k + 1) ++ l.drop (k + 1) := by
  rw [List.set_append_right _ _ (by rw [marks_len]; omega), marks_len, Nat.sub_self, List.drop_eq_getElem_cons hk, List.set_cons_zero]
  simp [marks, List.range_succ]
theorem markIntS_c (base g n c a : Nat) (ok : Nat → Prop) (l : List Int) (w : World) (hn : l.length = n) (hO : Kd.R (Kd.int .i64) 3 w base ok (.slice (some ⟨g, 0, none⟩) n c) l) (hs : a + n ≤ 4294967296) : Calls Try.prog 20 #[.slice (some ⟨g, 0, none⟩) n c, .int .i64 a] w fun e w' => e = .returned (.int .i64 ((a + n : Nat) : Int)) ∧ Kd.R (Kd.int .i64) 3 w' base ok (.slice (some ⟨g, 0, none⟩) n c) (marks a n) ∧ w.grownBy w' (some g) := by
  replace hO := Aside0.mk hO
  go_enter Try.func20, Try.ntmps20
  go_wp2
  go_loopw [1, 5] (fun vk i wr => ∃ k : Nat, k ≤ n ∧ vk = .int .i64 ((a + k : Nat) : Int) ∧ i = .int .i64 k ∧ Aside0 (Kd.R (Kd.int .i64) 3 wr base ok (.slice (some ⟨g, 0, none⟩) n c) (marks a k ++ l.drop k)) ∧ Aside0 (w.grownBy wr (some g))) (fun _ i _ => n - (intOf i).toNat)
  case atStart => exact ⟨0, Nat.zero_le _, rfl, rfl, ⟨hO.out⟩, ⟨grown_refl _ _⟩⟩
  case round =>
    obtain ⟨k, hk, rfl, rfl, hOk, hW⟩ := hrel
    obtain ⟨m, hm⟩ : ∃ m : Int, ((a + k : Nat) : Int) = m := ⟨_, rfl⟩
    have hw1 : IntKind.i64.wrap (m + 1) = m + 1 := IntWalk.i64_in _ (by omega)
    by_cases hlt : k < n
    · have i1 : (0 : Int) ≤ (k : Int) := by omega
      have i2 : (k : Int) < (n : Int) := by omega
      obtain ⟨hc, hf⟩ := Kd.R_celln 0 hOk.out (k : Int) i1 i2
      have hgs := blk_lt' hOk.out
      have HP := Kd.R_putg hOk.out (k : Int) m
      rw [Int.toNat_natCast, ← hm, marks_step (by omega), hm] at HP
      rw [hm]
      simp only [Int.toNat_natCast] at hc hf
      replace hm := Aside0.mk hm
      replace HP := Aside0.mk HP
      go_wp2
      go_roundw
      case rel => exact ⟨k + 1, by omega, congrArg (Value.int IntKind.i64) (by have := hm.out; omega), by go_num, ⟨HP.out.1⟩, ⟨hW.out.trans HP.out.2⟩⟩
      case measure => simp [intOf]; omega
    · have : k = n := by omega
      subst this
      have h := hOk.out
      rw [List.drop_eq_nil_of_le (by omega), List.append_nil] at h
      go_wp2
      go_ret
      exact ⟨rfl, h, hW.out⟩
end Go.Proofs.Ytbdmnjobhfhinaa.M
namespace Go.Proofs.Ytbdmnjobhfhinaa.M
open Go.RowKit Go.Proofs.YtbdmnjobhfhinaaW.PrintWords Go.Proofs.YtbdmnjobhfhinaaW.PrintLast Go.Proofs.YtbdmnjobhfhinaaW.PrintMore
set_option linter.unusedVariables false
set_option linter.unusedSimpArgs false
set_option maxHeartbeats 4000000
set_option maxRecDepth 100000
theorem cell_at {W : World} {g t N i : Nat} {cs : Array Value} (h : W.heap[g]? = some (.cells cs t (0, 0))) (hN : cs.size = N) (hi : i < N) : ∃ u, W.cell? ⟨g, i, none⟩ = some u := ⟨cs[i]'(by omega), (blk_cell h i).trans (Array.getElem?_eq_getElem (by omega))⟩
theorem put_grown {W : World} {g : Nat} (i : Nat) (u : Value) : W.grownBy (W.setCell ⟨g, i, none⟩ u) (some g) := ⟨rfl, rfl, rfl, by simp, fun k hk hne => Below.heap_setCell W ⟨g, i, none⟩ u k (fun e => hne (by rw [e]))⟩
theorem markLinkS_c (g n c a N : Nat) (cs : Array Value) (w : World) (hb : w.heap[g]? = some (.cells cs 145 (0, 0))) (hN : cs.size = N) (hn : 4 * n ≤ N) (hs : a + 4 * n ≤ 140737488355328) : Calls Try.prog 77 #[.slice (some ⟨g, 0, none⟩) n c, .int .i64 a] w fun e w' => e = .returned (.int .i64 ((a + 4 * n : Nat) : Int)) ∧ w.grownBy w' (some g) ∧ ∃ ct : Array Value, w'.heap[g]? = some (.cells ct 145 (0, 0)) ∧ ct.size = N := by
  have hu145 := Try.underlying145
  replace hb := Aside0.mk hb
  replace hN := Aside0.mk hN
  go_enter Try.func77, Try.ntmps77
  go_wp2
  go_loopw [1, 5] (fun vk i wr => ∃ k : Nat, k ≤ n ∧ vk = .int .i64 ((a + 4 * k : Nat) : Int) ∧ i = .int .i64 k ∧ Aside0 (∃ cs : Array Value, wr.heap[g]? = some (.cells cs 145 (0, 0)) ∧ cs.size = N) ∧ Aside0 (w.grownBy wr (some g))) (fun _ i _ => n - (intOf i).toNat)
  case atStart => exact ⟨0, Nat.zero_le _, rfl, rfl, ⟨cs, hb.out, hN.out⟩, ⟨grown_refl _ _⟩⟩
  case round =>
    obtain ⟨k, hk, rfl, rfl, ⟨ct, hct, hcN⟩, hW⟩ := hrel
    obtain ⟨m, hm⟩ : ∃ m : Int, ((a + 4 * k : Nat) : Int) = m := ⟨_, rfl⟩
    by_cases hlt : k < n
    · have hw1 : IntKind.i64.wrap (m + 1) = m + 1 := IntWalk.i64_in _ (by omega)
      have hw2 : IntKind.i64.wrap (m + 1 + 1) = m + 1 + 1 := IntWalk.i64_in _ (by omega)
      have hw3 : IntKind.i64.wrap (m + 1 + 1 + 1) = m + 1 + 1 + 1 := IntWalk.i64_in _ (by omega)
      have hw4 : IntKind.i64.wrap (m + 1 + 1 + 1 + 1) = m + 1 + 1 + 1 + 1 := IntWalk.i64_in _ (by omega)
      have i1 : (0 : Int) ≤ (k : Int) := by omega
      have i2 : (k : Int) < (n : Int) := by omega
      obtain ⟨u0, c0⟩ := cell_at (i := k * 4) hct hcN (by omega)
      obtain ⟨u1, c1⟩ := cell_at (i := k * 4 + 1) hct hcN (by omega)
      obtain ⟨u2, c2⟩ := cell_at (i := k * 4 + 2) hct hcN (by omega)
      obtain ⟨u3, c3⟩ := cell_at (i := k * 4 + 3) hct hcN (by omega)
      have f0 := blk_frozen hct (k * 4)
      have f1 := blk_frozen hct (k * 4 + 1)
      have f2 := blk_frozen hct (k * 4 + 2)
      have f3 := blk_frozen hct (k * 4 + 3)
      have hgs := blk_lt hct
      rw [hm]
      replace hm := Aside0.mk hm
      replace hct := Aside0.mk hct
      replace hcN := Aside0.mk hcN
      go_wp2
      go_roundw
      case rel => exact ⟨k + 1, by omega, congrArg (Value.int IntKind.i64) (by have := hm.out; omega), by go_num, ⟨_, blk_put (blk_put (blk_put (blk_put hct.out (k * 4) _ rfl) (k * 4 + 1) _ rfl) (k * 4 + 2) _ rfl) (k * 4 + 3) _ rfl, by simp [hcN.out]⟩, ⟨(((hW.out.trans (put_grown _ _)).trans (put_grown _ _)).trans (put_grown _ _)).trans (put_grown _ _)⟩⟩
      case measure => simp [intOf]; omega
    · have : k = n := by omega
      subst this
      go_wp2
      go_ret
      exact ⟨rfl, hW.out, ct, hct, hcN⟩
end Go.Proofs.Ytbdmnjobhfhinaa.M
namespace Go.Proofs.Ytbdmnjobhfhinaa.M
open Go.RowKit Go.Proofs.YtbdmnjobhfhinaaW.PrintWords Go.Proofs.YtbdmnjobhfhinaaW.PrintLast Go.Proofs.YtbdmnjobhfhinaaW.PrintMore
set_option linter.unusedVariables false
set_option linter.unusedSimpArgs false
set_option maxHeartbeats 4000000
set_option maxRecDepth 100000
theorem markPortS_c (g n c a N : Nat) (cs : Array Value) (w : World) (hb : w.heap[g]? = some (.cells cs 138 (0, 0))) (hN : cs.size = N) (hn : 11 * n ≤ N) (hs : a + 11 * n ≤ 140737488355328) : Calls Try.prog 132 #[.slice (some ⟨g, 0, none⟩) n c, .int .i64 a] w fun e w' => e = .returned (.int .i64 ((a + 11 * n : Nat) : Int)) ∧ w.grownBy w' (some g) ∧ ∃ ct : Array Value, w'.heap[g]? = some (.cells ct 138 (0, 0)) ∧ ct.size = N := by
  have hu138 := Try.underlying138
  have hu119 := Try.underlying119
  replace hb := Aside0.mk hb
  replace hN := Aside0.mk hN
  go_enter Try.func132, Try.ntmps132
  go_wp2
  go_loopw [1, 5] (fun vk i wr => ∃ k : Nat, k ≤ n ∧ vk = .int .i64 ((a + 11 * k : Nat) : Int) ∧ i = .int .i64 k ∧ Aside0 (∃ cs : Array Value, wr.heap[g]? = some (.cells cs 138 (0, 0)) ∧ cs.size = N) ∧ Aside0 (w.grownBy wr (some g))) (fun _ i _ => n - (intOf i).toNat)
  case atStart => exact ⟨0, Nat.zero_le _, rfl, rfl, ⟨cs, hb.out, hN.out⟩, ⟨grown_refl _ _⟩⟩
  case round =>
    obtain ⟨k, hk, rfl, rfl, ⟨ct, hct, hcN⟩, hW⟩ := hrel
    obtain ⟨m, hm⟩ : ∃ m : Int, ((a + 11 * k : Nat) : Int) = m := ⟨_, rfl⟩
    by_cases hlt : k < n
    · have hw1 : IntKind.i64.wrap (m + 1) = m + 1 := IntWalk.i64_in _ (by omega)
      have hw2 : IntKind.i64.wrap (m + 1 + 1) = m + 1 + 1 := IntWalk.i64_in _ (by omega)
      have hw3 : IntKind.i64.wrap (m + 1 + 1 + 1) = m + 1 + 1 + 1 := IntWalk.i64_in _ (by omega)
      have hw4 : IntKind.i64.wrap (m + 1 + 1 + 1 + 1) = m + 1 + 1 + 1 + 1 := IntWalk.i64_in _ (by omega)
      have hw5 : IntKind.i64.wrap (m + 1 + 1 + 1 + 1 + 1) = m + 1 + 1 + 1 + 1 + 1 := IntWalk.i64_in _ (by omega)
      have hw6 : IntKind.i64.wrap (m + 1 + 1 + 1 + 1 + 1 + 1) = m + 1 + 1 + 1 + 1 + 1 + 1 := IntWalk.i64_in _ (by omega)
      have hw7 : IntKind.i64.wrap (m + 1 + 1 + 1 + 1 + 1 + 1 + 1) = m + 1 + 1 + 1 + 1 + 1 + 1 + 1 := IntWalk.i64_in _ (by omega)
      have hw8 : IntKind.i64.wrap (m + 1 + 1 + 1 + 1 + 1 + 1 + 1 + 1) = m + 1 + 1 + 1 + 1 + 1 + 1 + 1 + 1 := IntWalk.i64_in _ (by omega)
      have hw9 : IntKind.i64.wrap (m + 1 + 1 + 1 + 1 + 1 + 1 + 1 + 1 + 1) = m + 1 + 1 + 1 + 1 + 1 + 1 + 1 + 1 + 1 := IntWalk.i64_in _ (by omega)
      have hw10 : IntKind.i64.wrap (m + 1 + 1 + 1 + 1 + 1 + 1 + 1 + 1 + 1 + 1) = m + 1 + 1 + 1 + 1 + 1 + 1 + 1 + 1 + 1 + 1 := IntWalk.i64_in _ (by omega)
      have hw11 : IntKind.i64.wrap (m + 1 + 1 + 1 + 1 + 1 + 1 + 1 + 1 + 1 + 1 + 1) = m + 1 + 1 + 1 + 1 + 1 + 1 + 1 + 1 + 1 + 1 + 1 := IntWalk.i64_in _ (by omega)
      have i1 : (0 : Int) ≤ (k : Int) := by omega
      have i2 : (k : Int) < (n : Int) := by omega
      obtain ⟨u0, c0⟩ := cell_at (i := k * 11) hct hcN (by omega)
      obtain ⟨u1, c1⟩ := cell_at (i := k * 11 + 1) hct hcN (by omega)
      obtain ⟨u2, c2⟩ := cell_at (i := k * 11 + 2) hct hcN (by omega)
      obtain ⟨u3, c3⟩ := cell_at (i := k * 11 + 3) hct hcN (by omega)
      obtain ⟨u4, c4⟩ := cell_at (i := k * 11 + 4) hct hcN (by omega)
      obtain ⟨u5, c5⟩ := cell_at (i := k * 11 + 5) hct hcN (by omega)
      obtain ⟨u6, c6⟩ := cell_at (i := k * 11 + 6) hct hcN (by omega)
      obtain ⟨u7, c7⟩ := cell_at (i := k * 11 + 7) hct hcN (by omega)
      obtain ⟨u8, c8⟩ := cell_at (i := k * 11 + 8) hct hcN (by omega)
      obtain ⟨u9, c9⟩ := cell_at (i := k * 11 + 9) hct hcN (by omega)
      obtain ⟨u10, c10⟩ := cell_at (i := k * 11 + 10) hct hcN (by omega)
      have f0 := blk_frozen hct (k * 11)
      have f1 := blk_frozen hct (k * 11 + 1)
      have f2 := blk_frozen hct (k * 11 + 2)
      have f3 := blk_frozen hct (k * 11 + 3)
      have f4 := blk_frozen hct (k * 11 + 4)
      have f5 := blk_frozen hct (k * 11 + 5)
      have f6 := blk_frozen hct (k * 11 + 6)
      have f7 := blk_frozen hct (k * 11 + 7)
      have f8 := blk_frozen hct (k * 11 + 8)
      have f9 := blk_frozen hct (k * 11 + 9)
      have f10 := blk_frozen hct (k * 11 + 10)
      have hgs := blk_lt hct
      rw [hm]
      replace hm := Aside0.mk hm
      replace hct := Aside0.mk hct
      replace hcN := Aside0.mk hcN
      go_wp2
      go_roundw
      case rel => exact ⟨k + 1, by omega, congrArg (Value.int IntKind.i64) (by have := hm.out; omega), by go_num, ⟨_, blk_put (blk_put (blk_put (blk_put (blk_put (blk_put (blk_put (blk_put (blk_put (blk_put (blk_put hct.out (k * 11) _ rfl) (k * 11 + 1) _ rfl) (k * 11 + 2) _ rfl) (k * 11 + 3) _ rfl) (k * 11 + 4) _ rfl) (k * 11 + 5) _ rfl) (k * 11 + 6) _ rfl) (k * 11 + 7) _ rfl) (k * 11 + 8) _ rfl) (k * 11 + 9) _ rfl) (k * 11 + 10) _ rfl, by simp [hcN.out]⟩, ⟨(((((((((((hW.out.trans (put_grown _ _)).trans (put_grown _ _)).trans (put_grown _ _)).trans (put_grown _ _)).trans (put_grown _ _)).trans (put_grown _ _)).trans (put_grown _ _)).trans (put_grown _ _)).trans (put_grown _ _)).trans (put_grown _ _)).trans (put_grown _ _))⟩⟩
      case measure => simp [intOf]; omega
    · have : k = n := by omega
      subst this
      go_wp2
      go_ret
      exact ⟨rfl, hW.out, ct, hct, hcN⟩
end Go.Proofs.Ytbdmnjobhfhinaa.M
namespace Go.Proofs.Ytbdmnjobhfhinaa.M
open Go.RowKit Go.Proofs.YtbdmnjobhfhinaaW.PrintWords Go.Proofs.YtbdmnjobhfhinaaW.PrintLast Go.Proofs.YtbdmnjobhfhinaaW.PrintMore
set_option linter.unusedVariables false
set_option linter.unusedSimpArgs false
set_option maxHeartbeats 4000000
set_option maxRecDepth 100000
theorem setCells_one (W : World) (g j : Nat) (u : Value) : W.setCells g j [u] = W.setCell ⟨g, j, none⟩ u := by
  simp [World.setCells]
theorem markIntS_u (base a : Nat) (ok : Nat → Prop) (v : Value) (l : List Int) (w : World) (hO : Kd.R (Kd.int .i64) 3 w base ok v l) (hs : a + l.length ≤ 4294967296) : Calls Try.prog 20 #[v, .int .i64 a] w fun e w' => e = .returned (.int .i64 ((a + l.length : Nat) : Int)) ∧ Kd.R (Kd.int .i64) 3 w' base ok v (marks a l.length) ∧ w.grownBy w' v.ownBlock := by
  by_cases h0 : l.length = 0
  · have hl : l = [] := List.eq_nil_of_length_eq_zero h0
    subst hl
    obtain ⟨A, c, rfl⟩ := Kd.R_slice hO
    replace hO := Aside0.mk hO
    go_enter Try.func20, Try.ntmps20
    go_wp2
    go_loopw [1, 5] (fun vk i wr => vk = .int .i64 a ∧ i = .int .i64 0 ∧ wr = w) (fun _ _ _ => 0)
    case atStart => exact ⟨rfl, rfl, rfl⟩
    case round =>
      obtain ⟨rfl, rfl, rfl⟩ := hrel
      go_wp2
      go_ret
      exact ⟨by simp, hO.out, grown_refl _ _⟩
  · obtain ⟨g, c, rfl, _⟩ := Kd.R_form hO (by omega)
    exact markIntS_c base g l.length c a ok l w rfl hO hs
/-- n visits' marks from a on. -/
def vmarks (a n : Nat) : List S94 := (List.range n).map (fun i => ⟨((a + 3 * i : Nat) : Int), ((a + 3 * i + 1 : Nat) : Int), ((a + 3 * i + 2 : Nat) : Int)⟩)
theorem vmarks_at {a n k : Nat} (h : k < n) : (vmarks a n)[k]? = some ⟨((a + 3 * k : Nat) : Int), ((a + 3 * k + 1 : Nat) : Int), ((a + 3 * k + 2 : Nat) : Int)⟩ := by simp [vmarks, h]
theorem vmarks_len (a n : Nat) : (vmarks a n).length = n := by simp [vmarks]
theorem vmarks_step {a k : Nat} {l : List S94} (hk : k < l.length) : (vmarks a k ++ l.drop k).set k ⟨((a + 3 * k : Nat) : Int), ((a + 3 * k + 1 : Nat) : Int), ((a + 3 * k + 2 : Nat) : Int)⟩ = vmarks a (k + 1) ++ l.drop (k + 1) := by
  rw [List.set_append_right _ _ (by rw [vmarks_len]; omega), vmarks_len, Nat.sub_self, List.drop_eq_getElem_cons hk, List.set_cons_zero]
  simp [vmarks, List.range_succ]
theorem R94_put {W : World} {base g n cap : Nat} {ok : Nat → Prop} {xs : List S94} (h : Kd.R k94 94 W base ok (.slice (some ⟨g, 0, none⟩) n cap) xs) (k : Nat) (hk : k < n) (m0 m1 m2 : Int) :
    ∃ u0 u1 u2, W.cell? ⟨g, k * 3, none⟩ = some u0 ∧ W.cell? ⟨g, k * 3 + 1, none⟩ = some u1 ∧ W.cell? ⟨g, k * 3 + 2, none⟩ = some u2 ∧
      W.frozen? ⟨g, k * 3, none⟩ = false ∧ W.frozen? ⟨g, k * 3 + 1, none⟩ = false ∧ W.frozen? ⟨g, k * 3 + 2, none⟩ = false ∧
      Kd.R k94 94 (((W.setCell ⟨g, k * 3, none⟩ (.int .i64 m0)).setCell ⟨g, k * 3 + 1, none⟩ (.int .i64 m1)).setCell ⟨g, k * 3 + 2, none⟩ (.int .i64 m2)) base ok (.slice (some ⟨g, 0, none⟩) n cap) (xs.set k ⟨m0, m1, m2⟩) ∧
      W.grownBy (((W.setCell ⟨g, k * 3, none⟩ (.int .i64 m0)).setCell ⟨g, k * 3 + 1, none⟩ (.int .i64 m1)).setCell ⟨g, k * 3 + 2, none⟩ (.int .i64 m2)) (some g) := by
  obtain ⟨c, hcl, hM, hcc, hfz⟩ := Kd.R_elem h z94 (k : Int) (by omega) (by omega)
  have hc := k94_openM hM
  simp only [Int.toNat_natCast] at hcc hfz hc
  have c0 := hcc 0 _ (by rw [hc]; rfl)
  have c1 := hcc 1 _ (by rw [hc]; rfl)
  have c2 := hcc 2 _ (by rw [hc]; rfl)
  have f0 := hfz 0
  have f1 := hfz 1
  have f2 := hfz 2
  obtain ⟨hR, hg⟩ := Kd.R_seg h (k : Int) (by omega) (by omega) (seg := [.int .i64 m0, .int .i64 m1, .int .i64 m2]) (j := 0) (x' := ⟨m0, m1, m2⟩) (okp := fun k => False) hcl (by simpa using hcc) (Nat.le_refl 3) (by
    rw [hc]; exact k94_mkM _ _ _ (⟨m0, m1, m2⟩ : S94)) (fun _ hk => hk.elim)
  have e : W.setCells g (((k : Int)).toNat * k94.sz + 0) [.int .i64 m0, .int .i64 m1, .int .i64 m2] = (((W.setCell ⟨g, k * 3, none⟩ (.int .i64 m0)).setCell ⟨g, k * 3 + 1, none⟩ (.int .i64 m1)).setCell ⟨g, k * 3 + 2, none⟩ (.int .i64 m2)) := by
    rfl
  rw [e, Int.toNat_natCast] at hR
  rw [e] at hg
  exact ⟨_, _, _, c0, c1, c2, f0, f1, f2, hR, hg⟩
theorem markVisitS_c (base g n c a : Nat) (ok : Nat → Prop) (l : List S94) (w : World) (hn : l.length = n) (hO : Kd.R k94 94 w base ok (.slice (some ⟨g, 0, none⟩) n c) l) (hs : a + 3 * n ≤ 4294967296) : Calls Try.prog 25 #[.slice (some ⟨g, 0, none⟩) n c, .int .i64 a] w fun e w' => e = .returned (.int .i64 ((a + 3 * n : Nat) : Int)) ∧ Kd.R k94 94 w' base ok (.slice (some ⟨g, 0, none⟩) n c) (vmarks a n) ∧ w.grownBy w' (some g) := by
  have hu94 := Try.underlying94
  replace hO := Aside0.mk hO
  go_enter Try.func25, Try.ntmps25
  go_wp2
  go_loopw [1, 5] (fun vk i wr => ∃ k : Nat, k ≤ n ∧ vk = .int .i64 ((a + 3 * k : Nat) : Int) ∧ i = .int .i64 k ∧ Aside0 (Kd.R k94 94 wr base ok (.slice (some ⟨g, 0, none⟩) n c) (vmarks a k ++ l.drop k)) ∧ Aside0 (w.grownBy wr (some g))) (fun _ i _ => n - (intOf i).toNat)
  case atStart => exact ⟨0, Nat.zero_le _, rfl, rfl, ⟨hO.out⟩, ⟨grown_refl _ _⟩⟩
  case round =>
    obtain ⟨k, hk, rfl, rfl, hOk, hW⟩ := hrel
    obtain ⟨m, hm⟩ : ∃ m : Int, ((a + 3 * k : Nat) : Int) = m := ⟨_, rfl⟩
    by_cases hlt : k < n
    · have hw1 : IntKind.i64.wrap (m + 1) = m + 1 := IntWalk.i64_in _ (by omega)
      have hw2 : IntKind.i64.wrap (m + 1 + 1) = m + 1 + 1 := IntWalk.i64_in _ (by omega)
      have hw3 : IntKind.i64.wrap (m + 1 + 1 + 1) = m + 1 + 1 + 1 := IntWalk.i64_in _ (by omega)
      have i1 : (0 : Int) ≤ (k : Int) := by omega
      have i2 : (k : Int) < (n : Int) := by omega
      obtain ⟨u0, u1, u2, c0, c1, c2, f0, f1, f2, HP, HG⟩ := R94_put hOk.out k hlt m (m + 1) (m + 1 + 1)
      have hgs : g < wr.heap.size := World.block_lt_of_cell? _ _ c0
      have HS : (vmarks a k ++ l.drop k).set k ⟨m, m + 1, m + 1 + 1⟩ = vmarks a (k + 1) ++ l.drop (k + 1) := by
        rw [← vmarks_step (a := a) (k := k) (l := l) (by omega), ← hm]
        congr 2
      rw [HS] at HP
      rw [hm]
      clear HS
      replace hm := Aside0.mk hm
      replace HP := Aside0.mk HP
      replace HG := Aside0.mk HG
      go_wp2
      go_roundw
      case rel => exact ⟨k + 1, by omega, congrArg (Value.int IntKind.i64) (by have := hm.out; omega), by go_num, ⟨HP.out⟩, ⟨hW.out.trans HG.out⟩⟩
      case measure => simp [intOf]; omega
    · have : k = n := by omega
      subst this
      have h := hOk.out
      rw [List.drop_eq_nil_of_le (by omega), List.append_nil] at h
      go_wp2
      go_ret
      exact ⟨rfl, h, hW.out⟩
theorem markVisitS_u (base a : Nat) (ok : Nat → Prop) (v : Value) (l : List S94) (w : World) (hO : Kd.R k94 94 w base ok v l) (hs : a + 3 * l.length ≤ 4294967296) : Calls Try.prog 25 #[v, .int .i64 a] w fun e w' => e = .returned (.int .i64 ((a + 3 * l.length : Nat) : Int)) ∧ Kd.R k94 94 w' base ok v (vmarks a l.length) ∧ w.grownBy w' v.ownBlock := by
  by_cases h0 : l.length = 0
  · have hl : l = [] := List.eq_nil_of_length_eq_zero h0
    subst hl
    obtain ⟨A, c, rfl⟩ := Kd.R_slice hO
    replace hO := Aside0.mk hO
    go_enter Try.func25, Try.ntmps25
    go_wp2
    go_loopw [1, 5] (fun vk i wr => vk = .int .i64 a ∧ i = .int .i64 0 ∧ wr = w) (fun _ _ _ => 0)
    case atStart => exact ⟨rfl, rfl, rfl⟩
    case round =>
      obtain ⟨rfl, rfl, rfl⟩ := hrel
      go_wp2
      go_ret
      exact ⟨by simp, hO.out, grown_refl _ _⟩
  · obtain ⟨g, c, rfl, _⟩ := Kd.R_form hO (by omega)
    exact markVisitS_c base g l.length c a ok l w rfl hO hs
theorem heldVisitS_t (A : Option Addr) (c a n : Nat) (w : World) (hA : Kd.C k94 w A (vmarks a n).length (vmarks a n)) (hs : a + 3 * n ≤ 4294967296) : Calls Try.prog 26 #[.slice A n c, .int .i64 a] w fun e w' => e = .returned (.int .i64 ((a + 3 * n : Nat) : Int)) ∧ Below w.heap.size w w' := by
  have hu94 := Try.underlying94
  replace hA := Aside0.mk hA
  go_enter Try.func26, Try.ntmps26
  go_wp2
  go_loopw [1, 5] (fun vk i wr => ∃ k : Nat, k ≤ n ∧ vk = .int .i64 ((a + 3 * k : Nat) : Int) ∧ i = .int .i64 k ∧ Aside0 (Below w.heap.size w wr)) (fun _ i _ => n - (intOf i).toNat)
  case atStart => exact ⟨0, Nat.zero_le _, rfl, rfl, ⟨Below.refl _ _⟩⟩
  case round =>
    obtain ⟨k, hk, rfl, rfl, hW⟩ := hrel
    obtain ⟨m, hm⟩ : ∃ m : Int, ((a + 3 * k : Nat) : Int) = m := ⟨_, rfl⟩
    have hw1 : IntKind.i64.wrap (m + 1) = m + 1 := IntWalk.i64_in _ (by omega)
    have hw2 : IntKind.i64.wrap (m + 1 + 1) = m + 1 + 1 := IntWalk.i64_in _ (by omega)
    have hw3 : IntKind.i64.wrap (m + 1 + 1 + 1) = m + 1 + 1 + 1 := IntWalk.i64_in _ (by omega)
    by_cases hlt : k < n
    · obtain ⟨ad, eA, hblk, h0, h1, h2⟩ := get94 (Kd.C_below hA.out hW.out) (vmarks_at hlt)
      subst eA
      have e1 : ((a + 3 * k + 1 : Nat) : Int) = m + 1 := by omega
      have e2 : ((a + 3 * k + 2 : Nat) : Int) = m + 1 + 1 := by omega
      simp only at h0 h1 h2
      rw [hm] at h0 ⊢
      rw [e1] at h1
      rw [e2] at h2
      clear e1 e2
      have i1 : (0 : Int) ≤ (k : Int) := by omega
      have i2 : (k : Int) < (n : Int) := by omega
      replace hm := Aside0.mk hm
      go_wp2
      go_roundw
      case rel => exact ⟨k + 1, by omega, congrArg (Value.int IntKind.i64) (by have := hm.out; omega), by go_num, ⟨hW.out⟩⟩
      case measure => simp [intOf]; omega
    · have : k = n := by omega
      subst this
      go_wp2
      go_ret
      exact ⟨rfl, hW.out⟩
end Go.Proofs.Ytbdmnjobhfhinaa.M
namespace Go.Proofs.Ytbdmnjobhfhinaa.M
open Go.RowKit Go.Proofs.YtbdmnjobhfhinaaW.PrintWords Go.Proofs.YtbdmnjobhfhinaaW.PrintLast Go.Proofs.YtbdmnjobhfhinaaW.PrintMore
set_option linter.unusedVariables false
set_option linter.unusedSimpArgs false
set_option maxHeartbeats 4000000
set_option maxRecDepth 100000
/-- A row of bridges, told by its blocks: what is enough to write marks into it. -/
def MB (ok : Nat → Prop) (base g N n : Nat) (W : World) : Prop := ∃ ct : Array Value, W.heap[g]? = some (.cells ct 65 (0, 0)) ∧ ct.size = N ∧ ∀ j, j < n → ∃ A m c, ct[j * 2 + 1]? = some (.slice A m c) ∧ m ≤ 1048576 ∧ (0 < m → ∃ pg, A = some ⟨pg, 0, none⟩ ∧ ok pg ∧ base ≤ pg ∧ pg ≠ g ∧ ∃ cp : Array Value, W.heap[pg]? = some (.cells cp 138 (0, 0)) ∧ 11 * m ≤ cp.size)
theorem mb_put0 {ok : Nat → Prop} {base g N n : Nat} {W : World} (h : MB ok base g N n W) (k : Nat) (u : Value) (hu : u.cells.size = 1 ∨ True) : MB ok base g N n (W.setCell ⟨g, k * 2, none⟩ u) := by
  obtain ⟨ct, h1, h2, h3⟩ := h
  refine ⟨ct.setIfInBounds (k * 2) u, blk_put h1 (k * 2) u rfl, by simp [h2], fun j hj => ?_⟩
  obtain ⟨A, m, c, e1, e2, e3⟩ := h3 j hj
  refine ⟨A, m, c, by rw [Array.getElem?_setIfInBounds_ne (by omega)]; exact e1, e2, fun hm => ?_⟩
  obtain ⟨pg, a1, a2, a3, a4, cp, a5, a6⟩ := e3 hm
  exact ⟨pg, a1, a2, a3, a4, cp, (Below.heap_setCell W _ u pg a4).trans a5, a6⟩
theorem mb_grown {ok : Nat → Prop} {base g N n pg : Nat} {W W' : World} (h : MB ok base g N n W) (hg : W.grownBy W' (some pg)) (hne : pg ≠ g) {cp : Array Value} (hp : W.heap[pg]? = some (.cells cp 138 (0, 0))) (hp' : ∃ ct : Array Value, W'.heap[pg]? = some (.cells ct 138 (0, 0)) ∧ ct.size = cp.size) : MB ok base g N n W' := by
  obtain ⟨ct, h1, h2, h3⟩ := h
  refine ⟨ct, blk_grown h1 hg (fun e => hne (Option.some.inj e).symm), h2, fun j hj => ?_⟩
  obtain ⟨A, m, c, e1, e2, e3⟩ := h3 j hj
  refine ⟨A, m, c, e1, e2, fun hm => ?_⟩
  obtain ⟨pq, a1, a2, a3, a4, cq, a5, a6⟩ := e3 hm
  by_cases e : pq = pg
  · subst e
    obtain ⟨cr, b1, b2⟩ := hp'
    rw [hp] at a5
    injection a5 with a5
    injection a5 with a5
    subst a5
    exact ⟨pq, a1, a2, a3, a4, cr, b1, by omega⟩
  · exact ⟨pq, a1, a2, a3, a4, cq, blk_grown a5 hg (fun e2 => e (Option.some.inj e2)), a6⟩
theorem mb_of {ok : Nat → Prop} {base g n c : Nat} {W : World} {bs : List S65} (h : Kd.R k65 65 W base ok (.slice (some ⟨g, 0, none⟩) n c) bs) (hn : bs.length = n) (hps : ∀ x ∈ bs, x.f1.length ≤ 1048576) : ∃ N, 2 * n ≤ N ∧ MB ok base g N n W := by
  obtain ⟨ct, hct⟩ := Kd.R_typed h g rfl
  refine ⟨ct.size, ?_, ct, hct, rfl, fun j hj => ?_⟩
  · obtain ⟨hok, inner, ho, hr⟩ := h
    obtain ⟨ho1, ho2⟩ := ho
    rcases ho2 with ⟨hv, _⟩ | ⟨g', cap', cur, hv, hb, hh, hnc', hcm, hcs, ht⟩
    · cases hv
    · injection hv with ha hn2 hc
      injection ha with ha
      injection ha with hg
      subst hg; subst hc
      rw [hct] at hh
      injection hh with hh
      injection hh with hh
      subst hh
      rw [hcs, show k65.sz = 2 from rfl]
      have : bs.length * 2 ≤ c * 2 := Nat.mul_le_mul_right _ hnc'
      omega
  · obtain ⟨x, hx⟩ : ∃ x, bs[j]? = some x := ⟨_, List.getElem?_eq_getElem (by omega)⟩
    obtain ⟨cs, hcl, hM, hcc, _⟩ := Kd.R_elem h z65 (j : Int) (by omega) (by omega)
    simp only [Int.toNat_natCast, List.getD, hx, Option.getD_some] at hM hcc
    obtain ⟨v1, e, hR⟩ := k65_openM hM
    obtain ⟨A, m, rfl⟩ := Kd.R_slice hR
    have c1 := hcc 1 _ (by rw [e]; rfl)
    have c1' : ct[j * 2 + 1]? = some (.slice A x.f1.length m) := by rw [← blk_cell hct (j * 2 + 1)]; exact c1
    refine ⟨A, x.f1.length, m, c1', hps x (List.mem_of_getElem? hx), fun hm => ?_⟩
    obtain ⟨pg, cap, e2, hb, _, _⟩ := Kd.R_form hR hm
    injection e2 with e2 _ e3
    subst e2; subst e3
    have hok := hR.1 pg rfl
    refine ⟨pg, rfl, hok.1, hb, hok.2, ?_⟩
    obtain ⟨_, inner, ho, hr⟩ := hR
    obtain ⟨ho1, ho2⟩ := ho
    rcases ho2 with ⟨hv, _⟩ | ⟨g', cap', cur, hv, hb, hh, hnc', hcm, hcs, ht⟩
    · cases hv
    · injection hv with ha hn2 hc
      injection ha with ha
      injection ha with hg
      subst hg; subst hc
      refine ⟨cur, hh, ?_⟩
      rw [hcs, show k138.sz = 11 from rfl]
      have : x.f1.length * 11 ≤ m * 11 := Nat.mul_le_mul_right _ hnc'
      omega
def PortMarked (A : Option Addr) (m : Nat) (w w' : World) : Prop := (m = 0 ∧ w' = w) ∨ ∃ (pg : Nat) (cp : Array Value), 0 < m ∧ A = some ⟨pg, 0, none⟩ ∧ w.heap[pg]? = some (.cells cp 138 (0, 0)) ∧ w.grownBy w' (some pg) ∧ ∃ ct : Array Value, w'.heap[pg]? = some (.cells ct 138 (0, 0)) ∧ ct.size = cp.size
theorem markPortS_u (A : Option Addr) (m c a : Nat) (w : World) (hp : 0 < m → ∃ (pg : Nat) (cp : Array Value), A = some ⟨pg, 0, none⟩ ∧ w.heap[pg]? = some (.cells cp 138 (0, 0)) ∧ 11 * m ≤ cp.size) (hs : a + 11 * m ≤ 140737488355328) : Calls Try.prog 132 #[.slice A m c, .int .i64 a] w fun e w' => e = .returned (.int .i64 ((a + 11 * m : Nat) : Int)) ∧ PortMarked A m w w' := by
  by_cases h0 : m = 0
  · subst h0
    clear hp
    have hd : ∀ w' : World, w' = w → PortMarked A 0 w w' := fun w' h => .inl ⟨rfl, h⟩
    replace hd := Aside0.mk hd
    go_enter Try.func132, Try.ntmps132
    go_wp2
    go_loopw [1, 5] (fun vk i wr => vk = .int .i64 a ∧ i = .int .i64 0 ∧ wr = w) (fun _ _ _ => 0)
    case atStart => exact ⟨rfl, rfl, rfl⟩
    case round =>
      obtain ⟨rfl, rfl, rfl⟩ := hrel
      go_wp2
      go_ret
      exact ⟨by simp, hd.out _ rfl⟩
  · obtain ⟨pg, cp, rfl, h1, h2⟩ := hp (by omega)
    exact (markPortS_c pg m c a cp.size cp w h1 rfl h2 hs).mono fun e w' ⟨he, hg, hc⟩ => ⟨he, .inr ⟨pg, cp, by omega, rfl, h1, hg, hc⟩⟩
theorem mb_at {ok : Nat → Prop} {base g N n : Nat} {W : World} (h : MB ok base g N n W) {j : Nat} (hj : j < n) (hN : 2 * n ≤ N) : ∃ u A m c, W.cell? ⟨g, j * 2, none⟩ = some u ∧ W.cell? ⟨g, j * 2 + 1, none⟩ = some (.slice A m c) ∧ W.frozen? ⟨g, j * 2, none⟩ = false ∧ g < W.heap.size ∧ m ≤ 1048576 ∧ (0 < m → ∃ (pg : Nat) (cp : Array Value), A = some ⟨pg, 0, none⟩ ∧ W.heap[pg]? = some (.cells cp 138 (0, 0)) ∧ 11 * m ≤ cp.size ∧ ok pg ∧ base ≤ pg ∧ pg ≠ g) := by
  obtain ⟨ct, h1, h2, h3⟩ := h
  obtain ⟨A, m, c, e1, e2, e3⟩ := h3 j hj
  obtain ⟨u, hu⟩ := cell_at (i := j * 2) h1 h2 (by omega)
  exact ⟨u, A, m, c, hu, (blk_cell h1 _).trans e1, blk_frozen h1 _, blk_lt h1, e2, fun hm => by
    obtain ⟨pg, a1, a2, a3, a4, cp, a5, a6⟩ := e3 hm
    exact ⟨pg, cp, a1, a5, a6, a2, a3, a4⟩⟩
theorem mb_marked {ok : Nat → Prop} {base g N n m : Nat} {A : Option Addr} {w W W' : World} (h : MB ok base g N n W) (hp : 0 < m → ∃ (pg : Nat) (cp : Array Value), A = some ⟨pg, 0, none⟩ ∧ W.heap[pg]? = some (.cells cp 138 (0, 0)) ∧ 11 * m ≤ cp.size ∧ ok pg ∧ base ≤ pg ∧ pg ≠ g) (hm : PortMarked A m W W') (hk : Kept w W ok) (hb : Below base w W) (hbs : base ≤ W.heap.size) : MB ok base g N n W' ∧ Kept w W' ok ∧ Below base w W' := by
  rcases hm with ⟨_, rfl⟩ | ⟨pg, cp, h0, rfl, h1, h2, h3⟩
  · exact ⟨h, hk, hb⟩
  · obtain ⟨pq, cq, e, a1, a2, a3, a4, a5⟩ := hp h0
    injection e with e
    injection e with e
    subst e
    exact ⟨mb_grown h h2 a5 h1 h3, hk.of_grown h2 (fun k hk => by injection hk with hk; subst hk; exact .inl a3), hb.grown h2 hbs (fun k hk => by injection hk with hk; subst hk; exact a4)⟩
theorem markBridgeS_g (base g n c N : Nat) (ok : Nat → Prop) (w : World) (hM : MB ok base g N n w) (hN : 2 * n ≤ N) (hok : ok g) (hbg : base ≤ g) (hn : n ≤ 1048576) : Calls Try.prog 76 #[.slice (some ⟨g, 0, none⟩) n c, .int .i64 1] w fun e w' => ∃ k : Nat, e = .returned (.int .i64 k) ∧ k ≤ 1 + 11534337 * n ∧ Kept w w' ok ∧ Below base w w' := by
  have hu65 := Try.underlying65
  replace hM := Aside0.mk hM
  replace hok := Aside0.mk hok
  go_enter Try.func76, Try.ntmps76
  go_wp2
  go_loopw [1, 5] (fun vk i wr => ∃ k m : Nat, k ≤ n ∧ m ≤ 1 + 11534337 * k ∧ vk = .int .i64 m ∧ i = .int .i64 k ∧ Aside0 (MB ok base g N n wr) ∧ Aside0 (Kept w wr ok) ∧ Aside0 (Below base w wr)) (fun _ i _ => n - (intOf i).toNat)
  case atStart => exact ⟨0, 1, Nat.zero_le _, by omega, rfl, rfl, ⟨hM.out⟩, ⟨Kept.refl _ _⟩, ⟨Below.refl _ _⟩⟩
  case round =>
    obtain ⟨k, m, hk, hm, rfl, rfl, hMk, hK, hW⟩ := hrel
    by_cases hlt : k < n
    · have hw1 : IntKind.i64.wrap ((m : Int) + 1) = (m : Int) + 1 := IntWalk.i64_in _ (by omega)
      have i1 : (0 : Int) ≤ (k : Int) := by omega
      have i2 : (k : Int) < (n : Int) := by omega
      have hMs := Aside0.mk (mb_put0 hMk.out k (.int .i64 (m : Int)) (.inr trivial))
      obtain ⟨u, A, p, c', c0, c1, f0, hgs, hpm, hpp⟩ := mb_at hMk.out hlt hN
      have hpq : 0 < p → ∃ (pg : Nat) (cp : Array Value), A = some ⟨pg, 0, none⟩ ∧ (wr.setCell ⟨g, k * 2, none⟩ (.int .i64 (m : Int))).heap[pg]? = some (.cells cp 138 (0, 0)) ∧ 11 * p ≤ cp.size ∧ ok pg ∧ base ≤ pg ∧ pg ≠ g := fun h => by
        obtain ⟨pg, cp, a1, a2, a3, a4, a5, a6⟩ := hpp h
        exact ⟨pg, cp, a1, (Below.heap_setCell wr _ _ pg a6).trans a2, a3, a4, a5, a6⟩
      have hKs := Aside0.mk (hK.out.setCell (p := ⟨g, k * 2, none⟩) (.inl hok.out) (.int .i64 (m : Int)))
      have hWs := Aside0.mk (Below.setCell (p := ⟨g, k * 2, none⟩) hW.out hbg (.int .i64 (m : Int)))
      have hbs : base ≤ (wr.setCell ⟨g, k * 2, none⟩ (.int .i64 (m : Int))).heap.size := by simp; omega
      replace hbs := Aside0.mk hbs
      replace hpp := Aside0.mk hpp
      replace hpq := Aside0.mk hpq
      go_wp2_with (first | (go_at_call 132; (with_reducible refine (show Calls Try.prog 132 #[.slice A p c', .int .i64 ((m : Int) + 1)] _ _ from (by have em : (m : Int) + 1 = ((m + 1 : Nat) : Int) := (by omega); rw [em]; exact markPortS_u A p c' (m + 1) _ (fun h => by obtain ⟨pg, cp, a1, a2, a3, _⟩ := hpq.out h; exact ⟨pg, cp, a1, a2, a3⟩) (by omega))).mono ?_); rintro e w2 ⟨rfl, hpm⟩; obtain ⟨hM2, hK2, hW2⟩ := mb_marked hMs.out hpq.out hpm hKs.out hWs.out hbs.out; replace hM2 := Aside0.mk hM2; replace hK2 := Aside0.mk hK2; replace hW2 := Aside0.mk hW2; clear hpm))
      go_roundw
      case rel => exact ⟨k + 1, m + 1 + 11 * p, by omega, by omega, rfl, by go_num, ⟨hM2.out⟩, ⟨hK2.out⟩, ⟨hW2.out⟩⟩
      case measure => simp [intOf]; omega
    · have : k = n := by omega
      subst this
      go_wp2
      go_ret
      exact ⟨m, rfl, hm, hK.out, hW.out⟩
theorem markBridgeS_u (base : Nat) (ok : Nat → Prop) (v : Value) (bs : List S65) (w : World) (hR : Kd.R k65 65 w base ok v bs) (hn : bs.length ≤ 1048576) (hps : ∀ x ∈ bs, x.f1.length ≤ 1048576) : Calls Try.prog 76 #[v, .int .i64 1] w fun e w' => ∃ k : Nat, e = .returned (.int .i64 k) ∧ k ≤ 1 + 11534337 * bs.length ∧ Kept w w' ok ∧ Below base w w' := by
  by_cases h0 : bs.length = 0
  · have hl : bs = [] := List.eq_nil_of_length_eq_zero h0
    subst hl
    obtain ⟨A, c, rfl⟩ := Kd.R_slice hR
    replace hR := Aside0.mk hR
    go_enter Try.func76, Try.ntmps76
    go_wp2
    go_loopw [1, 5] (fun vk i wr => vk = .int .i64 ((1 : Nat) : Int) ∧ i = .int .i64 0 ∧ wr = w) (fun _ _ _ => 0)
    case atStart => exact ⟨rfl, rfl, rfl⟩
    case round =>
      obtain ⟨rfl, rfl, rfl⟩ := hrel
      go_wp2
      go_ret
      exact ⟨1, rfl, by omega, Kept.refl _ _, Below.refl _ _⟩
  · obtain ⟨g, c, rfl, hb, _⟩ := Kd.R_form hR (by omega)
    obtain ⟨N, hN, hM⟩ := mb_of hR rfl hps
    exact markBridgeS_g base g bs.length c N ok w hM hN (hR.1 g rfl) hb hn
theorem markLinkS_u (base a : Nat) (ok : Nat → Prop) (v : Value) (ls : List S145) (w : World) (hR : Kd.R k145 145 w base ok v ls) (hbw : base ≤ w.heap.size) (hs : a + 4 * ls.length ≤ 140737488355328) : Calls Try.prog 77 #[v, .int .i64 a] w fun e w' => e = .returned (.int .i64 ((a + 4 * ls.length : Nat) : Int)) ∧ Kept w w' ok ∧ Below base w w' := by
  by_cases h0 : ls.length = 0
  · have hl : ls = [] := List.eq_nil_of_length_eq_zero h0
    subst hl
    obtain ⟨A, c, rfl⟩ := Kd.R_slice hR
    replace hR := Aside0.mk hR
    go_enter Try.func77, Try.ntmps77
    go_wp2
    go_loopw [1, 5] (fun vk i wr => vk = .int .i64 a ∧ i = .int .i64 0 ∧ wr = w) (fun _ _ _ => 0)
    case atStart => exact ⟨rfl, rfl, rfl⟩
    case round =>
      obtain ⟨rfl, rfl, rfl⟩ := hrel
      go_wp2
      go_ret
      exact ⟨by simp, Kept.refl _ _, Below.refl _ _⟩
  · obtain ⟨g, c, rfl, hb, _⟩ := Kd.R_form hR (by omega)
    have hok := hR.1 g rfl
    obtain ⟨hok', inner, ho, hr⟩ := hR
    obtain ⟨ho1, ho2⟩ := ho
    rcases ho2 with ⟨hv, _⟩ | ⟨g', cap', cur, hv, hb', hh, hnc', hcm, hcs, ht⟩
    · cases hv
    · injection hv with ha hn2 hc
      injection ha with ha
      injection ha with hg
      subst hg; subst hc
      refine (markLinkS_c g ls.length c a cur.size cur w hh rfl (by rw [hcs, show k145.sz = 4 from rfl]; omega) hs).mono fun e w' ⟨he, hgr, _⟩ => ⟨he, ?_, ?_⟩
      · exact (Kept.refl w ok).of_grown hgr (fun k hk => by injection hk with hk; subst hk; exact .inl hok)
      · exact (Below.refl _ _).grown hgr hbw (fun k hk => by injection hk with hk; subst hk; exact hb)
/-- Marks in a net of the call's own: the count is not negative; what is not the net's own stays. -/
theorem markNet_c (base : Nat) (ok : Nat → Prop) (va vb : Value) (bs : List S65) (ls : List S145) (w : World) (hR : Kd.R k65 65 w base ok va bs) (hL : Kd.R k145 145 w base ok vb ls) (hbw : base ≤ w.heap.size) (hn : bs.length ≤ 1048576) (hl : ls.length ≤ 1048576) (hps : ∀ x ∈ bs, x.f1.length ≤ 1048576) : Calls Try.prog 19 #[.agg #[va, vb], .int .i64 1] w fun e w' => ∃ k : Nat, e = .returned (.int .i64 k) ∧ Kept w w' ok ∧ Below base w w' := by
  have hu32 := Try.underlying32
  obtain ⟨A, ca, rfl⟩ := Kd.R_slice hR
  obtain ⟨B, cb, rfl⟩ := Kd.R_slice hL
  have hR0 := Kd.R_bound hR
  have hL0 := Kd.R_bound hL
  obtain ⟨okR, hokR⟩ : ∃ okR : Nat → Prop, okR = fun k => ok k ∧ base ≤ k ∧ k < w.heap.size ∧ ∃ q, q ∈ 65 :: k65.E ∧ ∃ cells, w.heap[k]? = some (.cells cells q (0, 0)) := ⟨_, rfl⟩
  obtain ⟨okL, hokL⟩ : ∃ okL : Nat → Prop, okL = fun k => ok k ∧ base ≤ k ∧ k < w.heap.size ∧ ∃ q, q ∈ 145 :: k145.E ∧ ∃ cells, w.heap[k]? = some (.cells cells q (0, 0)) := ⟨_, rfl⟩
  rw [← hokR] at hR0
  rw [← hokL] at hL0
  have hRo : ∀ k, okR k → ok k ∧ k < w.heap.size := fun k h => by rw [hokR] at h; exact ⟨h.1, h.2.2.1⟩
  have hLo : ∀ k, okL k → ok k ∧ k < w.heap.size := fun k h => by rw [hokL] at h; exact ⟨h.1, h.2.2.1⟩
  have hLR : ∀ k, okL k → ¬ okR k := by
    intro k h1 h2
    rw [hokL] at h1
    rw [hokR] at h2
    obtain ⟨_, _, _, q, hq, c, hc⟩ := h1
    obtain ⟨_, _, _, r, hr, d, hd⟩ := h2
    rw [hc] at hd
    injection hd with hd
    injection hd with _ hd
    subst hd
    have h3 : q ∈ [145] := hq
    have h4 : q ∈ [65, 138] := hr
    simp at h3 h4
    omega
  have hR1 := Aside0.mk (Kd.R_below hR0 (below_alloc (Below.refl _ _) (.cells #[.slice A bs.length ca, .slice B ls.length cb] 32)))
  have hL1 := Aside0.mk (Kd.R_below hL0 (below_alloc (Below.refl _ _) (.cells #[.slice A bs.length ca, .slice B ls.length cb] 32)))
  replace hps := Aside0.mk hps
  replace hRo := Aside0.mk hRo
  replace hLo := Aside0.mk hLo
  replace hLR := Aside0.mk hLR
  clear hR hL hR0 hL0 hokR hokL
  go_enter Try.func19, Try.ntmps19
  go_wp2_with (first | (go_at_call 76; (with_reducible refine (markBridgeS_u base okR _ bs _ hR1.out hn hps.out).mono ?_); rintro e w1 ⟨k, rfl, hk, hK, hB⟩; have hL2 := Aside0.mk (Kd.R_kept hL1.out hK hLR.out); have hbx := blk_kept (blk_new w (.cells #[.slice A bs.length ca, .slice B ls.length cb] 32)) hK (fun h => by have := (hRo.out _ h).2; omega); have hbc1 : w1.cell? ⟨w.heap.size, 1, none⟩ = some (.slice B ls.length cb) := (blk_cell hbx 1).trans rfl; have hsz := blk_lt hbx; have hK1 := Aside0.mk ((((Kept.refl w ok).alloc (.cells #[.slice A bs.length ca, .slice B ls.length cb] 32))).then_ hK (fun k hk => .inl (hRo.out k hk).1)); have hB1 := Aside0.mk (((below_alloc (Below.refl _ _) (.cells #[.slice A bs.length ca, .slice B ls.length cb] 32)).mono hbw).trans hB); have hbw1 : base ≤ w1.heap.size := (by omega); clear hK hB hbx) | (go_at_call 77; (with_reducible refine (markLinkS_u base k okL _ ls _ hL2.out hbw1 (by omega)).mono ?_); rintro e w2 ⟨rfl, hK2, hB2⟩; replace hK2 := Aside0.mk (hK1.out.then_ hK2 (fun k hk => .inl (hLo.out k hk).1)); replace hB2 := Aside0.mk (hB1.out.trans hB2)))
  go_ret
  exact ⟨_, rfl, hK2.out, hB2.out⟩
end Go.Proofs.Ytbdmnjobhfhinaa.M
