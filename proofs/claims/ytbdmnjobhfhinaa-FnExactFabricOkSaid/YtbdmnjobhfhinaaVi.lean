/- Cards: reads, sizes, conversions and comparing. No conditions beside those that each theorem states. -/
import Derived.Test.YtbdmnjobhfhinaaVa
import Derived.IntWalk
import Derived.Test.YtbdmnjobhfhinaaVd
import Derived.Test.YtbdmnjobhfhinaaVg
import Derived.Test.YtbdmnjobhfhinaaVe
import Derived.Test.YtbdmnjobhfhinaaVc
namespace Go.Proofs.Ytbdmnjobhfhinaa.M
open Go.RowKit Go.Proofs.YtbdmnjobhfhinaaW.PrintWords Go.Proofs.YtbdmnjobhfhinaaW.PrintLast Go.Proofs.YtbdmnjobhfhinaaW.PrintMore
set_option linter.unusedVariables false
set_option linter.unusedSimpArgs false
set_option maxHeartbeats 4000000
set_option maxRecDepth 100000
theorem get267 {w : World} {A : Option Addr} {l : List S267} (h : Kd.C k267 w A l.length l) {k : Nat} {x : S267} (hx : l[k]? = some x) : ∃ ad A1 c1, A = some ad ∧ (ad.add (k * 2)).block < w.heap.size ∧ w.cell? (ad.add (k * 2)) = some (.int .i64 x.f0) ∧ w.cell? ⟨(ad.add (k * 2)).block, (ad.add (k * 2)).off + 1, none⟩ = some (.slice A1 x.f1.length c1) ∧ x.f1.length ≤ c1 ∧ (Kd.int .i64).C w A1 x.f1.length x.f1 := by
  have hk : k < l.length := (List.getElem?_eq_some_iff.1 hx).1
  obtain ⟨ad, A1, c1, e, c0_, c1_, l1_, g1_⟩ := at_T267 h k (by omega) (by omega)
  have ex : rd_T267 l k = x := by simp [rd_T267, hx]
  rw [ex] at c0_ c1_ l1_ g1_
  simp only [Int.toNat_natCast] at c0_ c1_
  exact ⟨ad, A1, c1, e, World.block_lt_of_cell? _ _ c0_, c0_, c1_, l1_, g1_⟩
theorem get270 {w : World} {A : Option Addr} {l : List S270} (h : Kd.C k270 w A l.length l) {k : Nat} {x : S270} (hx : l[k]? = some x) : ∃ ad, A = some ad ∧ (ad.add (k * 4)).block < w.heap.size ∧ w.cell? (ad.add (k * 4)) = some (.int .i64 x.f0) ∧ w.cell? ⟨(ad.add (k * 4)).block, (ad.add (k * 4)).off + 1, none⟩ = some (.int .i64 x.f1) ∧ w.cell? ⟨(ad.add (k * 4)).block, (ad.add (k * 4)).off + 2, none⟩ = some (.int .i64 x.f2) ∧ w.cell? ⟨(ad.add (k * 4)).block, (ad.add (k * 4)).off + 3, none⟩ = some (.int .i64 x.f3) := by
  have hk : k < l.length := (List.getElem?_eq_some_iff.1 hx).1
  obtain ⟨ad, e, c0_, c1_, c2_, c3_⟩ := at_T270 h k (by omega) (by omega)
  have ex : rd_T270 l k = x := by simp [rd_T270, hx]
  rw [ex] at c0_ c1_ c2_ c3_
  simp only [Int.toNat_natCast] at c0_ c1_ c2_ c3_
  exact ⟨ad, e, World.block_lt_of_cell? _ _ c0_, c0_, c1_, c2_, c3_⟩
theorem get220 {w : World} {A : Option Addr} {l : List S220} (h : Kd.C k220 w A l.length l) {k : Nat} {x : S220} (hx : l[k]? = some x) : ∃ ad A0 c0 A1 c1 A2 c2, A = some ad ∧ (ad.add (k * 3)).block < w.heap.size ∧ w.cell? (ad.add (k * 3)) = some (.slice A0 x.f0.length c0) ∧ w.cell? ⟨(ad.add (k * 3)).block, (ad.add (k * 3)).off + 1, none⟩ = some (.slice A1 x.f1.length c1) ∧ w.cell? ⟨(ad.add (k * 3)).block, (ad.add (k * 3)).off + 2, none⟩ = some (.slice A2 x.f2.length c2) ∧ x.f0.length ≤ c0 ∧ Kd.bool.C w A0 x.f0.length x.f0 ∧ x.f1.length ≤ c1 ∧ k267.C w A1 x.f1.length x.f1 ∧ x.f2.length ≤ c2 ∧ k270.C w A2 x.f2.length x.f2 := by
  have hk : k < l.length := (List.getElem?_eq_some_iff.1 hx).1
  obtain ⟨ad, A0, c0, A1, c1, A2, c2, e, c0_, c1_, c2_, l0_, g0_, l1_, g1_, l2_, g2_⟩ := at_T220 h k (by omega) (by omega)
  have ex : rd_T220 l k = x := by simp [rd_T220, hx]
  rw [ex] at c0_ c1_ c2_ l0_ g0_ l1_ g1_ l2_ g2_
  simp only [Int.toNat_natCast] at c0_ c1_ c2_
  exact ⟨ad, A0, c0, A1, c1, A2, c2, e, World.block_lt_of_cell? _ _ c0_, c0_, c1_, c2_, l0_, g0_, l1_, g1_, l2_, g2_⟩
theorem get167 {w : World} {A : Option Addr} {l : List S167} (h : Kd.C k167 w A l.length l) {k : Nat} {x : S167} (hx : l[k]? = some x) : ∃ ad A1 c1, A = some ad ∧ (ad.add (k * 2)).block < w.heap.size ∧ w.cell? (ad.add (k * 2)) = some (.int .i64 x.f0) ∧ w.cell? ⟨(ad.add (k * 2)).block, (ad.add (k * 2)).off + 1, none⟩ = some (.slice A1 x.f1.length c1) ∧ x.f1.length ≤ c1 ∧ (Kd.int .i64).C w A1 x.f1.length x.f1 := by
  have hk : k < l.length := (List.getElem?_eq_some_iff.1 hx).1
  obtain ⟨ad, A1, c1, e, c0_, c1_, l1_, g1_⟩ := at_T167 h k (by omega) (by omega)
  have ex : rd_T167 l k = x := by simp [rd_T167, hx]
  rw [ex] at c0_ c1_ l1_ g1_
  simp only [Int.toNat_natCast] at c0_ c1_
  exact ⟨ad, A1, c1, e, World.block_lt_of_cell? _ _ c0_, c0_, c1_, l1_, g1_⟩
theorem get250 {w : World} {A : Option Addr} {l : List S250} (h : Kd.C k250 w A l.length l) {k : Nat} {x : S250} (hx : l[k]? = some x) : ∃ ad, A = some ad ∧ (ad.add (k * 4)).block < w.heap.size ∧ w.cell? (ad.add (k * 4)) = some (.int .i64 x.f0) ∧ w.cell? ⟨(ad.add (k * 4)).block, (ad.add (k * 4)).off + 1, none⟩ = some (.int .i64 x.f1) ∧ w.cell? ⟨(ad.add (k * 4)).block, (ad.add (k * 4)).off + 2, none⟩ = some (.int .i64 x.f2) ∧ w.cell? ⟨(ad.add (k * 4)).block, (ad.add (k * 4)).off + 3, none⟩ = some (.int .i64 x.f3) := by
  have hk : k < l.length := (List.getElem?_eq_some_iff.1 hx).1
  obtain ⟨ad, e, c0_, c1_, c2_, c3_⟩ := at_T250 h k (by omega) (by omega)
  have ex : rd_T250 l k = x := by simp [rd_T250, hx]
  rw [ex] at c0_ c1_ c2_ c3_
  simp only [Int.toNat_natCast] at c0_ c1_ c2_ c3_
  exact ⟨ad, e, World.block_lt_of_cell? _ _ c0_, c0_, c1_, c2_, c3_⟩
theorem get155 {w : World} {A : Option Addr} {l : List S155} (h : Kd.C k155 w A l.length l) {k : Nat} {x : S155} (hx : l[k]? = some x) : ∃ ad A0 c0 A1 c1 A2 c2, A = some ad ∧ (ad.add (k * 3)).block < w.heap.size ∧ w.cell? (ad.add (k * 3)) = some (.slice A0 x.f0.length c0) ∧ w.cell? ⟨(ad.add (k * 3)).block, (ad.add (k * 3)).off + 1, none⟩ = some (.slice A1 x.f1.length c1) ∧ w.cell? ⟨(ad.add (k * 3)).block, (ad.add (k * 3)).off + 2, none⟩ = some (.slice A2 x.f2.length c2) ∧ x.f0.length ≤ c0 ∧ Kd.bool.C w A0 x.f0.length x.f0 ∧ x.f1.length ≤ c1 ∧ k167.C w A1 x.f1.length x.f1 ∧ x.f2.length ≤ c2 ∧ k250.C w A2 x.f2.length x.f2 := by
  have hk : k < l.length := (List.getElem?_eq_some_iff.1 hx).1
  obtain ⟨ad, A0, c0, A1, c1, A2, c2, e, c0_, c1_, c2_, l0_, g0_, l1_, g1_, l2_, g2_⟩ := at_T155 h k (by omega) (by omega)
  have ex : rd_T155 l k = x := by simp [rd_T155, hx]
  rw [ex] at c0_ c1_ c2_ l0_ g0_ l1_ g1_ l2_ g2_
  simp only [Int.toNat_natCast] at c0_ c1_ c2_
  exact ⟨ad, A0, c0, A1, c1, A2, c2, e, World.block_lt_of_cell? _ _ c0_, c0_, c1_, c2_, l0_, g0_, l1_, g1_, l2_, g2_⟩
end Go.Proofs.Ytbdmnjobhfhinaa.M
namespace Go.Proofs.Ytbdmnjobhfhinaa.M
open Go.RowKit Go.Proofs.YtbdmnjobhfhinaaW.PrintWords Go.Proofs.YtbdmnjobhfhinaaW.PrintLast Go.Proofs.YtbdmnjobhfhinaaW.PrintMore
set_option linter.unusedVariables false
set_option linter.unusedSimpArgs false
set_option maxHeartbeats 4000000
set_option maxRecDepth 100000
/-- A list's size: its length, then each element. -/
def szR {α : Type} (f : α → Int → Int) : List α → Int → Int
  | [], left => left
  | b :: r, left => if f b left < 0 then -1 else szR f r (f b left)
def szA {α : Type} (f : α → Int → Int) (l : List α) (left : Int) : Int := if left - l.length < 0 then -1 else szR f l (left - l.length)
/-- It takes away, or tells -1. -/
def Takes {α : Type} (f : α → Int → Int) : Prop := ∀ x left, 0 ≤ left → f x left = -1 ∨ (0 ≤ f x left ∧ f x left ≤ left)
theorem takes_R {α : Type} {f : α → Int → Int} (h : Takes f) : ∀ (l : List α) (left : Int), 0 ≤ left → szR f l left = -1 ∨ (0 ≤ szR f l left ∧ szR f l left ≤ left)
  | [], left, h0 => .inr ⟨h0, Int.le_refl _⟩
  | b :: r, left, h0 => by
    rw [szR]
    split
    · exact .inl rfl
    · have h1 := h b left h0
      have h2 := takes_R h r (f b left) (by omega)
      omega
theorem takes_A {α : Type} {f : α → Int → Int} (h : Takes f) : Takes (szA f) := by
  intro l left h0
  unfold szA
  split
  · exact .inl rfl
  · have := takes_R h l (left - l.length) (by omega)
    omega
theorem szR_ok {α : Type} {f : α → Int → Int} {P : α → Prop} (h : Takes f) (hP : ∀ x left, 0 ≤ left → left ≤ 1048576 → 0 ≤ f x left → P x) : ∀ (l : List α) (left : Int), 0 ≤ left → left ≤ 1048576 → 0 ≤ szR f l left → ∀ x ∈ l, P x
  | [], _, _, _, _, x, hx => by simp at hx
  | b :: r, left, h0, h1, hs, x, hx => by
    rw [szR] at hs
    split at hs
    · omega
    · have h2 := h b left h0
      rcases List.mem_cons.1 hx with rfl | hx
      · exact hP x left h0 h1 (by omega)
      · exact szR_ok h hP r _ (by omega) (by omega) hs x hx
theorem szA_ok {α : Type} {f : α → Int → Int} {P : α → Prop} (h : Takes f) (hP : ∀ x left, 0 ≤ left → left ≤ 1048576 → 0 ≤ f x left → P x) {l : List α} {left : Int} (h0 : 0 ≤ left) (h1 : left ≤ 1048576) (hs : 0 ≤ szA f l left) : l.length ≤ 1048576 ∧ ∀ x ∈ l, P x := by
  unfold szA at hs
  split at hs
  · omega
  · exact ⟨by omega, szR_ok h hP l _ (by omega) (by omega) hs⟩
theorem takes_L {α : Type} : Takes (fun (l : List α) left => szL l.length left) := by
  intro l left h0
  show szL l.length left = -1 ∨ (0 ≤ szL l.length left ∧ szL l.length left ≤ left)
  unfold szL
  split <;> omega
theorem szL_ok {n : Nat} {left : Int} (h1 : left ≤ 1048576) (hs : 0 ≤ szL n left) : n ≤ 1048576 := by
  unfold szL at hs
  split at hs <;> omega
def szMem (m : S267) (left : Int) : Int := szL m.f1.length left
def szCd (c : S220) (left : Int) : Int := if szL c.f0.length left < 0 then -1 else if szA szMem c.f1 (szL c.f0.length left) < 0 then -1 else szL c.f2.length (szA szMem c.f1 (szL c.f0.length left))
theorem takes_Mem : Takes szMem := fun m left h0 => takes_L m.f1 left h0
theorem takes_Cd : Takes szCd := by
  intro c left h0
  unfold szCd
  have h1 := takes_L c.f0 left h0
  simp only at h1
  split
  · exact .inl rfl
  · have h2 := takes_A takes_Mem c.f1 (szL c.f0.length left) (by omega)
    split
    · exact .inl rfl
    · have h3 := takes_L c.f2 (szA szMem c.f1 (szL c.f0.length left)) (by omega)
      simp only at h3
      omega
def MemSz (m : S267) : Prop := m.f1.length ≤ 1048576
def CdSz (c : S220) : Prop := c.f0.length ≤ 1048576 ∧ (c.f1.length ≤ 1048576 ∧ ∀ m ∈ c.f1, MemSz m) ∧ c.f2.length ≤ 1048576
theorem szCd_ok {c : S220} {left : Int} (h0 : 0 ≤ left) (h1 : left ≤ 1048576) (hs : 0 ≤ szCd c left) : CdSz c := by
  unfold szCd at hs
  have h2 := takes_L c.f0 left h0
  simp only at h2
  split at hs
  · omega
  · have h3 := takes_A takes_Mem c.f1 (szL c.f0.length left) (by omega)
    split at hs
    · omega
    · exact ⟨szL_ok h1 (by omega), szA_ok (left := szL c.f0.length left) takes_Mem (fun x l _ hl hx => szL_ok hl hx) (by omega) (by omega) (by omega), szL_ok (left := szA szMem c.f1 (szL c.f0.length left)) (by omega) hs⟩
def szF (bs : List S172) (ls : List S175) (cs : List S220) (left : Int) : Int := if szN bs ls left < 0 then -1 else szA szCd cs (szN bs ls left)
theorem szBoolS_c (A : Option Addr) (n c : Nat) (left : Int) (w : World) (hn : n ≤ 9223372036854775807) (h0 : 0 ≤ left) (h1 : left ≤ 1048576) : Calls Try.prog 212 #[.slice A n c, .int .i64 left] w fun e w' => e = .returned (.int .i64 (szL n left)) ∧ w = w' := by
  have hw : IntKind.i64.wrap (left - n) = left - n := IntWalk.i64_in _ (by omega)
  go_enter Try.func212, Try.ntmps212
  go_wp2
  all_goals (go_ret; exact ⟨ri (by unfold szL; first | rw [if_pos (by omega)] | rw [if_neg (by omega)]), rfl⟩)
theorem szHeardS_c (A : Option Addr) (n c : Nat) (left : Int) (w : World) (hn : n ≤ 9223372036854775807) (h0 : 0 ≤ left) (h1 : left ≤ 1048576) : Calls Try.prog 214 #[.slice A n c, .int .i64 left] w fun e w' => e = .returned (.int .i64 (szL n left)) ∧ w = w' := by
  have hw : IntKind.i64.wrap (left - n) = left - n := IntWalk.i64_in _ (by omega)
  go_enter Try.func214, Try.ntmps214
  go_wp2
  all_goals (go_ret; exact ⟨ri (by unfold szL; first | rw [if_pos (by omega)] | rw [if_neg (by omega)]), rfl⟩)
theorem szIntS_c (A : Option Addr) (n c : Nat) (left : Int) (w : World) (hn : n ≤ 9223372036854775807) (h0 : 0 ≤ left) (h1 : left ≤ 1048576) : Calls Try.prog 253 #[.slice A n c, .int .i64 left] w fun e w' => e = .returned (.int .i64 (szL n left)) ∧ w = w' := by
  have hw : IntKind.i64.wrap (left - n) = left - n := IntWalk.i64_in _ (by omega)
  go_enter Try.func253, Try.ntmps253
  go_wp2
  all_goals (go_ret; exact ⟨ri (by unfold szL; first | rw [if_pos (by omega)] | rw [if_neg (by omega)]), rfl⟩)
theorem szMember_c (v0 : Value) (A : Option Addr) (n c : Nat) (left : Int) (w : World) (hn : n ≤ 9223372036854775807) (h0 : 0 ≤ left) (h1 : left ≤ 1048576) : Calls Try.prog 240 #[.agg #[v0, .slice A n c], .int .i64 left] w fun e w' => e = .returned (.int .i64 (szL n left)) ∧ Below w.heap.size w w' := by
  have hu := Try.underlying267
  have F := fun W => szIntS_c A n c left W hn h0 h1
  have hor : szL n left = -1 ∨ 0 ≤ szL n left := by unfold szL; split <;> omega
  generalize szL n left = r at *
  go_enter Try.func240, Try.ntmps240
  rcases hor with rfl | hr
  all_goals (
    go_wp2_with (go_at_call 253; (with_reducible refine (F _).mono ?_); rintro e w2 ⟨rfl, rfl⟩)
    go_ret
    exact ⟨rfl, by repeat (first | exact Below.refl _ _ | apply below_alloc)⟩)
theorem szMemberS_c (A : Option Addr) (c : Nat) (bs : List S267) (left : Int) (w : World) (hA : Kd.C k267 w A bs.length bs) (h0 : 0 ≤ left) (h1 : left ≤ 1048576) : Calls Try.prog 213 #[.slice A bs.length c, .int .i64 left] w fun e w' => e = .returned (.int .i64 (szA szMem bs left)) ∧ Below w.heap.size w w' := by
  have hlen := clen hA
  have hu := Try.underlying267
  have hw : IntKind.i64.wrap (left - bs.length) = left - bs.length := IntWalk.i64_in _ (by omega)
  obtain ⟨R, hR⟩ : ∃ R, R = szA szMem bs left := ⟨_, rfl⟩
  rw [← hR]
  unfold szA at hR
  by_cases hneg : left - bs.length < 0
  · rw [if_pos hneg] at hR
    subst hR
    replace hA := Aside0.mk hA
    go_enter Try.func213, Try.ntmps213
    go_wp2
    go_ret
    exact ⟨rfl, Below.refl _ _⟩
  · rw [if_neg hneg] at hR
    replace hA := Aside0.mk hA
    replace hR := Aside0.mk hR
    go_enter Try.func213, Try.ntmps213
    go_wp2
    go_loopw [1, 5] (fun vl vi wr => ∃ (k : Nat) (l : Int), k ≤ bs.length ∧ 0 ≤ l ∧ l ≤ 1048576 ∧ vl = .int .i64 l ∧ vi = .int .i64 k ∧ Aside0 (R = szR szMem (bs.drop k) l) ∧ Aside0 (Below w.heap.size w wr)) (fun _ vi _ => bs.length - (intOf vi).toNat)
    case atStart => exact ⟨0, left - bs.length, Nat.zero_le _, by omega, by omega, rfl, rfl, ⟨hR.out⟩, ⟨Below.refl _ _⟩⟩
    case round =>
      obtain ⟨k, l, hk, hl0, hl1, rfl, rfl, hp, hW⟩ := hrel
      by_cases hlt : k < bs.length
      · obtain ⟨x, hx⟩ : ∃ x, bs[k]? = some x := ⟨_, List.getElem?_eq_getElem hlt⟩
        obtain ⟨ad, A1, c1, eA, hblk, h0', h1', hl, hC⟩ := get267 (Kd.C_below hA.out hW.out) hx
        subst eA
        have e := hp.out
        rw [drop_cons_of hx, szR] at e
        have F := fun W (hW : Below wr.heap.size wr W) => (show Calls Try.prog 240 #[.agg #[.int .i64 x.f0, .slice A1 x.f1.length c1], .int .i64 l] W (fun e w1 => e = .returned (.int .i64 (szMem x l)) ∧ Below W.heap.size W w1) from szMember_c (.int .i64 x.f0) A1 x.f1.length c1 l W (clen hC) hl0 hl1)
        have hor := takes_Mem x l hl0
        generalize szMem x l = r at *
        have i0 : (0 : Int) ≤ (k : Int) := by omega
        have i1 : (k : Int) < (bs.length : Int) := by omega
        replace hC := Aside0.mk hC
        replace hx := Aside0.mk hx
        rcases hor with rfl | ⟨hr, hr2⟩
        · rw [if_pos (by omega)] at e
          subst e
          go_wp2_with (go_at_call 240; (with_reducible refine (F _ (Below.refl _ _)).mono ?_); rintro e w2 ⟨rfl, hb⟩; replace hb := Aside0.mk hb)
          go_ret
          exact ⟨rfl, bthen hW.out hb.out⟩
        · rw [if_neg (by omega)] at e
          replace e := Aside0.mk e
          go_wp2_with (go_at_call 240; (with_reducible refine (F _ (Below.refl _ _)).mono ?_); rintro e w2 ⟨rfl, hb⟩; replace hb := Aside0.mk hb)
          go_roundw
          case rel => exact ⟨k + 1, r, by omega, hr, by omega, rfl, by go_num, ⟨e.out⟩, ⟨bthen hW.out hb.out⟩⟩
          case measure => simp [intOf]; omega
      · have : k = bs.length := by omega
        subst this
        have e := hp.out
        rw [List.drop_length, szR] at e
        subst e
        go_wp2
        go_ret
        exact ⟨rfl, hW.out⟩
theorem szCard_c (A0 A1 A2 : Option Addr) (c0 c1 c2 : Nat) (x : S220) (left : Int) (w : World) (h0 : Kd.C Kd.bool w A0 x.f0.length x.f0) (h1 : Kd.C k267 w A1 x.f1.length x.f1) (h2 : Kd.C k270 w A2 x.f2.length x.f2) (hl0 : 0 ≤ left) (hl1 : left ≤ 1048576) : Calls Try.prog 166 #[.agg #[.slice A0 x.f0.length c0, .slice A1 x.f1.length c1, .slice A2 x.f2.length c2], .int .i64 left] w fun e w' => e = .returned (.int .i64 (szCd x left)) ∧ Below w.heap.size w w' := by
  have hu := Try.underlying220
  have F1 := fun W => szBoolS_c A0 x.f0.length c0 left W (clen h0) hl0 hl1
  have hn2 := clen h2
  have g1 := takes_L x.f0 left hl0
  simp only at g1
  unfold szCd
  generalize szL x.f0.length left = a at *
  have hW0 := Aside0.mk (below_alloc (Below.refl w.heap.size w) (.cells #[.slice A0 x.f0.length c0, .slice A1 x.f1.length c1, .slice A2 x.f2.length c2] 220))
  have hbx0 := Aside0.mk (blk_new w (.cells #[.slice A0 x.f0.length c0, .slice A1 x.f1.length c1, .slice A2 x.f2.length c2] 220))
  replace h1 := Aside0.mk h1
  clear h0 h2
  rcases g1 with rfl | ⟨g1, g2⟩
  · go_enter Try.func166, Try.ntmps166
    go_wp2_with (go_at_call 212; (with_reducible refine (F1 _).mono ?_); rintro e w2 ⟨rfl, rfl⟩)
    go_ret
    exact ⟨rfl, hW0.out⟩
  · rw [if_neg (by omega)]
    have F2 := fun W h => szMemberS_c A1 c1 x.f1 a W h g1 (by omega)
    have g3 := takes_A takes_Mem x.f1 a g1
    generalize szA szMem x.f1 a = b at *
    rcases g3 with rfl | ⟨g3, g4⟩
    · rw [if_pos (by omega)]
      go_enter Try.func166, Try.ntmps166
      go_wp2_with (first | (go_at_call 212; (with_reducible refine (F1 _).mono ?_); rintro e w2 ⟨rfl, rfl⟩) | (go_at_call 213; (with_reducible refine (F2 _ (Kd.C_below h1.out hW0.out)).mono ?_); rintro e w3 ⟨rfl, hb⟩; replace hb := Aside0.mk (bthen hW0.out hb)))
      go_ret
      exact ⟨rfl, hb.out⟩
    · rw [if_neg (by omega)]
      have F3 := fun W => szHeardS_c A2 x.f2.length c2 b W hn2 g3 (by omega)
      have g5 := takes_L x.f2 b g3
      simp only at g5
      generalize szL x.f2.length b = d at *
      rcases g5 with rfl | ⟨g5, g6⟩
      all_goals (
        go_enter Try.func166, Try.ntmps166
        go_wp2_with (first | (go_at_call 212; (with_reducible refine (F1 _).mono ?_); rintro e w2 ⟨rfl, rfl⟩) | (go_at_call 213; (with_reducible refine (F2 _ (Kd.C_below h1.out hW0.out)).mono ?_); rintro e w3 ⟨rfl, hb⟩; have hbx := blk_below hbx0.out hb; have hbc : w3.cell? ⟨w.heap.size, 2, none⟩ = some (.slice A2 x.f2.length c2) := (blk_cell hbx 2).trans rfl; have hsz := blk_lt hbx; clear hbx; replace hb := Aside0.mk (bthen hW0.out hb)) | (go_at_call 214; (with_reducible refine (F3 _).mono ?_); rintro e w4 ⟨rfl, rfl⟩))
        go_ret
        exact ⟨rfl, hb.out⟩)
theorem szCardS_c (A : Option Addr) (c : Nat) (bs : List S220) (left : Int) (w : World) (hA : Kd.C k220 w A bs.length bs) (h0 : 0 ≤ left) (h1 : left ≤ 1048576) : Calls Try.prog 111 #[.slice A bs.length c, .int .i64 left] w fun e w' => e = .returned (.int .i64 (szA szCd bs left)) ∧ Below w.heap.size w w' := by
  have hlen := clen hA
  have hu := Try.underlying220
  have hw : IntKind.i64.wrap (left - bs.length) = left - bs.length := IntWalk.i64_in _ (by omega)
  obtain ⟨R, hR⟩ : ∃ R, R = szA szCd bs left := ⟨_, rfl⟩
  rw [← hR]
  unfold szA at hR
  by_cases hneg : left - bs.length < 0
  · rw [if_pos hneg] at hR
    subst hR
    replace hA := Aside0.mk hA
    go_enter Try.func111, Try.ntmps111
    go_wp2
    go_ret
    exact ⟨rfl, Below.refl _ _⟩
  · rw [if_neg hneg] at hR
    replace hA := Aside0.mk hA
    replace hR := Aside0.mk hR
    go_enter Try.func111, Try.ntmps111
    go_wp2
    go_loopw [1, 5] (fun vl vi wr => ∃ (k : Nat) (l : Int), k ≤ bs.length ∧ 0 ≤ l ∧ l ≤ 1048576 ∧ vl = .int .i64 l ∧ vi = .int .i64 k ∧ Aside0 (R = szR szCd (bs.drop k) l) ∧ Aside0 (Below w.heap.size w wr)) (fun _ vi _ => bs.length - (intOf vi).toNat)
    case atStart => exact ⟨0, left - bs.length, Nat.zero_le _, by omega, by omega, rfl, rfl, ⟨hR.out⟩, ⟨Below.refl _ _⟩⟩
    case round =>
      obtain ⟨k, l, hk, hl0, hl1, rfl, rfl, hp, hW⟩ := hrel
      by_cases hlt : k < bs.length
      · obtain ⟨x, hx⟩ : ∃ x, bs[k]? = some x := ⟨_, List.getElem?_eq_getElem hlt⟩
        obtain ⟨ad, A0, c0, A1, c1, A2, c2, eA, hblk, h0', h1', h2', hl0_, hC0, hl1_, hC1, hl2_, hC2⟩ := get220 (Kd.C_below hA.out hW.out) hx
        subst eA
        have e := hp.out
        rw [drop_cons_of hx, szR] at e
        have F := fun W (hW : Below wr.heap.size wr W) => (show Calls Try.prog 166 _ W _ from szCard_c A0 A1 A2 c0 c1 c2 x l W (Kd.C_below hC0 hW) (Kd.C_below hC1 hW) (Kd.C_below hC2 hW) hl0 hl1)
        have hor := takes_Cd x l hl0
        generalize szCd x l = r at *
        have i0 : (0 : Int) ≤ (k : Int) := by omega
        have i1 : (k : Int) < (bs.length : Int) := by omega
        replace hC0 := Aside0.mk hC0
        replace hC1 := Aside0.mk hC1
        replace hC2 := Aside0.mk hC2
        replace hx := Aside0.mk hx
        rcases hor with rfl | ⟨hr, hr2⟩
        · rw [if_pos (by omega)] at e
          subst e
          go_wp2_with (go_at_call 166; (with_reducible refine (F _ (Below.refl _ _)).mono ?_); rintro e w2 ⟨rfl, hb⟩; replace hb := Aside0.mk hb)
          go_ret
          exact ⟨rfl, bthen hW.out hb.out⟩
        · rw [if_neg (by omega)] at e
          replace e := Aside0.mk e
          go_wp2_with (go_at_call 166; (with_reducible refine (F _ (Below.refl _ _)).mono ?_); rintro e w2 ⟨rfl, hb⟩; replace hb := Aside0.mk hb)
          go_roundw
          case rel => exact ⟨k + 1, r, by omega, hr, by omega, rfl, by go_num, ⟨e.out⟩, ⟨bthen hW.out hb.out⟩⟩
          case measure => simp [intOf]; omega
      · have : k = bs.length := by omega
        subst this
        have e := hp.out
        rw [List.drop_length, szR] at e
        subst e
        go_wp2
        go_ret
        exact ⟨rfl, hW.out⟩
end Go.Proofs.Ytbdmnjobhfhinaa.M
namespace Go.Proofs.Ytbdmnjobhfhinaa.M
open Go.RowKit Go.Proofs.YtbdmnjobhfhinaaW.PrintWords Go.Proofs.YtbdmnjobhfhinaaW.PrintLast Go.Proofs.YtbdmnjobhfhinaaW.PrintMore
set_option linter.unusedVariables false
set_option linter.unusedSimpArgs false
set_option maxHeartbeats 4000000
set_option maxRecDepth 100000
theorem info4' : (Try.prog.info? 4).map (fun i => (i.zero, i.size, i.bytes)) = some (some (.bool false), 1, 1) := by kernel_rfl
theorem sz167 : (Try.prog.info? 167).map (·.size) = some 2 := by kernel_rfl
theorem sz250 : (Try.prog.info? 250).map (·.size) = some 4 := by kernel_rfl
theorem sz155 : (Try.prog.info? 155).map (·.size) = some 3 := by kernel_rfl
def cMem (x : S267) : S167 := ⟨x.f0, x.f1⟩
def cHeard (x : S270) : S250 := ⟨x.f0, x.f1, x.f2, x.f3⟩
def cCard (x : S220) : S155 := ⟨x.f0, x.f1.map cMem, x.f2.map cHeard⟩
theorem getSc {α : Type} {en : α → Value} {h1 : ∀ x, (en x).oneCell' = true} {w : World} {A : Option Addr} {l : List α} (h : (Kd.scalar en h1).C w A l.length l) {k : Nat} {x : α} (hx : l[k]? = some x) : ∃ ad, A = some ad ∧ (ad.add k).block < w.heap.size ∧ w.cell? (ad.add k) = some (en x) := by
  have hk := (List.getElem?_eq_some_iff.1 hx).1
  obtain ⟨ad, e, hr⟩ := h.2.2 (by omega)
  obtain ⟨c, _, hc, hcell⟩ := hr k x hx
  have hc' : c = [en x] := hc
  have h0 := hcell 0 (en x) (by rw [hc']; rfl)
  have e2 : k * (Kd.scalar en h1).sz + 0 = k := by show k * 1 + 0 = k; omega
  rw [e2] at h0
  exact ⟨ad, e, World.block_lt_of_cell? _ _ h0, h0⟩
theorem take_step {α : Type} {l acc z : List α} {k : Nat} {x : α} (hx : l[k]? = some x) (h : acc = l.take k ++ z.drop k) (hz : k < z.length) : acc.set k x = l.take (k + 1) ++ z.drop (k + 1) := by
  have := map_step (fun a : α => a) hx (z := z) (acc := acc) (by simpa using h) hz
  simpa using this
theorem toIntS_c (A : Option Addr) (c : Nat) (l : List Int) (w : World) (hC : Kd.C (Kd.int .i64) w A l.length l) (hsz : l.length ≤ 1048576) : Calls Try.prog 254 #[.slice A l.length c] w fun e w' => ∃ B cb, e = .returned (.slice B l.length cb) ∧ l.length ≤ cb ∧ Kd.R (Kd.int .i64) 3 w' w.heap.size (fun _ => True) (.slice B l.length cb) l ∧ Below w.heap.size w w' := by
  replace hC := Aside0.mk hC
  have i0 : (0 : Int) ≤ (l.length : Int) := by omega
  go_enter Try.func254, Try.ntmps254
  go_wp2_with (first | ((with_reducible refine gate_dst (N := 7) rfl ?_); refine Kd.R_make (Kd.int .i64) _ 3 rfl (N := 7) rfl 27 _ _ rfl (l.length : Int) rfl rfl Try.underlying27 (.int .i64 0) 8 info3' rfl (by decide) (by omega) (0 : Int) (ok := fun _ => True) (okp := fun _ => True) rfl (fun _ hk => hk) trivial (by omega) (by omega) (Below.refl _ _) (Nat.le_refl _) ?_; intro vt w1 hT hb _ _; rw [Int.toNat_natCast] at hT; obtain ⟨Ao, co, eo⟩ := Kd.R_slice hT; rw [List.length_replicate] at eo; subst eo; have hco := (Kd.R_reads' hT).2.1; replace hT := Aside0.mk hT; replace hb := Aside0.mk hb))
  go_loopw [4] (fun vi wr => ∃ (k : Nat) (acc : List Int), k ≤ l.length ∧ acc.length = l.length ∧ vi = .int .i64 k ∧ Aside0 (acc = l.take k ++ (List.replicate l.length (0 : Int)).drop k) ∧ Aside0 (Kd.R (Kd.int .i64) 3 wr w.heap.size (fun _ => True) (.slice Ao l.length co) acc) ∧ Aside0 (Below w.heap.size w wr)) (fun vi _ => l.length - (intOf vi).toNat)
  case atStart => exact ⟨0, List.replicate l.length (0 : Int), Nat.zero_le _, by simp, rfl, ⟨by simp⟩, ⟨hT.out⟩, ⟨hb.out⟩⟩
  case round =>
    obtain ⟨k, acc, hk, hal, rfl, hp, hO, hW⟩ := hrel
    by_cases hlt : k < l.length
    · obtain ⟨x, hx0⟩ : ∃ x, l[k]? = some x := ⟨_, List.getElem?_eq_getElem hlt⟩
      obtain ⟨ad, eA, hblk, h0⟩ := getSc (Kd.C_below hC.out hW.out) hx0
      subst eA
      have i1 : (0 : Int) ≤ (k : Int) := by omega
      have i2 : (k : Int) < (l.length : Int) := by omega
      obtain ⟨gt, ct, eot, hgb, hgt, _⟩ := Kd.R_form hO.out (by omega)
      rw [hal] at eot
      injection eot with ea _ ec
      subst ea ec
      have e := take_step hx0 hp.out (by simp; exact hlt)
      obtain ⟨hc, hf⟩ := Kd.R_celln (0 : Int) hO.out (k : Int) i1 i2
      have HP := (Kd.R_putg hO.out (k : Int) x).1
      simp only [Int.toNat_natCast] at hc hf HP
      replace hx0 := Aside0.mk hx0
      replace e := Aside0.mk e
      replace HP := Aside0.mk HP
      have hgb' := Aside0.mk hgb
      go_wp2
      go_roundw
      case rel => exact ⟨k + 1, acc.set k x, by omega, by simp; exact hal, by go_num, ⟨e.out⟩, ⟨HP.out⟩, ⟨Below.setCell (p := ⟨gt, k, none⟩) hW.out hgb'.out _⟩⟩
      case measure => simp [intOf]; omega
    · have : k = l.length := by omega
      subst this
      go_wp2
      go_ret
      have e := hp.out
      rw [List.take_length, List.drop_eq_nil_of_le (by simp), List.append_nil] at e
      subst e
      exact ⟨_, _, rfl, hco, hO.out, hW.out⟩
theorem toBoolS_c (A : Option Addr) (c : Nat) (l : List Bool) (w : World) (hC : Kd.C Kd.bool w A l.length l) (hsz : l.length ≤ 1048576) : Calls Try.prog 216 #[.slice A l.length c] w fun e w' => ∃ B cb, e = .returned (.slice B l.length cb) ∧ l.length ≤ cb ∧ Kd.R Kd.bool 4 w' w.heap.size (fun _ => True) (.slice B l.length cb) l ∧ Below w.heap.size w w' := by
  replace hC := Aside0.mk hC
  have i0 : (0 : Int) ≤ (l.length : Int) := by omega
  go_enter Try.func216, Try.ntmps216
  go_wp2_with (first | ((with_reducible refine gate_dst (N := 7) rfl ?_); refine Kd.R_make Kd.bool _ 4 rfl (N := 7) rfl 149 _ _ rfl (l.length : Int) rfl rfl Try.underlying149 (.bool false) 1 info4' rfl (by decide) (by omega) false (ok := fun _ => True) (okp := fun _ => True) rfl (fun _ hk => hk) trivial (by omega) (by omega) (Below.refl _ _) (Nat.le_refl _) ?_; intro vt w1 hT hb _ _; rw [Int.toNat_natCast] at hT; obtain ⟨Ao, co, eo⟩ := Kd.R_slice hT; rw [List.length_replicate] at eo; subst eo; have hco := (Kd.R_reads' hT).2.1; replace hT := Aside0.mk hT; replace hb := Aside0.mk hb))
  go_loopw [4] (fun vi wr => ∃ (k : Nat) (acc : List Bool), k ≤ l.length ∧ acc.length = l.length ∧ vi = .int .i64 k ∧ Aside0 (acc = l.take k ++ (List.replicate l.length false).drop k) ∧ Aside0 (Kd.R Kd.bool 4 wr w.heap.size (fun _ => True) (.slice Ao l.length co) acc) ∧ Aside0 (Below w.heap.size w wr)) (fun vi _ => l.length - (intOf vi).toNat)
  case atStart => exact ⟨0, List.replicate l.length false, Nat.zero_le _, by simp, rfl, ⟨by simp⟩, ⟨hT.out⟩, ⟨hb.out⟩⟩
  case round =>
    obtain ⟨k, acc, hk, hal, rfl, hp, hO, hW⟩ := hrel
    by_cases hlt : k < l.length
    · obtain ⟨x, hx0⟩ : ∃ x, l[k]? = some x := ⟨_, List.getElem?_eq_getElem hlt⟩
      obtain ⟨ad, eA, hblk, h0⟩ := getSc (Kd.C_below hC.out hW.out) hx0
      subst eA
      have i1 : (0 : Int) ≤ (k : Int) := by omega
      have i2 : (k : Int) < (l.length : Int) := by omega
      obtain ⟨gt, ct, eot, hgb, hgt, _⟩ := Kd.R_form hO.out (by omega)
      rw [hal] at eot
      injection eot with ea _ ec
      subst ea ec
      have e := take_step hx0 hp.out (by simp; exact hlt)
      obtain ⟨hc, hf⟩ := Kd.R_celln false hO.out (k : Int) i1 i2
      have HP := (Kd.R_putg hO.out (k : Int) x).1
      simp only [Int.toNat_natCast] at hc hf HP
      replace hx0 := Aside0.mk hx0
      replace e := Aside0.mk e
      replace HP := Aside0.mk HP
      have hgb' := Aside0.mk hgb
      go_wp2
      go_roundw
      case rel => exact ⟨k + 1, acc.set k x, by omega, by simp; exact hal, by go_num, ⟨e.out⟩, ⟨HP.out⟩, ⟨Below.setCell (p := ⟨gt, k, none⟩) hW.out hgb'.out _⟩⟩
      case measure => simp [intOf]; omega
    · have : k = l.length := by omega
      subst this
      go_wp2
      go_ret
      have e := hp.out
      rw [List.take_length, List.drop_eq_nil_of_le (by simp), List.append_nil] at e
      subst e
      exact ⟨_, _, rfl, hco, hO.out, hW.out⟩
theorem toHeard_c (x : S270) (w : World) : Calls Try.prog 242 #[.agg #[.int .i64 x.f0, .int .i64 x.f1, .int .i64 x.f2, .int .i64 x.f3]] w fun e w' => e = .returned (.agg #[.int .i64 x.f0, .int .i64 x.f1, .int .i64 x.f2, .int .i64 x.f3]) ∧ Below w.heap.size w w' := by
  have hu1 := Try.underlying270
  have hu2 := Try.underlying250
  go_enter Try.func242, Try.ntmps242
  go_wp2
  refine bodyPost_ret (v := .agg #[.int .i64 x.f0, .int .i64 x.f1, .int .i64 x.f2, .int .i64 x.f3]) ?_ rfl ⟨rfl, by repeat (first | exact Below.refl _ _ | apply below_alloc | (refine Below.setCell ?_ (by simp) _))⟩
  simp [results, Try.results242, go_sem]
theorem toMember_c (x : S267) (A : Option Addr) (c : Nat) (w : World) (hC : Kd.C (Kd.int .i64) w A x.f1.length x.f1) (hsz : x.f1.length ≤ 1048576) : Calls Try.prog 241 #[.agg #[.int .i64 x.f0, .slice A x.f1.length c]] w fun e w' => ∃ B cb, e = .returned (.agg #[.int .i64 x.f0, .slice B x.f1.length cb]) ∧ Kd.R (Kd.int .i64) 3 w' w.heap.size (fun _ => True) (.slice B x.f1.length cb) x.f1 ∧ Below w.heap.size w w' := by
  have hu1 := Try.underlying267
  have hu2 := Try.underlying167
  replace hC := Aside0.mk hC
  go_enter Try.func241, Try.ntmps241
  go_wp2_with (go_at_call 254; (with_reducible refine (toIntS_c A c x.f1 _ (Kd.C_below hC.out (by (repeat (refine below_set ?_ (by omega))); exact below_alloc (below_alloc (below_alloc (Below.refl _ _) _) _) _)) hsz).mono ?_); rintro e w1 ⟨B, cb, rfl, hcb, hO, hb⟩; obtain ⟨hc2, hf2⟩ := bcell hb; have hz0 : w.heap.size + 2 < w1.heap.size := (by have := hb.size; simp at this; omega); have hz1 : w.heap.size + 1 < w1.heap.size := (by omega); have hz2 : w.heap.size < w1.heap.size := (by omega); have hO2 := Aside0.mk (show Kd.R (Kd.int .i64) 3 w1 w.heap.size (fun k => w.heap.size + 2 < k) (.slice B x.f1.length cb) x.f1 from Kd.R_lower (Kd.R_mono (Kd.R_bound hO) (fun k hk => by have := hk.2.1; simp at this; omega)) (by simp; omega)); have HB := Aside0.mk (below_step (by (repeat (refine below_set ?_ (by omega))); exact below_alloc (below_alloc (below_alloc (Below.refl _ _) _) _) _) hb); clear hb hO)
  refine bodyPost_ret (v := .agg #[.int .i64 x.f0, .slice B x.f1.length cb]) ?_ rfl ⟨B, cb, rfl, Kd.R_mono (Kd.R_far (Kd.R_far (Kd.R_far hO2.out (p := ⟨w.heap.size + 1 + 1, 1, none⟩) (fun k hk => by show k ≠ w.heap.size + 1 + 1; omega) _) (p := ⟨w.heap.size + 1, 0, none⟩) (fun k hk => by show k ≠ w.heap.size + 1; omega) _) (p := ⟨w.heap.size + 1, 1, none⟩) (fun k hk => by show k ≠ w.heap.size + 1; omega) _) (fun _ _ => trivial), by (repeat (refine below_set ?_ (by omega))); exact HB.out⟩
  simp [results, Try.results241, go_sem, hc2, hz0, hz1, hz2]
theorem toHeardS_c (A : Option Addr) (c : Nat) (l : List S270) (w : World) (hC : Kd.C k270 w A l.length l) (hsz : l.length ≤ 1048576) : Calls Try.prog 218 #[.slice A l.length c] w fun e w' => ∃ B cb, e = .returned (.slice B l.length cb) ∧ l.length ≤ cb ∧ Kd.R k250 250 w' w.heap.size (fun _ => True) (.slice B l.length cb) (l.map cHeard) ∧ Below w.heap.size w w' := by
  have hu1 := Try.underlying270
  have hu2 := Try.underlying250
  replace hC := Aside0.mk hC
  have i0 : (0 : Int) ≤ (l.length : Int) := by omega
  go_enter Try.func218, Try.ntmps218
  go_wp2_with (first | ((with_reducible refine gate_dst (N := 7) rfl ?_); refine Kd.R_make k250 _ 250 rfl (N := 7) rfl 153 _ _ rfl (l.length : Int) rfl rfl Try.underlying153 (.agg #[(.int .i64 0), (.int .i64 0), (.int .i64 0), (.int .i64 0)]) 32 info250 rfl (by decide) (by omega) z250 (ok := fun _ => True) (okp := fun _ => True) (k250_mkM _ _ _ z250) (fun _ hk => hk) trivial (by omega) (by omega) (Below.refl _ _) (Nat.le_refl _) ?_; intro vt w1 hT hb _ _; rw [Int.toNat_natCast] at hT; obtain ⟨Ao, co, eo⟩ := Kd.R_slice hT; rw [List.length_replicate] at eo; subst eo; have hco := (Kd.R_reads' hT).2.1; replace hT := Aside0.mk hT; replace hb := Aside0.mk hb))
  go_loopw [4] (fun vi wr => ∃ (k : Nat) (acc : List S250), k ≤ l.length ∧ acc.length = l.length ∧ vi = .int .i64 k ∧ Aside0 (acc = (l.take k).map cHeard ++ (List.replicate l.length z250).drop k) ∧ Aside0 (Kd.R k250 250 wr w.heap.size (fun _ => True) (.slice Ao l.length co) acc) ∧ Aside0 (Below w.heap.size w wr)) (fun vi _ => l.length - (intOf vi).toNat)
  case atStart => exact ⟨0, List.replicate l.length z250, Nat.zero_le _, by simp, rfl, ⟨by simp⟩, ⟨hT.out⟩, ⟨hb.out⟩⟩
  case round =>
    obtain ⟨k, acc, hk, hal, rfl, hp, hO, hW⟩ := hrel
    by_cases hlt : k < l.length
    · obtain ⟨x, hx0⟩ : ∃ x, l[k]? = some x := ⟨_, List.getElem?_eq_getElem hlt⟩
      obtain ⟨ad, eA, hblk, h0, h1, h2, h3⟩ := get270 (Kd.C_below hC.out hW.out) hx0
      subst eA
      have i1 : (0 : Int) ≤ (k : Int) := by omega
      have i2 : (k : Int) < (l.length : Int) := by omega
      obtain ⟨gt, ct, eot, hgb, hgt, _⟩ := Kd.R_form hO.out (by omega)
      rw [hal] at eot
      injection eot with ea _ ec
      subst ea ec
      have e := map_step cHeard hx0 hp.out (by simp; exact hlt)
      replace hx0 := Aside0.mk hx0
      replace e := Aside0.mk e
      go_wp2_with (first | (go_at_call 242; (with_reducible refine (toHeard_c x _).mono ?_); rintro e w2 ⟨rfl, hb2⟩; have hO2 := Aside0.mk (Kd.R_below hO.out hb2); replace hb2 := Aside0.mk (bthen hW.out hb2)) | ((with_reducible refine gate_store (t := 250) (p := 21) rfl ?_); refine R_storeA k250 (w0 := w) w.heap.size rfl rfl 250 _ _ rfl 250 (k : Int) acc (cHeard x) z250 _ [.int .i64 x.f0, .int .i64 x.f1, .int .i64 x.f2, .int .i64 x.f3] (fun _ => True) (fun k => k ≠ gt) rfl rfl rfl rfl sz250 hO2.out i1 i2 (k250_mkM _ _ _ (cHeard x)) (fun _ hk => ⟨trivial, hk⟩) hb2.out ?_; intro w3 hO3 hb3 _; replace hO3 := Aside0.mk hO3; replace hb3 := Aside0.mk hb3))
      go_roundw
      case rel => exact ⟨k + 1, acc.set k (cHeard x), by omega, by simp; exact hal, by go_num, ⟨e.out⟩, ⟨hO3.out⟩, ⟨hb3.out⟩⟩
      case measure => simp [intOf]; omega
    · have : k = l.length := by omega
      subst this
      go_wp2
      go_ret
      have e := hp.out
      rw [List.take_length, List.drop_eq_nil_of_le (by simp), List.append_nil] at e
      subst e
      exact ⟨_, _, rfl, hco, hO.out, hW.out⟩
theorem toMemberS_c (A : Option Addr) (c : Nat) (l : List S267) (w : World) (hC : Kd.C k267 w A l.length l) (hsz : l.length ≤ 1048576) (hps : ∀ x ∈ l, x.f1.length ≤ 1048576) : Calls Try.prog 217 #[.slice A l.length c] w fun e w' => ∃ B cb, e = .returned (.slice B l.length cb) ∧ l.length ≤ cb ∧ Kd.R k167 167 w' w.heap.size (fun _ => True) (.slice B l.length cb) (l.map cMem) ∧ Below w.heap.size w w' := by
  have hu1 := Try.underlying267
  have hu2 := Try.underlying167
  replace hC := Aside0.mk hC
  replace hps := Aside0.mk hps
  have i0 : (0 : Int) ≤ (l.length : Int) := by omega
  go_enter Try.func217, Try.ntmps217
  go_wp2_with (first | ((with_reducible refine gate_dst (N := 7) rfl ?_); refine Kd.R_make k167 _ 167 rfl (N := 7) rfl 152 _ _ rfl (l.length : Int) rfl rfl Try.underlying152 (.agg #[(.int .i64 0), (.slice none 0 0)]) 32 info167 rfl (by decide) (by omega) z167 (ok := fun _ => True) (okp := fun _ => True) (k167_mkM _ _ _ z167 (Kd.R_nil _ _ _ _ _)) (fun _ hk => hk) trivial (by omega) (by omega) (Below.refl _ _) (Nat.le_refl _) ?_; intro vt w1 hT hb _ _; rw [Int.toNat_natCast] at hT; obtain ⟨Ao, co, eo⟩ := Kd.R_slice hT; rw [List.length_replicate] at eo; subst eo; have hco := (Kd.R_reads' hT).2.1; replace hT := Aside0.mk hT; replace hb := Aside0.mk hb))
  go_loopw [4] (fun vi wr => ∃ (k : Nat) (acc : List S167), k ≤ l.length ∧ acc.length = l.length ∧ vi = .int .i64 k ∧ Aside0 (acc = (l.take k).map cMem ++ (List.replicate l.length z167).drop k) ∧ Aside0 (Kd.R k167 167 wr w.heap.size (fun _ => True) (.slice Ao l.length co) acc) ∧ Aside0 (Below w.heap.size w wr)) (fun vi _ => l.length - (intOf vi).toNat)
  case atStart => exact ⟨0, List.replicate l.length z167, Nat.zero_le _, by simp, rfl, ⟨by simp⟩, ⟨hT.out⟩, ⟨hb.out⟩⟩
  case round =>
    obtain ⟨k, acc, hk, hal, rfl, hp, hO, hW⟩ := hrel
    by_cases hlt : k < l.length
    · obtain ⟨x, hx0⟩ : ∃ x, l[k]? = some x := ⟨_, List.getElem?_eq_getElem hlt⟩
      obtain ⟨ad, A1, c1, eA, hblk, h0, h1, hl1, hC1⟩ := get267 (Kd.C_below hC.out hW.out) hx0
      have hps1 := hps.out x (List.mem_of_getElem? hx0)
      replace hC1 := Aside0.mk hC1
      subst eA
      have i1 : (0 : Int) ≤ (k : Int) := by omega
      have i2 : (k : Int) < (l.length : Int) := by omega
      obtain ⟨gt, ct, eot, hgb, hgt, _⟩ := Kd.R_form hO.out (by omega)
      rw [hal] at eot
      injection eot with ea _ ec
      subst ea ec
      have e := map_step cMem hx0 hp.out (by simp; exact hlt)
      replace hx0 := Aside0.mk hx0
      replace e := Aside0.mk e
      go_wp2_with (first | (go_at_call 241; (with_reducible refine (toMember_c x A1 c1 _ hC1.out hps1).mono ?_); rintro e w2 ⟨B1, cb1, rfl, hP, hb2⟩; have hO2 := Aside0.mk (Kd.R_below hO.out hb2); have hP2 := Aside0.mk (show Kd.R (Kd.int .i64) 3 w2 w.heap.size (fun h => h ≠ gt) (.slice B1 x.f1.length cb1) (cMem x).f1 from Kd.R_lower (Kd.R_mono (Kd.R_bound hP) (fun h hh => by have := hh.2.1; omega)) (below_size hW.out)); clear hP; replace hb2 := Aside0.mk (bthen hW.out hb2)) | ((with_reducible refine gate_store (t := 167) (p := 21) rfl ?_); refine R_storeA k167 (w0 := w) w.heap.size rfl rfl 167 _ _ rfl 167 (k : Int) acc (cMem x) z167 _ [.int .i64 x.f0, .slice B1 x.f1.length cb1] (fun _ => True) (fun k => k ≠ gt) rfl rfl rfl rfl sz167 hO2.out i1 i2 (k167_mkM _ _ _ (cMem x) hP2.out) (fun _ hk => ⟨trivial, hk⟩) hb2.out ?_; intro w3 hO3 hb3 _; replace hO3 := Aside0.mk hO3; replace hb3 := Aside0.mk hb3))
      go_roundw
      case rel => exact ⟨k + 1, acc.set k (cMem x), by omega, by simp; exact hal, by go_num, ⟨e.out⟩, ⟨hO3.out⟩, ⟨hb3.out⟩⟩
      case measure => simp [intOf]; omega
    · have : k = l.length := by omega
      subst this
      go_wp2
      go_ret
      have e := hp.out
      rw [List.take_length, List.drop_eq_nil_of_le (by simp), List.append_nil] at e
      subst e
      exact ⟨_, _, rfl, hco, hO.out, hW.out⟩
theorem toCard_c (x : S220) (A0 A1 A2 : Option Addr) (c0 c1 c2 : Nat) (w : World) (hC0 : Kd.C Kd.bool w A0 x.f0.length x.f0) (hC1 : Kd.C k267 w A1 x.f1.length x.f1) (hC2 : Kd.C k270 w A2 x.f2.length x.f2) (hs : CdSz x) : Calls Try.prog 169 #[.agg #[.slice A0 x.f0.length c0, .slice A1 x.f1.length c1, .slice A2 x.f2.length c2]] w fun e w' => ∃ B0 b0 B1 b1 B2 b2, e = .returned (.agg #[.slice B0 x.f0.length b0, .slice B1 x.f1.length b1, .slice B2 x.f2.length b2]) ∧ Kd.R Kd.bool 4 w' w.heap.size (fun _ => True) (.slice B0 x.f0.length b0) x.f0 ∧ Kd.R k167 167 w' w.heap.size (fun _ => True) (.slice B1 x.f1.length b1) (x.f1.map cMem) ∧ Kd.R k250 250 w' w.heap.size (fun _ => True) (.slice B2 x.f2.length b2) (x.f2.map cHeard) ∧ Below w.heap.size w w' := by
  have hu1 := Try.underlying220
  have hu2 := Try.underlying155
  obtain ⟨hs0, ⟨hs1, hs1'⟩, hs2⟩ := hs
  replace hC0 := Aside0.mk hC0
  replace hC1 := Aside0.mk hC1
  replace hC2 := Aside0.mk hC2
  replace hs1' := Aside0.mk (show ∀ m ∈ x.f1, m.f1.length ≤ 1048576 from hs1')
  have hW0 := Aside0.mk (below_alloc (below_alloc (below_alloc (Below.refl w.heap.size w) (.cells #[.slice A0 x.f0.length c0, .slice A1 x.f1.length c1, .slice A2 x.f2.length c2] 220)) (.cells #[.slice none 0 0, .slice none 0 0, .slice none 0 0] 155)) (.cells #[.slice none 0 0, .slice none 0 0, .slice none 0 0] 155))
  go_enter Try.func169, Try.ntmps169
  go_wp2_with (first | (go_at_call 216; (with_reducible refine (toBoolS_c A0 c0 x.f0 _ (Kd.C_below hC0.out hW0.out) hs0).mono ?_); rintro e w1 ⟨B0, b0, rfl, hcb0, hO, hb⟩; obtain ⟨hc2, hf2⟩ := bcell hb; have hz0 : w.heap.size + 2 < w1.heap.size := (by have := hb.size; simp at this; omega); have hz1 : w.heap.size + 1 < w1.heap.size := (by omega); have hz2 : w.heap.size < w1.heap.size := (by omega); have hO2 := Aside0.mk (show Kd.R Kd.bool 4 w1 w.heap.size (fun k => w.heap.size + 2 < k) (.slice B0 x.f0.length b0) x.f0 from Kd.R_lower (Kd.R_mono (Kd.R_bound hO) (fun k hk => by have := hk.2.1; simp at this; omega)) (by simp; omega)); have HB := Aside0.mk (below_step hW0.out hb); clear hb hO) | (go_at_call 217; (with_reducible refine (toMemberS_c A1 c1 x.f1 _ (Kd.C_below hC1.out (below_set HB.out (by omega))) hs1 hs1'.out).mono ?_); rintro e w2 ⟨B1, b1, rfl, hcb1, hP, hb2⟩; obtain ⟨hc3, hf3⟩ := bcell hb2; have hy0 : w.heap.size + 2 < w2.heap.size := (by have := hb2.size; simp at this; omega); have hy1 : w.heap.size + 1 < w2.heap.size := (by omega); have hy2 : w.heap.size < w2.heap.size := (by omega); have hP2 := Aside0.mk (show Kd.R k167 167 w2 w.heap.size (fun k => w.heap.size + 2 < k) (.slice B1 x.f1.length b1) (x.f1.map cMem) from Kd.R_lower (Kd.R_mono (Kd.R_bound hP) (fun k hk => by have := hk.2.1; simp at this; omega)) (by simp; omega)); have hO3 := Aside0.mk (Kd.R_below (Kd.R_far hO2.out (p := ⟨w.heap.size + 1 + 1, 0, none⟩) (fun k hk => by show k ≠ w.heap.size + 1 + 1; omega) _) hb2); have HB2 := Aside0.mk (below_step (below_set HB.out (by omega)) hb2); clear hb2 hP) | (go_at_call 218; (with_reducible refine (toHeardS_c A2 c2 x.f2 _ (Kd.C_below hC2.out (below_set HB2.out (by omega))) hs2).mono ?_); rintro e w3 ⟨B2, b2, rfl, hcb2, hS, hb3⟩; obtain ⟨hc4, hf4⟩ := bcell hb3; have hx0 : w.heap.size + 2 < w3.heap.size := (by have := hb3.size; simp at this; omega); have hx1 : w.heap.size + 1 < w3.heap.size := (by omega); have hx2 : w.heap.size < w3.heap.size := (by omega); have hS2 := Aside0.mk (show Kd.R k250 250 w3 w.heap.size (fun k => w.heap.size + 2 < k) (.slice B2 x.f2.length b2) (x.f2.map cHeard) from Kd.R_lower (Kd.R_mono (Kd.R_bound hS) (fun k hk => by have := hk.2.1; simp at this; omega)) (by simp; omega)); have hP3 := Aside0.mk (Kd.R_below (Kd.R_far hP2.out (p := ⟨w.heap.size + 1 + 1, 1, none⟩) (fun k hk => by show k ≠ w.heap.size + 1 + 1; omega) _) hb3); have hO4 := Aside0.mk (Kd.R_below (Kd.R_far hO3.out (p := ⟨w.heap.size + 1 + 1, 1, none⟩) (fun k hk => by show k ≠ w.heap.size + 1 + 1; omega) _) hb3); have HB3 := Aside0.mk (below_step (below_set HB2.out (by omega)) hb3); clear hb3 hS))
  have FF : ∀ {α : Type} {d : Kd α} {t : Nat} {v : Value} {xs : List α}, Kd.R d t w3 w.heap.size (fun k => w.heap.size + 2 < k) v xs → Kd.R d t ((((w3.setCell ⟨w.heap.size + 1 + 1, 2, none⟩ (.slice B2 x.f2.length b2)).setCell ⟨w.heap.size + 1, 0, none⟩ (.slice B0 x.f0.length b0)).setCell ⟨w.heap.size + 1, 1, none⟩ (.slice B1 x.f1.length b1)).setCell ⟨w.heap.size + 1, 2, none⟩ (.slice B2 x.f2.length b2)) w.heap.size (fun _ => True) v xs := fun h => Kd.R_mono (Kd.R_far (Kd.R_far (Kd.R_far (Kd.R_far h (p := ⟨w.heap.size + 1 + 1, 2, none⟩) (fun k hk => by show k ≠ w.heap.size + 1 + 1; omega) _) (p := ⟨w.heap.size + 1, 0, none⟩) (fun k hk => by show k ≠ w.heap.size + 1; omega) _) (p := ⟨w.heap.size + 1, 1, none⟩) (fun k hk => by show k ≠ w.heap.size + 1; omega) _) (p := ⟨w.heap.size + 1, 2, none⟩) (fun k hk => by show k ≠ w.heap.size + 1; omega) _) (fun _ _ => trivial)
  refine bodyPost_ret (v := .agg #[.slice B0 x.f0.length b0, .slice B1 x.f1.length b1, .slice B2 x.f2.length b2]) ?_ rfl ⟨B0, b0, B1, b1, B2, b2, rfl, FF hO4.out, FF hP3.out, FF hS2.out, by (repeat (refine below_set ?_ (by omega))); exact HB3.out⟩
  simp [results, Try.results169, go_sem, hc2, hc3, hc4, hz0, hz1, hz2, hy0, hy1, hy2, hx0, hx1, hx2]
theorem toCardS_c (A : Option Addr) (c : Nat) (l : List S220) (w : World) (hC : Kd.C k220 w A l.length l) (hsz : l.length ≤ 1048576) (hps : ∀ x ∈ l, CdSz x) : Calls Try.prog 113 #[.slice A l.length c] w fun e w' => ∃ B cb, e = .returned (.slice B l.length cb) ∧ l.length ≤ cb ∧ Kd.R k155 155 w' w.heap.size (fun _ => True) (.slice B l.length cb) (l.map cCard) ∧ Below w.heap.size w w' := by
  have hu1 := Try.underlying220
  have hu2 := Try.underlying155
  replace hC := Aside0.mk hC
  replace hps := Aside0.mk hps
  have i0 : (0 : Int) ≤ (l.length : Int) := by omega
  go_enter Try.func113, Try.ntmps113
  go_wp2_with (first | ((with_reducible refine gate_dst (N := 7) rfl ?_); refine Kd.R_make k155 _ 155 rfl (N := 7) rfl 81 _ _ rfl (l.length : Int) rfl rfl Try.underlying81 (.agg #[(.slice none 0 0), (.slice none 0 0), (.slice none 0 0)]) 72 info155 rfl (by decide) (by omega) z155 (ok := fun _ => True) (okp := fun _ => True) (k155_mkM _ _ _ z155 (Kd.R_nil _ _ _ _ _) (Kd.R_nil _ _ _ _ _) (Kd.R_nil _ _ _ _ _)) (fun _ hk => hk) trivial (by omega) (by omega) (Below.refl _ _) (Nat.le_refl _) ?_; intro vt w1 hT hb _ _; rw [Int.toNat_natCast] at hT; obtain ⟨Ao, co, eo⟩ := Kd.R_slice hT; rw [List.length_replicate] at eo; subst eo; have hco := (Kd.R_reads' hT).2.1; replace hT := Aside0.mk hT; replace hb := Aside0.mk hb))
  go_loopw [4] (fun vi wr => ∃ (k : Nat) (acc : List S155), k ≤ l.length ∧ acc.length = l.length ∧ vi = .int .i64 k ∧ Aside0 (acc = (l.take k).map cCard ++ (List.replicate l.length z155).drop k) ∧ Aside0 (Kd.R k155 155 wr w.heap.size (fun _ => True) (.slice Ao l.length co) acc) ∧ Aside0 (Below w.heap.size w wr)) (fun vi _ => l.length - (intOf vi).toNat)
  case atStart => exact ⟨0, List.replicate l.length z155, Nat.zero_le _, by simp, rfl, ⟨by simp⟩, ⟨hT.out⟩, ⟨hb.out⟩⟩
  case round =>
    obtain ⟨k, acc, hk, hal, rfl, hp, hO, hW⟩ := hrel
    by_cases hlt : k < l.length
    · obtain ⟨x, hx0⟩ : ∃ x, l[k]? = some x := ⟨_, List.getElem?_eq_getElem hlt⟩
      obtain ⟨ad, A0, c0, A1, c1, A2, c2, eA, hblk, h0, h1, h2, hl0, hC0, hl1, hC1, hl2, hC2⟩ := get220 (Kd.C_below hC.out hW.out) hx0
      have hps1 := Aside0.mk (hps.out x (List.mem_of_getElem? hx0))
      replace hC0 := Aside0.mk hC0
      replace hC1 := Aside0.mk hC1
      replace hC2 := Aside0.mk hC2
      subst eA
      have i1 : (0 : Int) ≤ (k : Int) := by omega
      have i2 : (k : Int) < (l.length : Int) := by omega
      obtain ⟨gt, ct, eot, hgb, hgt, _⟩ := Kd.R_form hO.out (by omega)
      rw [hal] at eot
      injection eot with ea _ ec
      subst ea ec
      have e := map_step cCard hx0 hp.out (by simp; exact hlt)
      replace hx0 := Aside0.mk hx0
      replace e := Aside0.mk e
      go_wp2_with (first | (go_at_call 169; (with_reducible refine (toCard_c x A0 A1 A2 c0 c1 c2 _ hC0.out hC1.out hC2.out hps1.out).mono ?_); rintro e w2 ⟨B0, b0, B1, b1, B2, b2, rfl, hP0, hP1, hP2, hb2⟩; have hO2 := Aside0.mk (Kd.R_below hO.out hb2); have hQ0 := Aside0.mk (show Kd.R Kd.bool 4 w2 w.heap.size (fun h => h ≠ gt) (.slice B0 x.f0.length b0) (cCard x).f0 from Kd.R_lower (Kd.R_mono (Kd.R_bound hP0) (fun h hh => by have := hh.2.1; omega)) (below_size hW.out)); have hQ1 := Aside0.mk (show Kd.R k167 167 w2 w.heap.size (fun h => h ≠ gt) (.slice B1 x.f1.length b1) (cCard x).f1 from Kd.R_lower (Kd.R_mono (Kd.R_bound hP1) (fun h hh => by have := hh.2.1; omega)) (below_size hW.out)); have hQ2 := Aside0.mk (show Kd.R k250 250 w2 w.heap.size (fun h => h ≠ gt) (.slice B2 x.f2.length b2) (cCard x).f2 from Kd.R_lower (Kd.R_mono (Kd.R_bound hP2) (fun h hh => by have := hh.2.1; omega)) (below_size hW.out)); clear hP0 hP1 hP2; replace hb2 := Aside0.mk (bthen hW.out hb2)) | ((with_reducible refine gate_store (t := 155) (p := 21) rfl ?_); refine R_storeA k155 (w0 := w) w.heap.size rfl rfl 155 _ _ rfl 155 (k : Int) acc (cCard x) z155 _ [.slice B0 x.f0.length b0, .slice B1 x.f1.length b1, .slice B2 x.f2.length b2] (fun _ => True) (fun k => k ≠ gt) rfl rfl rfl rfl sz155 hO2.out i1 i2 (k155_mkM _ _ _ (cCard x) hQ0.out hQ1.out hQ2.out) (fun _ hk => ⟨trivial, hk⟩) hb2.out ?_; intro w3 hO3 hb3 _; replace hO3 := Aside0.mk hO3; replace hb3 := Aside0.mk hb3))
      go_roundw
      case rel => exact ⟨k + 1, acc.set k (cCard x), by omega, by simp; exact hal, by go_num, ⟨e.out⟩, ⟨hO3.out⟩, ⟨hb3.out⟩⟩
      case measure => simp [intOf]; omega
    · have : k = l.length := by omega
      subst this
      go_wp2
      go_ret
      have e := hp.out
      rw [List.take_length, List.drop_eq_nil_of_le (by simp), List.append_nil] at e
      subst e
      exact ⟨_, _, rfl, hco, hO.out, hW.out⟩
end Go.Proofs.Ytbdmnjobhfhinaa.M
namespace Go.Proofs.Ytbdmnjobhfhinaa.M
open Go.RowKit Go.Proofs.YtbdmnjobhfhinaaW.PrintWords Go.Proofs.YtbdmnjobhfhinaaW.PrintLast Go.Proofs.YtbdmnjobhfhinaaW.PrintMore
set_option linter.unusedVariables false
set_option linter.unusedSimpArgs false
set_option maxHeartbeats 4000000
set_option maxRecDepth 100000
theorem eqBoolS_t (A B : Option Addr) (ca cb : Nat) (l : List Bool) (w : World) (hA : Kd.C Kd.bool w A l.length l) (hB : Kd.C Kd.bool w B l.length l) : Calls Try.prog 223 #[.slice A l.length ca, .slice B l.length cb] w fun e w' => e = .returned (.bool true) ∧ Below w.heap.size w w' := by
  have hlen := clen hA
  replace hA := Aside0.mk hA
  replace hB := Aside0.mk hB
  go_enter Try.func223, Try.ntmps223
  go_wp2
  go_loopw [5] (fun i wr => ∃ k : Nat, k ≤ l.length ∧ i = .int .i64 k ∧ Aside0 (Below w.heap.size w wr)) (fun i _ => l.length - (intOf i).toNat)
  case atStart => exact ⟨0, Nat.zero_le _, rfl, ⟨Below.refl _ _⟩⟩
  case round =>
    obtain ⟨k, hk, rfl, hW⟩ := hrel
    by_cases hlt : k < l.length
    · obtain ⟨x, hx0⟩ : ∃ x, l[k]? = some x := ⟨_, List.getElem?_eq_getElem hlt⟩
      obtain ⟨ad, eA, hblk, h0⟩ := getSc (Kd.C_below hA.out hW.out) hx0
      obtain ⟨bd, eB, hblk', g0⟩ := getSc (Kd.C_below hB.out hW.out) hx0
      subst eA eB
      have i1 : (0 : Int) ≤ (k : Int) := by omega
      have i2 : (k : Int) < (l.length : Int) := by omega
      replace hx0 := Aside0.mk hx0
      go_wp2
      go_quiet (fail)
      go_wp2
      all_goals go_roundw
      case rel => exact ⟨k + 1, by omega, by go_num, ⟨by repeat (first | exact hW.out | apply below_alloc | apply pw_below_drewN | apply below_drew1)⟩⟩
      case measure => simp [intOf]; omega
    · have : k = l.length := by omega
      subst this
      go_wp2
      go_ret
      exact ⟨rfl, hW.out⟩
theorem eqHeard_t (a : S250) (w : World) : Calls Try.prog 245 #[.agg #[.int .i64 a.f0, .int .i64 a.f1, .int .i64 a.f2, .int .i64 a.f3], .agg #[.int .i64 a.f0, .int .i64 a.f1, .int .i64 a.f2, .int .i64 a.f3]] w fun e w' => e = .returned (.bool true) ∧ Below w.heap.size w w' := by
  have hu250 := Try.underlying250
  go_enter Try.func245, Try.ntmps245
  go_wp2
  all_goals (go_ret; exact ⟨rfl, by repeat (first | exact Below.refl _ _ | apply below_alloc | apply pw_below_drewN | apply below_drew1)⟩)
theorem eqMember_t (v : Int) (A B : Option Addr) (ca cb : Nat) (l : List Int) (w : World) (hA : Kd.C (Kd.int .i64) w A l.length l) (hB : Kd.C (Kd.int .i64) w B l.length l) : Calls Try.prog 244 #[.agg #[.int .i64 v, .slice A l.length ca], .agg #[.int .i64 v, .slice B l.length cb]] w fun e w' => e = .returned (.bool true) ∧ Below w.heap.size w w' := by
  have hu167 := Try.underlying167
  replace hA := Aside0.mk hA
  replace hB := Aside0.mk hB
  go_enter Try.func244, Try.ntmps244
  go_wp2_with (go_at_call 17; refine (eqIntS_t A B ca cb l _ (Kd.C_below hA.out (by repeat (first | exact Below.refl _ _ | apply below_alloc | apply pw_below_drewN | apply below_drew1))) (Kd.C_below hB.out (by repeat (first | exact Below.refl _ _ | apply below_alloc | apply pw_below_drewN | apply below_drew1)))).mono ?_; rintro e w1 ⟨rfl, hb⟩; obtain ⟨hc, hf⟩ := bcell hb; replace hb := Aside0.mk hb)
  all_goals (go_ret; exact ⟨rfl, by repeat (first | exact Below.refl _ _ | apply below_alloc | apply pw_below_drewN | apply below_drew1 | refine bthen ?_ hb.out)⟩)
theorem eqHeardS_t (A B : Option Addr) (ca cb : Nat) (l : List S250) (w : World) (hA : Kd.C k250 w A l.length l) (hB : Kd.C k250 w B l.length l) : Calls Try.prog 225 #[.slice A l.length ca, .slice B l.length cb] w fun e w' => e = .returned (.bool true) ∧ Below w.heap.size w w' := by
  have hlen := clen hA
  replace hA := Aside0.mk hA
  replace hB := Aside0.mk hB
  go_enter Try.func225, Try.ntmps225
  go_wp2
  go_loopw [5] (fun i wr => ∃ k : Nat, k ≤ l.length ∧ i = .int .i64 k ∧ Aside0 (Below w.heap.size w wr)) (fun i _ => l.length - (intOf i).toNat)
  case atStart => exact ⟨0, Nat.zero_le _, rfl, ⟨Below.refl _ _⟩⟩
  case round =>
    obtain ⟨k, hk, rfl, hW⟩ := hrel
    by_cases hlt : k < l.length
    · obtain ⟨x, hx0⟩ : ∃ x, l[k]? = some x := ⟨_, List.getElem?_eq_getElem hlt⟩
      have i1 : (0 : Int) ≤ (k : Int) := by omega
      have i2 : (k : Int) < (l.length : Int) := by omega
      go_wp2
      refine wp_same (fun wq hbq hzq => ?_)
      obtain ⟨ad, eA, hblk, h0, h1, h2, h3⟩ := get250 (Kd.C_below (Kd.C_below hA.out hW.out) hbq) hx0
      obtain ⟨bd, eB, hblk', g0, g1, g2, g3⟩ := get250 (Kd.C_below (Kd.C_below hB.out hW.out) hbq) hx0
      subst eA eB
      clear hzq
      skip
      have hbq0 := Aside0.mk hbq
      replace hbq := Aside0.mk (bthen hW.out hbq)
      replace hx0 := Aside0.mk hx0
      go_region_held3 (fun w' => ∀ a : Addr, a.block < wq.heap.size → w'.cell? a = wq.cell? a) (first | exact fun _ _ => rfl | exact hs1 | assumption) (first | (go_at_call 245; refine (eqHeard_t x _).mono ?_; rintro e w1 ⟨rfl, hc⟩; have hs1 := Same.of hc; replace hc := Aside0.mk hc))
      go_wp2
      go_roundw
      case rel => exact ⟨k + 1, by omega, by go_num, ⟨by repeat (first | exact hbq.out | apply below_alloc | apply pw_below_drewN | apply below_drew1 | refine bthen ?_ hc.out)⟩⟩
      case measure => simp [intOf]; omega
    · have : k = l.length := by omega
      subst this
      go_wp2
      go_ret
      exact ⟨rfl, hW.out⟩
theorem eqMemberS_t (A B : Option Addr) (ca cb : Nat) (l : List S167) (w : World) (hA : Kd.C k167 w A l.length l) (hB : Kd.C k167 w B l.length l) : Calls Try.prog 224 #[.slice A l.length ca, .slice B l.length cb] w fun e w' => e = .returned (.bool true) ∧ Below w.heap.size w w' := by
  have hlen := clen hA
  replace hA := Aside0.mk hA
  replace hB := Aside0.mk hB
  go_enter Try.func224, Try.ntmps224
  go_wp2
  go_loopw [5] (fun i wr => ∃ k : Nat, k ≤ l.length ∧ i = .int .i64 k ∧ Aside0 (Below w.heap.size w wr)) (fun i _ => l.length - (intOf i).toNat)
  case atStart => exact ⟨0, Nat.zero_le _, rfl, ⟨Below.refl _ _⟩⟩
  case round =>
    obtain ⟨k, hk, rfl, hW⟩ := hrel
    by_cases hlt : k < l.length
    · obtain ⟨x, hx0⟩ : ∃ x, l[k]? = some x := ⟨_, List.getElem?_eq_getElem hlt⟩
      have i1 : (0 : Int) ≤ (k : Int) := by omega
      have i2 : (k : Int) < (l.length : Int) := by omega
      go_wp2
      refine wp_same (fun wq hbq hzq => ?_)
      obtain ⟨ad, A1, c1, eA, hblk, h0, h1, hl1, hC1⟩ := get167 (Kd.C_below (Kd.C_below hA.out hW.out) hbq) hx0
      obtain ⟨bd, B1, d1, eB, hblk', g0, g1, gl1, gC1⟩ := get167 (Kd.C_below (Kd.C_below hB.out hW.out) hbq) hx0
      subst eA eB
      clear hzq
      replace hC1 := Aside0.mk hC1
      replace gC1 := Aside0.mk gC1
      have hbq0 := Aside0.mk hbq
      replace hbq := Aside0.mk (bthen hW.out hbq)
      replace hx0 := Aside0.mk hx0
      go_region_held3 (fun w' => ∀ a : Addr, a.block < wq.heap.size → w'.cell? a = wq.cell? a) (first | exact fun _ _ => rfl | exact hs1 | assumption) (first | (go_at_call 244; refine (eqMember_t x.f0 A1 B1 c1 d1 x.f1 _ (Kd.C_below hC1.out (by repeat (first | exact Below.refl _ _ | apply below_alloc | apply pw_below_drewN | apply below_drew1))) (Kd.C_below gC1.out (by repeat (first | exact Below.refl _ _ | apply below_alloc | apply pw_below_drewN | apply below_drew1)))).mono ?_; rintro e w1 ⟨rfl, hc⟩; have hs1 := Same.of hc; replace hc := Aside0.mk hc))
      go_wp2
      go_roundw
      case rel => exact ⟨k + 1, by omega, by go_num, ⟨by repeat (first | exact hbq.out | apply below_alloc | apply pw_below_drewN | apply below_drew1 | refine bthen ?_ hc.out)⟩⟩
      case measure => simp [intOf]; omega
    · have : k = l.length := by omega
      subst this
      go_wp2
      go_ret
      exact ⟨rfl, hW.out⟩
theorem eqCard_t (A0 A1 A2 B0 B1 B2 : Option Addr) (c0 c1 c2 d0 d1 d2 : Nat) (x : S155) (w : World) (h0 : Kd.C Kd.bool w A0 x.f0.length x.f0) (h1 : Kd.C k167 w A1 x.f1.length x.f1) (h2 : Kd.C k250 w A2 x.f2.length x.f2) (g0 : Kd.C Kd.bool w B0 x.f0.length x.f0) (g1 : Kd.C k167 w B1 x.f1.length x.f1) (g2 : Kd.C k250 w B2 x.f2.length x.f2) : Calls Try.prog 172 #[.agg #[.slice A0 x.f0.length c0, .slice A1 x.f1.length c1, .slice A2 x.f2.length c2], .agg #[.slice B0 x.f0.length d0, .slice B1 x.f1.length d1, .slice B2 x.f2.length d2]] w fun e w' => e = .returned (.bool true) ∧ Below w.heap.size w w' := by
  have hu155 := Try.underlying155
  replace h0 := Aside0.mk h0
  replace h1 := Aside0.mk h1
  replace h2 := Aside0.mk h2
  replace g0 := Aside0.mk g0
  replace g1 := Aside0.mk g1
  replace g2 := Aside0.mk g2
  go_enter Try.func172, Try.ntmps172
  go_wp2_with (first | (go_at_call 223; refine (eqBoolS_t A0 B0 c0 d0 x.f0 _ (Kd.C_below h0.out (by repeat (first | exact Below.refl _ _ | apply below_alloc | apply pw_below_drewN | apply below_drew1))) (Kd.C_below g0.out (by repeat (first | exact Below.refl _ _ | apply below_alloc | apply pw_below_drewN | apply below_drew1)))).mono ?_; rintro e w1 ⟨rfl, hb⟩; obtain ⟨hc, hf⟩ := bcell hb; have hz1 : w.heap.size + 1 < w1.heap.size := (by have := hb.size; simp at this; omega); have hz2 : w.heap.size < w1.heap.size := (by omega); have HB := Aside0.mk (bthen (below_alloc (below_alloc (Below.refl _ _) _) _) hb); clear hb) | (go_at_call 224; refine (eqMemberS_t A1 B1 c1 d1 x.f1 _ (Kd.C_below h1.out HB.out) (Kd.C_below g1.out HB.out)).mono ?_; rintro e w2 ⟨rfl, hb2⟩; obtain ⟨hc2, hf2⟩ := bcell hb2; have hy1 : w.heap.size + 1 < w2.heap.size := (by have := hb2.size; omega); have hy2 : w.heap.size < w2.heap.size := (by omega); have HB2 := Aside0.mk (bthen HB.out hb2); clear hb2) | (go_at_call 225; refine (eqHeardS_t A2 B2 c2 d2 x.f2 _ (Kd.C_below h2.out HB2.out) (Kd.C_below g2.out HB2.out)).mono ?_; rintro e w3 ⟨rfl, hb3⟩; have HB3 := Aside0.mk (bthen HB2.out hb3); clear hb3))
  all_goals (go_ret; exact ⟨rfl, HB3.out⟩)
theorem eqCardS_t (A B : Option Addr) (ca cb : Nat) (l : List S155) (w : World) (hA : Kd.C k155 w A l.length l) (hB : Kd.C k155 w B l.length l) : Calls Try.prog 118 #[.slice A l.length ca, .slice B l.length cb] w fun e w' => e = .returned (.bool true) ∧ Below w.heap.size w w' := by
  have hlen := clen hA
  replace hA := Aside0.mk hA
  replace hB := Aside0.mk hB
  go_enter Try.func118, Try.ntmps118
  go_wp2
  go_loopw [5] (fun i wr => ∃ k : Nat, k ≤ l.length ∧ i = .int .i64 k ∧ Aside0 (Below w.heap.size w wr)) (fun i _ => l.length - (intOf i).toNat)
  case atStart => exact ⟨0, Nat.zero_le _, rfl, ⟨Below.refl _ _⟩⟩
  case round =>
    obtain ⟨k, hk, rfl, hW⟩ := hrel
    by_cases hlt : k < l.length
    · obtain ⟨x, hx0⟩ : ∃ x, l[k]? = some x := ⟨_, List.getElem?_eq_getElem hlt⟩
      have i1 : (0 : Int) ≤ (k : Int) := by omega
      have i2 : (k : Int) < (l.length : Int) := by omega
      go_wp2
      refine wp_same (fun wq hbq hzq => ?_)
      obtain ⟨ad, A0, c0, A1, c1, A2, c2, eA, hblk, h0, h1, h2, hl0, hC0, hl1, hC1, hl2, hC2⟩ := get155 (Kd.C_below (Kd.C_below hA.out hW.out) hbq) hx0
      obtain ⟨bd, B0, d0, B1, d1, B2, d2, eB, hblk', g0, g1, g2, gl0, gC0, gl1, gC1, gl2, gC2⟩ := get155 (Kd.C_below (Kd.C_below hB.out hW.out) hbq) hx0
      subst eA eB
      clear hzq
      replace hC0 := Aside0.mk hC0
      replace hC1 := Aside0.mk hC1
      replace hC2 := Aside0.mk hC2
      replace gC0 := Aside0.mk gC0
      replace gC1 := Aside0.mk gC1
      replace gC2 := Aside0.mk gC2
      have hbq0 := Aside0.mk hbq
      replace hbq := Aside0.mk (bthen hW.out hbq)
      replace hx0 := Aside0.mk hx0
      go_region_held3 (fun w' => ∀ a : Addr, a.block < wq.heap.size → w'.cell? a = wq.cell? a) (first | exact fun _ _ => rfl | exact hs1 | assumption) (first | (go_at_call 172; refine (eqCard_t A0 A1 A2 B0 B1 B2 c0 c1 c2 d0 d1 d2 x _ (Kd.C_below hC0.out (by repeat (first | exact Below.refl _ _ | apply below_alloc | apply pw_below_drewN | apply below_drew1))) (Kd.C_below hC1.out (by repeat (first | exact Below.refl _ _ | apply below_alloc | apply pw_below_drewN | apply below_drew1))) (Kd.C_below hC2.out (by repeat (first | exact Below.refl _ _ | apply below_alloc | apply pw_below_drewN | apply below_drew1))) (Kd.C_below gC0.out (by repeat (first | exact Below.refl _ _ | apply below_alloc | apply pw_below_drewN | apply below_drew1))) (Kd.C_below gC1.out (by repeat (first | exact Below.refl _ _ | apply below_alloc | apply pw_below_drewN | apply below_drew1))) (Kd.C_below gC2.out (by repeat (first | exact Below.refl _ _ | apply below_alloc | apply pw_below_drewN | apply below_drew1)))).mono ?_; rintro e w1 ⟨rfl, hc⟩; have hs1 := Same.of hc; replace hc := Aside0.mk hc))
      go_wp2
      go_roundw
      case rel => exact ⟨k + 1, by omega, by go_num, ⟨by repeat (first | exact hbq.out | apply below_alloc | apply pw_below_drewN | apply below_drew1 | refine bthen ?_ hc.out)⟩⟩
      case measure => simp [intOf]; omega
    · have : k = l.length := by omega
      subst this
      go_wp2
      go_ret
      exact ⟨rfl, hW.out⟩
theorem eqFabric_t (A B C A' B' C' : Option Addr) (ca cb cc ca' cb' cc' : Nat) (bs : List S65) (ls : List S145) (cs : List S155) (w : World) (hA : Kd.C k65 w A bs.length bs) (hB : Kd.C k145 w B ls.length ls) (hC : Kd.C k155 w C cs.length cs) (hA' : Kd.C k65 w A' bs.length bs) (hB' : Kd.C k145 w B' ls.length ls) (hC' : Kd.C k155 w C' cs.length cs) : Calls Try.prog 55 #[.agg #[.slice A bs.length ca, .slice B ls.length cb, .slice C cs.length cc], .agg #[.slice A' bs.length ca', .slice B' ls.length cb', .slice C' cs.length cc']] w fun e w' => e = .returned (.bool true) ∧ Below w.heap.size w w' := by
  have hu32 := Try.underlying32
  have hu83 := Try.underlying83
  replace hA := Aside0.mk hA
  replace hB := Aside0.mk hB
  replace hC := Aside0.mk hC
  replace hA' := Aside0.mk hA'
  replace hB' := Aside0.mk hB'
  replace hC' := Aside0.mk hC'
  go_enter Try.func55, Try.ntmps55
  go_wp2_with (first | (go_at_call 18; refine (eqNet_t A B A' B' ca cb ca' cb' bs ls _ (Kd.C_below hA.out (by repeat (first | exact Below.refl _ _ | apply below_alloc | apply pw_below_drewN | apply below_drew1))) (Kd.C_below hB.out (by repeat (first | exact Below.refl _ _ | apply below_alloc | apply pw_below_drewN | apply below_drew1))) (Kd.C_below hA'.out (by repeat (first | exact Below.refl _ _ | apply below_alloc | apply pw_below_drewN | apply below_drew1))) (Kd.C_below hB'.out (by repeat (first | exact Below.refl _ _ | apply below_alloc | apply pw_below_drewN | apply below_drew1)))).mono ?_; rintro e w1 ⟨rfl, hb⟩; obtain ⟨hc, hf⟩ := bcell hb; have hz1 : w.heap.size + 1 < w1.heap.size := (by have := hb.size; simp at this; omega); have hz2 : w.heap.size < w1.heap.size := (by omega); have HB := Aside0.mk (bthen (below_alloc (below_alloc (Below.refl _ _) _) _) hb); clear hb) | (go_at_call 118; refine (eqCardS_t C C' cc cc' cs _ (Kd.C_below hC.out HB.out) (Kd.C_below hC'.out HB.out)).mono ?_; rintro e w2 ⟨rfl, hb2⟩; have HB2 := Aside0.mk (bthen HB.out hb2); clear hb2))
  all_goals (go_ret; exact ⟨rfl, HB2.out⟩)
theorem szFabric_c (A B C : Option Addr) (ca cb cc : Nat) (bs : List S172) (ls : List S175) (cs : List S220) (left : Int) (w : World) (hA : Kd.C k172 w A bs.length bs) (hB : Kd.C k175 w B ls.length ls) (hC : Kd.C k220 w C cs.length cs) (h0 : 0 ≤ left) (h1 : left ≤ 1048576) (hn : szN bs ls left ≤ 1048576) : Calls Try.prog 51 #[.agg #[.slice A bs.length ca, .slice B ls.length cb, .slice C cs.length cc], .int .i64 left] w fun e w' => e = .returned (.int .i64 (szF bs ls cs left)) ∧ Below w.heap.size w w' := by
  have hu25 := Try.underlying25
  have hu78 := Try.underlying78
  have F1 := fun W g1 g2 => szNet_c A B ca cb bs ls left W g1 g2 h0 h1
  unfold szF
  generalize szN bs ls left = a at *
  have hW0 := Aside0.mk (below_alloc (Below.refl w.heap.size w) (.cells #[.slice A bs.length ca, .slice B ls.length cb, .slice C cs.length cc] 78))
  have hbx0 := Aside0.mk (blk_new w (.cells #[.slice A bs.length ca, .slice B ls.length cb, .slice C cs.length cc] 78))
  replace hA := Aside0.mk hA
  replace hB := Aside0.mk hB
  by_cases ha : a < 0
  · rw [if_pos ha]
    replace hC := Aside0.mk hC
    go_enter Try.func51, Try.ntmps51
    go_wp2_with (go_at_call 13; (with_reducible refine (F1 _ (Kd.C_below hA.out hW0.out) (Kd.C_below hB.out hW0.out)).mono ?_); rintro e w2 ⟨rfl, hb⟩; replace hb := Aside0.mk (bthen hW0.out hb))
    go_ret
    exact ⟨rfl, hb.out⟩
  · rw [if_neg ha]
    have F2 := fun W g => szCardS_c C cc cs a W g (by omega) hn
    have g3 := takes_A takes_Cd cs a (by omega)
    generalize szA szCd cs a = b at *
    replace hC := Aside0.mk hC
    have ha' : ¬ a < 0 := ha
    rcases g3 with rfl | ⟨g3, g4⟩
    all_goals (
      go_enter Try.func51, Try.ntmps51
      go_wp2_with (first | (go_at_call 13; (with_reducible refine (F1 _ (Kd.C_below hA.out hW0.out) (Kd.C_below hB.out hW0.out)).mono ?_); rintro e w2 ⟨rfl, hb⟩; have hbx := blk_below hbx0.out hb; have hbc : w2.cell? ⟨w.heap.size, 2, none⟩ = some (.slice C cs.length cc) := (blk_cell hbx 2).trans rfl; have hsz := blk_lt hbx; clear hbx; replace hb := Aside0.mk (bthen hW0.out hb)) | (go_at_call 111; (with_reducible refine (F2 _ (Kd.C_below hC.out hb.out)).mono ?_); rintro e w3 ⟨rfl, hb3⟩; replace hb3 := Aside0.mk (bthen hb.out hb3)))
      go_ret
      exact ⟨rfl, hb3.out⟩)
theorem toFabric_c (A B C : Option Addr) (ca cb cc : Nat) (bs : List S172) (ls : List S175) (cs : List S220) (w : World) (hA : Kd.C k172 w A bs.length bs) (hB : Kd.C k175 w B ls.length ls) (hC : Kd.C k220 w C cs.length cs) (hs1 : bs.length ≤ 1048576) (hs2 : ls.length ≤ 1048576) (hps : ∀ x ∈ bs, x.f1.length ≤ 1048576) (hs3 : cs.length ≤ 1048576) (hcs : ∀ x ∈ cs, CdSz x) :
    Calls Try.prog 53 #[.agg #[.slice A bs.length ca, .slice B ls.length cb, .slice C cs.length cc]] w fun e w' => ∃ A' ca' B' cb' C' cc', e = .returned (.agg #[.slice A' bs.length ca', .slice B' ls.length cb', .slice C' cs.length cc']) ∧ bs.length ≤ ca' ∧ Kd.R k65 65 w' w.heap.size (fun _ => True) (.slice A' bs.length ca') (bs.map cBridge) ∧ Kd.R k145 145 w' w.heap.size (fun _ => True) (.slice B' ls.length cb') (ls.map cLink) ∧ Kd.R k155 155 w' w.heap.size (fun _ => True) (.slice C' cs.length cc') (cs.map cCard) ∧ Below w.heap.size w w' := by
  have hu1 := Try.underlying78
  have hu2 := Try.underlying83
  have hu3 := Try.underlying25
  have hu4 := Try.underlying32
  replace hA := Aside0.mk hA
  replace hB := Aside0.mk hB
  replace hC := Aside0.mk hC
  replace hps := Aside0.mk hps
  replace hcs := Aside0.mk hcs
  have hW0 := Aside0.mk (below_alloc (below_alloc (below_alloc (Below.refl w.heap.size w) (.cells #[.slice A bs.length ca, .slice B ls.length cb, .slice C cs.length cc] 78)) (.cells #[.slice none 0 0, .slice none 0 0, .slice none 0 0] 83)) (.cells #[.slice none 0 0, .slice none 0 0, .slice none 0 0] 83))
  go_enter Try.func53, Try.ntmps53
  go_wp2_with (first | (go_at_call 15; (with_reducible refine (toNet_c A B ca cb bs ls _ (Kd.C_below hA.out hW0.out) (Kd.C_below hB.out hW0.out) hs1 hs2 hps.out).mono ?_); rintro e w1 ⟨A', ca', B', cb', rfl, hca', hcb', hO, hL, hb⟩; obtain ⟨hc2, hf2⟩ := bcell hb; have hz0 : w.heap.size + 2 < w1.heap.size := (by have := hb.size; simp at this; omega); have hz1 : w.heap.size + 1 < w1.heap.size := (by omega); have hz2 : w.heap.size < w1.heap.size := (by omega); have hO2 := Aside0.mk (show Kd.R k65 65 w1 w.heap.size (fun k => w.heap.size + 2 < k) (.slice A' bs.length ca') (bs.map cBridge) from Kd.R_lower (Kd.R_mono (Kd.R_bound hO) (fun k hk => by have := hk.2.1; simp at this; omega)) (by simp; omega)); have hL2 := Aside0.mk (show Kd.R k145 145 w1 w.heap.size (fun k => w.heap.size + 2 < k) (.slice B' ls.length cb') (ls.map cLink) from Kd.R_lower (Kd.R_mono (Kd.R_bound hL) (fun k hk => by have := hk.2.1; simp at this; omega)) (by simp; omega)); have HB := Aside0.mk (below_step hW0.out hb); clear hb hO hL) | (go_at_call 113; (with_reducible refine (toCardS_c C cc cs _ (Kd.C_below hC.out (by (repeat (refine below_set ?_ (by omega))); exact HB.out)) hs3 hcs.out).mono ?_); rintro e w2 ⟨C', cc', rfl, hcc', hP, hb2⟩; obtain ⟨hc3, hf3⟩ := bcell hb2; have hy0 : w.heap.size + 2 < w2.heap.size := (by have := hb2.size; simp at this; omega); have hy1 : w.heap.size + 1 < w2.heap.size := (by omega); have hy2 : w.heap.size < w2.heap.size := (by omega); have hP2 := Aside0.mk (show Kd.R k155 155 w2 w.heap.size (fun k => w.heap.size + 2 < k) (.slice C' cs.length cc') (cs.map cCard) from Kd.R_lower (Kd.R_mono (Kd.R_bound hP) (fun k hk => by have := hk.2.1; simp at this; omega)) (by simp; omega)); have hO3 := Aside0.mk (Kd.R_below (Kd.R_far (Kd.R_far hO2.out (p := ⟨w.heap.size + 1 + 1, 0, none⟩) (fun k hk => by show k ≠ w.heap.size + 1 + 1; omega) _) (p := ⟨w.heap.size + 1 + 1, 1, none⟩) (fun k hk => by show k ≠ w.heap.size + 1 + 1; omega) _) hb2); have hL3 := Aside0.mk (Kd.R_below (Kd.R_far (Kd.R_far hL2.out (p := ⟨w.heap.size + 1 + 1, 0, none⟩) (fun k hk => by show k ≠ w.heap.size + 1 + 1; omega) _) (p := ⟨w.heap.size + 1 + 1, 1, none⟩) (fun k hk => by show k ≠ w.heap.size + 1 + 1; omega) _) hb2); have HB2 := Aside0.mk (below_step (below_set (below_set HB.out (by omega)) (by omega)) hb2); clear hb2 hP))
  have FF : ∀ {α : Type} {d : Kd α} {t : Nat} {v : Value} {xs : List α}, Kd.R d t w2 w.heap.size (fun k => w.heap.size + 2 < k) v xs → Kd.R d t ((((w2.setCell ⟨w.heap.size + 1 + 1, 2, none⟩ (.slice C' cs.length cc')).setCell ⟨w.heap.size + 1, 0, none⟩ (.slice A' bs.length ca')).setCell ⟨w.heap.size + 1, 1, none⟩ (.slice B' ls.length cb')).setCell ⟨w.heap.size + 1, 2, none⟩ (.slice C' cs.length cc')) w.heap.size (fun _ => True) v xs := fun h => Kd.R_mono (Kd.R_far (Kd.R_far (Kd.R_far (Kd.R_far h (p := ⟨w.heap.size + 1 + 1, 2, none⟩) (fun k hk => by show k ≠ w.heap.size + 1 + 1; omega) _) (p := ⟨w.heap.size + 1, 0, none⟩) (fun k hk => by show k ≠ w.heap.size + 1; omega) _) (p := ⟨w.heap.size + 1, 1, none⟩) (fun k hk => by show k ≠ w.heap.size + 1; omega) _) (p := ⟨w.heap.size + 1, 2, none⟩) (fun k hk => by show k ≠ w.heap.size + 1; omega) _) (fun _ _ => trivial)
  refine bodyPost_ret (v := .agg #[.slice A' bs.length ca', .slice B' ls.length cb', .slice C' cs.length cc']) ?_ rfl ⟨A', ca', B', cb', C', cc', rfl, hca', FF hO3.out, FF hL3.out, FF hP2.out, by (repeat (refine below_set ?_ (by omega))); exact HB2.out⟩
  simp [results, Try.results53, go_sem, hc2, hc3, hz0, hz1, hz2, hy0, hy1, hy2]
end Go.Proofs.Ytbdmnjobhfhinaa.M
