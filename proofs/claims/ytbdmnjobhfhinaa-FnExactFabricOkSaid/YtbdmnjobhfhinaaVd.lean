/- The law texts: sizes and conversions of a net. No conditions beside those that each theorem states. -/
import Derived.Test.YtbdmnjobhfhinaaVa
import Derived.IntWalk
namespace Go.Proofs.Ytbdmnjobhfhinaa.M
open Go.RowKit Go.Proofs.YtbdmnjobhfhinaaW.PrintWords Go.Proofs.YtbdmnjobhfhinaaW.PrintLast Go.Proofs.YtbdmnjobhfhinaaW.PrintMore
set_option linter.unusedVariables false
set_option linter.unusedSimpArgs false
set_option maxHeartbeats 4000000
set_option maxRecDepth 100000
def szL (n : Nat) (left : Int) : Int := if left - n < 0 then -1 else left - n
def szBs : List S172 → Int → Int
  | [], left => left
  | b :: r, left => if szL b.f1.length left < 0 then -1 else szBs r (szL b.f1.length left)
def szBS (bs : List S172) (left : Int) : Int := if left - bs.length < 0 then -1 else szBs bs (left - bs.length)
def szN (bs : List S172) (ls : List S175) (left : Int) : Int := if szBS bs left < 0 then -1 else szL ls.length (szBS bs left)
theorem szL_le (n : Nat) (left : Int) : szL n left ≤ left ∨ szL n left = -1 := by unfold szL; split <;> omega
theorem get172 {w : World} {A : Option Addr} {l : List S172} (h : Kd.C k172 w A l.length l) {k : Nat} {x : S172} (hx : l[k]? = some x) : ∃ ad A1 c1, A = some ad ∧ (ad.add (k * 2)).block < w.heap.size ∧ w.cell? (ad.add (k * 2)) = some (.int .i64 x.f0) ∧ w.cell? ⟨(ad.add (k * 2)).block, (ad.add (k * 2)).off + 1, none⟩ = some (.slice A1 x.f1.length c1) ∧ x.f1.length ≤ c1 ∧ k260.C w A1 x.f1.length x.f1 := by
  have hk : k < l.length := (List.getElem?_eq_some_iff.1 hx).1
  obtain ⟨ad, A1, c1, e, c0_, c1_, l1_, g1_⟩ := at_T172 h k (by omega) (by omega)
  have ex : rd_T172 l k = x := by simp [rd_T172, hx]
  rw [ex] at c0_ c1_ l1_ g1_
  exact ⟨ad, A1, c1, e, World.block_lt_of_cell? _ _ c0_, c0_, c1_, l1_, g1_⟩
theorem szPortS_c (A : Option Addr) (n c : Nat) (left : Int) (w : World) (hn : n ≤ 9223372036854775807) (h0 : 0 ≤ left) (h1 : left ≤ 1048576) : Calls Try.prog 183 #[.slice A n c, .int .i64 left] w fun e w' => e = .returned (.int .i64 (szL n left)) ∧ w = w' := by
  have hw : IntKind.i64.wrap (left - n) = left - n := IntWalk.i64_in _ (by omega)
  go_enter Try.func183, Try.ntmps183
  go_wp2
  all_goals (go_ret; exact ⟨ri (by unfold szL; first | rw [if_pos (by omega)] | rw [if_neg (by omega)]), rfl⟩)
theorem szLinkS_c (A : Option Addr) (n c : Nat) (left : Int) (w : World) (hn : n ≤ 9223372036854775807) (h0 : 0 ≤ left) (h1 : left ≤ 1048576) : Calls Try.prog 68 #[.slice A n c, .int .i64 left] w fun e w' => e = .returned (.int .i64 (szL n left)) ∧ w = w' := by
  have hw : IntKind.i64.wrap (left - n) = left - n := IntWalk.i64_in _ (by omega)
  go_enter Try.func68, Try.ntmps68
  go_wp2
  all_goals (go_ret; exact ⟨ri (by unfold szL; first | rw [if_pos (by omega)] | rw [if_neg (by omega)]), rfl⟩)
theorem szBridge_c (v0 : Value) (A : Option Addr) (n c : Nat) (left : Int) (w : World) (hn : n ≤ 9223372036854775807) (h0 : 0 ≤ left) (h1 : left ≤ 1048576) : Calls Try.prog 127 #[.agg #[v0, .slice A n c], .int .i64 left] w fun e w' => e = .returned (.int .i64 (szL n left)) ∧ Below w.heap.size w w' := by
  have hu := Try.underlying172
  have F := fun W => szPortS_c A n c left W hn h0 h1
  have hor : szL n left = -1 ∨ 0 ≤ szL n left := by unfold szL; split <;> omega
  generalize szL n left = r at *
  go_enter Try.func127, Try.ntmps127
  rcases hor with rfl | hr
  all_goals (
    go_wp2_with (go_at_call 183; (with_reducible refine (F _).mono ?_); rintro e w2 ⟨rfl, rfl⟩)
    go_ret
    exact ⟨rfl, by repeat (first | exact Below.refl _ _ | apply below_alloc)⟩)
theorem szBridgeS_c (A : Option Addr) (c : Nat) (bs : List S172) (left : Int) (w : World) (hA : Kd.C k172 w A bs.length bs) (h0 : 0 ≤ left) (h1 : left ≤ 1048576) : Calls Try.prog 67 #[.slice A bs.length c, .int .i64 left] w fun e w' => e = .returned (.int .i64 (szBS bs left)) ∧ Below w.heap.size w w' := by
  have hlen := clen hA
  have hu := Try.underlying172
  have hw : IntKind.i64.wrap (left - bs.length) = left - bs.length := IntWalk.i64_in _ (by omega)
  obtain ⟨R, hR⟩ : ∃ R, R = szBS bs left := ⟨_, rfl⟩
  rw [← hR]
  unfold szBS at hR
  by_cases hneg : left - bs.length < 0
  · rw [if_pos hneg] at hR
    subst hR
    replace hA := Aside0.mk hA
    go_enter Try.func67, Try.ntmps67
    go_wp2
    go_ret
    exact ⟨rfl, Below.refl _ _⟩
  · rw [if_neg hneg] at hR
    replace hA := Aside0.mk hA
    replace hR := Aside0.mk hR
    go_enter Try.func67, Try.ntmps67
    go_wp2
    go_loopw [1, 5] (fun vl vi wr => ∃ (k : Nat) (l : Int), k ≤ bs.length ∧ 0 ≤ l ∧ l ≤ 1048576 ∧ vl = .int .i64 l ∧ vi = .int .i64 k ∧ Aside0 (R = szBs (bs.drop k) l) ∧ Aside0 (Below w.heap.size w wr)) (fun _ vi _ => bs.length - (intOf vi).toNat)
    case atStart => exact ⟨0, left - bs.length, Nat.zero_le _, by omega, by omega, rfl, rfl, ⟨hR.out⟩, ⟨Below.refl _ _⟩⟩
    case round =>
      obtain ⟨k, l, hk, hl0, hl1, rfl, rfl, hp, hW⟩ := hrel
      by_cases hlt : k < bs.length
      · obtain ⟨x, hx⟩ : ∃ x, bs[k]? = some x := ⟨_, List.getElem?_eq_getElem hlt⟩
        obtain ⟨ad, A1, c1, eA, hblk, h0', h1', hl, hC⟩ := get172 (Kd.C_below hA.out hW.out) hx
        subst eA
        have e := hp.out
        rw [drop_cons_of hx, szBs] at e
        have F := fun W => szBridge_c (.int .i64 x.f0) A1 x.f1.length c1 l W (clen hC) hl0 hl1
        have hor : szL x.f1.length l = -1 ∨ (0 ≤ szL x.f1.length l ∧ szL x.f1.length l ≤ 1048576) := by unfold szL; split <;> omega
        generalize szL x.f1.length l = r at *
        have i0 : (0 : Int) ≤ (k : Int) := by omega
        have i1 : (k : Int) < (bs.length : Int) := by omega
        replace hC := Aside0.mk hC
        replace hx := Aside0.mk hx
        rcases hor with rfl | ⟨hr, hr2⟩
        · rw [if_pos (by omega)] at e
          subst e
          go_wp2_with (go_at_call 127; (with_reducible refine (F _).mono ?_); rintro e w2 ⟨rfl, hb⟩; replace hb := Aside0.mk hb)
          go_ret
          exact ⟨rfl, bthen hW.out hb.out⟩
        · rw [if_neg (by omega)] at e
          replace e := Aside0.mk e
          go_wp2_with (go_at_call 127; (with_reducible refine (F _).mono ?_); rintro e w2 ⟨rfl, hb⟩; replace hb := Aside0.mk hb)
          go_roundw
          case rel => exact ⟨k + 1, r, by omega, hr, hr2, rfl, by go_num, ⟨e.out⟩, ⟨bthen hW.out hb.out⟩⟩
          case measure => simp [intOf]; omega
      · have : k = bs.length := by omega
        subst this
        have e := hp.out
        rw [List.drop_length, szBs] at e
        subst e
        go_wp2
        go_ret
        exact ⟨rfl, hW.out⟩
theorem szBs_range : ∀ (bs : List S172) (left : Int), 0 ≤ left → (szBs bs left = -1 ∨ (0 ≤ szBs bs left ∧ szBs bs left ≤ left))
  | [], left, h => by simp [szBs]; omega
  | b :: r, left, h => by
    unfold szBs
    split
    · left; rfl
    · have h2 := szBs_range r (szL b.f1.length left) (by omega)
      have h3 := szL_le b.f1.length left
      omega
theorem szNet_c (A B : Option Addr) (ca cb : Nat) (bs : List S172) (ls : List S175) (left : Int) (w : World) (hA : Kd.C k172 w A bs.length bs) (hB : Kd.C k175 w B ls.length ls) (h0 : 0 ≤ left) (h1 : left ≤ 1048576) : Calls Try.prog 13 #[.agg #[.slice A bs.length ca, .slice B ls.length cb], .int .i64 left] w fun e w' => e = .returned (.int .i64 (szN bs ls left)) ∧ Below w.heap.size w w' := by
  have hu := Try.underlying25
  have hlb := clen hB
  have F1 := fun W h => szBridgeS_c A ca bs left W h h0 h1
  have hor : szBS bs left = -1 ∨ (0 ≤ szBS bs left ∧ szBS bs left ≤ left) := by
    unfold szBS
    split
    · left; rfl
    · rcases szBs_range bs (left - bs.length) (by omega) with h | h
      · left; exact h
      · right; omega
  unfold szN
  generalize szBS bs left = r at *
  replace hA := Aside0.mk hA
  replace hB := Aside0.mk hB
  rcases hor with rfl | ⟨hr, hr2⟩
  · rw [if_pos (by omega)]
    go_enter Try.func13, Try.ntmps13
    go_wp2_with (first | (go_at_call 67; (with_reducible refine (F1 _ (Kd.C_below hA.out (by repeat (first | exact Below.refl _ _ | apply below_alloc)))).mono ?_); rintro e w2 ⟨rfl, hb⟩; replace hb := Aside0.mk hb))
    go_ret
    exact ⟨rfl, by repeat (first | exact Below.refl _ _ | apply below_alloc | refine bthen ?_ hb.out)⟩
  · rw [if_neg (by omega)]
    have F2 := fun W => szLinkS_c B ls.length cb r W hlb hr (by omega)
    have hor2 : szL ls.length r = -1 ∨ 0 ≤ szL ls.length r := by unfold szL; split <;> omega
    generalize szL ls.length r = t at *
    rcases hor2 with rfl | ht
    all_goals (
      go_enter Try.func13, Try.ntmps13
      go_wp2_with (first | (go_at_call 67; (with_reducible refine (F1 _ (Kd.C_below hA.out (by repeat (first | exact Below.refl _ _ | apply below_alloc)))).mono ?_); rintro e w2 ⟨rfl, hb⟩; have hbx := blk_below (blk_new w (.cells #[.slice A bs.length ca, .slice B ls.length cb] 25)) hb; have hbc0 : w2.cell? ⟨w.heap.size, 0, none⟩ = some (.slice A bs.length ca) := (blk_cell hbx 0).trans rfl; have hbc1 : w2.cell? ⟨w.heap.size, 1, none⟩ = some (.slice B ls.length cb) := (blk_cell hbx 1).trans rfl; have hsz := blk_lt hbx; replace hbx := Aside0.mk hbx; replace hb := Aside0.mk hb) | (go_at_call 68; (with_reducible refine (F2 _).mono ?_); rintro e w3 ⟨rfl, rfl⟩))
      go_ret
      exact ⟨rfl, by repeat (first | exact Below.refl _ _ | apply below_alloc | refine bthen ?_ hb.out)⟩)
end Go.Proofs.Ytbdmnjobhfhinaa.M
namespace Go.Proofs.Ytbdmnjobhfhinaa.M
open Go.RowKit Go.Proofs.YtbdmnjobhfhinaaW.PrintWords Go.Proofs.YtbdmnjobhfhinaaW.PrintLast Go.Proofs.YtbdmnjobhfhinaaW.PrintMore
set_option linter.unusedVariables false
set_option linter.unusedSimpArgs false
set_option maxHeartbeats 4000000
set_option maxRecDepth 100000
theorem R_storeA {α : Type} {P : Program} {ops : Array Oper} {rest : List Oper} {o : Oper} {a : Act} {Q : Exit → Act → World → Prop} (d : Kd α) {w0 W : World} (base : Nat) (hN : o.dst = none) (hgd : o.guard = none) (t : TypeId) (p x : Operand) (ho : o.op = .store t p x) (e : TypeId) {g n cap o' : Nat} (i : Int) (xs : List α) (x' z : α) (u : Value) (cs : List Value) (ok okp : Nat → Prop)
    (haddr : a.eval p = .pointer (some ⟨g, o', none⟩)) (hoff : o' = i.toNat * d.sz) (hx : a.eval x = u) (hu : u.cells.toList = cs) (ht : (P.info? t).map (·.size) = some d.sz)
    (HO : d.R e W base ok (.slice (some ⟨g, 0, none⟩) n cap) xs) (h0 : 0 ≤ i) (hi : i < n) (hM : d.M W base okp x' cs) (hokp : ∀ k, okp k → ok k ∧ k ≠ g) (HB : Below base w0 W)
    (h : ∀ w1, d.R e w1 base ok (.slice (some ⟨g, 0, none⟩) n cap) (xs.set i.toNat x') → Below base w0 w1 → W.grownBy w1 (some g) → wpList P ops Q rest a w1) : wpList P ops Q (o :: rest) a W := by
  obtain ⟨c, hcl, _, hcc, _⟩ := Kd.R_elem HO z i h0 hi
  have hlen := d.K_len (d.K_of_M hM)
  refine Kd.R_store d base hN hgd t p x ho e i 0 xs x' u cs c ok okp haddr (by omega) hx hu (by rw [hlen]; exact ht) (d.K_one (d.K_of_M hM)) HO h0 hi hcl hcc (by omega) ?_ hokp HB h
  rw [List.take_zero, List.nil_append, Nat.zero_add, List.drop_eq_nil_of_le (by omega), List.append_nil]
  exact hM
def cVec (x : S123) : S119 := ⟨x.f0, x.f1, x.f2, x.f3⟩
def cPort (x : S260) : S138 := ⟨x.f0, x.f1, cVec x.f2, x.f3, x.f4, x.f5, x.f6, x.f7⟩
def cBridge (x : S172) : S65 := ⟨x.f0, x.f1.map cPort⟩
def cLink (x : S175) : S145 := ⟨x.f0, x.f1, x.f2, x.f3⟩
theorem toVec_c (x : S123) (w : World) : Calls Try.prog 138 #[.agg #[.int .i64 x.f0, .int .i64 x.f1, .int .i64 x.f2, .int .i64 x.f3]] w fun e w' => e = .returned (v119 (cVec x)) ∧ Below w.heap.size w w' := by
  have hu1 := Try.underlying123
  have hu2 := Try.underlying119
  go_enter Try.func138, Try.ntmps138
  go_wp2
  refine bodyPost_ret (v := v119 (cVec x)) ?_ rfl ⟨rfl, by repeat (first | exact Below.refl _ _ | apply below_alloc | (refine Below.setCell ?_ (by simp) _))⟩
  simp [results, Try.results138, go_sem, cVec]
theorem toLink_c (x : S175) (w : World) : Calls Try.prog 129 #[.agg #[.int .i64 x.f0, .int .i64 x.f1, .int .i64 x.f2, .int .i64 x.f3]] w fun e w' => e = .returned (.agg #[.int .i64 x.f0, .int .i64 x.f1, .int .i64 x.f2, .int .i64 x.f3]) ∧ Below w.heap.size w w' := by
  have hu1 := Try.underlying175
  have hu2 := Try.underlying145
  go_enter Try.func129, Try.ntmps129
  go_wp2
  refine bodyPost_ret (v := .agg #[.int .i64 x.f0, .int .i64 x.f1, .int .i64 x.f2, .int .i64 x.f3]) ?_ rfl ⟨rfl, by repeat (first | exact Below.refl _ _ | apply below_alloc | (refine Below.setCell ?_ (by simp) _))⟩
  simp [results, Try.results129, go_sem]
end Go.Proofs.Ytbdmnjobhfhinaa.M
namespace Go.Proofs.Ytbdmnjobhfhinaa.M
open Go.RowKit Go.Proofs.YtbdmnjobhfhinaaW.PrintWords Go.Proofs.YtbdmnjobhfhinaaW.PrintLast Go.Proofs.YtbdmnjobhfhinaaW.PrintMore
set_option linter.unusedVariables false
set_option linter.unusedSimpArgs false
set_option maxHeartbeats 4000000
set_option maxRecDepth 100000
theorem get260 {w : World} {A : Option Addr} {l : List S260} (h : Kd.C k260 w A l.length l) {k : Nat} {x : S260} (hx : l[k]? = some x) : ∃ ad, A = some ad ∧ (ad.add (k * 11)).block < w.heap.size ∧ w.cell? (ad.add (k * 11)) = some (.bool x.f0) ∧ w.cell? ⟨(ad.add (k * 11)).block, (ad.add (k * 11)).off + 1, none⟩ = some (.bool x.f1) ∧ w.cell? ⟨(ad.add (k * 11)).block, (ad.add (k * 11)).off + 2, none⟩ = some (.int .i64 x.f2.f0) ∧ w.cell? ⟨(ad.add (k * 11)).block, (ad.add (k * 11)).off + 3, none⟩ = some (.int .i64 x.f2.f1) ∧ w.cell? ⟨(ad.add (k * 11)).block, (ad.add (k * 11)).off + 4, none⟩ = some (.int .i64 x.f2.f2) ∧ w.cell? ⟨(ad.add (k * 11)).block, (ad.add (k * 11)).off + 5, none⟩ = some (.int .i64 x.f2.f3) ∧ w.cell? ⟨(ad.add (k * 11)).block, (ad.add (k * 11)).off + 6, none⟩ = some (.int .i64 x.f3) ∧ w.cell? ⟨(ad.add (k * 11)).block, (ad.add (k * 11)).off + 7, none⟩ = some (.int .i64 x.f4) ∧ w.cell? ⟨(ad.add (k * 11)).block, (ad.add (k * 11)).off + 8, none⟩ = some (.int .i64 x.f5) ∧ w.cell? ⟨(ad.add (k * 11)).block, (ad.add (k * 11)).off + 9, none⟩ = some (.int .i64 x.f6) ∧ w.cell? ⟨(ad.add (k * 11)).block, (ad.add (k * 11)).off + 10, none⟩ = some (.bool x.f7) := by
  have hk : k < l.length := (List.getElem?_eq_some_iff.1 hx).1
  obtain ⟨ad, e, c0_, c1_, c2_, c3_, c4_, c5_, c6_, c7_, c8_, c9_, c10_⟩ := at_T260 h k (by omega) (by omega)
  have ex : rd_T260 l k = x := by simp [rd_T260, hx]
  rw [ex] at c0_ c1_ c2_ c3_ c4_ c5_ c6_ c7_ c8_ c9_ c10_
  simp only [Int.toNat_natCast] at c0_ c1_ c2_ c3_ c4_ c5_ c6_ c7_ c8_ c9_ c10_
  exact ⟨ad, e, World.block_lt_of_cell? _ _ c0_, c0_, c1_, c2_, c3_, c4_, c5_, c6_, c7_, c8_, c9_, c10_⟩
theorem get175 {w : World} {A : Option Addr} {l : List S175} (h : Kd.C k175 w A l.length l) {k : Nat} {x : S175} (hx : l[k]? = some x) : ∃ ad, A = some ad ∧ (ad.add (k * 4)).block < w.heap.size ∧ w.cell? (ad.add (k * 4)) = some (.int .i64 x.f0) ∧ w.cell? ⟨(ad.add (k * 4)).block, (ad.add (k * 4)).off + 1, none⟩ = some (.int .i64 x.f1) ∧ w.cell? ⟨(ad.add (k * 4)).block, (ad.add (k * 4)).off + 2, none⟩ = some (.int .i64 x.f2) ∧ w.cell? ⟨(ad.add (k * 4)).block, (ad.add (k * 4)).off + 3, none⟩ = some (.int .i64 x.f3) := by
  have hk : k < l.length := (List.getElem?_eq_some_iff.1 hx).1
  obtain ⟨ad, e, c0_, c1_, c2_, c3_⟩ := at_T175 h k (by omega) (by omega)
  have ex : rd_T175 l k = x := by simp [rd_T175, hx]
  rw [ex] at c0_ c1_ c2_ c3_
  simp only [Int.toNat_natCast] at c0_ c1_ c2_ c3_
  exact ⟨ad, e, World.block_lt_of_cell? _ _ c0_, c0_, c1_, c2_, c3_⟩

abbrev v260 (a : S260) : Value := .agg #[.bool a.f0, .bool a.f1, .int .i64 a.f2.f0, .int .i64 a.f2.f1, .int .i64 a.f2.f2, .int .i64 a.f2.f3, .int .i64 a.f3, .int .i64 a.f4, .int .i64 a.f5, .int .i64 a.f6, .bool a.f7]
theorem toPort_c (x : S260) (w : World) : Calls Try.prog 229 #[v260 x] w fun e w' => e = .returned (v138 (cPort x)) ∧ Below w.heap.size w w' := by
  have hu1 := Try.underlying260
  have hu2 := Try.underlying138
  have hu3 := Try.underlying123
  have hu4 := Try.underlying119
  go_enter Try.func229, Try.ntmps229
  go_wp2_with (go_at_call 138; (with_reducible refine (toVec_c x.f2 _).mono ?_); rintro e w1 ⟨rfl, hb⟩; obtain ⟨hc2, hf2⟩ := bcell hb; have hz0 : w.heap.size + 2 < w1.heap.size := (by have := hb.size; simp at this; omega); have hz1 : w.heap.size + 1 < w1.heap.size := (by omega); have hz2 : w.heap.size < w1.heap.size := (by omega); have HB := Aside0.mk (below_step (by (repeat (refine below_set ?_ (by omega))); exact below_alloc (below_alloc (below_alloc (Below.refl _ _) _) _) _) hb); clear hb)
  refine bodyPost_ret (v := v138 (cPort x)) ?_ rfl ⟨rfl, by (repeat (refine below_set ?_ (by omega))); exact HB.out⟩

  simp [results, Try.results229, go_sem, cPort, cVec, hc2, hz0, hz1, hz2]
end Go.Proofs.Ytbdmnjobhfhinaa.M
namespace Go.Proofs.Ytbdmnjobhfhinaa.M
open Go.RowKit Go.Proofs.YtbdmnjobhfhinaaW.PrintWords Go.Proofs.YtbdmnjobhfhinaaW.PrintLast Go.Proofs.YtbdmnjobhfhinaaW.PrintMore
set_option linter.unusedVariables false
set_option linter.unusedSimpArgs false
set_option maxHeartbeats 4000000
set_option maxRecDepth 100000
theorem sz138 : (Try.prog.info? 138).map (·.size) = some 11 := by kernel_rfl
theorem sz145 : (Try.prog.info? 145).map (·.size) = some 4 := by kernel_rfl
theorem sz65 : (Try.prog.info? 65).map (·.size) = some 2 := by kernel_rfl
theorem map_step {α β : Type} (f : α → β) {l : List α} {acc : List β} {z : List β} {k : Nat} {x : α} (hx : l[k]? = some x) (h : acc = (l.take k).map f ++ z.drop k) (hz : k < z.length) : acc.set k (f x) = (l.take (k + 1)).map f ++ z.drop (k + 1) := by
  have hk : k < l.length := (List.getElem?_eq_some_iff.1 hx).1
  have hlen : ((l.take k).map f).length = k := by simp; omega
  rw [h, List.set_append_right _ _ (by omega), hlen, Nat.sub_self, List.drop_eq_getElem_cons hz, List.set_cons_zero, List.take_add_one, hx]
  simp
theorem toPortS_c (A : Option Addr) (c : Nat) (l : List S260) (w : World) (hC : Kd.C k260 w A l.length l) (hsz : l.length ≤ 1048576) : Calls Try.prog 184 #[.slice A l.length c] w fun e w' => ∃ B cb, e = .returned (.slice B l.length cb) ∧ l.length ≤ cb ∧ Kd.R k138 138 w' w.heap.size (fun _ => True) (.slice B l.length cb) (l.map cPort) ∧ Below w.heap.size w w' := by
  have hu1 := Try.underlying260
  have hu2 := Try.underlying138
  replace hC := Aside0.mk hC
  have i0 : (0 : Int) ≤ (l.length : Int) := by omega
  go_enter Try.func184, Try.ntmps184
  go_wp2_with (first | ((with_reducible refine gate_dst (N := 7) rfl ?_); refine Kd.R_make k138 _ 138 rfl (N := 7) rfl 63 _ _ rfl (l.length : Int) rfl rfl Try.underlying63 (.agg #[(.bool false), (.bool false), (.int .i64 0), (.int .i64 0), (.int .i64 0), (.int .i64 0), (.int .i64 0), (.int .i64 0), (.int .i64 0), (.int .i64 0), (.bool false)]) 80 info138 rfl (by decide) (by omega) z138 (ok := fun _ => True) (okp := fun _ => True) (k138_mkM _ _ _ z138) (fun _ hk => hk) trivial (by omega) (by omega) (Below.refl _ _) (Nat.le_refl _) ?_; intro vt w1 hT hb _ _; rw [Int.toNat_natCast] at hT; obtain ⟨Ao, co, eo⟩ := Kd.R_slice hT; rw [List.length_replicate] at eo; subst eo; have hco := (Kd.R_reads' hT).2.1; replace hT := Aside0.mk hT; replace hb := Aside0.mk hb))
  go_loopw [4] (fun vi wr => ∃ (k : Nat) (acc : List S138), k ≤ l.length ∧ acc.length = l.length ∧ vi = .int .i64 k ∧ Aside0 (acc = (l.take k).map cPort ++ (List.replicate l.length z138).drop k) ∧ Aside0 (Kd.R k138 138 wr w.heap.size (fun _ => True) (.slice Ao l.length co) acc) ∧ Aside0 (Below w.heap.size w wr)) (fun vi _ => l.length - (intOf vi).toNat)
  case atStart => exact ⟨0, List.replicate l.length z138, Nat.zero_le _, by simp, rfl, ⟨by simp⟩, ⟨hT.out⟩, ⟨hb.out⟩⟩
  case round =>
    obtain ⟨k, acc, hk, hal, rfl, hp, hO, hW⟩ := hrel
    by_cases hlt : k < l.length
    · obtain ⟨x, hx0⟩ : ∃ x, l[k]? = some x := ⟨_, List.getElem?_eq_getElem hlt⟩
      obtain ⟨ad, eA, hblk, h0, h1, h2, h3, h4, h5, h6, h7, h8, h9, h10⟩ := get260 (Kd.C_below hC.out hW.out) hx0
      subst eA
      have i1 : (0 : Int) ≤ (k : Int) := by omega
      have i2 : (k : Int) < (l.length : Int) := by omega
      obtain ⟨gt, ct, eot, hgb, hgt, _⟩ := Kd.R_form hO.out (by omega)
      rw [hal] at eot
      injection eot with ea _ ec
      subst ea ec
      have e := map_step cPort hx0 hp.out (by simp; exact hlt)
      replace hx0 := Aside0.mk hx0
      replace e := Aside0.mk e
      go_wp2_with (first | (go_at_call 229; (with_reducible refine (toPort_c x _).mono ?_); rintro e w2 ⟨rfl, hb2⟩; have hO2 := Aside0.mk (Kd.R_below hO.out hb2); replace hb2 := Aside0.mk (bthen hW.out hb2)) | ((with_reducible refine gate_store (t := 138) (p := 21) rfl ?_); refine R_storeA k138 (w0 := w) w.heap.size rfl rfl 138 _ _ rfl 138 (k : Int) acc (cPort x) z138 _ [.bool x.f0, .bool x.f1, .int .i64 x.f2.f0, .int .i64 x.f2.f1, .int .i64 x.f2.f2, .int .i64 x.f2.f3, .int .i64 x.f3, .int .i64 x.f4, .int .i64 x.f5, .int .i64 x.f6, .bool x.f7] (fun _ => True) (fun k => k ≠ gt) rfl rfl rfl rfl sz138 hO2.out i1 i2 (k138_mkM _ _ _ (cPort x)) (fun _ hk => ⟨trivial, hk⟩) hb2.out ?_; intro w3 hO3 hb3 _; replace hO3 := Aside0.mk hO3; replace hb3 := Aside0.mk hb3))
      go_roundw
      case rel => exact ⟨k + 1, acc.set k (cPort x), by omega, by simp; exact hal, by go_num, ⟨e.out⟩, ⟨hO3.out⟩, ⟨hb3.out⟩⟩
      case measure => simp [intOf]; omega
    · have : k = l.length := by omega
      subst this
      go_wp2
      go_ret
      have e := hp.out
      rw [List.take_length, List.drop_eq_nil_of_le (by simp), List.append_nil] at e
      subst e
      exact ⟨_, _, rfl, hco, hO.out, hW.out⟩
theorem toLinkS_c (A : Option Addr) (c : Nat) (l : List S175) (w : World) (hC : Kd.C k175 w A l.length l) (hsz : l.length ≤ 1048576) : Calls Try.prog 71 #[.slice A l.length c] w fun e w' => ∃ B cb, e = .returned (.slice B l.length cb) ∧ l.length ≤ cb ∧ Kd.R k145 145 w' w.heap.size (fun _ => True) (.slice B l.length cb) (l.map cLink) ∧ Below w.heap.size w w' := by
  have hu1 := Try.underlying175
  have hu2 := Try.underlying145
  replace hC := Aside0.mk hC
  have i0 : (0 : Int) ≤ (l.length : Int) := by omega
  go_enter Try.func71, Try.ntmps71
  go_wp2_with (first | ((with_reducible refine gate_dst (N := 7) rfl ?_); refine Kd.R_make k145 _ 145 rfl (N := 7) rfl 30 _ _ rfl (l.length : Int) rfl rfl Try.underlying30 (.agg #[(.int .i64 0), (.int .i64 0), (.int .i64 0), (.int .i64 0)]) 32 info145 rfl (by decide) (by omega) z145 (ok := fun _ => True) (okp := fun _ => True) (k145_mkM _ _ _ z145) (fun _ hk => hk) trivial (by omega) (by omega) (Below.refl _ _) (Nat.le_refl _) ?_; intro vt w1 hT hb _ _; rw [Int.toNat_natCast] at hT; obtain ⟨Ao, co, eo⟩ := Kd.R_slice hT; rw [List.length_replicate] at eo; subst eo; have hco := (Kd.R_reads' hT).2.1; replace hT := Aside0.mk hT; replace hb := Aside0.mk hb))
  go_loopw [4] (fun vi wr => ∃ (k : Nat) (acc : List S145), k ≤ l.length ∧ acc.length = l.length ∧ vi = .int .i64 k ∧ Aside0 (acc = (l.take k).map cLink ++ (List.replicate l.length z145).drop k) ∧ Aside0 (Kd.R k145 145 wr w.heap.size (fun _ => True) (.slice Ao l.length co) acc) ∧ Aside0 (Below w.heap.size w wr)) (fun vi _ => l.length - (intOf vi).toNat)
  case atStart => exact ⟨0, List.replicate l.length z145, Nat.zero_le _, by simp, rfl, ⟨by simp⟩, ⟨hT.out⟩, ⟨hb.out⟩⟩
  case round =>
    obtain ⟨k, acc, hk, hal, rfl, hp, hO, hW⟩ := hrel
    by_cases hlt : k < l.length
    · obtain ⟨x, hx0⟩ : ∃ x, l[k]? = some x := ⟨_, List.getElem?_eq_getElem hlt⟩
      obtain ⟨ad, eA, hblk, h0, h1, h2, h3⟩ := get175 (Kd.C_below hC.out hW.out) hx0
      subst eA
      have i1 : (0 : Int) ≤ (k : Int) := by omega
      have i2 : (k : Int) < (l.length : Int) := by omega
      obtain ⟨gt, ct, eot, hgb, hgt, _⟩ := Kd.R_form hO.out (by omega)
      rw [hal] at eot
      injection eot with ea _ ec
      subst ea ec
      have e := map_step cLink hx0 hp.out (by simp; exact hlt)
      replace hx0 := Aside0.mk hx0
      replace e := Aside0.mk e
      go_wp2_with (first | (go_at_call 129; (with_reducible refine (toLink_c x _).mono ?_); rintro e w2 ⟨rfl, hb2⟩; have hO2 := Aside0.mk (Kd.R_below hO.out hb2); replace hb2 := Aside0.mk (bthen hW.out hb2)) | ((with_reducible refine gate_store (t := 145) (p := 21) rfl ?_); refine R_storeA k145 (w0 := w) w.heap.size rfl rfl 145 _ _ rfl 145 (k : Int) acc (cLink x) z145 _ [.int .i64 x.f0, .int .i64 x.f1, .int .i64 x.f2, .int .i64 x.f3] (fun _ => True) (fun k => k ≠ gt) rfl rfl rfl rfl sz145 hO2.out i1 i2 (k145_mkM _ _ _ (cLink x)) (fun _ hk => ⟨trivial, hk⟩) hb2.out ?_; intro w3 hO3 hb3 _; replace hO3 := Aside0.mk hO3; replace hb3 := Aside0.mk hb3))
      go_roundw
      case rel => exact ⟨k + 1, acc.set k (cLink x), by omega, by simp; exact hal, by go_num, ⟨e.out⟩, ⟨hO3.out⟩, ⟨hb3.out⟩⟩
      case measure => simp [intOf]; omega
    · have : k = l.length := by omega
      subst this
      go_wp2
      go_ret
      have e := hp.out
      rw [List.take_length, List.drop_eq_nil_of_le (by simp), List.append_nil] at e
      subst e
      exact ⟨_, _, rfl, hco, hO.out, hW.out⟩
theorem toBridge_c (x : S172) (A : Option Addr) (c : Nat) (w : World) (hC : Kd.C k260 w A x.f1.length x.f1) (hsz : x.f1.length ≤ 1048576) : Calls Try.prog 128 #[.agg #[.int .i64 x.f0, .slice A x.f1.length c]] w fun e w' => ∃ B cb, e = .returned (.agg #[.int .i64 x.f0, .slice B x.f1.length cb]) ∧ Kd.R k138 138 w' w.heap.size (fun _ => True) (.slice B x.f1.length cb) (x.f1.map cPort) ∧ Below w.heap.size w w' := by
  have hu1 := Try.underlying172
  have hu2 := Try.underlying65
  replace hC := Aside0.mk hC
  go_enter Try.func128, Try.ntmps128
  go_wp2_with (go_at_call 184; (with_reducible refine (toPortS_c A c x.f1 _ (Kd.C_below hC.out (by (repeat (refine below_set ?_ (by omega))); exact below_alloc (below_alloc (below_alloc (Below.refl _ _) _) _) _)) hsz).mono ?_); rintro e w1 ⟨B, cb, rfl, hcb, hO, hb⟩; obtain ⟨hc2, hf2⟩ := bcell hb; have hz0 : w.heap.size + 2 < w1.heap.size := (by have := hb.size; simp at this; omega); have hz1 : w.heap.size + 1 < w1.heap.size := (by omega); have hz2 : w.heap.size < w1.heap.size := (by omega); have hO2 := Aside0.mk (show Kd.R k138 138 w1 w.heap.size (fun k => w.heap.size + 2 < k) (.slice B x.f1.length cb) (x.f1.map cPort) from Kd.R_lower (Kd.R_mono (Kd.R_bound hO) (fun k hk => by have := hk.2.1; simp at this; omega)) (by simp; omega)); have HB := Aside0.mk (below_step (by (repeat (refine below_set ?_ (by omega))); exact below_alloc (below_alloc (below_alloc (Below.refl _ _) _) _) _) hb); clear hb hO)
  refine bodyPost_ret (v := .agg #[.int .i64 x.f0, .slice B x.f1.length cb]) ?_ rfl ⟨B, cb, rfl, Kd.R_mono (Kd.R_far (Kd.R_far (Kd.R_far hO2.out (p := ⟨w.heap.size + 1 + 1, 1, none⟩) (fun k hk => by show k ≠ w.heap.size + 1 + 1; omega) _) (p := ⟨w.heap.size + 1, 0, none⟩) (fun k hk => by show k ≠ w.heap.size + 1; omega) _) (p := ⟨w.heap.size + 1, 1, none⟩) (fun k hk => by show k ≠ w.heap.size + 1; omega) _) (fun _ _ => trivial), by (repeat (refine below_set ?_ (by omega))); exact HB.out⟩
  simp [results, Try.results128, go_sem, hc2, hz0, hz1, hz2]
end Go.Proofs.Ytbdmnjobhfhinaa.M
namespace Go.Proofs.Ytbdmnjobhfhinaa.M
open Go.RowKit Go.Proofs.YtbdmnjobhfhinaaW.PrintWords Go.Proofs.YtbdmnjobhfhinaaW.PrintLast Go.Proofs.YtbdmnjobhfhinaaW.PrintMore
set_option linter.unusedVariables false
set_option linter.unusedSimpArgs false
set_option maxHeartbeats 4000000
set_option maxRecDepth 100000
theorem toBridgeS_c (A : Option Addr) (c : Nat) (l : List S172) (w : World) (hC : Kd.C k172 w A l.length l) (hsz : l.length ≤ 1048576) (hps : ∀ x ∈ l, x.f1.length ≤ 1048576) : Calls Try.prog 70 #[.slice A l.length c] w fun e w' => ∃ B cb, e = .returned (.slice B l.length cb) ∧ l.length ≤ cb ∧ Kd.R k65 65 w' w.heap.size (fun _ => True) (.slice B l.length cb) (l.map cBridge) ∧ Below w.heap.size w w' := by
  have hu1 := Try.underlying172
  have hu2 := Try.underlying65
  replace hC := Aside0.mk hC
  replace hps := Aside0.mk hps
  have i0 : (0 : Int) ≤ (l.length : Int) := by omega
  go_enter Try.func70, Try.ntmps70
  go_wp2_with (first | ((with_reducible refine gate_dst (N := 7) rfl ?_); refine Kd.R_make k65 _ 65 rfl (N := 7) rfl 29 _ _ rfl (l.length : Int) rfl rfl Try.underlying29 (.agg #[(.int .i64 0), (.slice none 0 0)]) 32 info65 rfl (by decide) (by omega) z65 (ok := fun _ => True) (okp := fun _ => True) (k65_mkM _ _ _ z65 (Kd.R_nil _ _ _ _ _)) (fun _ hk => hk) trivial (by omega) (by omega) (Below.refl _ _) (Nat.le_refl _) ?_; intro vt w1 hT hb _ _; rw [Int.toNat_natCast] at hT; obtain ⟨Ao, co, eo⟩ := Kd.R_slice hT; rw [List.length_replicate] at eo; subst eo; have hco := (Kd.R_reads' hT).2.1; replace hT := Aside0.mk hT; replace hb := Aside0.mk hb))
  go_loopw [4] (fun vi wr => ∃ (k : Nat) (acc : List S65), k ≤ l.length ∧ acc.length = l.length ∧ vi = .int .i64 k ∧ Aside0 (acc = (l.take k).map cBridge ++ (List.replicate l.length z65).drop k) ∧ Aside0 (Kd.R k65 65 wr w.heap.size (fun _ => True) (.slice Ao l.length co) acc) ∧ Aside0 (Below w.heap.size w wr)) (fun vi _ => l.length - (intOf vi).toNat)
  case atStart => exact ⟨0, List.replicate l.length z65, Nat.zero_le _, by simp, rfl, ⟨by simp⟩, ⟨hT.out⟩, ⟨hb.out⟩⟩
  case round =>
    obtain ⟨k, acc, hk, hal, rfl, hp, hO, hW⟩ := hrel
    by_cases hlt : k < l.length
    · obtain ⟨x, hx0⟩ : ∃ x, l[k]? = some x := ⟨_, List.getElem?_eq_getElem hlt⟩
      obtain ⟨ad, A1, c1, eA, hblk, h0, h1, hl1, hC1⟩ := get172 (Kd.C_below hC.out hW.out) hx0
      subst eA
      have hps1 := hps.out x (List.mem_of_getElem? hx0)
      have i1 : (0 : Int) ≤ (k : Int) := by omega
      have i2 : (k : Int) < (l.length : Int) := by omega
      obtain ⟨gt, ct, eot, hgb, hgt, _⟩ := Kd.R_form hO.out (by omega)
      rw [hal] at eot
      injection eot with ea _ ec
      subst ea ec
      have e := map_step cBridge hx0 hp.out (by simp; exact hlt)
      replace hx0 := Aside0.mk hx0
      replace e := Aside0.mk e
      replace hC1 := Aside0.mk hC1
      go_wp2_with (first | (go_at_call 128; (with_reducible refine (toBridge_c x A1 c1 _ hC1.out hps1).mono ?_); rintro e w2 ⟨B1, cb1, rfl, hP, hb2⟩; have hO2 := Aside0.mk (Kd.R_below hO.out hb2); have hP2 := Aside0.mk (show Kd.R k138 138 w2 w.heap.size (fun h => h ≠ gt) (.slice B1 x.f1.length cb1) (cBridge x).f1 from Kd.R_lower (Kd.R_mono (Kd.R_bound hP) (fun h hh => by have := hh.2.1; omega)) (below_size hW.out)); clear hP; replace hb2 := Aside0.mk (bthen hW.out hb2)) | ((with_reducible refine gate_store (t := 65) (p := 21) rfl ?_); refine R_storeA k65 (w0 := w) w.heap.size rfl rfl 65 _ _ rfl 65 (k : Int) acc (cBridge x) z65 _ [.int .i64 x.f0, .slice B1 x.f1.length cb1] (fun _ => True) (fun k => k ≠ gt) rfl rfl rfl rfl sz65 hO2.out i1 i2 (k65_mkM _ _ _ (cBridge x) hP2.out) (fun _ hk => ⟨trivial, hk⟩) hb2.out ?_; intro w3 hO3 hb3 _; replace hO3 := Aside0.mk hO3; replace hb3 := Aside0.mk hb3))
      go_roundw
      case rel => exact ⟨k + 1, acc.set k (cBridge x), by omega, by simp; exact hal, by go_num, ⟨e.out⟩, ⟨hO3.out⟩, ⟨hb3.out⟩⟩
      case measure => simp [intOf]; omega
    · have : k = l.length := by omega
      subst this
      go_wp2
      go_ret
      have e := hp.out
      rw [List.take_length, List.drop_eq_nil_of_le (by simp), List.append_nil] at e
      subst e
      exact ⟨_, _, rfl, hco, hO.out, hW.out⟩
theorem toNet_c (A B : Option Addr) (ca cb : Nat) (bs : List S172) (ls : List S175) (w : World) (hA : Kd.C k172 w A bs.length bs) (hB : Kd.C k175 w B ls.length ls) (hs1 : bs.length ≤ 1048576) (hs2 : ls.length ≤ 1048576) (hps : ∀ x ∈ bs, x.f1.length ≤ 1048576) :
    Calls Try.prog 15 #[.agg #[.slice A bs.length ca, .slice B ls.length cb]] w fun e w' => ∃ A' ca' B' cb', e = .returned (.agg #[.slice A' bs.length ca', .slice B' ls.length cb']) ∧ bs.length ≤ ca' ∧ ls.length ≤ cb' ∧ Kd.R k65 65 w' w.heap.size (fun _ => True) (.slice A' bs.length ca') (bs.map cBridge) ∧ Kd.R k145 145 w' w.heap.size (fun _ => True) (.slice B' ls.length cb') (ls.map cLink) ∧ Below w.heap.size w w' := by
  have hu1 := Try.underlying25
  have hu2 := Try.underlying32
  replace hA := Aside0.mk hA
  replace hB := Aside0.mk hB
  replace hps := Aside0.mk hps
  go_enter Try.func15, Try.ntmps15
  go_wp2_with (first | (go_at_call 70; (with_reducible refine (toBridgeS_c A ca bs _ (Kd.C_below hA.out (below_alloc (below_alloc (below_alloc (Below.refl _ _) _) _) _)) hs1 hps.out).mono ?_); rintro e w1 ⟨A', ca', rfl, hca', hO, hb⟩; obtain ⟨hc2, hf2⟩ := bcell hb; have hz0 : w.heap.size + 2 < w1.heap.size := (by have := hb.size; simp at this; omega); have hz1 : w.heap.size + 1 < w1.heap.size := (by omega); have hz2 : w.heap.size < w1.heap.size := (by omega); have hO2 := Aside0.mk (show Kd.R k65 65 w1 w.heap.size (fun k => w.heap.size + 2 < k) (.slice A' bs.length ca') (bs.map cBridge) from Kd.R_lower (Kd.R_mono (Kd.R_bound hO) (fun k hk => by have := hk.2.1; simp at this; omega)) (by simp; omega)); have HB := Aside0.mk (below_step (below_alloc (below_alloc (below_alloc (Below.refl _ _) _) _) _) hb); clear hb hO) | (go_at_call 71; (with_reducible refine (toLinkS_c B cb ls _ (Kd.C_below hB.out (below_set HB.out (by omega))) hs2).mono ?_); rintro e w2 ⟨B', cb', rfl, hcb', hP, hb2⟩; obtain ⟨hc3, hf3⟩ := bcell hb2; have hy0 : w.heap.size + 2 < w2.heap.size := (by have := hb2.size; simp at this; omega); have hy1 : w.heap.size + 1 < w2.heap.size := (by omega); have hy2 : w.heap.size < w2.heap.size := (by omega); have hP2 := Aside0.mk (show Kd.R k145 145 w2 w.heap.size (fun k => w.heap.size + 2 < k) (.slice B' ls.length cb') (ls.map cLink) from Kd.R_lower (Kd.R_mono (Kd.R_bound hP) (fun k hk => by have := hk.2.1; simp at this; omega)) (by simp; omega)); have hO3 := Aside0.mk (Kd.R_below (Kd.R_far hO2.out (p := ⟨w.heap.size + 1 + 1, 0, none⟩) (fun k hk => by show k ≠ w.heap.size + 1 + 1; omega) _) hb2); have HB2 := Aside0.mk (below_step (below_set HB.out (by omega)) hb2); clear hb2 hP))
  refine bodyPost_ret (v := .agg #[.slice A' bs.length ca', .slice B' ls.length cb']) ?_ rfl ⟨A', ca', B', cb', rfl, hca', hcb', Kd.R_mono (Kd.R_far (Kd.R_far (Kd.R_far hO3.out (p := ⟨w.heap.size + 1 + 1, 1, none⟩) (fun k hk => by show k ≠ w.heap.size + 1 + 1; omega) _) (p := ⟨w.heap.size + 1, 0, none⟩) (fun k hk => by show k ≠ w.heap.size + 1; omega) _) (p := ⟨w.heap.size + 1, 1, none⟩) (fun k hk => by show k ≠ w.heap.size + 1; omega) _) (fun _ _ => trivial), Kd.R_mono (Kd.R_far (Kd.R_far (Kd.R_far hP2.out (p := ⟨w.heap.size + 1 + 1, 1, none⟩) (fun k hk => by show k ≠ w.heap.size + 1 + 1; omega) _) (p := ⟨w.heap.size + 1, 0, none⟩) (fun k hk => by show k ≠ w.heap.size + 1; omega) _) (p := ⟨w.heap.size + 1, 1, none⟩) (fun k hk => by show k ≠ w.heap.size + 1; omega) _) (fun _ _ => trivial), by (repeat (refine below_set ?_ (by omega))); exact HB2.out⟩
  simp [results, Try.results15, go_sem, hc2, hc3, hz0, hz1, hz2, hy0, hy1, hy2]
end Go.Proofs.Ytbdmnjobhfhinaa.M
