/- Reads of ports, links and bridges; what a right port and bridge are; what lies across a link. No conditions beside those that each theorem states. -/
import Derived.Test.YtbdmnjobhfhinaaMx0
import Derived.Lib.Hide
import Derived.IntWalk
namespace Go.Proofs.Ytbdmnjobhfhinaa.M
open Go.RowKit Go.Proofs.YtbdmnjobhfhinaaW.PrintWords Go.Proofs.YtbdmnjobhfhinaaW.PrintLast Go.Proofs.YtbdmnjobhfhinaaW.PrintMore
set_option linter.unusedVariables false
set_option linter.unusedSimpArgs false
theorem rb {a b : Bool} (h : a = b) : Ending.returned (.bool a) = .returned (.bool b) := by rw [h]
theorem ri {k : IntKind} {a b : Int} (h : a = b) : Ending.returned (.int k a) = .returned (.int k b) := by rw [h]
theorem bcell {W w1 : World} (hb : Below W.heap.size W w1) : (∀ b o, b < W.heap.size → w1.cell? ⟨b, o, none⟩ = W.cell? ⟨b, o, none⟩) ∧ (∀ b o, b < W.heap.size → w1.frozen? ⟨b, o, none⟩ = W.frozen? ⟨b, o, none⟩) :=
  ⟨fun b o h => hb.cell (p := ⟨b, o, none⟩) h, fun b o h => hb.frozen (p := ⟨b, o, none⟩) h⟩
theorem bthen {w W w1 : World} (h : Below w.heap.size w W) (hb : Below W.heap.size W w1) : Below w.heap.size w w1 := below_then h h.size hb
theorem wp_same {P : Program} {c : Code} {Q : Exit → Act → World → Prop} {a : Act} {w : World} (h : ∀ wq, Below w.heap.size w wq → wq.heap.size = w.heap.size → c.wp P Q a wq) : c.wp P Q a w := h w (Below.refl _ _) rfl
def Same (W w' : World) : Prop := ∀ a : Addr, a.block < W.heap.size → w'.cell? a = W.cell? a
theorem Same.of {W w' : World} (h : Below W.heap.size W w') : Same W w' := fun a ha => h.cell (p := a) ha
abbrev v119 (a : S119) : Value := .agg #[.int .i64 a.f0, .int .i64 a.f1, .int .i64 a.f2, .int .i64 a.f3]
abbrev v138 (a : S138) : Value := .agg #[.bool a.f0, .bool a.f1, .int .i64 a.f2.f0, .int .i64 a.f2.f1, .int .i64 a.f2.f2, .int .i64 a.f2.f3, .int .i64 a.f3, .int .i64 a.f4, .int .i64 a.f5, .int .i64 a.f6, .bool a.f7]
def inB (x lo hi : Int) : Bool := decide (lo ≤ x) && decide (x ≤ hi)
def vecOkB (v : S119) : Bool := inB v.f0 1 9 && inB v.f2 1 9 && decide (v.f0 ≤ v.f2) && inB v.f1 0 20 && ((v.f1 == 0) == (v.f0 == v.f2)) && inB v.f3 0 3
def opB (p : S138) : Bool := (p.f5 == 1 || p.f5 == 2) && p.f6 == 0
def vec0B (v : S119) : Bool := v.f0 == 0 && v.f1 == 0 && v.f2 == 0 && v.f3 == 0
def portOkB (p : S138) : Bool :=
  (if p.f1 then p.f0 && vecOkB p.f2 && inB p.f3 0 8 && inB p.f4 1 3 else vec0B p.f2 && p.f3 == 0 && p.f4 == 0)
  && inB p.f5 0 3 && ((p.f5 == 0) == !p.f0) && inB p.f6 0 4 && (p.f7 == opB p)
set_option maxHeartbeats 4000000
set_option maxRecDepth 100000
theorem l1In_c (x lo hi : Int) (w : World) : Calls Try.prog 69 #[.int .i64 x, .int .i64 lo, .int .i64 hi] w fun e w' => e = .returned (.bool (inB x lo hi)) ∧ w = w' := by
  go_enter Try.func69, Try.ntmps69
  go_wp2
  all_goals (go_ret; exact ⟨rb (by unfold inB; simp_all <;> omega), rfl⟩)
theorem inRange_c (x lo hi : Int) (w : World) : Calls Try.prog 72 #[.int .i64 x, .int .i64 lo, .int .i64 hi] w fun e w' => e = .returned (.bool (inB x lo hi)) ∧ w = w' := by
  go_enter Try.func72, Try.ntmps72
  go_wp2
  all_goals (go_ret; exact ⟨rb (by unfold inB; simp_all <;> omega), rfl⟩)
theorem isPort_c (x : Int) (w : World) : Calls Try.prog 198 #[.int .i64 x] w fun e w' => e = .returned (.bool (inB x 0 3)) ∧ w = w' := by
  go_enter Try.func198, Try.ntmps198
  go_wp2_with (go_at_call 72; refine (inRange_c _ _ _ _).mono ?_; rintro e w1 ⟨rfl, rfl⟩)
  go_ret
  exact ⟨rfl, rfl⟩
theorem isHops_c (x : Int) (w : World) : Calls Try.prog 200 #[.int .i64 x] w fun e w' => e = .returned (.bool (inB x 0 8)) ∧ w = w' := by
  go_enter Try.func200, Try.ntmps200
  go_wp2_with (go_at_call 72; refine (inRange_c _ _ _ _).mono ?_; rintro e w1 ⟨rfl, rfl⟩)
  go_ret
  exact ⟨rfl, rfl⟩
theorem specVecOk_c (v : S119) (w : World) : Calls Try.prog 211 #[v119 v] w fun e w' => e = .returned (.bool (vecOkB v)) ∧ Below w.heap.size w w' := by
  have hu119 := Try.underlying119
  go_enter Try.func211, Try.ntmps211
  go_wp2_with (go_at_call 69; refine (l1In_c _ _ _ _).mono ?_; rintro e w1 ⟨rfl, rfl⟩)
  all_goals (go_ret; exact ⟨rb (by unfold vecOkB; first | (simp_all; done) | (simp_all; omega)), by repeat (first | exact Below.refl _ _ | apply below_alloc | apply pw_below_drewN | apply below_drew1)⟩)
theorem and_swap_b (a b c : Bool) : (a && b && c) = (a && c && b) := by cases a <;> cases b <;> cases c <;> rfl
theorem implVecOk_c (v : S119) (w : World) : Calls Try.prog 199 #[v119 v] w fun e w' => e = .returned (.bool (vecOkB v)) ∧ Below w.heap.size w w' := by
  have hu119 := Try.underlying119
  go_enter Try.func199, Try.ntmps199
  go_wp2_with (first | (go_at_call 72; refine (inRange_c _ _ _ _).mono ?_; rintro e w1 ⟨rfl, rfl⟩) | (go_at_call 198; refine (isPort_c _ _).mono ?_; rintro e w1 ⟨rfl, rfl⟩))
  all_goals (go_ret; exact ⟨rb (by unfold vecOkB; first | (simp_all; done) | (simp_all; omega) | (rcases ‹_ ∨ _› with h | h <;> first | omega | (simp_all; done))), by repeat (first | exact Below.refl _ _ | apply below_alloc | apply pw_below_drewN | apply below_drew1)⟩)
end Go.Proofs.Ytbdmnjobhfhinaa.M
namespace Go.Proofs.Ytbdmnjobhfhinaa.M
open Go.RowKit Go.Proofs.YtbdmnjobhfhinaaW.PrintWords Go.Proofs.YtbdmnjobhfhinaaW.PrintLast Go.Proofs.YtbdmnjobhfhinaaW.PrintMore
set_option linter.unusedVariables false
set_option linter.unusedSimpArgs false
set_option maxHeartbeats 4000000
set_option maxRecDepth 100000
theorem isOpenBy_c (p : S138) (w : World) : Calls Try.prog 209 #[v138 p] w fun e w' => e = .returned (.bool (opB p)) ∧ Below w.heap.size w w' := by
  have hu138 := Try.underlying138
  go_enter Try.func209, Try.ntmps209
  go_wp2
  all_goals (go_ret; exact ⟨rb (by unfold opB; first | (simp_all; done) | (simp_all; omega)), by repeat (first | exact Below.refl _ _ | apply below_alloc | apply pw_below_drewN | apply below_drew1)⟩)
theorem isOpenBy_u (a b : Bool) (c d e f g h i j : Int) (k : Bool) (w : World) : Calls Try.prog 209 #[.agg #[.bool a, .bool b, .int .i64 c, .int .i64 d, .int .i64 e, .int .i64 f, .int .i64 g, .int .i64 h, .int .i64 i, .int .i64 j, .bool k]] w fun e w' => e = .returned (.bool ((i == 1 || i == 2) && j == 0)) ∧ Below w.heap.size w w' := isOpenBy_c ⟨a, b, ⟨c, d, e, f⟩, g, h, i, j, k⟩ w
theorem implPortOk_c (p : S138) (w : World) : Calls Try.prog 159 #[v138 p] w fun e w' => e = .returned (.bool (portOkB p)) ∧ Below w.heap.size w w' := by
  have hu138 := Try.underlying138
  have hu119 := Try.underlying119
  go_enter Try.func159, Try.ntmps159
  go_wp2_with (first | (go_at_call 72; refine (inRange_c _ _ _ _).mono ?_; rintro e w1 ⟨rfl, rfl⟩) | (go_at_call 200; refine (isHops_c _ _).mono ?_; rintro e w1 ⟨rfl, rfl⟩) | (go_at_call 199; refine (implVecOk_c p.f2 _).mono ?_; rintro e w1 ⟨rfl, hb⟩; obtain ⟨hc, hf⟩ := bcell hb; replace hb := Aside0.mk hb) | (go_at_call 209; (with_reducible refine (isOpenBy_u _ _ _ _ _ _ _ _ _ _ _ _).mono ?_); rintro e w2 ⟨rfl, hb2⟩; obtain ⟨hc2, hf2⟩ := bcell hb2; replace hb2 := Aside0.mk hb2))
  all_goals (first | (go_ret; exact ⟨rb (by unfold portOkB vec0B; first | (simp_all; done) | (simp_all; omega)), by repeat (first | exact Below.refl _ _ | apply below_alloc | apply pw_below_drewN | apply below_drew1 | refine bthen ?_ hb.out | refine bthen ?_ hb2.out)⟩) | skip)
  · have hz1 : w.heap.size < w1.heap.size := by have := hb.out.size; simp at this; omega
    refine wp_same (fun wq hbq hzq => ?_)
    obtain ⟨hcq, hfq⟩ := bcell hbq
    have hz2 : w.heap.size < wq.heap.size := by simp [hzq, hz1]
    replace hbq := Aside0.mk hbq
    clear hzq
    go_region_held3 (fun w' => ∀ a : Addr, a.block < wq.heap.size → w'.cell? a = wq.cell? a) (first | exact fun _ _ => rfl | exact hs2) (first | (go_at_call 209; (with_reducible refine (isOpenBy_u _ _ _ _ _ _ _ _ _ _ _ _).mono ?_); rintro e w2 ⟨rfl, hb2⟩; have hs2 := Same.of hb2; replace hb2 := Aside0.mk hb2))
    go_wp2
    all_goals (go_ret; exact ⟨rb (by unfold portOkB opB vec0B at *; first | (simp_all; done) | (clear hcq hfq; cases hp0 : p.f0 <;> simp_all; done)), by repeat (first | exact Below.refl _ _ | apply below_alloc | apply pw_below_drewN | apply below_drew1 | refine bthen ?_ hbq.out | refine bthen ?_ hb2.out | refine bthen ?_ hb.out)⟩)
  · have hz1 : w.heap.size < w.heap.size + 1 := by omega
    refine wp_same (fun wq hbq hzq => ?_)
    obtain ⟨hcq, hfq⟩ := bcell hbq
    have hz2 : w.heap.size < wq.heap.size := by simp [hzq, hz1]
    replace hbq := Aside0.mk hbq
    clear hzq
    go_region_held3 (fun w' => ∀ a : Addr, a.block < wq.heap.size → w'.cell? a = wq.cell? a) (first | exact fun _ _ => rfl | exact hs2) (first | (go_at_call 209; (with_reducible refine (isOpenBy_u _ _ _ _ _ _ _ _ _ _ _ _).mono ?_); rintro e w2 ⟨rfl, hb2⟩; have hs2 := Same.of hb2; replace hb2 := Aside0.mk hb2))
    go_wp2
    all_goals (go_ret; exact ⟨rb (by unfold portOkB opB vec0B at *; first | (simp_all; done) | (clear hcq hfq; cases hp0 : p.f0 <;> simp_all; done)), by repeat (first | exact Below.refl _ _ | apply below_alloc | apply pw_below_drewN | apply below_drew1 | refine bthen ?_ hbq.out | refine bthen ?_ hb2.out | refine bthen ?_ hb.out)⟩)
end Go.Proofs.Ytbdmnjobhfhinaa.M
namespace Go.Proofs.Ytbdmnjobhfhinaa.M
open Go.RowKit Go.Proofs.YtbdmnjobhfhinaaW.PrintWords Go.Proofs.YtbdmnjobhfhinaaW.PrintLast Go.Proofs.YtbdmnjobhfhinaaW.PrintMore
set_option linter.unusedVariables false
set_option linter.unusedSimpArgs false
set_option maxHeartbeats 4000000
set_option maxRecDepth 100000
theorem specPortOk_c (p : S138) (w : World) : Calls Try.prog 163 #[v138 p] w fun e w' => e = .returned (.bool (portOkB p)) ∧ Below w.heap.size w w' := by
  have hu138 := Try.underlying138
  have hu119 := Try.underlying119
  go_enter Try.func163, Try.ntmps163
  go_wp2_with (first | (go_at_call 69; refine (l1In_c _ _ _ _).mono ?_; rintro e w1 ⟨rfl, rfl⟩) | (go_at_call 211; refine (specVecOk_c p.f2 _).mono ?_; rintro e w1 ⟨rfl, hb⟩; obtain ⟨hc, hf⟩ := bcell hb; replace hb := Aside0.mk hb))
  all_goals (first | (go_ret; exact ⟨rb (by unfold portOkB opB vec0B; first | (simp_all; done) | (cases h7 : p.f7 <;> cases h0 : p.f0 <;> simp_all; done)), by repeat (first | exact Below.refl _ _ | apply below_alloc | apply pw_below_drewN | apply below_drew1 | refine bthen ?_ hb.out)⟩) | skip)
end Go.Proofs.Ytbdmnjobhfhinaa.M
namespace Go.Proofs.Ytbdmnjobhfhinaa.M
open Go.RowKit Go.Proofs.YtbdmnjobhfhinaaW.PrintWords Go.Proofs.YtbdmnjobhfhinaaW.PrintLast Go.Proofs.YtbdmnjobhfhinaaW.PrintMore
set_option linter.unusedVariables false
set_option linter.unusedSimpArgs false
theorem get138 {w : World} {A : Option Addr} {l : List S138} (h : Kd.C k138 w A l.length l) {k : Nat} {x : S138} (hx : l[k]? = some x) : ∃ ad, A = some ad ∧ (ad.add (k * 11)).block < w.heap.size ∧ w.cell? (ad.add (k * 11)) = some (.bool x.f0) ∧ w.cell? ⟨(ad.add (k * 11)).block, (ad.add (k * 11)).off + 1, none⟩ = some (.bool x.f1) ∧ w.cell? ⟨(ad.add (k * 11)).block, (ad.add (k * 11)).off + 2, none⟩ = some (.int .i64 x.f2.f0) ∧ w.cell? ⟨(ad.add (k * 11)).block, (ad.add (k * 11)).off + 3, none⟩ = some (.int .i64 x.f2.f1) ∧ w.cell? ⟨(ad.add (k * 11)).block, (ad.add (k * 11)).off + 4, none⟩ = some (.int .i64 x.f2.f2) ∧ w.cell? ⟨(ad.add (k * 11)).block, (ad.add (k * 11)).off + 5, none⟩ = some (.int .i64 x.f2.f3) ∧ w.cell? ⟨(ad.add (k * 11)).block, (ad.add (k * 11)).off + 6, none⟩ = some (.int .i64 x.f3) ∧ w.cell? ⟨(ad.add (k * 11)).block, (ad.add (k * 11)).off + 7, none⟩ = some (.int .i64 x.f4) ∧ w.cell? ⟨(ad.add (k * 11)).block, (ad.add (k * 11)).off + 8, none⟩ = some (.int .i64 x.f5) ∧ w.cell? ⟨(ad.add (k * 11)).block, (ad.add (k * 11)).off + 9, none⟩ = some (.int .i64 x.f6) ∧ w.cell? ⟨(ad.add (k * 11)).block, (ad.add (k * 11)).off + 10, none⟩ = some (.bool x.f7) := by
  have hk : k < l.length := (List.getElem?_eq_some_iff.1 hx).1
  obtain ⟨ad, e, c0_, c1_, c2_, c3_, c4_, c5_, c6_, c7_, c8_, c9_, c10_⟩ := at_T138 h k (by omega) (by omega)
  have ex : rd_T138 l k = x := by simp [rd_T138, hx]
  rw [ex] at c0_ c1_ c2_ c3_ c4_ c5_ c6_ c7_ c8_ c9_ c10_
  simp only [Int.toNat_natCast] at c0_ c1_ c2_ c3_ c4_ c5_ c6_ c7_ c8_ c9_ c10_
  exact ⟨ad, e, World.block_lt_of_cell? _ _ c0_, c0_, c1_, c2_, c3_, c4_, c5_, c6_, c7_, c8_, c9_, c10_⟩
theorem get145 {w : World} {A : Option Addr} {l : List S145} (h : Kd.C k145 w A l.length l) {k : Nat} {x : S145} (hx : l[k]? = some x) : ∃ ad, A = some ad ∧ (ad.add (k * 4)).block < w.heap.size ∧ w.cell? (ad.add (k * 4)) = some (.int .i64 x.f0) ∧ w.cell? ⟨(ad.add (k * 4)).block, (ad.add (k * 4)).off + 1, none⟩ = some (.int .i64 x.f1) ∧ w.cell? ⟨(ad.add (k * 4)).block, (ad.add (k * 4)).off + 2, none⟩ = some (.int .i64 x.f2) ∧ w.cell? ⟨(ad.add (k * 4)).block, (ad.add (k * 4)).off + 3, none⟩ = some (.int .i64 x.f3) := by
  have hk : k < l.length := (List.getElem?_eq_some_iff.1 hx).1
  obtain ⟨ad, e, c0_, c1_, c2_, c3_⟩ := at_T145 h k (by omega) (by omega)
  have ex : rd_T145 l k = x := by simp [rd_T145, hx]
  rw [ex] at c0_ c1_ c2_ c3_
  simp only [Int.toNat_natCast] at c0_ c1_ c2_ c3_
  exact ⟨ad, e, World.block_lt_of_cell? _ _ c0_, c0_, c1_, c2_, c3_⟩
theorem get94 {w : World} {A : Option Addr} {l : List S94} (h : Kd.C k94 w A l.length l) {k : Nat} {x : S94} (hx : l[k]? = some x) : ∃ ad, A = some ad ∧ (ad.add (k * 3)).block < w.heap.size ∧ w.cell? (ad.add (k * 3)) = some (.int .i64 x.f0) ∧ w.cell? ⟨(ad.add (k * 3)).block, (ad.add (k * 3)).off + 1, none⟩ = some (.int .i64 x.f1) ∧ w.cell? ⟨(ad.add (k * 3)).block, (ad.add (k * 3)).off + 2, none⟩ = some (.int .i64 x.f2) := by
  have hk : k < l.length := (List.getElem?_eq_some_iff.1 hx).1
  obtain ⟨ad, e, c0_, c1_, c2_⟩ := at_T94 h k (by omega) (by omega)
  have ex : rd_T94 l k = x := by simp [rd_T94, hx]
  rw [ex] at c0_ c1_ c2_
  simp only [Int.toNat_natCast] at c0_ c1_ c2_
  exact ⟨ad, e, World.block_lt_of_cell? _ _ c0_, c0_, c1_, c2_⟩
theorem get162 {w : World} {A : Option Addr} {l : List S162} (h : Kd.C k162 w A l.length l) {k : Nat} {x : S162} (hx : l[k]? = some x) : ∃ ad, A = some ad ∧ (ad.add (k * 2)).block < w.heap.size ∧ w.cell? (ad.add (k * 2)) = some (.int .i64 x.f0) ∧ w.cell? ⟨(ad.add (k * 2)).block, (ad.add (k * 2)).off + 1, none⟩ = some (.int .i64 x.f1) := by
  have hk : k < l.length := (List.getElem?_eq_some_iff.1 hx).1
  obtain ⟨ad, e, c0_, c1_⟩ := at_T162 h k (by omega) (by omega)
  have ex : rd_T162 l k = x := by simp [rd_T162, hx]
  rw [ex] at c0_ c1_
  simp only [Int.toNat_natCast] at c0_ c1_
  exact ⟨ad, e, World.block_lt_of_cell? _ _ c0_, c0_, c1_⟩
theorem get65 {w : World} {A : Option Addr} {l : List S65} (h : Kd.C k65 w A l.length l) {k : Nat} {x : S65} (hx : l[k]? = some x) : ∃ ad A1 c1, A = some ad ∧ (ad.add (k * 2)).block < w.heap.size ∧ w.cell? (ad.add (k * 2)) = some (.int .i64 x.f0) ∧ w.cell? ⟨(ad.add (k * 2)).block, (ad.add (k * 2)).off + 1, none⟩ = some (.slice A1 x.f1.length c1) ∧ x.f1.length ≤ c1 ∧ k138.C w A1 x.f1.length x.f1 := by
  have hk : k < l.length := (List.getElem?_eq_some_iff.1 hx).1
  obtain ⟨ad, A1, c1, e, c0_, c1_, l1_, g1_⟩ := at_T65 h k (by omega) (by omega)
  have ex : rd_T65 l k = x := by simp [rd_T65, hx]
  rw [ex] at c0_ c1_ l1_ g1_
  simp only [Int.toNat_natCast] at c0_ c1_
  exact ⟨ad, A1, c1, e, World.block_lt_of_cell? _ _ c0_, c0_, c1_, l1_, g1_⟩
theorem clen {α : Type} {d : Kd α} {w : World} {A : Option Addr} {l : List α} (h : Kd.C d w A l.length l) : l.length ≤ 9223372036854775807 := h.2.1
theorem take_all {α : Type} {p : α → Bool} {l : List α} {k : Nat} {x : α} (h : (l.take k).all p = true) (hx : l[k]? = some x) : (l.take (k + 1)).all p = p x := by
  rw [List.take_add_one, hx]; simp only [Option.toList, List.all_append, h, List.all_cons, List.all_nil, Bool.and_true, Bool.true_and]
theorem all_false {α : Type} {p : α → Bool} {l : List α} {k : Nat} {x : α} (hx : l[k]? = some x) (h : p x = false) : l.all p = false := by
  rw [Bool.eq_false_iff]; intro ha; have := List.all_eq_true.1 ha x (List.mem_of_getElem? hx); rw [h] at this; cases this
theorem take_full {α : Type} {l : List α} : l.take l.length = l := List.take_length
def bridgeOkB (b : S65) : Bool := b.f1.all portOkB && inB b.f0 1 9 && inB b.f1.length 1 4
set_option maxHeartbeats 4000000
set_option maxRecDepth 100000
theorem specBridgeOk_c (id : Int) (A : Option Addr) (c : Nat) (l : List S138) (w : World) (hC : Kd.C k138 w A l.length l) : Calls Try.prog 102 #[.agg #[.int .i64 id, .slice A l.length c]] w fun e w' => e = .returned (.bool (bridgeOkB ⟨id, l⟩)) ∧ Below w.heap.size w w' := by
  have hu65 := Try.underlying65
  have hu138 := Try.underlying138
  have hlen := clen hC
  replace hC := Aside0.mk hC
  go_enter Try.func102, Try.ntmps102
  go_wp2
  go_loopw [3] (fun i wr => ∃ k : Nat, k ≤ l.length ∧ i = .int .i64 k ∧ Aside0 ((l.take k).all portOkB = true) ∧ Aside0 (Below (w.alloc (.cells #[.int .i64 id, .slice A l.length c] 65)).heap.size (w.alloc (.cells #[.int .i64 id, .slice A l.length c] 65)) wr)) (fun i _ => l.length - (intOf i).toNat)
  case atStart => exact ⟨0, Nat.zero_le _, rfl, ⟨by simp⟩, ⟨Below.refl _ _⟩⟩
  case round =>
    obtain ⟨k, hk, rfl, hp, hB⟩ := hrel
    obtain ⟨hc1, hf1⟩ := bcell hB.out
    have hsz : w.heap.size < wr.heap.size := by have := hB.out.size; simp at this; omega
    by_cases hlt : k < l.length
    · obtain ⟨x, hx⟩ : ∃ x, l[k]? = some x := ⟨_, List.getElem?_eq_getElem hlt⟩
      obtain ⟨ad, rfl, hblk, h0, h1, h2, h3, h4, h5, h6, h7, h8, h9, h10⟩ := get138 (Kd.C_below (Kd.C_below hC.out (below_alloc (Below.refl _ _) _)) hB.out) hx
      replace hx := Aside0.mk hx
      obtain ⟨q, hq⟩ : ∃ q, q = portOkB x := ⟨_, rfl⟩
      replace hq := Aside0.mk hq
      go_wp2_with (go_at_call 163; refine (specPortOk_c x _).mono ?_; rintro e w1 ⟨rfl, hb⟩; rw [← hq.out]; replace hb := Aside0.mk hb)
      · go_ret
        exact ⟨rb (by unfold bridgeOkB; rw [all_false hx.out (by rw [← hq.out]; simp_all)]; rfl), by repeat (first | exact Below.refl _ _ | apply below_alloc | apply pw_below_drewN | apply below_drew1 | refine bthen ?_ hb.out | refine bthen ?_ hB.out)⟩
      · go_roundw
        case rel => exact ⟨k + 1, by omega, by go_num, ⟨(take_all hp.out hx.out).trans (by rw [← hq.out]; simp_all)⟩, ⟨bthen hB.out hb.out⟩⟩
        case measure => simp [intOf]; omega
    · have : k = l.length := by omega
      subst this
      go_wp2_with (go_at_call 69; refine (l1In_c _ _ _ _).mono ?_; rintro e w1 ⟨rfl, rfl⟩)
      all_goals (go_ret; exact ⟨rb (by have e := hp.out; rw [take_full] at e; unfold bridgeOkB; simp_all), by repeat (first | exact Below.refl _ _ | apply below_alloc | apply pw_below_drewN | apply below_drew1 | refine bthen ?_ hb.out | refine bthen ?_ hB.out)⟩)
def portAt (bs : List S65) (a p : Int) : S138 := (bs.getD a.toNat z65).f1.getD p.toNat z138
def passB (bs : List S65) (x : S145) : Bool := (portAt bs x.f0 x.f1).f7 && (portAt bs x.f2 x.f3).f7
def EndIn (bs : List S65) (a p : Int) : Prop := ∃ i j : Nat, a = i ∧ p = j ∧ ∃ u s, bs[i]? = some u ∧ u.f1[j]? = some s
def LinkIn (bs : List S65) (x : S145) : Prop := EndIn bs x.f0 x.f1 ∧ EndIn bs x.f2 x.f3
theorem portAt_eq {bs : List S65} {i j : Nat} {u : S65} {s : S138} (h : bs[i]? = some u) (h2 : u.f1[j]? = some s) : portAt bs i j = s := by
  unfold portAt; simp [h, h2]
theorem drop_cons_of {α : Type} {l : List α} {k : Nat} {x : α} (hx : l[k]? = some x) : l.drop k = x :: l.drop (k + 1) := by
  obtain ⟨h, rfl⟩ := List.getElem?_eq_some_iff.1 hx
  exact List.drop_eq_getElem_cons h
end Go.Proofs.Ytbdmnjobhfhinaa.M
namespace Go.Proofs.Ytbdmnjobhfhinaa.M
open Go.RowKit Go.Proofs.YtbdmnjobhfhinaaW.PrintWords Go.Proofs.YtbdmnjobhfhinaaW.PrintLast Go.Proofs.YtbdmnjobhfhinaaW.PrintMore
set_option linter.unusedVariables false
set_option linter.unusedSimpArgs false
set_option maxHeartbeats 4000000
set_option maxRecDepth 100000
theorem implBridgeOk_c (id : Int) (A : Option Addr) (c : Nat) (l : List S138) (w : World) (hC : Kd.C k138 w A l.length l) : Calls Try.prog 100 #[.agg #[.int .i64 id, .slice A l.length c]] w fun e w' => e = .returned (.bool (bridgeOkB ⟨id, l⟩)) ∧ Below w.heap.size w w' := by
  have hu65 := Try.underlying65
  have hu138 := Try.underlying138
  have hlen := clen hC
  replace hC := Aside0.mk hC
  go_enter Try.func100, Try.ntmps100
  go_wp2
  go_loopw [8] (fun i wr => ∃ k : Nat, k ≤ l.length ∧ i = .int .i64 k ∧ Aside0 ((l.take k).all portOkB = true) ∧ Aside0 (Below (w.alloc (.cells #[.int .i64 id, .slice A l.length c] 65)).heap.size (w.alloc (.cells #[.int .i64 id, .slice A l.length c] 65)) wr)) (fun i _ => l.length - (intOf i).toNat)
  case atStart => exact ⟨0, Nat.zero_le _, rfl, ⟨by simp⟩, ⟨Below.refl _ _⟩⟩
  case round =>
    obtain ⟨k, hk, rfl, hp, hB⟩ := hrel
    obtain ⟨hc1, hf1⟩ := bcell hB.out
    have hsz : w.heap.size < wr.heap.size := by have := hB.out.size; simp at this; omega
    by_cases hlt : k < l.length
    · obtain ⟨x, hx⟩ : ∃ x, l[k]? = some x := ⟨_, List.getElem?_eq_getElem hlt⟩
      obtain ⟨ad, rfl, hblk, h0, h1, h2, h3, h4, h5, h6, h7, h8, h9, h10⟩ := get138 (Kd.C_below (Kd.C_below hC.out (below_alloc (Below.refl _ _) _)) hB.out) hx
      replace hx := Aside0.mk hx
      obtain ⟨q, hq⟩ : ∃ q, q = portOkB x := ⟨_, rfl⟩
      replace hq := Aside0.mk hq
      go_wp2_with (go_at_call 159; refine (implPortOk_c x _).mono ?_; rintro e w1 ⟨rfl, hb⟩; rw [← hq.out]; replace hb := Aside0.mk hb)
      · go_ret
        exact ⟨rb (by unfold bridgeOkB; rw [all_false hx.out (by rw [← hq.out]; simp_all)]; rfl), by repeat (first | exact Below.refl _ _ | apply below_alloc | apply pw_below_drewN | apply below_drew1 | refine bthen ?_ hb.out | refine bthen ?_ hB.out)⟩
      · go_roundw
        case rel => exact ⟨k + 1, by omega, by go_num, ⟨(take_all hp.out hx.out).trans (by rw [← hq.out]; simp_all)⟩, ⟨by repeat (first | exact Below.refl _ _ | apply below_alloc | apply pw_below_drewN | apply below_drew1 | refine bthen ?_ hb.out | refine bthen ?_ hB.out)⟩⟩
        case measure => simp [intOf]; omega
    · have : k = l.length := by omega
      subst this
      go_wp2_with (go_at_call 72; refine (inRange_c _ _ _ _).mono ?_; rintro e w1 ⟨rfl, rfl⟩)
      all_goals (go_ret; exact ⟨rb (by have e := hp.out; rw [take_full] at e; unfold bridgeOkB; simp_all), by repeat (first | exact Below.refl _ _ | apply below_alloc | apply pw_below_drewN | apply below_drew1 | refine bthen ?_ hb.out | refine bthen ?_ hB.out)⟩)
theorem ends_c (a p b q : Int) (w : World) : Calls Try.prog 160 #[.agg #[.int .i64 a, .int .i64 p, .int .i64 b, .int .i64 q]] w fun e w' => e = .returned (.tuple #[.agg #[.int .i64 a, .int .i64 p], .agg #[.int .i64 b, .int .i64 q]]) ∧ Below w.heap.size w w' := by
  have hu145 := Try.underlying145
  have hu162 := Try.underlying162
  go_enter Try.func160, Try.ntmps160
  go_wp2
  go_region
  go_wp2
  refine bodyPost_ret (v := .tuple #[.agg #[.int .i64 a, .int .i64 p], .agg #[.int .i64 b, .int .i64 q]]) (by simp [results, Try.results160, go_sem]) rfl ⟨rfl, ?_⟩
  repeat (first | exact Below.refl _ _ | apply below_alloc | apply pw_below_drewN | apply below_drew1 | (refine Below.setCell ?_ (by simp) _))
theorem isEnd_c (g : Nat) (A B : Option Addr) (ca cb : Nat) (bs : List S65) (ls : List S145) (x p : Int) (w : World) (hg : w.heap[g]? = some (.cells #[.slice A bs.length ca, .slice B ls.length cb] 32 (0, 0))) (hC : Kd.C k65 w A bs.length bs) : Calls Try.prog 161 #[.pointer (some ⟨g, 0, none⟩), .agg #[.int .i64 x, .int .i64 p]] w fun e w' => e = .returned (.bool (inB x 0 (bs.length - 1) && inB p 0 ((bs.getD x.toNat z65).f1.length - 1))) ∧ Below w.heap.size w w' := by
  have hu162 := Try.underlying162
  have hu32 := Try.underlying32
  have hlen := clen hC
  have hgl := blk_lt hg
  have hg0 := blk_cell hg 0
  have hw1 : IntKind.i64.wrap ((bs.length : Int) - 1) = (bs.length : Int) - 1 := IntWalk.i64_in _ (by omega)
  have hl0 : (0 : Int) ≤ (bs.length : Int) := by omega
  simp only [List.getElem?_toArray, List.getElem?_cons_zero] at hg0
  by_cases hx : inB x 0 (bs.length - 1) = true
  · have hx' : 0 ≤ x ∧ x ≤ (bs.length : Int) - 1 := by simpa [inB] using hx
    obtain ⟨k, rfl⟩ : ∃ k : Nat, x = k := ⟨x.toNat, by omega⟩
    have hk : k < bs.length := by omega
    obtain ⟨b, hb⟩ : ∃ b, bs[k]? = some b := ⟨_, List.getElem?_eq_getElem hk⟩
    obtain ⟨ad, A1, c1, rfl, hblk, h0, h1, hl, hC1⟩ := get65 hC hb
    have hlen2 := clen hC1
    have hw2 : IntKind.i64.wrap ((b.f1.length : Int) - 1) = (b.f1.length : Int) - 1 := IntWalk.i64_in _ (by omega)
    have hi1 : (0 : Int) ≤ (k : Int) := by omega
    have hi2 : (k : Int) < (bs.length : Int) := by omega
    have hd : bs.getD (k : Int).toNat z65 = b := by simp [hb]
    replace hC := Aside0.mk hC
    replace hb := Aside0.mk hb
    replace hd := Aside0.mk hd
    replace hC1 := Aside0.mk hC1
    clear hg hx'
    go_enter Try.func161, Try.ntmps161
    go_wp2
    go_quiet ((go_at_call 72; exact Calls.quiet_of_same ((inRange_c _ _ _ _).mono fun e w' ⟨h, hw⟩ => ⟨h, hw.symm⟩)))
    go_wp2
    go_ret
    exact ⟨rb (by rw [hd.out, hx]; rfl), by repeat (first | exact Below.refl _ _ | apply below_alloc | apply pw_below_drewN | apply below_drew1)⟩
  · have hx2 : inB x 0 (bs.length - 1) = false := by simpa using hx
    have F : ∀ W : World, Calls Try.prog 72 #[.int .i64 x, .int .i64 0, .int .i64 ((bs.length : Int) - 1)] W fun e w' => e = .returned (.bool false) ∧ w' = W := fun W => (inRange_c _ _ _ _).mono fun e w' ⟨h, hw⟩ => ⟨by rw [h, hx2], hw.symm⟩
    replace hx2 := Aside0.mk hx2
    clear hx hg
    replace hC := Aside0.mk hC
    go_enter Try.func161, Try.ntmps161
    go_wp2
    go_quiet ((go_at_call 72; (with_reducible exact Calls.quiet_of_same (F _))))
    go_wp2
    go_ret
    exact ⟨rb (by rw [hx2.out]; rfl), by repeat (first | exact Below.refl _ _ | apply below_alloc | apply pw_below_drewN | apply below_drew1)⟩
end Go.Proofs.Ytbdmnjobhfhinaa.M
namespace Go.Proofs.Ytbdmnjobhfhinaa.M
open Go.RowKit Go.Proofs.YtbdmnjobhfhinaaW.PrintWords Go.Proofs.YtbdmnjobhfhinaaW.PrintLast Go.Proofs.YtbdmnjobhfhinaaW.PrintMore
set_option linter.unusedVariables false
set_option linter.unusedSimpArgs false
set_option maxHeartbeats 4000000
set_option maxRecDepth 100000
theorem passes_c (g : Nat) (A B : Option Addr) (ca cb : Nat) (bs : List S65) (ls : List S145) (k : Nat) (x : S145) (w : World) (hg : w.heap[g]? = some (.cells #[.slice A bs.length ca, .slice B ls.length cb] 32 (0, 0))) (hA : Kd.C k65 w A bs.length bs) (hB : Kd.C k145 w B ls.length ls) (hx : ls[k]? = some x) (hin : LinkIn bs x) :
    Calls Try.prog 108 #[.pointer (some ⟨g, 0, none⟩), .int .i64 k] w fun e w' => e = .returned (.bool (passB bs x)) ∧ Below w.heap.size w w' := by
  have hu145 := Try.underlying145
  have hu32 := Try.underlying32
  have hlen := clen hB
  have hlenA := clen hA
  have hk : k < ls.length := (List.getElem?_eq_some_iff.1 hx).1
  obtain ⟨x0, x1, x2, x3⟩ := x
  obtain ⟨⟨a, p, ea, ep, u, s, hu, hs⟩, ⟨b, q, eb, eq, v, t, hv, ht⟩⟩ := hin
  subst ea ep eb eq
  have hpa := portAt_eq hu hs
  have hpb := portAt_eq hv ht
  have hia : a < bs.length := (List.getElem?_eq_some_iff.1 hu).1
  have hib : b < bs.length := (List.getElem?_eq_some_iff.1 hv).1
  have hip : p < u.f1.length := (List.getElem?_eq_some_iff.1 hs).1
  have hiq : q < v.f1.length := (List.getElem?_eq_some_iff.1 ht).1
  obtain ⟨ld, eld, hlb, l0, l1, l2, l3⟩ := get145 hB hx
  obtain ⟨ad, A1, c1, ead, hab, a0, a1, al, aC⟩ := get65 hA hu
  obtain ⟨bd, B1, d1, ebd, hbb, b0, b1, bl, bC⟩ := get65 hA hv
  cases eld
  cases ead
  cases ebd
  have hl1 := clen aC
  have hl2 := clen bC
  obtain ⟨pd, epd, hpb2, p0, p1, p2, p3, p4, p5, p6, p7, p8, p9, p10⟩ := get138 aC hs
  obtain ⟨qd, eqd, hqb2, q0, q1, q2, q3, q4, q5, q6, q7, q8, q9, q10⟩ := get138 bC ht
  cases epd
  cases eqd
  have hgl := blk_lt hg
  have hg0 := blk_cell hg 0
  have hg1 := blk_cell hg 1
  simp only [List.getElem?_toArray, List.getElem?_cons_zero, List.getElem?_cons_succ] at hg0 hg1
  have i1 : (0 : Int) ≤ (k : Int) := by omega
  have i2 : (k : Int) < (ls.length : Int) := by omega
  have i3 : (a : Int) < (bs.length : Int) := by omega
  have i4 : (b : Int) < (bs.length : Int) := by omega
  have i5 : (p : Int) < (u.f1.length : Int) := by omega
  have i6 : (q : Int) < (v.f1.length : Int) := by omega
  clear p0 p1 p2 p3 p4 p5 p6 p7 p8 p9 q0 q1 q2 q3 q4 q5 q6 q7 q8 q9
  replace hx := Aside0.mk hx
  replace hu := Aside0.mk hu
  replace hv := Aside0.mk hv
  replace hs := Aside0.mk hs
  replace ht := Aside0.mk ht
  replace hA := Aside0.mk hA
  replace hB := Aside0.mk hB
  replace aC := Aside0.mk aC
  replace bC := Aside0.mk bC
  replace hpa := Aside0.mk hpa
  replace hpb := Aside0.mk hpb
  clear hg
  obtain ⟨so, eso⟩ : ∃ so, so = s.f7 := ⟨_, rfl⟩
  rw [← eso] at p10
  replace eso := Aside0.mk eso
  cases so
  · go_enter Try.func108, Try.ntmps108
    go_wp2
    go_quiet (fail)
    go_wp2
    go_ret
    exact ⟨rb (by unfold passB; simp only [hpa.out, hpb.out, ← eso.out]; rfl), by repeat (first | exact Below.refl _ _ | apply below_alloc | apply pw_below_drewN | apply below_drew1)⟩
  · go_enter Try.func108, Try.ntmps108
    go_wp2
    go_quiet (fail)
    go_wp2
    go_ret
    exact ⟨rb (by unfold passB; simp only [hpa.out, hpb.out, ← eso.out]; rfl), by repeat (first | exact Below.refl _ _ | apply below_alloc | apply pw_below_drewN | apply below_drew1)⟩
def otherL (b p : Int) : List S145 → Int → (Int × Int × Int)
  | [], _ => (0, 0, -1)
  | x :: xs, i => if x.f0 = b ∧ x.f1 = p then (x.f2, x.f3, i) else if x.f2 = b ∧ x.f3 = p then (x.f0, x.f1, i) else otherL b p xs (i + 1)
theorem other_c (g : Nat) (A B : Option Addr) (ca cb : Nat) (bs : List S65) (ls : List S145) (b p : Int) (w : World) (hg : w.heap[g]? = some (.cells #[.slice A bs.length ca, .slice B ls.length cb] 32 (0, 0))) (hB : Kd.C k145 w B ls.length ls) :
    Calls Try.prog 165 #[.pointer (some ⟨g, 0, none⟩), .agg #[.int .i64 b, .int .i64 p]] w fun e w' => e = .returned (.tuple #[.agg #[.int .i64 (otherL b p ls 0).1, .int .i64 (otherL b p ls 0).2.1], .int .i64 (otherL b p ls 0).2.2]) ∧ Below w.heap.size w w' := by
  have hu145 := Try.underlying145
  have hu162 := Try.underlying162
  have hu32 := Try.underlying32
  have hlen := clen hB
  have hgl := blk_lt hg
  have hg0 := blk_cell hg 0
  have hg1 := blk_cell hg 1
  simp only [List.getElem?_toArray, List.getElem?_cons_zero, List.getElem?_cons_succ] at hg0 hg1
  replace hB := Aside0.mk hB
  clear hg
  obtain ⟨R, hR⟩ : ∃ R, R = otherL b p ls 0 := ⟨_, rfl⟩
  rw [← hR]
  replace hR := Aside0.mk hR
  go_enter Try.func165, Try.ntmps165
  go_wp2
  go_loopw [15] (fun i wr => ∃ k : Nat, k ≤ ls.length ∧ i = .int .i64 k ∧ Aside0 (R = otherL b p (ls.drop k) k) ∧ Aside0 (Below ((w.alloc (.cells #[.int .i64 b, .int .i64 p] 162)).alloc (.cells #[.int .i64 0, .int .i64 0] 162)).heap.size ((w.alloc (.cells #[.int .i64 b, .int .i64 p] 162)).alloc (.cells #[.int .i64 0, .int .i64 0] 162)) wr)) (fun i _ => ls.length - (intOf i).toNat)
  case atStart => exact ⟨0, Nat.zero_le _, rfl, ⟨hR.out⟩, ⟨Below.refl _ _⟩⟩
  case round =>
    obtain ⟨k, hk, rfl, hp, hW⟩ := hrel
    obtain ⟨hc1, hf1⟩ := bcell hW.out
    have hsz : w.heap.size + 1 < wr.heap.size := by have := hW.out.size; simp at this; omega
    by_cases hlt : k < ls.length
    · obtain ⟨x, hx⟩ : ∃ x, ls[k]? = some x := ⟨_, List.getElem?_eq_getElem hlt⟩
      obtain ⟨ad, rfl, hblk, h0, h1, h2, h3⟩ := get145 (Kd.C_below (Kd.C_below hB.out (by repeat (first | exact Below.refl _ _ | apply below_alloc))) hW.out) hx
      have e := hp.out
      rw [drop_cons_of hx, otherL] at e
      replace e := Aside0.mk e
      replace hx := Aside0.mk hx
      go_wp2_with (go_at_call 160; refine (ends_c _ _ _ _ _).mono ?_; rintro e w1 ⟨rfl, hb⟩; obtain ⟨hc2, hf2⟩ := bcell hb; have hz2 : w.heap.size + 1 < w1.heap.size := (by have := hb.size; simp at this; omega); have hz3 : w.heap.size < w1.heap.size := (by omega); have hz4 : w.heap.size < wr.heap.size + 1 := (by omega); have hz5 : w.heap.size + 1 < wr.heap.size + 1 := (by omega); have hz6 : w.heap.size < wr.heap.size := (by omega); replace hb := Aside0.mk hb)
      all_goals (first
        | (go_roundw
           case rel => exact ⟨k + 1, by omega, by go_num, ⟨by have e2 := e.out; rw [if_neg (by omega), if_neg (by omega)] at e2; exact e2⟩, ⟨(by repeat (first | exact Below.refl _ _ | apply below_alloc | apply pw_below_drewN | apply below_drew1 | (refine Below.setCell ?_ (by simp) _) | refine bthen ?_ hb.out | refine bthen ?_ hW.out))⟩⟩
           case measure => simp [intOf]; omega)
        | (refine bodyPost_ret (v := .tuple #[.agg #[.int .i64 R.1, .int .i64 R.2.1], .int .i64 R.2.2]) ?_ rfl ⟨rfl, (by repeat (first | exact Below.refl _ _ | apply below_alloc | apply pw_below_drewN | apply below_drew1 | (refine Below.setCell ?_ (by simp) _) | refine bthen ?_ hb.out | refine bthen ?_ hW.out))⟩
           have e2 := e.out
           first | rw [if_pos ⟨by assumption, by assumption⟩] at e2 | rw [if_neg (by omega), if_pos ⟨by assumption, by assumption⟩] at e2
           subst e2
           simp [results, Try.results165, go_sem, hc1, hc2, hz2, hz3, hz4, hz5, hz6, hsz] <;> omega))
    · have : k = ls.length := by omega
      subst this
      go_wp2
      have e := hp.out
      rw [List.drop_length, otherL] at e
      subst e
      exact bodyPost_ret (v := .tuple #[.agg #[.int .i64 0, .int .i64 0], .int .i64 (-1)]) (by simp [results, Try.results165, go_sem, hc1]) rfl ⟨rfl, by repeat (first | exact Below.refl _ _ | apply below_alloc | apply pw_below_drewN | apply below_drew1 | (refine Below.setCell ?_ (by simp) _) | refine bthen ?_ hW.out)⟩
def acrossI (bs : List S65) (ls : List S145) (b p : Int) : Bool :=
  decide (0 ≤ (otherL b p ls 0).2.2) && passB bs (ls.getD (otherL b p ls 0).2.2.toNat z145)
theorem otherL_range (b p : Int) (ls : List S145) (i : Int) (hi : 0 ≤ i) : (otherL b p ls i).2.2 = -1 ∨ (i ≤ (otherL b p ls i).2.2 ∧ (otherL b p ls i).2.2 < i + ls.length) := by
  induction ls generalizing i with
  | nil => simp [otherL]
  | cons x xs ih =>
    unfold otherL
    split
    · right; simp; omega
    · split
      · right; simp; omega
      · rcases ih (i + 1) (by omega) with h | h
        · left; exact h
        · right; simp; omega
theorem across_c (g : Nat) (A B : Option Addr) (ca cb : Nat) (bs : List S65) (ls : List S145) (b p : Int) (w : World) (hg : w.heap[g]? = some (.cells #[.slice A bs.length ca, .slice B ls.length cb] 32 (0, 0))) (hA : Kd.C k65 w A bs.length bs) (hB : Kd.C k145 w B ls.length ls) (hin : ∀ x ∈ ls, LinkIn bs x) :
    Calls Try.prog 120 #[.pointer (some ⟨g, 0, none⟩), .agg #[.int .i64 b, .int .i64 p]] w fun e w' => e = .returned (.tuple #[.agg #[.int .i64 (otherL b p ls 0).1, .int .i64 (otherL b p ls 0).2.1], .bool (acrossI bs ls b p)]) ∧ Below w.heap.size w w' := by
  have hu162 := Try.underlying162
  have hu32 := Try.underlying32
  have hlen := clen hB
  have hgl := blk_lt hg
  have hr := otherL_range b p ls 0 (by omega)
  have F := fun W => other_c g A B ca cb bs ls b p W
  unfold acrossI
  generalize otherL b p ls 0 = R at *
  obtain ⟨r1, r2, r3⟩ := R
  simp only at hr F ⊢
  replace hA := Aside0.mk hA
  replace hB := Aside0.mk hB
  replace hg := Aside0.mk hg
  by_cases h3 : 0 ≤ r3
  · obtain ⟨k, rfl⟩ : ∃ k : Nat, r3 = k := ⟨r3.toNat, by omega⟩
    have hk : k < ls.length := by omega
    obtain ⟨x, hx⟩ : ∃ x, ls[k]? = some x := ⟨_, List.getElem?_eq_getElem hk⟩
    have hxx : ls.getD (k : Int).toNat z145 = x := by simp [hx]
    rw [hxx]
    have hxi := hin x (List.mem_of_getElem? hx)
    replace hx := Aside0.mk hx
    replace hxi := Aside0.mk hxi
    replace hin := Aside0.mk hin
    have i0 : (0 : Int) ≤ (k : Int) := by omega
    clear hxx hr
    go_enter Try.func120, Try.ntmps120
    go_wp2_with (go_at_call 165; refine (F _ (blk_below hg.out (by repeat (first | exact Below.refl _ _ | apply below_alloc))) (Kd.C_below hB.out (by repeat (first | exact Below.refl _ _ | apply below_alloc)))).mono ?_; rintro e w1 ⟨rfl, hb⟩; obtain ⟨hc2, hf2⟩ := bcell hb; have hz3 : w.heap.size + 1 < w1.heap.size := (by have := hb.size; simp at this; omega); have hbx : w1.heap[w.heap.size + 1]? = some (.cells #[.int .i64 0, .int .i64 0] 162 (0, 0)) := (blk_below (g := w.heap.size + 1) (by simpa using blk_new (w.alloc _) (.cells #[.int .i64 0, .int .i64 0] 162)) hb); replace hbx := Aside0.mk hbx; replace hb := Aside0.mk hb)
    refine wp_same (fun wq hbq hzq => ?_)
    obtain ⟨hcq, hfq⟩ := bcell hbq
    have hz4 : w1.heap.size < wq.heap.size := by simp [hzq]
    have hz5 : w.heap.size + 1 < wq.heap.size := by omega
    have hz6 : w.heap.size + 1 ≠ w1.heap.size := by omega
    have hza : w.heap.size + 1 < w1.heap.size + 1 := by omega
    have hzb : w.heap.size < w1.heap.size := by omega
    have hz7 : w1.heap.size ≠ w.heap.size + 1 := by omega
    replace hbq := Aside0.mk hbq
    clear hzq
    go_region_held3 (fun w' => ∀ o, w'.cell? ⟨w1.heap.size, o, none⟩ = wq.cell? ⟨w1.heap.size, o, none⟩) (first | exact fun _ => rfl | exact fun o => hs2 _ hz4 | go_keep) (first | (go_at_call 108; (with_reducible refine (passes_c g A B ca cb bs ls k x _ (blk_below hg.out (by repeat (first | exact Below.refl _ _ | apply below_alloc | apply pw_below_drewN | apply below_drew1 | (refine Below.setCell ?_ (by simp) _) | refine bthen ?_ hbq.out | refine bthen ?_ hb2.out | refine bthen ?_ hb.out))) (Kd.C_below hA.out (by repeat (first | exact Below.refl _ _ | apply below_alloc | apply pw_below_drewN | apply below_drew1 | (refine Below.setCell ?_ (by simp) _) | refine bthen ?_ hbq.out | refine bthen ?_ hb2.out | refine bthen ?_ hb.out))) (Kd.C_below hB.out (by repeat (first | exact Below.refl _ _ | apply below_alloc | apply pw_below_drewN | apply below_drew1 | (refine Below.setCell ?_ (by simp) _) | refine bthen ?_ hbq.out | refine bthen ?_ hb2.out | refine bthen ?_ hb.out))) hx.out hxi.out).mono ?_); rintro e w2 ⟨rfl, hb2⟩; have hs2 := Same.of hb2; have hz8 : w1.heap.size < w2.heap.size := (by have := hb2.size; simp at this; omega); obtain ⟨hc4, hf4⟩ := bcell hb2; have hbx2 := blk_below (blk_drew (blk_below (blk_alloc hbx.out _) hbq.out)) hb2; have t0 : w2.cell? ⟨w.heap.size + 1, 0, none⟩ = some (.int .i64 0) := (blk_cell hbx2 0).trans rfl; have t2 : w2.cell? ⟨w.heap.size + 1, 1, none⟩ = some (.int .i64 0) := (blk_cell hbx2 1).trans rfl; have t1 := blk_frozen hbx2 0; have t3 := blk_frozen hbx2 1; replace hbx2 := Aside0.mk hbx2; replace hb2 := Aside0.mk hb2))
    go_wp2
    refine bodyPost_ret (v := .tuple #[.agg #[.int .i64 r1, .int .i64 r2], .bool (passB bs x)]) ?_ rfl ⟨?_, (by repeat (first | exact Below.refl _ _ | apply below_alloc | apply pw_below_drewN | apply below_drew1 | (refine Below.setCell ?_ (by simp) _) | refine bthen ?_ hbq.out | refine bthen ?_ hb2.out | refine bthen ?_ hb.out))⟩
    · have hz9 : w.heap.size + 1 < w2.heap.size := blk_lt hbx2.out
      simp [results, Try.results120, go_sem, t0, t2]
    · have e1 : decide ((0 : Int) ≤ (k : Int)) = true := decide_eq_true i0
      simp [e1]
  · have h3' : r3 = -1 := by omega
    subst h3'
    clear hr h3
    replace hin := Aside0.mk hin
    go_enter Try.func120, Try.ntmps120
    go_wp2_with (go_at_call 165; refine (F _ (blk_below hg.out (by repeat (first | exact Below.refl _ _ | apply below_alloc))) (Kd.C_below hB.out (by repeat (first | exact Below.refl _ _ | apply below_alloc)))).mono ?_; rintro e w1 ⟨rfl, hb⟩; obtain ⟨hc2, hf2⟩ := bcell hb; have hz3 : w.heap.size + 1 < w1.heap.size := (by have := hb.size; simp at this; omega); have hbx : w1.heap[w.heap.size + 1]? = some (.cells #[.int .i64 0, .int .i64 0] 162 (0, 0)) := (blk_below (g := w.heap.size + 1) (by simpa using blk_new (w.alloc _) (.cells #[.int .i64 0, .int .i64 0] 162)) hb); replace hbx := Aside0.mk hbx; replace hb := Aside0.mk hb)
    refine wp_same (fun wq hbq hzq => ?_)
    obtain ⟨hcq, hfq⟩ := bcell hbq
    have hz4 : w1.heap.size < wq.heap.size := by simp [hzq]
    have hz5 : w.heap.size + 1 < wq.heap.size := by omega
    have hz6 : w.heap.size + 1 ≠ w1.heap.size := by omega
    have hza : w.heap.size + 1 < w1.heap.size + 1 := by omega
    have hzb : w.heap.size < w1.heap.size := by omega
    have hz7 : w1.heap.size ≠ w.heap.size + 1 := by omega
    replace hbq := Aside0.mk hbq
    clear hzq
    have hbx3 := blk_alloc hbx.out (.cells #[.int .i64 r1, .int .i64 r2] 162)
    have t0 : wq.cell? ⟨w.heap.size + 1, 0, none⟩ = some (.int .i64 0) := (blk_cell (blk_below hbx3 hbq.out) 0).trans rfl
    have t2 : wq.cell? ⟨w.heap.size + 1, 1, none⟩ = some (.int .i64 0) := (blk_cell (blk_below hbx3 hbq.out) 1).trans rfl
    have t1 := blk_frozen (blk_below hbx3 hbq.out) 0
    have t3 := blk_frozen (blk_below hbx3 hbq.out) 1
    replace hbx3 := Aside0.mk hbx3
    go_region
    all_goals go_wp2
    refine bodyPost_ret (v := .tuple #[.agg #[.int .i64 r1, .int .i64 r2], .bool false]) ?_ rfl ⟨by simp, (by repeat (first | exact Below.refl _ _ | apply below_alloc | apply pw_below_drewN | apply below_drew1 | (refine Below.setCell ?_ (by simp) _) | refine bthen ?_ hbq.out | refine bthen ?_ hb2.out | refine bthen ?_ hb.out))⟩
    simp [results, Try.results120, go_sem, t0, t2]
end Go.Proofs.Ytbdmnjobhfhinaa.M
