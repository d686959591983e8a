/- The program: right nets, all visits, and how often each bridge is visited; the reference too. No conditions beside those that each theorem states. -/
import Derived.Test.YtbdmnjobhfhinaaVb
import Derived.Test.YtbdmnjobhfhinaaVa
namespace Go.Proofs.Ytbdmnjobhfhinaa.M
open Go.RowKit Go.Proofs.YtbdmnjobhfhinaaW.PrintWords Go.Proofs.YtbdmnjobhfhinaaW.PrintLast Go.Proofs.YtbdmnjobhfhinaaW.PrintMore
set_option linter.unusedVariables false
set_option linter.unusedSimpArgs false
set_option maxHeartbeats 4000000
set_option maxRecDepth 100000
theorem info162' : (Try.prog.info? 162).map (fun i => (i.zero, i.size, i.bytes)) = some (some (.agg #[(.int .i64 0), (.int .i64 0)]), 2, 16) := by kernel_rfl
theorem reads2 {W : World} {h : Nat} {a b c d : Int} (hb : W.heap[h]? = some (.cells #[.int .i64 a, .int .i64 b, .int .i64 c, .int .i64 d] 162 (0, 0))) : Kd.C k162 W (some ⟨h, 0, none⟩) 2 [(⟨a, b⟩ : S162), ⟨c, d⟩] := by
  refine ⟨rfl, by omega, fun _ => ⟨_, rfl, fun j p hp => ?_⟩⟩
  have c0 : W.cell? ⟨h, 0, none⟩ = some (.int .i64 a) := (blk_cell hb 0).trans rfl
  have c1 : W.cell? ⟨h, 1, none⟩ = some (.int .i64 b) := (blk_cell hb 1).trans rfl
  have c2 : W.cell? ⟨h, 2, none⟩ = some (.int .i64 c) := (blk_cell hb 2).trans rfl
  have c3 : W.cell? ⟨h, 3, none⟩ = some (.int .i64 d) := (blk_cell hb 3).trans rfl
  match j, hp with
  | 0, hp =>
    obtain rfl := Option.some.inj hp
    refine ⟨_, rfl, k162_mk W ⟨a, b⟩, fun i u hu => ?_⟩
    rw [add_plain]
    match i, hu with
    | 0, hu => exact c0.trans hu
    | 1, hu => exact c1.trans hu
    | i + 2, hu => simp at hu
  | 1, hp =>
    obtain rfl := Option.some.inj hp
    refine ⟨_, rfl, k162_mk W ⟨c, d⟩, fun i u hu => ?_⟩
    rw [add_plain]
    match i, hu with
    | 0, hu => exact c2.trans hu
    | 1, hu => exact c3.trans hu
    | i + 2, hu => simp at hu
  | j + 2, hp => simp at hp
def isEndB (bs : List S65) (a p : Int) : Bool := inB a 0 (bs.length - 1) && inB p 0 ((bs.getD a.toNat z65).f1.length - 1)
def linkBad (bs : List S65) (x : S145) (u : List S162) : Bool := x.f0 == x.f2 || !isEndB bs x.f0 x.f1 || !isEndB bs x.f2 x.f3 || memE x.f0 x.f1 u || memE x.f2 x.f3 u
/-- The ends that are used, if all links are right. -/
def usedL (bs : List S65) : List S145 → List S162 → Option (List S162)
  | [], u => some u
  | x :: xs, u => if linkBad bs x u = true then none else usedL bs xs (u ++ [⟨x.f0, x.f1⟩, ⟨x.f2, x.f3⟩])
def portsI (u : List S162) (i : Int) : List S138 → Int → Bool
  | [], _ => true
  | x :: xs, p => (x.f0 == memE i p u) && portsI u i xs (p + 1)
def bridgesI (u : List S162) : List S65 → Int → Bool
  | [], _ => true
  | b :: rest, i => portsI u i b.f1 0 && bridgesI u rest (i + 1)
def linksOkB (bs : List S65) (ls : List S145) : Bool := match usedL bs ls [] with
  | none => false
  | some u => bridgesI u bs 0 && decide (ls.length ≤ 6)
theorem linksOk_c (g : Nat) (A B : Option Addr) (ca cb : Nat) (bs : List S65) (ls : List S145) (w : World) (hg : w.heap[g]? = some (.cells #[.slice A bs.length ca, .slice B ls.length cb] 32 (0, 0))) (hA : Kd.C k65 w A bs.length bs) (hB : Kd.C k145 w B ls.length ls) (hsz : ls.length ≤ 1048576) :
    Calls Try.prog 101 #[.pointer (some ⟨g, 0, none⟩)] w fun e w' => e = .returned (.bool (linksOkB bs ls)) ∧ Below w.heap.size w w' := by
  have hu145 := Try.underlying145
  have hu162 := Try.underlying162
  have hu65 := Try.underlying65
  have hu32 := Try.underlying32
  have hlenA := clen hA
  have hgl := blk_lt hg
  have hg0 := blk_cell hg 0
  have hg1 := blk_cell hg 1
  simp only [List.getElem?_toArray, List.getElem?_cons_zero, List.getElem?_cons_succ] at hg0 hg1
  obtain ⟨R, hR⟩ : ∃ R, R = linksOkB bs ls := ⟨_, rfl⟩
  rw [← hR]
  replace hR := Aside0.mk hR
  replace hA := Aside0.mk hA
  replace hB := Aside0.mk hB
  replace hg := Aside0.mk hg
  clear hg0
  go_enter Try.func101, Try.ntmps101
  go_wp2
  go_loopw [3, 17] (fun vu vi wr => ∃ (k : Nat) (acc : List S162), k ≤ ls.length ∧ vi = .int .i64 k ∧ Aside0 (Kd.R k162 162 wr w.heap.size (fun _ => True) vu acc) ∧ Aside0 (usedL bs ls [] = usedL bs (ls.drop k) acc) ∧ Aside0 (acc.length = 2 * k) ∧ Aside0 (Below w.heap.size w wr)) (fun _ vi _ => ls.length - (intOf vi).toNat)
  case atStart => exact ⟨0, [], Nat.zero_le _, rfl, ⟨Kd.R_nil _ _ _ _ _⟩, ⟨rfl⟩, ⟨rfl⟩, ⟨Below.refl _ _⟩⟩
  case round =>
    obtain ⟨k, acc, hk, rfl, hO, hp, hacc, hW⟩ := hrel
    obtain ⟨hc1, hf1⟩ := bcell hW.out
    obtain ⟨Ao, co, eo⟩ := Kd.R_slice hO.out
    subst eo
    by_cases hlt : k < ls.length
    · obtain ⟨x, hx0⟩ : ∃ x, ls[k]? = some x := ⟨_, List.getElem?_eq_getElem hlt⟩
      obtain ⟨ld, eld, hblk, l0, l1, l2, l3⟩ := get145 (Kd.C_below hB.out hW.out) hx0
      cases eld
      have e := hp.out
      rw [drop_cons_of hx0, usedL] at e
      have k0 : (0 : Int) ≤ (k : Int) := by omega
      have k1 : (k : Int) < (ls.length : Int) := by omega
      obtain ⟨q1, e1⟩ : ∃ q, (x.f0 == x.f2) = q := ⟨_, rfl⟩
      obtain ⟨q2, e2⟩ : ∃ q, q = isEndB bs x.f0 x.f1 := ⟨_, rfl⟩
      obtain ⟨q3, e3⟩ : ∃ q, q = isEndB bs x.f2 x.f3 := ⟨_, rfl⟩
      obtain ⟨q4, e4⟩ : ∃ q, q = memE x.f0 x.f1 acc := ⟨_, rfl⟩
      obtain ⟨q5, e5⟩ : ∃ q, q = memE x.f2 x.f3 acc := ⟨_, rfl⟩
      have E1 := fun W h1 h2 => isEnd_c g A (some ld) ca cb bs ls x.f0 x.f1 W h1 h2
      have E2 := fun W h1 h2 => isEnd_c g A (some ld) ca cb bs ls x.f2 x.f3 W h1 h2
      have M1 := fun W h1 => contains_c Ao co acc x.f0 x.f1 W h1
      have M2 := fun W h1 => contains_c Ao co acc x.f2 x.f3 W h1
      unfold isEndB at e2 e3
      simp only [← e2] at E1
      simp only [← e3] at E2
      simp only [← e4] at M1
      simp only [← e5] at M2
      have eb : linkBad bs x acc = (q1 || !q2 || !q3 || q4 || q5) := by unfold linkBad isEndB; rw [e1, ← e2, ← e3, ← e4, ← e5]
      rw [eb] at e
      replace e := Aside0.mk e
      replace e2 := Aside0.mk e2
      replace e3 := Aside0.mk e3
      replace e4 := Aside0.mk e4
      replace e5 := Aside0.mk e5
      replace eb := Aside0.mk eb
      replace hx0 := Aside0.mk hx0
      go_wp2_with (first | (go_at_call 160; (with_reducible refine (ends_c _ _ _ _ _).mono ?_); rintro e w1 ⟨rfl, hbn⟩; have HBel := Aside0.mk (show Below w.heap.size w ((w1.alloc (.cells #[.int .i64 x.f0, .int .i64 x.f1] 162)).alloc (.cells #[.int .i64 x.f2, .int .i64 x.f3] 162)) from below_alloc (below_alloc (bthen (below_alloc hW.out _) hbn) _) _); have hXa := Aside0.mk (show ((w1.alloc (.cells #[.int .i64 x.f0, .int .i64 x.f1] 162)).alloc (.cells #[.int .i64 x.f2, .int .i64 x.f3] 162)).heap[w1.heap.size]? = some (.cells #[.int .i64 x.f0, .int .i64 x.f1] 162 (0, 0)) from blk_alloc (blk_new _ _) _); have hXb := Aside0.mk (show ((w1.alloc (.cells #[.int .i64 x.f0, .int .i64 x.f1] 162)).alloc (.cells #[.int .i64 x.f2, .int .i64 x.f3] 162)).heap[w1.heap.size + 1]? = some (.cells #[.int .i64 x.f2, .int .i64 x.f3] 162 (0, 0)) from by simpa using blk_new (w1.alloc (.cells #[.int .i64 x.f0, .int .i64 x.f1] 162)) (.cells #[.int .i64 x.f2, .int .i64 x.f3] 162)); have hOO := Aside0.mk (Kd.R_alloc (Kd.R_alloc (Kd.R_below (Kd.R_alloc hO.out _) hbn) (.cells #[.int .i64 x.f0, .int .i64 x.f1] 162)) (.cells #[.int .i64 x.f2, .int .i64 x.f3] 162)); clear hbn) | (go_at_call 161; (with_reducible first | refine (E1 _ (blk_below hg.out HBel.out) (Kd.C_below hA.out HBel.out)).mono ?_ | refine (E2 _ (blk_below hg.out HBel.out) (Kd.C_below hA.out HBel.out)).mono ?_); rintro e wn ⟨rfl, hbn⟩; replace HBel := Aside0.mk (bthen HBel.out hbn); replace hXa := Aside0.mk (blk_below hXa.out hbn); replace hXb := Aside0.mk (blk_below hXb.out hbn); replace hOO := Aside0.mk (Kd.R_below hOO.out hbn); have ta0 : wn.cell? ⟨w1.heap.size, 0, none⟩ = some (.int .i64 x.f0) := (blk_cell hXa.out 0).trans rfl; have ta1 : wn.cell? ⟨w1.heap.size, 1, none⟩ = some (.int .i64 x.f1) := (blk_cell hXa.out 1).trans rfl; have tb0 : wn.cell? ⟨w1.heap.size + 1, 0, none⟩ = some (.int .i64 x.f2) := (blk_cell hXb.out 0).trans rfl; have tb1 : wn.cell? ⟨w1.heap.size + 1, 1, none⟩ = some (.int .i64 x.f3) := (blk_cell hXb.out 1).trans rfl; clear hbn) | (go_at_call 162; (with_reducible first | refine (M1 _ (Kd.R_reads' hOO.out).2.2).mono ?_ | refine (M2 _ (Kd.R_reads' hOO.out).2.2).mono ?_); rintro e wn ⟨rfl, hbn⟩; replace HBel := Aside0.mk (bthen HBel.out hbn); replace hXa := Aside0.mk (blk_below hXa.out hbn); replace hXb := Aside0.mk (blk_below hXb.out hbn); replace hOO := Aside0.mk (Kd.R_below hOO.out hbn); have ta0 : wn.cell? ⟨w1.heap.size, 0, none⟩ = some (.int .i64 x.f0) := (blk_cell hXa.out 0).trans rfl; have ta1 : wn.cell? ⟨w1.heap.size, 1, none⟩ = some (.int .i64 x.f1) := (blk_cell hXa.out 1).trans rfl; have tb0 : wn.cell? ⟨w1.heap.size + 1, 0, none⟩ = some (.int .i64 x.f2) := (blk_cell hXb.out 0).trans rfl; have tb1 : wn.cell? ⟨w1.heap.size + 1, 1, none⟩ = some (.int .i64 x.f3) := (blk_cell hXb.out 1).trans rfl; clear hbn) | (at_builtin; refine Kd.R_append_rows k162 (w0 := w) w.heap.size rfl (.tmp 53) (.tmp 56) 206 162 (.agg #[(.int .i64 0), (.int .i64 0)]) 16 rfl Try.underlying206 info162' rfl (by decide) (by omega) (.slice Ao acc.length co) acc [(⟨x.f0, x.f1⟩ : S162), ⟨x.f2, x.f3⟩] _ _ _ (fun _ => True) (fun _ => False) rfl rfl (Kd.R_alloc hOO.out _) (reads2 (blk_new wn _)) (fun _ _ h => h) (fun _ h => h.elim) (fun _ _ => trivial) (by repeat (first | exact HBel.out | apply below_alloc | exact Below.refl _ _ | refine bthen ?_ hW.out | exact hW.out)) (below_size (by repeat (first | exact HBel.out | apply below_alloc | exact Below.refl _ _ | refine bthen ?_ hW.out | exact hW.out))) (by have := hacc.out; omega) ?_; intro v5 w5 hO6 hb5 _ _; replace hO6 := Aside0.mk hO6; replace hb5 := Aside0.mk hb5))
      all_goals (first
        | (go_roundw
           case rel => exact ⟨k + 1, acc ++ [⟨x.f0, x.f1⟩, ⟨x.f2, x.f3⟩], by omega, by go_num, ⟨hO6.out⟩, ⟨by have e9 := e.out; rw [if_neg (by simp_all)] at e9; exact e9⟩, ⟨by rw [List.length_append, hacc.out]; simp; omega⟩, ⟨hb5.out⟩⟩
           case measure => simp [intOf]; omega)
        | (go_ret
           exact ⟨rb (by have e9 := e.out; rw [if_pos (by simp_all)] at e9; rw [hR.out]; unfold linksOkB; rw [e9]), HBel.out⟩))
    · have : k = ls.length := by omega
      subst this
      have hgr := blk_below hg.out hW.out
      have hgl2 := blk_lt hgr
      have hq0 : wr.cell? ⟨g, 0, none⟩ = some (.slice A bs.length ca) := (blk_cell hgr 0).trans rfl
      have hq1 : wr.cell? ⟨g, 1, none⟩ = some (.slice B ls.length cb) := (blk_cell hgr 1).trans rfl
      have eR : R = (bridgesI acc bs 0 && decide (ls.length ≤ 6)) := by
        have e9 := hp.out
        rw [List.drop_length, usedL] at e9
        rw [hR.out]; unfold linksOkB; rw [e9]
      replace eR := Aside0.mk eR
      replace hgr := Aside0.mk hgr
      clear hc1 hf1 hg1
      go_wp2
      have hOr := hO
      have hAr := Aside0.mk (Kd.C_below hA.out hW.out)
      go_loopw [64] (fun vi wv => ∃ (i : Nat), i ≤ bs.length ∧ vi = .int .i64 i ∧ Aside0 (R = (bridgesI acc (bs.drop i) i && decide (ls.length ≤ 6))) ∧ Aside0 (Below wr.heap.size wr wv)) (fun vi _ => bs.length - (intOf vi).toNat)
      case atStart => exact ⟨0, Nat.zero_le _, rfl, ⟨eR.out⟩, ⟨Below.refl _ _⟩⟩
      case round =>
        obtain ⟨i, hi, rfl, hpi, hV⟩ := hrel
        have hAv := Kd.C_below hAr.out hV.out
        by_cases hlt : i < bs.length
        · obtain ⟨b, hb0⟩ : ∃ b, bs[i]? = some b := ⟨_, List.getElem?_eq_getElem hlt⟩
          obtain ⟨ad, A1, c1, rfl, hblk, h0, h1, hl, hC1⟩ := get65 hAv hb0
          have e := hpi.out
          rw [drop_cons_of hb0, bridgesI] at e
          replace e := Aside0.mk e
          have i0 : (0 : Int) ≤ (i : Int) := by omega
          have i1 : (i : Int) < (bs.length : Int) := by omega
          have hl5 := clen hC1
          replace hb0 := Aside0.mk hb0
          replace hC1 := Aside0.mk hC1
          replace hAv := Aside0.mk hAv
          go_wp2
          go_loopw [72] (fun vk wt => ∃ (k : Nat), k ≤ b.f1.length ∧ vk = .int .i64 k ∧ Aside0 (R = (portsI acc i (b.f1.drop k) k && (bridgesI acc (bs.drop (i + 1)) (i + 1) && decide (ls.length ≤ 6)))) ∧ Aside0 (Below (wr.alloc (.cells #[.int .i64 b.f0, .slice A1 b.f1.length c1] 65)).heap.size (wr.alloc (.cells #[.int .i64 b.f0, .slice A1 b.f1.length c1] 65)) wt)) (fun vk _ => b.f1.length - (intOf vk).toNat)
          case atStart => exact ⟨0, Nat.zero_le _, rfl, ⟨by rw [e.out, Bool.and_assoc]; rfl⟩, ⟨Below.refl _ _⟩⟩
          case round =>
            obtain ⟨k, hk, rfl, hpk, hU⟩ := hrel
            by_cases hlk : k < b.f1.length
            · obtain ⟨y, hy0⟩ : ∃ y, b.f1[k]? = some y := ⟨_, List.getElem?_eq_getElem hlk⟩
              obtain ⟨pd, epd, hpblk, p0, p1, p2, p3, p4, p5, p6, p7, p8, p9, p10⟩ := get138 (Kd.C_below (Kd.C_alloc hC1.out (.cells #[.int .i64 b.f0, .slice A1 b.f1.length c1] 65)) hU.out) hy0
              cases epd
              have e2 := hpk.out
              rw [drop_cons_of hy0, portsI] at e2
              obtain ⟨q, hq⟩ : ∃ q, q = memE (i : Int) (k : Int) acc := ⟨_, rfl⟩
              have M1 := fun W h1 => contains_c Ao co acc i k W h1
              simp only [← hq] at M1
              rw [← hq] at e2
              replace e2 := Aside0.mk e2
              replace hq := Aside0.mk hq
              replace hy0 := Aside0.mk hy0
              have k0 : (0 : Int) ≤ (k : Int) := by omega
              have k1 : (k : Int) < (b.f1.length : Int) := by omega
              go_wp2
              refine wp_same (fun wq hbq hzq => ?_)
              have hpx := blk_below (blk_new wr (.cells #[.bool y.f0, .bool y.f1, .int .i64 y.f2.f0, .int .i64 y.f2.f1, .int .i64 y.f2.f2, .int .i64 y.f2.f3, .int .i64 y.f3, .int .i64 y.f4, .int .i64 y.f5, .int .i64 y.f6, .bool y.f7] 138)) hbq
              have x0 : wq.cell? ⟨wr.heap.size, 0, none⟩ = some (.bool y.f0) := (blk_cell hpx 0).trans rfl
              have hzx := blk_lt hpx
              replace hpx := Aside0.mk hpx
              replace hbq := Aside0.mk hbq
              clear hzq p0 p1 p2 p3 p4 p5 p6 p7 p8 p9 p10
              go_region_held3 (fun w' => ∀ a : Addr, a.block < wq.heap.size → w'.cell? a = wq.cell? a) (first | exact fun _ _ => rfl | exact hs5) (first | (go_at_call 162; (with_reducible refine (M1 _ (Kd.R_reads' (Kd.R_below hOr.out (by repeat (first | exact Below.refl _ _ | apply below_alloc | apply pw_below_drewN | apply below_drew1 | refine bthen ?_ hb5.out | refine bthen ?_ hbq.out | refine bthen ?_ hU.out | refine bthen ?_ hV.out)))).2.2).mono ?_); rintro e w5 ⟨rfl, hb5⟩; have hs5 := Same.of hb5; replace hb5 := Aside0.mk hb5))
              go_wp2
              · go_ret
                exact ⟨rb (by rw [e2.out]; have h9 : (!y.f0 == q) = true := (by assumption); have h8 : (y.f0 == q) = false := (by simpa using h9); rw [h8]; rfl), (by repeat (first | exact Below.refl _ _ | apply below_alloc | apply pw_below_drewN | apply below_drew1 | refine bthen ?_ hb5.out | refine bthen ?_ hbq.out | refine bthen ?_ hU.out | refine bthen ?_ hV.out | refine bthen ?_ hW.out))⟩
              · go_roundw
                case rel => exact ⟨k + 1, by omega, by go_num, ⟨by rw [e2.out]; have h9 : (!y.f0 == q) = false := (by assumption); have h8 : (y.f0 == q) = true := (by simpa using h9); rw [h8]; rfl⟩, ⟨(by repeat (first | exact Below.refl _ _ | apply below_alloc | apply pw_below_drewN | apply below_drew1 | refine bthen ?_ hb5.out | refine bthen ?_ hbq.out | refine bthen ?_ hU.out | refine bthen ?_ hV.out | refine bthen ?_ hW.out))⟩⟩
                case measure => simp [intOf]; omega
            · have : k = b.f1.length := by omega
              subst this
              go_wp2
              go_roundw
              case rel => exact ⟨i + 1, by omega, by go_num, ⟨by have e9 := hpk.out; rw [List.drop_length, portsI, Bool.true_and] at e9; exact e9⟩, ⟨(by repeat (first | exact Below.refl _ _ | apply below_alloc | apply pw_below_drewN | apply below_drew1 | refine bthen ?_ hb5.out | refine bthen ?_ hbq.out | refine bthen ?_ hU.out | refine bthen ?_ hV.out | refine bthen ?_ hW.out))⟩⟩
              case measure => simp [intOf]; omega
        · have : i = bs.length := by omega
          subst this
          have hgv := blk_below hgr.out hV.out
          have hz9 := blk_lt hgv
          have hz1 : wr.cell? ⟨g, 1, none⟩ = some (.slice B ls.length cb) := (blk_cell hgv 1).trans rfl
          replace hgv := Aside0.mk hgv
          go_wp2
          go_ret
          exact ⟨rb (by have e9 := hpi.out; rw [List.drop_length, bridgesI, Bool.true_and] at e9; rw [e9]; first | rfl | (apply decide_eq_decide.2; omega)), (by repeat (first | exact Below.refl _ _ | apply below_alloc | apply pw_below_drewN | apply below_drew1 | refine bthen ?_ hb5.out | refine bthen ?_ hbq.out | refine bthen ?_ hU.out | refine bthen ?_ hV.out | refine bthen ?_ hW.out))⟩
end Go.Proofs.Ytbdmnjobhfhinaa.M
namespace Go.Proofs.Ytbdmnjobhfhinaa.M
open Go.RowKit Go.Proofs.YtbdmnjobhfhinaaW.PrintWords Go.Proofs.YtbdmnjobhfhinaaW.PrintLast Go.Proofs.YtbdmnjobhfhinaaW.PrintMore
set_option linter.unusedVariables false
set_option linter.unusedSimpArgs false
set_option maxHeartbeats 4000000
set_option maxRecDepth 100000
def idsL (bs : List S65) : List S65 → Nat → Bool
  | [], _ => true
  | b :: rest, i => bridgeOkB b && (bs.take i).all (fun c => !(c.f0 == b.f0)) && idsL bs rest (i + 1)
def netOkI (bs : List S65) (ls : List S145) : Bool := idsL bs bs 0 && inB bs.length 1 5 && linksOkB bs ls
theorem implNetOk_c (A B : Option Addr) (ca cb : Nat) (bs : List S65) (ls : List S145) (w : World) (hA : Kd.C k65 w A bs.length bs) (hB : Kd.C k145 w B ls.length ls) (hsz : ls.length ≤ 1048576) (hca : bs.length ≤ ca) :
    Calls Try.prog 46 #[.agg #[.slice A bs.length ca, .slice B ls.length cb]] w fun e w' => e = .returned (.bool (netOkI bs ls)) ∧ Below w.heap.size w w' := by
  have hu65 := Try.underlying65
  have hu32 := Try.underlying32
  have hlenA := clen hA
  obtain ⟨R, hR⟩ : ∃ R, R = netOkI bs ls := ⟨_, rfl⟩
  rw [← hR]
  have hR2 : R = (idsL bs (bs.drop 0) 0 && (inB bs.length 1 5 && linksOkB bs ls)) := by rw [hR]; unfold netOkI; rw [Bool.and_assoc]; rfl
  replace hR2 := Aside0.mk hR2
  clear hR
  replace hA := Aside0.mk hA
  replace hB := Aside0.mk hB
  go_enter Try.func46, Try.ntmps46
  go_wp2
  go_loopw [10] (fun vi wr => ∃ (i : Nat), i ≤ bs.length ∧ vi = .int .i64 i ∧ Aside0 (R = (idsL bs (bs.drop i) i && (inB bs.length 1 5 && linksOkB bs ls))) ∧ Aside0 (Below (w.alloc (.cells #[.slice A bs.length ca, .slice B ls.length cb] 32)).heap.size (w.alloc (.cells #[.slice A bs.length ca, .slice B ls.length cb] 32)) wr)) (fun vi _ => bs.length - (intOf vi).toNat)
  case atStart => exact ⟨0, Nat.zero_le _, rfl, ⟨hR2.out⟩, ⟨Below.refl _ _⟩⟩
  case round =>
    obtain ⟨i, hi, rfl, hp, hW⟩ := hrel
    have hbx := blk_below (blk_new w (.cells #[.slice A bs.length ca, .slice B ls.length cb] 32)) hW.out
    have hbc0 : wr.cell? ⟨w.heap.size, 0, none⟩ = some (.slice A bs.length ca) := (blk_cell hbx 0).trans rfl
    have hbc1 : wr.cell? ⟨w.heap.size, 1, none⟩ = some (.slice B ls.length cb) := (blk_cell hbx 1).trans rfl
    have hsz2 := blk_lt hbx
    have hAr := Kd.C_below (Kd.C_alloc hA.out _) hW.out
    replace hbx := Aside0.mk hbx
    by_cases hlt : i < bs.length
    · obtain ⟨b, hb0⟩ : ∃ b, bs[i]? = some b := ⟨_, List.getElem?_eq_getElem hlt⟩
      obtain ⟨ad, A1, c1, rfl, hblk, h0, h1, hl, hC1⟩ := get65 hAr hb0
      have e := hp.out
      rw [drop_cons_of hb0, idsL] at e
      have i0 : (0 : Int) ≤ (i : Int) := by omega
      have i1 : (i : Int) < (bs.length : Int) := by omega
      have i2 : (i : Int) ≤ (ca : Int) := by omega
      obtain ⟨q, hq⟩ : ∃ q, q = bridgeOkB b := ⟨_, rfl⟩
      have F := fun W h => implBridgeOk_c b.f0 A1 c1 b.f1 W h
      have hbb : bridgeOkB ⟨b.f0, b.f1⟩ = q := by rw [hq]
      simp only [hbb] at F
      rw [← hq] at e
      replace e := Aside0.mk e
      replace hq := Aside0.mk hq
      replace hbb := Aside0.mk hbb
      replace hb0 := Aside0.mk hb0
      replace hC1 := Aside0.mk hC1
      replace hAr := Aside0.mk hAr
      cases q
      · go_wp2_with (go_at_call 100; (with_reducible refine (F _ (Kd.C_alloc hC1.out _)).mono ?_); rintro e w5 ⟨rfl, hb5⟩; replace hb5 := Aside0.mk hb5)
        go_ret
        exact ⟨rb (by rw [e.out]; rfl), (by repeat (first | exact Below.refl _ _ | apply below_alloc | apply pw_below_drewN | apply below_drew1 | refine bthen ?_ hb5.out | refine bthen ?_ hV.out | refine bthen ?_ hW1.out | refine bthen ?_ hW.out))⟩
      · go_wp2_with (go_at_call 100; (with_reducible refine (F _ (Kd.C_alloc hC1.out _)).mono ?_); rintro e w1 ⟨rfl, hb5⟩; have hbx1 := blk_below (blk_alloc hbx.out _) hb5; have hXb := blk_below (blk_new wr (.cells #[.int .i64 b.f0, .slice A1 b.f1.length c1] 65)) hb5; have u0 : w1.cell? ⟨w.heap.size, 0, none⟩ = some (.slice (some ad) bs.length ca) := (blk_cell hbx1 0).trans rfl; have u1 := blk_lt hbx1; replace hbx1 := Aside0.mk hbx1; replace hXb := Aside0.mk hXb; have hW1 := Aside0.mk (show Below (w.alloc (.cells #[.slice (some ad) bs.length ca, .slice B ls.length cb] 32)).heap.size (w.alloc (.cells #[.slice (some ad) bs.length ca, .slice B ls.length cb] 32)) w1 from bthen (below_alloc hW.out _) hb5); have hA1 := Aside0.mk (Kd.C_below (Kd.C_alloc hAr.out _) hb5); clear hb5)
        go_loopw [23] (fun vk wt => ∃ (k : Nat), k ≤ i ∧ vk = .int .i64 k ∧ Aside0 ((bs.take k).all (fun c => !(c.f0 == b.f0)) = true) ∧ Aside0 (Below w1.heap.size w1 wt)) (fun vk _ => i - (intOf vk).toNat)
        case atStart => exact ⟨0, Nat.zero_le _, rfl, ⟨by simp⟩, ⟨Below.refl _ _⟩⟩
        case round =>
          obtain ⟨k, hk, rfl, hall, hV⟩ := hrel
          have hXv := blk_below hXb.out hV.out
          have hA2 := Kd.C_below hA1.out hV.out
          by_cases hlk : k < i
          · obtain ⟨c, hc0⟩ : ∃ c, bs[k]? = some c := ⟨_, List.getElem?_eq_getElem (by omega)⟩
            obtain ⟨ad', A2, c2, ead, hblk2, g0, g1, gl, gC⟩ := get65 hA2 hc0
            cases ead
            have x0 := (blk_cell hXv 0)
            simp only [List.getElem?_toArray, List.getElem?_cons_zero] at x0
            have x1 := blk_lt hXv
            have k0 : (0 : Int) ≤ (k : Int) := by omega
            have k1 : (k : Int) < (bs.length : Int) := by omega
            have k2 : (k : Int) < (i : Int) := by omega
            replace hXv := Aside0.mk hXv
            replace hA2 := Aside0.mk hA2
            replace gC := Aside0.mk gC
            replace hc0 := Aside0.mk hc0
            clear u0 u1 hbc0 hbc1 hsz2 h0 h1 hblk
            go_wp2
            · go_ret
              exact ⟨rb (by rw [e.out, all_false (x := c) ((List.getElem?_take_of_lt hlk).trans hc0.out) (by have h9 : (c.f0 == b.f0) = true := (by assumption); rw [h9]; rfl)]; rfl), (by repeat (first | exact Below.refl _ _ | apply below_alloc | apply pw_below_drewN | apply below_drew1 | refine bthen ?_ hb5.out | refine bthen ?_ hV.out | refine bthen ?_ hW1.out | refine bthen ?_ hW.out))⟩
            · go_roundw
              case rel => exact ⟨k + 1, by omega, by go_num, ⟨(take_all hall.out hc0.out).trans (by have h9 : (c.f0 == b.f0) = false := (by assumption); rw [h9]; rfl)⟩, ⟨(by repeat (first | exact Below.refl _ _ | apply below_alloc | apply pw_below_drewN | apply below_drew1 | refine bthen ?_ hb5.out | refine bthen ?_ hV.out | refine bthen ?_ hW1.out | refine bthen ?_ hW.out))⟩⟩
              case measure => simp [intOf]; omega
          · have : k = i := by omega
            subst this
            replace hXv := Aside0.mk hXv
            replace hA2 := Aside0.mk hA2
            go_wp2
            go_roundw
            case rel => exact ⟨k + 1, by omega, by go_num, ⟨by rw [e.out, hall.out]; rfl⟩, ⟨(by repeat (first | exact Below.refl _ _ | apply below_alloc | apply pw_below_drewN | apply below_drew1 | refine bthen ?_ hb5.out | refine bthen ?_ hV.out | refine bthen ?_ hW1.out | refine bthen ?_ hW.out))⟩⟩
            case measure => simp [intOf]; omega
    · have : i = bs.length := by omega
      subst this
      have eR : R = (inB bs.length 1 5 && linksOkB bs ls) := by have e := hp.out; rw [List.drop_length, idsL, Bool.true_and] at e; exact e
      obtain ⟨q1, hq1⟩ : ∃ q, q = inB bs.length 1 5 := ⟨_, rfl⟩
      have F1 := fun W => inRange_c bs.length 1 5 W
      simp only [← hq1] at F1
      rw [← hq1] at eR
      have F2 := fun W h1 h2 h3 => linksOk_c w.heap.size A B ca cb bs ls W h1 h2 h3 hsz
      have hBr := Aside0.mk (Kd.C_below (Kd.C_alloc hB.out (.cells #[.slice A bs.length ca, .slice B ls.length cb] 32)) hW.out)
      replace eR := Aside0.mk eR
      replace hq1 := Aside0.mk hq1
      replace hAr := Aside0.mk hAr
      go_wp2_with (first | (go_at_call 72; (with_reducible refine (F1 _).mono ?_); rintro e w6 ⟨rfl, rfl⟩) | (go_at_call 101; (with_reducible refine (F2 _ hbx.out hAr.out hBr.out).mono ?_); rintro e w5 ⟨rfl, hb5⟩; replace hb5 := Aside0.mk hb5))
      all_goals (go_ret; exact ⟨rb (by rw [eR.out]; simp_all), (by repeat (first | exact Below.refl _ _ | apply below_alloc | apply pw_below_drewN | apply below_drew1 | refine bthen ?_ hb5.out | refine bthen ?_ hV.out | refine bthen ?_ hW1.out | refine bthen ?_ hW.out))⟩)
end Go.Proofs.Ytbdmnjobhfhinaa.M
namespace Go.Proofs.Ytbdmnjobhfhinaa.M
open Go.RowKit Go.Proofs.YtbdmnjobhfhinaaW.PrintWords Go.Proofs.YtbdmnjobhfhinaaW.PrintLast Go.Proofs.YtbdmnjobhfhinaaW.PrintMore
set_option linter.unusedVariables false
set_option linter.unusedSimpArgs false
set_option maxHeartbeats 4000000
set_option maxRecDepth 100000
/-- What the program's flood adds at the ports of one bridge. -/
def stepI (bs : List S65) (ls : List S145) (b but far i : Int) : List S138 → Int → (List S94 × List Int) → (List S94 × List Int)
  | [], _, s => s
  | _ :: xs, p, s => stepI bs ls b but far i xs (p + 1) (if p ≠ but ∧ acrossI bs ls b p = true ∧ s.1.length < 60 then (s.1 ++ [⟨(otherL b p ls 0).1, (otherL b p ls 0).2.1, far⟩], s.2 ++ [i]) else s)
def bfsI (bs : List S65) (ls : List S145) : Nat → Nat → S94 → (List S94 × List Int) → (List S94 × List Int)
  | 0, _, _, s => s
  | k + 1, i, v, s => match (stepI bs ls v.f0 v.f1 (v.f2 + 1) ((i : Int) - 1) (bs.getD v.f0.toNat z65).f1 0 s).1[i]? with
    | some u => if (stepI bs ls v.f0 v.f1 (v.f2 + 1) ((i : Int) - 1) (bs.getD v.f0.toNat z65).f1 0 s).1.length = 60 then stepI bs ls v.f0 v.f1 (v.f2 + 1) ((i : Int) - 1) (bs.getD v.f0.toNat z65).f1 0 s else bfsI bs ls k (i + 1) u (stepI bs ls v.f0 v.f1 (v.f2 + 1) ((i : Int) - 1) (bs.getD v.f0.toNat z65).f1 0 s)
    | none => stepI bs ls v.f0 v.f1 (v.f2 + 1) ((i : Int) - 1) (bs.getD v.f0.toNat z65).f1 0 s
theorem stepI_pre (bs : List S65) (ls : List S145) (b but far i : Int) : ∀ (xs : List S138) (p : Int) (s : List S94 × List Int), ∃ t u, stepI bs ls b but far i xs p s = (s.1 ++ t, s.2 ++ u) ∧ t.length = u.length ∧ (s.1.length ≤ 60 → s.1.length + t.length ≤ 60)
  | [], _, s => ⟨[], [], by simp [stepI], rfl, by simp⟩
  | _ :: xs, p, s => by
    unfold stepI
    split
    · rename_i h
      obtain ⟨t, u, e, h1, h2⟩ := stepI_pre bs ls b but far i xs (p + 1) (s.1 ++ [⟨(otherL b p ls 0).1, (otherL b p ls 0).2.1, far⟩], s.2 ++ [i])
      exact ⟨⟨(otherL b p ls 0).1, (otherL b p ls 0).2.1, far⟩ :: t, i :: u, by rw [e]; simp, by simp [h1], fun _ => by have := h2 (by simp; omega); simp at this ⊢; omega⟩
    · exact stepI_pre bs ls b but far i xs (p + 1) s
theorem bfsI_sub {bs : List S65} {ls : List S145} {x : S94} : ∀ (k i : Nat) (v : S94) (s : List S94 × List Int), x ∈ s.1 → x ∈ (bfsI bs ls k i v s).1
  | 0, _, _, s, h => h
  | k + 1, i, v, s, h => by
    obtain ⟨t, u, e, _, _⟩ := stepI_pre bs ls v.f0 v.f1 (v.f2 + 1) ((i : Int) - 1) (bs.getD v.f0.toNat z65).f1 0 s
    have h2 : x ∈ (stepI bs ls v.f0 v.f1 (v.f2 + 1) ((i : Int) - 1) (bs.getD v.f0.toNat z65).f1 0 s).1 := by rw [e]; exact List.mem_append_left _ h
    unfold bfsI
    split
    · split
      · exact h2
      · exact bfsI_sub k (i + 1) _ _ h2
    · exact h2
def floodI (bs : List S65) (ls : List S145) (x : Int) : List S94 × List Int := bfsI bs ls 61 0 ⟨x, -1, 0⟩ ([], [])
theorem info94' : (Try.prog.info? 94).map (fun i => (i.zero, i.size, i.bytes)) = some (some (.agg #[(.int .i64 0), (.int .i64 0), (.int .i64 0)]), 3, 24) := by kernel_rfl
theorem info3' : (Try.prog.info? 3).map (fun i => (i.zero, i.size, i.bytes)) = some (some (.int .i64 0), 1, 8) := by kernel_rfl
theorem ty3 : ∀ q, q ∈ 3 :: (Kd.int .i64).E → q ≠ 94 := by intro q hq; have h : q ∈ [3] := hq; simp at h; omega
theorem ty94 : ∀ q, q ∈ 94 :: k94.E → q ≠ 3 := by intro q hq; have h : q ∈ [94] := hq; simp at h; omega
theorem fl_app1 {W wa : World} {base h : Nat} {v vb : Value} {ac : List S94} {ab : List Int} {cs : Array Value} {t : Nat} (hO : Kd.R k94 94 W base (fun k => k ≠ h) v ac) (hOb : Kd.R (Kd.int .i64) 3 W base (fun k => k ≠ h) vb ab) (hbx : W.heap[h]? = some (.cells cs t (0, 0))) (hg : W.grownBy wa v.ownBlock) : Kd.R (Kd.int .i64) 3 wa base (fun k => k ≠ h) vb ab ∧ wa.heap[h]? = some (.cells cs t (0, 0)) :=
  ⟨Kd.R_over' hOb (Kd.R_typed hO) ty3 hg, blk_grown hbx hg (Kd.R_away hO (fun _ h => h))⟩
theorem fl_app2 {W wa : World} {base h : Nat} {v vb : Value} {ac : List S94} {ab : List Int} {cs : Array Value} {t : Nat} (hO : Kd.R k94 94 W base (fun k => k ≠ h) v ac) (hOb : Kd.R (Kd.int .i64) 3 W base (fun k => k ≠ h) vb ab) (hbx : W.heap[h]? = some (.cells cs t (0, 0))) (hg : W.grownBy wa vb.ownBlock) : Kd.R k94 94 wa base (fun k => k ≠ h) v ac ∧ wa.heap[h]? = some (.cells cs t (0, 0)) :=
  ⟨Kd.R_over' hO (Kd.R_typed hOb) ty94 hg, blk_grown hbx hg (Kd.R_away hOb (fun _ h => h))⟩
theorem flood_c (g : Nat) (A B : Option Addr) (ca cb : Nat) (bs : List S65) (ls : List S145) (x : Int) (w : World) (hg : w.heap[g]? = some (.cells #[.slice A bs.length ca, .slice B ls.length cb] 32 (0, 0))) (hA : Kd.C k65 w A bs.length bs) (hB : Kd.C k145 w B ls.length ls) (hin : ∀ y ∈ ls, LinkIn bs y) (hx : 0 ≤ x ∧ x < bs.length)
    (hv : ∀ v ∈ (floodI bs ls x).1, 0 ≤ v.f0 ∧ v.f0 < bs.length ∧ 0 ≤ v.f2 ∧ v.f2 ≤ 100) :
    Calls Try.prog 73 #[.pointer (some ⟨g, 0, none⟩), .int .i64 x] w fun e w' => ∃ v u, e = .returned (.tuple #[v, u]) ∧ Kd.R k94 94 w' w.heap.size (fun _ => True) v (floodI bs ls x).1 ∧ Kd.R (Kd.int .i64) 3 w' w.heap.size (fun _ => True) u (floodI bs ls x).2 ∧ Below w.heap.size w w' := by
  have hu94 := Try.underlying94
  have hu65 := Try.underlying65
  have hu32 := Try.underlying32
  have hu162 := Try.underlying162
  have hlenA := clen hA
  have hgl := blk_lt hg
  obtain ⟨G, hG⟩ : ∃ G, G = floodI bs ls x := ⟨_, rfl⟩
  rw [← hG] at hv ⊢
  replace hG := Aside0.mk hG
  replace hv := Aside0.mk hv
  replace hA := Aside0.mk hA
  replace hB := Aside0.mk hB
  replace hg := Aside0.mk hg
  replace hin := Aside0.mk hin
  replace hx := Aside0.mk hx
  go_enter Try.func73, Try.ntmps73
  go_wp2
  go_loopw [6, 7, 9] (fun vl vb vi wr => ∃ (k : Nat) (v : S94) (acc : List S94) (accb : List Int) (a0 : S94), k ≤ acc.length ∧ acc.length < 60 ∧ vi = .int .i64 ((k : Int) - 1) ∧ Aside0 (Kd.R k94 94 wr w.heap.size (fun h => h ≠ w.heap.size) vl acc) ∧ Aside0 (Kd.R (Kd.int .i64) 3 wr w.heap.size (fun h => h ≠ w.heap.size) vb accb) ∧ Aside0 (G = bfsI bs ls (61 - k) k v (acc, accb)) ∧ Aside0 (accb.length = acc.length) ∧ Aside0 (k = 0 → a0 = v ∧ v = ⟨x, -1, 0⟩) ∧ Aside0 (0 < k → acc[k - 1]? = some v) ∧ Aside0 (wr.heap[w.heap.size]? = some (.cells #[.int .i64 a0.f0, .int .i64 a0.f1, .int .i64 a0.f2] 94 (0, 0))) ∧ Aside0 (Below w.heap.size w wr)) (fun _ _ vi _ => 60 - (intOf vi + 1).toNat)
  case atStart => exact ⟨0, ⟨x, -1, 0⟩, [], [], ⟨x, -1, 0⟩, by simp, by simp, rfl, ⟨Kd.R_nil _ _ _ _ _⟩, ⟨Kd.R_nil _ _ _ _ _⟩, ⟨hG.out⟩, ⟨rfl⟩, ⟨fun _ => ⟨rfl, rfl⟩⟩, ⟨fun h => by omega⟩, ⟨blk_new w _⟩, ⟨below_alloc (Below.refl _ _) _⟩⟩
  case round =>
    obtain ⟨k, v, acc, accb, a0, hk, hk2, rfl, hO, hOb, hp, hlb, hz, hat, hbx, hW⟩ := hrel
    have hbc0 : wr.cell? ⟨w.heap.size, 0, none⟩ = some (.int .i64 a0.f0) := (blk_cell hbx.out 0).trans rfl
    have hbc1 : wr.cell? ⟨w.heap.size, 1, none⟩ = some (.int .i64 a0.f1) := (blk_cell hbx.out 1).trans rfl
    have hbc2 : wr.cell? ⟨w.heap.size, 2, none⟩ = some (.int .i64 a0.f2) := (blk_cell hbx.out 2).trans rfl
    have hsz := blk_lt hbx.out
    have hf0 := blk_frozen hbx.out 0
    have hf1 := blk_frozen hbx.out 1
    have hf2 := blk_frozen hbx.out 2
    obtain ⟨Ao, co, eo⟩ := Kd.R_slice hO.out
    subst eo
    have hC := (Kd.R_reads' hO.out).2.2
    have hval : 0 ≤ v.f0 ∧ v.f0 < bs.length ∧ 0 ≤ v.f2 ∧ v.f2 ≤ 100 := by
      by_cases hk0 : k = 0
      · obtain ⟨_, rfl⟩ := hz.out hk0
        exact ⟨hx.out.1, hx.out.2, by simp, by simp⟩
      · exact hv.out v (by rw [hp.out]; exact bfsI_sub _ _ _ _ (List.mem_of_getElem? (hat.out (by omega))))
    obtain ⟨v0, v1, v2⟩ := v
    simp only at hval
    obtain ⟨g1, g2, g3, g4⟩ := hval
    obtain ⟨m, rfl⟩ : ∃ m : Nat, v0 = m := ⟨v0.toNat, by omega⟩
    obtain ⟨c, hc0⟩ : ∃ c, bs[m]? = some c := ⟨_, List.getElem?_eq_getElem (by omega)⟩
    have e := hp.out
    rw [show 61 - k = (60 - k) + 1 by omega, bfsI] at e
    simp only [Int.toNat_natCast, List.getD, hc0, Option.getD_some] at e
    obtain ⟨iv, hiv⟩ : ∃ iv : Int, (k : Int) - 1 = iv := ⟨_, rfl⟩
    rw [hiv] at e ⊢
    obtain ⟨S, hS⟩ : ∃ S, S = stepI bs ls m v1 (v2 + 1) iv c.f1 0 (acc, accb) := ⟨_, rfl⟩
    rw [← hS] at e
    have w2 : IntKind.i64.wrap (v2 + 1) = v2 + 1 := IntWalk.i64_in _ (by omega)
    have w3 : IntKind.i64.wrap (iv + 1) = iv + 1 := IntWalk.i64_in _ (by omega)
    replace e := Aside0.mk e
    replace hS := Aside0.mk hS
    replace hc0 := Aside0.mk hc0
    have hor : k = 0 ∨ 0 < k := by omega
    rcases hor with hk0 | hk0
    focus (
      obtain ⟨rfl, _⟩ := hz.out hk0
      have i1 : iv < 0 := by omega
      replace hC := Aside0.mk hC
      replace hiv := Aside0.mk hiv
      replace hk0 := Aside0.mk hk0
      go_wp2
      have hbz := hbx
      have hOz := hO
      have hObz := hOb
      have hWz := hW)
    rotate_left
    focus (
      have hat2 := hat.out (by omega)
      obtain ⟨ad, eA, hblk, h0, h1, h2⟩ := get94 hC hat2
      cases eA
      have i1 : (0 : Int) ≤ iv := by omega
      have i2 : iv < (acc.length : Int) := by omega
      have i3 : iv.toNat = k - 1 := by omega
      replace hC := Aside0.mk hC
      replace hiv := Aside0.mk hiv
      replace hk0 := Aside0.mk hk0
      replace hat2 := Aside0.mk hat2
      go_wp2
      have hbz := Aside0.mk (blk_put (blk_put (blk_put hbx.out 0 (.int .i64 (m : Int)) rfl) 1 (.int .i64 v1) rfl) 2 (.int .i64 v2) rfl)
      have hOz := Aside0.mk (Kd.R_far (Kd.R_far (Kd.R_far hO.out (p := ⟨w.heap.size, 0, none⟩) (fun _ h => h) (.int .i64 (m : Int))) (p := ⟨w.heap.size, 1, none⟩) (fun _ h => h) (.int .i64 v1)) (p := ⟨w.heap.size, 2, none⟩) (fun _ h => h) (.int .i64 v2))
      have hObz := Aside0.mk (Kd.R_far (Kd.R_far (Kd.R_far hOb.out (p := ⟨w.heap.size, 0, none⟩) (fun _ h => h) (.int .i64 (m : Int))) (p := ⟨w.heap.size, 1, none⟩) (fun _ h => h) (.int .i64 v1)) (p := ⟨w.heap.size, 2, none⟩) (fun _ h => h) (.int .i64 v2))
      have hWz := Aside0.mk (Below.setCell (p := ⟨w.heap.size, 2, none⟩) (Below.setCell (p := ⟨w.heap.size, 1, none⟩) (Below.setCell (p := ⟨w.heap.size, 0, none⟩) hW.out (Nat.le_refl _) (.int .i64 (m : Int))) (Nat.le_refl _) (.int .i64 v1)) (Nat.le_refl _) (.int .i64 v2)))
    all_goals (
      refine wp_same (fun wz hz1 hz2 => ?_)
      replace hbz := Aside0.mk (blk_below hbz.out hz1)
      replace hOz := Aside0.mk (Kd.R_below hOz.out hz1)
      replace hObz := Aside0.mk (Kd.R_below hObz.out hz1)
      replace hWz := Aside0.mk (bthen hWz.out hz1)
      clear hz1 hz2 hbc0 hbc1 hbc2 hf0 hf1 hf2 hsz
      have hbc0 : wz.cell? ⟨w.heap.size, 0, none⟩ = some (.int .i64 (m : Int)) := (blk_cell hbz.out 0).trans rfl
      have hsz := blk_lt hbz.out
      have hgz := Aside0.mk (blk_below hg.out hWz.out)
      have hgc0 : wz.cell? ⟨g, 0, none⟩ = some (.slice A bs.length ca) := (blk_cell hgz.out 0).trans rfl
      have hgs := blk_lt hgz.out
      obtain ⟨bd, Ap, cp, eB, hblkb, hb0, hb1, hlp, hCp⟩ := get65 (Kd.C_below hA.out hWz.out) hc0.out
      subst eB
      have hl5 := clen hCp
      replace hCp := Aside0.mk hCp
      have m1 : (0 : Int) ≤ (m : Int) := by omega
      have m2 : (m : Int) < (bs.length : Int) := by omega
      go_quiet (fail)
      go_wp2
      go_loopw [6, 7, 33] (fun vl vb vp wr2 => ∃ (p : Nat) (ac : List S94) (ab : List Int), p ≤ c.f1.length ∧ ac.length ≤ 60 ∧ ab.length = ac.length ∧ vp = .int .i64 p ∧ Aside0 (Kd.R k94 94 wr2 w.heap.size (fun h => h ≠ w.heap.size) vl ac) ∧ Aside0 (Kd.R (Kd.int .i64) 3 wr2 w.heap.size (fun h => h ≠ w.heap.size) vb ab) ∧ Aside0 (S = stepI bs ls m v1 (v2 + 1) iv (c.f1.drop p) p (ac, ab)) ∧ Aside0 (wr2.heap[w.heap.size]? = some (.cells #[.int .i64 m, .int .i64 v1, .int .i64 v2] 94 (0, 0))) ∧ Aside0 (Below w.heap.size w wr2)) (fun _ _ vp _ => c.f1.length - (intOf vp).toNat)
      case atStart => exact ⟨0, acc, accb, Nat.zero_le _, by omega, hlb.out, rfl, ⟨Kd.R_drewN hOz.out _⟩, ⟨Kd.R_drewN hObz.out _⟩, ⟨hS.out⟩, ⟨blk_below hbz.out (pw_below_drewN (Below.refl _ _) _)⟩, ⟨pw_below_drewN hWz.out _⟩⟩
      case round =>
        clear hbc0 hgc0 hgs hsz
        obtain ⟨p, ac, ab, hpl, hal, hbl, rfl, hO2, hOb2, hp2, hbx2, hW2⟩ := hrel
        have hbc0 : wr.cell? ⟨w.heap.size, 0, none⟩ = some (.int .i64 (m : Int)) := (blk_cell hbx2.out 0).trans rfl
        have hbc1 : wr.cell? ⟨w.heap.size, 1, none⟩ = some (.int .i64 v1) := (blk_cell hbx2.out 1).trans rfl
        have hbc2 : wr.cell? ⟨w.heap.size, 2, none⟩ = some (.int .i64 v2) := (blk_cell hbx2.out 2).trans rfl
        have hsz := blk_lt hbx2.out
        obtain ⟨Ao2, co2, eo2⟩ := Kd.R_slice hO2.out
        obtain ⟨Ab2, cb2, eb2⟩ := Kd.R_slice hOb2.out
        subst eo2 eb2
        have hOb3 := hOb2.out
        rw [hbl] at hOb3
        replace hOb3 := Aside0.mk hOb3
        by_cases hlt : p < c.f1.length
        · obtain ⟨y, hy0⟩ : ∃ y, c.f1[p]? = some y := ⟨_, List.getElem?_eq_getElem hlt⟩
          have e2 := hp2.out
          rw [drop_cons_of hy0, stepI] at e2
          have F := fun W h0 h1 h2 => across_c g (some bd) B ca cb bs ls m p W h0 h1 h2 hin.out
          simp only at e2
          generalize acrossI bs ls (m : Int) (p : Int) = t at F e2
          generalize otherL (m : Int) (p : Int) ls 0 = Q at F e2
          obtain ⟨t1, t2, t3⟩ := Q
          simp only at F e2
          replace e2 := Aside0.mk e2
          replace hy0 := Aside0.mk hy0
          obtain ⟨q, eq⟩ : ∃ q, ((p : Int) == v1) = q := ⟨_, rfl⟩
          have hor : (ac.length : Int) < 60 ∨ (60 : Int) ≤ (ac.length : Int) := by omega
          cases q
          · rcases hor with h60 | h60
            all_goals cases t
            all_goals (
              go_wp2_with (first | (go_at_call 120; (with_reducible refine (F _ (blk_below hg.out hW2.out) (Kd.C_below hA.out hW2.out) (Kd.C_below hB.out hW2.out)).mono ?_); rintro e' w1 ⟨rfl, hb1⟩; have hbx3 := Aside0.mk (blk_below hbx2.out hb1); have hbd0 : w1.cell? ⟨w.heap.size, 0, none⟩ = some (.int .i64 (m : Int)) := (blk_cell hbx3.out 0).trans rfl; have hbd1 : w1.cell? ⟨w.heap.size, 1, none⟩ = some (.int .i64 v1) := (blk_cell hbx3.out 1).trans rfl; have hbd2 : w1.cell? ⟨w.heap.size, 2, none⟩ = some (.int .i64 v2) := (blk_cell hbx3.out 2).trans rfl; have hszd := blk_lt hbx3.out; have hszn : w.heap.size ≠ w1.heap.size := (by omega); have hszp : w.heap.size < w1.heap.size + 1 := (by omega); replace hb1 := Aside0.mk hb1) | (at_builtin; refine Kd.R_append k94 (w0 := w) w.heap.size rfl (.tmp 55) (.tmp 64) 39 94 (.agg #[(.int .i64 0), (.int .i64 0), (.int .i64 0)]) 24 rfl Try.underlying39 info94' rfl (by decide) (by omega) (.slice Ao2 ac.length co2) ac (⟨t1, t2, v2 + 1⟩ : S94) [.int .i64 t1, .int .i64 t2, .int .i64 (v2 + 1)] (fun h => h ≠ w.heap.size) (fun _ => False) rfl (by show (Value.slice (some ⟨w1.heap.size + 1, 0, none⟩) 1 1) = _; simp) (k94_mkM _ _ _ (⟨t1, t2, v2 + 1⟩ : S94)) (fun _ hk => hk.elim) (fun h hh => by have h2 : w1.heap.size ≤ h := Nat.le_trans (by simp) hh; omega) (Kd.R_alloc (Kd.R_below hO2.out hb1.out) _) (below_alloc (bthen hW2.out hb1.out) _) (below_size (below_alloc (bthen hW2.out hb1.out) _)) (by omega) ?_; intro va wa hO4 hB4 hg4 _; obtain ⟨hOb4, hbx4⟩ := fl_app1 (Kd.R_alloc (Kd.R_below hO2.out hb1.out) _) (Kd.R_alloc (Kd.R_below hOb3.out hb1.out) _) (blk_alloc hbx3.out _) hg4; have hszq := blk_lt hbx4; replace hO4 := Aside0.mk hO4; replace hOb4 := Aside0.mk hOb4; replace hB4 := Aside0.mk hB4; replace hbx4 := Aside0.mk hbx4; clear hg4) | (at_builtin; refine Kd.R_append (Kd.int .i64) (w0 := w) w.heap.size rfl (.tmp 66) (.tmp 68) 27 3 (.int .i64 0) 8 rfl Try.underlying27 info3' rfl (by decide) (by omega) (.slice Ab2 ac.length cb2) ab iv [.int .i64 iv] (fun h => h ≠ w.heap.size) (fun _ => False) rfl rfl rfl (fun _ hk => hk.elim) (fun h hh => by omega) hOb4.out hB4.out (below_size hB4.out) (by omega) ?_; intro vc wc hO5 hB5 hg5 _; obtain ⟨hO6, hbx6⟩ := fl_app2 hO4.out hOb4.out hbx4.out hg5; replace hO5 := Aside0.mk hO5; replace hO6 := Aside0.mk hO6; replace hB5 := Aside0.mk hB5; replace hbx6 := Aside0.mk hbx6; clear hg5)))
            · go_roundw
              case rel => exact ⟨p + 1, ac, ab, by omega, hal, hbl, by go_num, ⟨Kd.R_alloc (Kd.R_below hO2.out hb1.out) _⟩, ⟨Kd.R_alloc (Kd.R_below hOb3.out hb1.out) _⟩, ⟨by have e3 := e2.out; rw [if_neg (fun h => absurd h.2.1 (by simp))] at e3; exact e3⟩, ⟨blk_alloc hbx3.out _⟩, ⟨below_alloc (bthen hW2.out hb1.out) _⟩⟩
              case measure => simp [intOf]; omega
            · go_roundw
              case rel => exact ⟨p + 1, ac ++ [⟨t1, t2, v2 + 1⟩], ab ++ [iv], by omega, by simp; omega, by simp; omega, by go_num, ⟨hO6.out⟩, ⟨hO5.out⟩, ⟨by have e3 := e2.out; rw [if_pos ⟨by simpa using eq, by trivial, by omega⟩] at e3; exact e3⟩, ⟨hbx6.out⟩, ⟨hB5.out⟩⟩
              case measure => simp [intOf]; omega
            · go_roundw
              case rel => exact ⟨p + 1, ac, ab, by omega, hal, hbl, by go_num, ⟨Kd.R_alloc (Kd.R_below hO2.out hb1.out) _⟩, ⟨Kd.R_alloc (Kd.R_below hOb3.out hb1.out) _⟩, ⟨by have e3 := e2.out; rw [if_neg (fun h => absurd h.2.1 (by simp))] at e3; exact e3⟩, ⟨blk_alloc hbx3.out _⟩, ⟨below_alloc (bthen hW2.out hb1.out) _⟩⟩
              case measure => simp [intOf]; omega
            · go_roundw
              case rel => exact ⟨p + 1, ac, ab, by omega, hal, hbl, by go_num, ⟨Kd.R_alloc (Kd.R_below hO2.out hb1.out) _⟩, ⟨Kd.R_alloc (Kd.R_below hOb3.out hb1.out) _⟩, ⟨by have e3 := e2.out; rw [if_neg (fun h => by have := h.2.2; omega)] at e3; exact e3⟩, ⟨blk_alloc hbx3.out _⟩, ⟨below_alloc (bthen hW2.out hb1.out) _⟩⟩
              case measure => simp [intOf]; omega
          · go_wp2
            go_roundw
            case rel => exact ⟨p + 1, ac, ab, by omega, hal, hbl, by go_num, ⟨hO2.out⟩, ⟨hOb2.out⟩, ⟨by have e3 := e2.out; rw [if_neg (fun h => absurd h.1 (by simpa using eq))] at e3; exact e3⟩, ⟨hbx2.out⟩, ⟨hW2.out⟩⟩
            case measure => simp [intOf]; omega
        · have : p = c.f1.length := by omega
          subst this
          have e2 := hp2.out
          rw [List.drop_length, stepI] at e2
          have e3 := e.out
          rw [e2] at e3
          simp only at e3
          have hk1 : iv + 1 = (k : Int) := by have := hiv.out; omega
          have hk4 : k < 60 := by omega
          by_cases hge : ac.length ≤ k
          · rw [List.getElem?_eq_none hge] at e3
            simp only at e3
            have j1 : (ac.length : Int) ≤ iv + 1 := by omega
            replace e3 := Aside0.mk e3
            go_wp2
            go_ret2
            exact ⟨_, _, rfl, by rw [e3.out]; exact Kd.R_mono hO2.out (fun _ _ => trivial), by rw [e3.out]; exact Kd.R_mono hOb2.out (fun _ _ => trivial), hW2.out⟩
          · obtain ⟨u, hu⟩ : ∃ u, ac[k]? = some u := ⟨_, List.getElem?_eq_getElem (by omega)⟩
            rw [hu] at e3
            simp only at e3
            have j1 : ¬ (ac.length : Int) ≤ iv + 1 := by omega
            by_cases h60 : ac.length = 60
            · rw [if_pos h60] at e3
              have j2 : (ac.length : Int) = 60 := by omega
              have hO3 := hO2.out
              have hOb3 := hOb2.out
              rw [h60] at hO3
              rw [hbl, h60] at hOb3
              replace hO3 := Aside0.mk hO3
              replace hOb3 := Aside0.mk hOb3
              replace e3 := Aside0.mk e3
              go_wp2
              go_ret2
              exact ⟨_, _, rfl, by rw [e3.out]; exact Kd.R_mono hO3.out (fun _ _ => trivial), by rw [e3.out]; exact Kd.R_mono hOb3.out (fun _ _ => trivial), hW2.out⟩
            · rw [if_neg h60] at e3
              have j2 : ¬ (ac.length : Int) = 60 := by omega
              replace e3 := Aside0.mk e3
              replace hu := Aside0.mk hu
              go_wp2
              go_roundw
              case rel => exact ⟨k + 1, u, ac, ab, ⟨m, v1, v2⟩, by omega, by omega, congrArg (Value.int IntKind.i64) (by omega), ⟨hO2.out⟩, ⟨hOb2.out⟩, ⟨by rw [e3.out, show 61 - (k + 1) = 60 - k by omega]⟩, ⟨hbl⟩, ⟨fun h => by omega⟩, ⟨fun _ => by rw [Nat.add_sub_cancel]; exact hu.out⟩, ⟨hbx2.out⟩, ⟨hW2.out⟩⟩
              case measure => simp [intOf]; omega)
end Go.Proofs.Ytbdmnjobhfhinaa.M
namespace Go.Proofs.Ytbdmnjobhfhinaa.M
open Go.RowKit Go.Proofs.YtbdmnjobhfhinaaW.PrintWords Go.Proofs.YtbdmnjobhfhinaaW.PrintLast Go.Proofs.YtbdmnjobhfhinaaW.PrintMore
set_option linter.unusedVariables false
set_option linter.unusedSimpArgs false
set_option maxHeartbeats 4000000
set_option maxRecDepth 100000
theorem inB_out {x : Int} {n : Nat} (h : true = inB x 0 ((n : Int) - 1)) : 0 ≤ x ∧ x < n := by
  have h2 : 0 ≤ x ∧ x ≤ (n : Int) - 1 := by simpa [inB] using h.symm
  omega
theorem implFlood_c (A B : Option Addr) (ca cb : Nat) (bs : List S65) (ls : List S145) (x : Int) (w : World) (hA : Kd.C k65 w A bs.length bs) (hB : Kd.C k145 w B ls.length ls) (hsz : ls.length ≤ 1048576) (hca : bs.length ≤ ca)
    (hin : netOkI bs ls = true → ∀ y ∈ ls, LinkIn bs y)
    (hv : netOkI bs ls = true → inB x 0 (bs.length - 1) = true → ∀ v ∈ (floodI bs ls x).1, 0 ≤ v.f0 ∧ v.f0 < bs.length ∧ 0 ≤ v.f2 ∧ v.f2 ≤ 100) :
    Calls Try.prog 23 #[.agg #[.slice A bs.length ca, .slice B ls.length cb], .int .i64 x] w fun e w' => ∃ v, e = .returned v ∧ Kd.R k94 94 w' w.heap.size (fun _ => True) v (if inB x 0 (bs.length - 1) && netOkI bs ls then (floodI bs ls x).1 else []) ∧ Below w.heap.size w w' := by
  have hu32 := Try.underlying32
  have hu94 := Try.underlying94
  have hlen := clen hB
  have hlenA := clen hA
  have hw1 : IntKind.i64.wrap ((bs.length : Int) - 1) = (bs.length : Int) - 1 := IntWalk.i64_in _ (by omega)
  obtain ⟨q1, e1⟩ : ∃ q, q = netOkI bs ls := ⟨_, rfl⟩
  obtain ⟨q2, e2⟩ : ∃ q, q = inB x 0 ((bs.length : Int) - 1) := ⟨_, rfl⟩
  have F1 := fun W h1 h2 => implNetOk_c A B ca cb bs ls W h1 h2 hsz hca
  have F2 := fun W => inRange_c x 0 ((bs.length : Int) - 1) W
  rw [← e1, ← e2]
  rw [← e1] at hin hv
  rw [← e2] at hv
  simp only [← e1] at F1
  simp only [← e2] at F2
  have F3 := fun g W h0 h1 h2 hi hx h4 => flood_c g A B ca cb bs ls x W h0 h1 h2 hi hx h4
  generalize floodI bs ls x = G at *
  replace hA := Aside0.mk hA
  replace hB := Aside0.mk hB
  replace e1 := Aside0.mk e1
  replace e2 := Aside0.mk e2
  replace hin := Aside0.mk hin
  replace hv := Aside0.mk hv
  cases q2 <;> cases q1
  all_goals (
    go_enter Try.func23, Try.ntmps23
    go_wp2_with (first | (go_at_call 46; (with_reducible refine (F1 _ (Kd.C_below hA.out (by repeat (first | exact Below.refl _ _ | apply below_alloc))) (Kd.C_below hB.out (by repeat (first | exact Below.refl _ _ | apply below_alloc)))).mono ?_); rintro e w1 ⟨rfl, hb⟩; have hbx := blk_below (blk_new w (.cells #[.slice A bs.length ca, .slice B ls.length cb] 32)) hb; have hbc0 : w1.cell? ⟨w.heap.size, 0, none⟩ = some (.slice A bs.length ca) := (blk_cell hbx 0).trans rfl; have hbc1 : w1.cell? ⟨w.heap.size, 1, none⟩ = some (.slice B ls.length cb) := (blk_cell hbx 1).trans rfl; have hsz := blk_lt hbx; replace hbx := Aside0.mk hbx; replace hb := Aside0.mk hb) | (go_at_call 72; (with_reducible refine (F2 _).mono ?_); rintro e w2 ⟨rfl, rfl⟩) | (go_at_call 73; (with_reducible refine (F3 w.heap.size w1 hbx.out (Kd.C_below hA.out (by repeat (first | exact Below.refl _ _ | apply below_alloc | refine bthen ?_ hb.out))) (Kd.C_below hB.out (by repeat (first | exact Below.refl _ _ | apply below_alloc | refine bthen ?_ hb.out))) (hin.out (by trivial)) (inB_out e2.out) (hv.out (by trivial) (by trivial))).mono ?_); rintro e w2 ⟨v2, u2, rfl, hO, hOb, hb2⟩; replace hb2 := Aside0.mk hb2; replace hO := Aside0.mk hO; replace hOb := Aside0.mk hOb)))
  · go_ret
    exact ⟨_, rfl, Kd.R_nil _ _ _ _ _, by repeat (first | exact Below.refl _ _ | apply below_alloc | refine bthen ?_ hb.out)⟩
  · go_ret
    exact ⟨_, rfl, Kd.R_nil _ _ _ _ _, by repeat (first | exact Below.refl _ _ | apply below_alloc | refine bthen ?_ hb.out)⟩
  · go_ret
    exact ⟨_, rfl, Kd.R_nil _ _ _ _ _, by repeat (first | exact Below.refl _ _ | apply below_alloc | refine bthen ?_ hb.out)⟩
  · go_ret
    exact ⟨_, rfl, Kd.R_lower hO.out (below_size (by repeat (first | exact Below.refl _ _ | apply below_alloc | refine bthen ?_ hb.out))), by repeat (first | exact Below.refl _ _ | apply below_alloc | refine bthen ?_ hb2.out | refine bthen ?_ hb.out)⟩
end Go.Proofs.Ytbdmnjobhfhinaa.M
namespace Go.Proofs.Ytbdmnjobhfhinaa.M
open Go.RowKit Go.Proofs.YtbdmnjobhfhinaaW.PrintWords Go.Proofs.YtbdmnjobhfhinaaW.PrintLast Go.Proofs.YtbdmnjobhfhinaaW.PrintMore
set_option linter.unusedVariables false
set_option linter.unusedSimpArgs false
set_option maxHeartbeats 4000000
set_option maxRecDepth 100000
/-- How often each bridge is visited. -/
def heardL : List S94 → List Int → List Int
  | [], o => o
  | v :: vs, o => heardL vs (o.set v.f0.toNat (wrap64 (rdOf 0 o v.f0 + 1)))
theorem blk_lt' {W : World} {base g n c : Nat} {ok : Nat → Prop} {xs : List Int} (h : Kd.R (Kd.int .i64) 3 W base ok (.slice (some ⟨g, 0, none⟩) n c) xs) : g < W.heap.size := Kd.R_lt h g rfl
theorem implHeardBy_c (A B : Option Addr) (ca cb : Nat) (bs : List S65) (ls : List S145) (x : Int) (w : World) (hA : Kd.C k65 w A bs.length bs) (hB : Kd.C k145 w B ls.length ls) (hsz : ls.length ≤ 1048576) (hbz : bs.length ≤ 1048576) (hca : bs.length ≤ ca)
    (hin : netOkI bs ls = true → ∀ y ∈ ls, LinkIn bs y)
    (hv : netOkI bs ls = true → inB x 0 (bs.length - 1) = true → ∀ v ∈ (floodI bs ls x).1, 0 ≤ v.f0 ∧ v.f0 < bs.length ∧ 0 ≤ v.f2 ∧ v.f2 ≤ 100) :
    Calls Try.prog 16 #[.agg #[.slice A bs.length ca, .slice B ls.length cb], .int .i64 x] w fun e w' => ∃ v, e = .returned v ∧ Kd.R (Kd.int .i64) 3 w' w.heap.size (fun _ => True) v (if inB x 0 (bs.length - 1) && netOkI bs ls then heardL (floodI bs ls x).1 (List.replicate bs.length 0) else []) ∧ Below w.heap.size w w' := by
  have hu32 := Try.underlying32
  have hu94 := Try.underlying94
  have hlen := clen hB
  have hlenA := clen hA
  have hw1 : IntKind.i64.wrap ((bs.length : Int) - 1) = (bs.length : Int) - 1 := IntWalk.i64_in _ (by omega)
  obtain ⟨q1, e1⟩ : ∃ q, q = netOkI bs ls := ⟨_, rfl⟩
  obtain ⟨q2, e2⟩ : ∃ q, q = inB x 0 ((bs.length : Int) - 1) := ⟨_, rfl⟩
  have F1 := fun W h1 h2 => implNetOk_c A B ca cb bs ls W h1 h2 hsz hca
  have F2 := fun W => inRange_c x 0 ((bs.length : Int) - 1) W
  rw [← e1, ← e2]
  rw [← e1] at hin hv
  rw [← e2] at hv
  simp only [← e1] at F1
  simp only [← e2] at F2
  have F3 := fun g W h0 h1 h2 hi hx h4 => flood_c g A B ca cb bs ls x W h0 h1 h2 hi hx h4
  generalize floodI bs ls x = G at *
  obtain ⟨R, hR⟩ : ∃ R, R = heardL G.1 (List.replicate bs.length 0) := ⟨_, rfl⟩
  rw [← hR]
  replace hR := Aside0.mk hR
  replace hA := Aside0.mk hA
  replace hB := Aside0.mk hB
  replace e1 := Aside0.mk e1
  replace e2 := Aside0.mk e2
  replace hin := Aside0.mk hin
  replace hv := Aside0.mk hv
  have i0 : (0 : Int) ≤ (bs.length : Int) := by omega
  cases q2 <;> cases q1
  all_goals (
    go_enter Try.func16, Try.ntmps16
    go_wp2_with (first | (go_at_call 46; (with_reducible refine (F1 _ (Kd.C_below hA.out (by repeat (first | exact Below.refl _ _ | apply below_alloc))) (Kd.C_below hB.out (by repeat (first | exact Below.refl _ _ | apply below_alloc)))).mono ?_); rintro e w1 ⟨rfl, hb⟩; have hbx := blk_below (blk_new w (.cells #[.slice A bs.length ca, .slice B ls.length cb] 32)) hb; have hbc0 : w1.cell? ⟨w.heap.size, 0, none⟩ = some (.slice A bs.length ca) := (blk_cell hbx 0).trans rfl; have hbc1 : w1.cell? ⟨w.heap.size, 1, none⟩ = some (.slice B ls.length cb) := (blk_cell hbx 1).trans rfl; have hsz := blk_lt hbx; replace hb := Aside0.mk (bthen (below_alloc (Below.refl _ _) (.cells #[.slice A bs.length ca, .slice B ls.length cb] 32)) hb); replace hbx := Aside0.mk hbx) | (go_at_call 72; (with_reducible refine (F2 _).mono ?_); rintro e w2 ⟨rfl, rfl⟩) | (go_at_call 73; (with_reducible refine (F3 w.heap.size _ hbx2.out (Kd.C_below hA.out hb2.out) (Kd.C_below hB.out hb2.out) (hin.out (by trivial)) (inB_out e2.out) (hv.out (by trivial) (by trivial))).mono ?_); rintro e w3 ⟨v3, u3, rfl, hO, hOb, hb3⟩; have hT3 := Kd.R_elder' hT.out (Kd.R_base hO) hb3; have hO3 := Kd.R_lower (Kd.R_new' hO (Kd.R_lt hT.out)) (below_size hb2.out); replace hb3 := Aside0.mk (bthen hb2.out hb3); obtain ⟨A3, c3, eo3⟩ := Kd.R_slice hO3; subst eo3; obtain ⟨gt, ct, eot, hgb0, hgt, _⟩ := Kd.R_form hT3 (by have := inB_out e2.out; simp; omega); subst eot; replace hO3 := Aside0.mk hO3; replace hT3 := Aside0.mk hT3; clear hO hOb) | ((with_reducible refine gate_dst (N := 25) rfl ?_); refine Kd.R_make (Kd.int .i64) _ 3 rfl (N := 25) rfl 27 _ _ rfl (bs.length : Int) rfl rfl Try.underlying27 (.int .i64 0) 8 info3' rfl (by decide) (by omega) 0 (ok := fun _ => True) (okp := fun _ => True) rfl (fun _ hk => hk) trivial (by omega) (by omega) (Below.refl _ _) (Nat.le_refl _) ?_; intro vt w2 hT hb2 _ _; have hbx2 := Aside0.mk (blk_below hbx.out hb2); replace hT := Aside0.mk (Kd.R_lower hT (below_size hb.out)); replace hb2 := Aside0.mk (bthen hb.out hb2))))
  · go_ret
    exact ⟨_, rfl, Kd.R_nil _ _ _ _ _, by repeat (first | exact hb.out | exact Below.refl _ _ | apply below_alloc)⟩
  · go_ret
    exact ⟨_, rfl, Kd.R_nil _ _ _ _ _, by repeat (first | exact hb.out | exact Below.refl _ _ | apply below_alloc)⟩
  · go_ret
    exact ⟨_, rfl, Kd.R_nil _ _ _ _ _, by repeat (first | exact hb.out | exact Below.refl _ _ | apply below_alloc)⟩
  · have hlr : (List.replicate (bs.length : Int).toNat (0 : Int)).length = bs.length := by simp
    have hvv := hv.out (by trivial) (by trivial)
    have hGlen := clen (Kd.R_reads' hO3.out).2.2
    replace hvv := Aside0.mk hvv
    go_loopw [33] (fun vi wr => ∃ (k : Nat) (acc : List Int), k ≤ G.1.length ∧ acc.length = bs.length ∧ vi = .int .i64 k ∧ Aside0 (R = heardL (G.1.drop k) acc) ∧ Aside0 (Kd.R k94 94 wr w.heap.size (fun h => h ≠ gt) (.slice A3 G.1.length c3) G.1) ∧ Aside0 (Kd.R (Kd.int .i64) 3 wr w.heap.size (fun _ => True) (.slice (some ⟨gt, 0, none⟩) bs.length ct) acc) ∧ Aside0 (w.heap.size ≤ gt) ∧ Aside0 (Below w.heap.size w wr)) (fun vi _ => G.1.length - (intOf vi).toNat)
    case atStart => exact ⟨0, List.replicate bs.length 0, Nat.zero_le _, by simp, rfl, ⟨hR.out⟩, ⟨Kd.R_mono hO3.out (fun h hh => by have h2 := hh.2; simp [Value.ownBlock] at h2; exact h2)⟩, ⟨by have h := hT3.out; rw [Int.toNat_natCast, List.length_replicate] at h; exact Kd.R_mono h (fun _ _ => trivial)⟩, ⟨hgb0⟩, ⟨hb3.out⟩⟩
    case round =>
      obtain ⟨k, acc, hk, hacc, rfl, hp, hOk, hTk, hgb, hW⟩ := hrel
      by_cases hlt : k < G.1.length
      · obtain ⟨v, hv0⟩ : ∃ v, G.1[k]? = some v := ⟨_, List.getElem?_eq_getElem hlt⟩
        obtain ⟨g1, g2, g3, g4⟩ := hvv.out v (List.mem_of_getElem? hv0)
        obtain ⟨ad, eA, hblk, h0, h1, h2⟩ := get94 (Kd.R_reads' hOk.out).2.2 hv0
        subst eA
        obtain ⟨hc, hf⟩ := Kd.R_celln 0 hTk.out v.f0 g1 g2
        have e := hp.out
        rw [drop_cons_of hv0, heardL] at e
        obtain ⟨v0, v1, v2⟩ := v
        simp only at g1 g2 g3 g4 h0 h1 h2 hc hf e
        generalize rdOf 0 acc v0 = z at *
        have i1 : (0 : Int) ≤ (k : Int) := by omega
        have i2 : (k : Int) < (G.1.length : Int) := by omega
        have hgs := blk_lt' hTk.out
        replace e := Aside0.mk e
        replace hv0 := Aside0.mk hv0
        go_wp2
        go_roundw
        case rel => exact ⟨k + 1, acc.set v0.toNat (wrap64 (z + 1)), by omega, by simp; exact hacc, by go_num, ⟨e.out⟩, ⟨Kd.R_alloc (Kd.R_far hOk.out (p := ⟨gt, v0.toNat, none⟩) (fun _ h => h) _) _⟩, ⟨Kd.R_alloc (Kd.R_putn hTk.out v0 _) _⟩, ⟨hgb.out⟩, ⟨below_alloc (Below.setCell (p := ⟨gt, v0.toNat, none⟩) hW.out hgb.out _) _⟩⟩
        case measure => simp [intOf]; omega
      · have : k = G.1.length := by omega
        subst this
        go_wp2
        go_ret
        have e := hp.out
        rw [List.drop_length, heardL] at e
        subst e
        exact ⟨_, rfl, hTk.out, hW.out⟩
end Go.Proofs.Ytbdmnjobhfhinaa.M
namespace Go.Proofs.Ytbdmnjobhfhinaa.M
open Go.RowKit Go.Proofs.YtbdmnjobhfhinaaW.PrintWords Go.Proofs.YtbdmnjobhfhinaaW.PrintLast Go.Proofs.YtbdmnjobhfhinaaW.PrintMore
set_option linter.unusedVariables false
set_option linter.unusedSimpArgs false
set_option maxHeartbeats 4000000
set_option maxRecDepth 100000
theorem specHeardBy_c (A B : Option Addr) (ca cb : Nat) (bs : List S65) (ls : List S145) (x : Int) (w : World) (hA : Kd.C k65 w A bs.length bs) (hB : Kd.C k145 w B ls.length ls) (hbz : bs.length ≤ 1048576) (hin : netOkS bs ls = true → ∀ y ∈ ls, LinkIn bs y) (hpl : netOkS bs ls = true → ∀ b ∈ bs, b.f1.length ≤ 4)
    (hv : netOkS bs ls = true → ∀ v ∈ bfsS bs ls 60 0 (outL bs ls x (-1) 1 (bs.getD x.toNat z65).f1 0), 0 ≤ v.f0 ∧ v.f0 < bs.length ∧ 0 ≤ v.f2 ∧ v.f2 ≤ 100) :
    Calls Try.prog 14 #[.agg #[.slice A bs.length ca, .slice B ls.length cb], .int .i64 x] w fun e w' => ∃ v, e = .returned v ∧ Kd.R (Kd.int .i64) 3 w' w.heap.size (fun _ => True) v (if netOkS bs ls && inB x 0 (bs.length - 1) then heardL (floodS bs ls x) (List.replicate bs.length 0) else []) ∧ Below w.heap.size w w' := by
  have hu32 := Try.underlying32
  have hu94 := Try.underlying94
  have hlen := clen hB
  have hlenA := clen hA
  have hw1 : IntKind.i64.wrap ((bs.length : Int) - 1) = (bs.length : Int) - 1 := IntWalk.i64_in _ (by omega)
  have F3 := fun W h1 h2 => specFlood_c A B ca cb bs ls x W h1 h2 hin hpl hv
  have hv2 : netOkS bs ls = true → ∀ v ∈ floodS bs ls x, 0 ≤ v.f0 ∧ v.f0 < bs.length ∧ 0 ≤ v.f2 ∧ v.f2 ≤ 100 := fun h v hm => hv h v (List.mem_of_mem_take hm)
  clear hin hpl hv
  obtain ⟨q1, e1⟩ : ∃ q, q = netOkS bs ls := ⟨_, rfl⟩
  obtain ⟨q2, e2⟩ : ∃ q, q = inB x 0 ((bs.length : Int) - 1) := ⟨_, rfl⟩
  have F1 := fun W h1 h2 => specNetOk_c A B ca cb bs ls W h1 h2
  have F2 := fun W => l1In_c x 0 ((bs.length : Int) - 1) W
  rw [← e1, ← e2]
  rw [← e1] at hv2
  simp only [← e1] at F1
  simp only [← e2] at F2
  simp only [← e1, ← e2] at F3
  generalize floodS bs ls x = G at *
  obtain ⟨R, hR⟩ : ∃ R, R = heardL G (List.replicate bs.length 0) := ⟨_, rfl⟩
  rw [← hR]
  replace hR := Aside0.mk hR
  replace hA := Aside0.mk hA
  replace hB := Aside0.mk hB
  replace e1 := Aside0.mk e1
  replace e2 := Aside0.mk e2
  replace hv2 := Aside0.mk hv2
  have i0 : (0 : Int) ≤ (bs.length : Int) := by omega
  cases q1 <;> cases q2
  all_goals simp only [Bool.and_true, Bool.and_false, Bool.false_and, Bool.true_and, if_true, Bool.false_eq_true, if_false] at F3 ⊢
  all_goals (
    go_enter Try.func14, Try.ntmps14
    go_wp2_with (first | (go_at_call 47; (with_reducible refine (F1 _ (Kd.C_below hA.out (by repeat (first | exact Below.refl _ _ | apply below_alloc))) (Kd.C_below hB.out (by repeat (first | exact Below.refl _ _ | apply below_alloc)))).mono ?_); rintro e w1 ⟨rfl, hb⟩; have hbx := blk_below (blk_new w (.cells #[.slice A bs.length ca, .slice B ls.length cb] 32)) hb; have hbc0 : w1.cell? ⟨w.heap.size, 0, none⟩ = some (.slice A bs.length ca) := (blk_cell hbx 0).trans rfl; have hbc1 : w1.cell? ⟨w.heap.size, 1, none⟩ = some (.slice B ls.length cb) := (blk_cell hbx 1).trans rfl; have hsz := blk_lt hbx; replace hb := Aside0.mk (bthen (below_alloc (Below.refl _ _) (.cells #[.slice A bs.length ca, .slice B ls.length cb] 32)) hb); replace hbx := Aside0.mk hbx) | (go_at_call 69; (with_reducible refine (F2 _).mono ?_); rintro e w2 ⟨rfl, rfl⟩) | (go_at_call 22; (with_reducible refine (F3 _ (Kd.C_below hA.out hb2.out) (Kd.C_below hB.out hb2.out)).mono ?_); rintro e w3 ⟨v3, rfl, hO, hb3⟩; have hT3 := Kd.R_elder' hT.out (Kd.R_base hO) hb3; have hO3 := Kd.R_lower (Kd.R_new' hO (Kd.R_lt hT.out)) (below_size hb2.out); replace hb3 := Aside0.mk (bthen hb2.out hb3); obtain ⟨A3, c3, eo3⟩ := Kd.R_slice hO3; subst eo3; obtain ⟨gt, ct, eot, hgb0, hgt, _⟩ := Kd.R_form hT3 (by have := inB_out e2.out; simp; omega); subst eot; replace hO3 := Aside0.mk hO3; replace hT3 := Aside0.mk hT3; clear hO) | ((with_reducible refine gate_dst (N := 24) rfl ?_); refine Kd.R_make (Kd.int .i64) _ 3 rfl (N := 24) rfl 27 _ _ rfl (bs.length : Int) rfl rfl Try.underlying27 (.int .i64 0) 8 info3' rfl (by decide) (by omega) 0 (ok := fun _ => True) (okp := fun _ => True) rfl (fun _ hk => hk) trivial (by omega) (by omega) (Below.refl _ _) (Nat.le_refl _) ?_; intro vt w2 hT hb2 _ _; have hbx2 := Aside0.mk (blk_below hbx.out hb2); have hbd0 : w2.cell? ⟨w.heap.size, 0, none⟩ = some (.slice A bs.length ca) := (blk_cell hbx2.out 0).trans rfl; have hbd1 : w2.cell? ⟨w.heap.size, 1, none⟩ = some (.slice B ls.length cb) := (blk_cell hbx2.out 1).trans rfl; have hszd := blk_lt hbx2.out; replace hT := Aside0.mk (Kd.R_lower hT (below_size hb.out)); replace hb2 := Aside0.mk (bthen hb.out hb2))))
  · go_ret
    exact ⟨_, rfl, R_empty (Kd.int .i64) (by simpa using blk_new w1 (.cells #[] 3)) (below_size hb.out), below_alloc hb.out _⟩
  · go_ret
    exact ⟨_, rfl, R_empty (Kd.int .i64) (by simpa using blk_new w1 (.cells #[] 3)) (below_size hb.out), below_alloc hb.out _⟩
  · go_ret
    exact ⟨_, rfl, R_empty (Kd.int .i64) (by simpa using blk_new w1 (.cells #[] 3)) (below_size hb.out), below_alloc hb.out _⟩
  · have hvv := hv2.out (by trivial)
    have hGlen := clen (Kd.R_reads' hO3.out).2.2
    replace hvv := Aside0.mk hvv
    go_loopw [7] (fun vi wr => ∃ (k : Nat) (acc : List Int), k ≤ G.length ∧ acc.length = bs.length ∧ vi = .int .i64 k ∧ Aside0 (R = heardL (G.drop k) acc) ∧ Aside0 (Kd.R k94 94 wr w.heap.size (fun h => h ≠ gt) (.slice A3 G.length c3) G) ∧ Aside0 (Kd.R (Kd.int .i64) 3 wr w.heap.size (fun _ => True) (.slice (some ⟨gt, 0, none⟩) bs.length ct) acc) ∧ Aside0 (w.heap.size ≤ gt) ∧ Aside0 (Below w.heap.size w wr)) (fun vi _ => G.length - (intOf vi).toNat)
    case atStart => exact ⟨0, List.replicate bs.length 0, Nat.zero_le _, by simp, rfl, ⟨hR.out⟩, ⟨Kd.R_mono hO3.out (fun h hh => by have h2 := hh.2; simp [Value.ownBlock] at h2; exact h2)⟩, ⟨by have h := hT3.out; rw [Int.toNat_natCast, List.length_replicate] at h; exact Kd.R_mono h (fun _ _ => trivial)⟩, ⟨hgb0⟩, ⟨hb3.out⟩⟩
    case round =>
      obtain ⟨k, acc, hk, hacc, rfl, hp, hOk, hTk, hgb, hW⟩ := hrel
      by_cases hlt : k < G.length
      · obtain ⟨v, hv0⟩ : ∃ v, G[k]? = some v := ⟨_, List.getElem?_eq_getElem hlt⟩
        obtain ⟨g1, g2, g3, g4⟩ := hvv.out v (List.mem_of_getElem? hv0)
        obtain ⟨ad, eA, hblk, h0, h1, h2⟩ := get94 (Kd.R_reads' hOk.out).2.2 hv0
        subst eA
        obtain ⟨hc, hf⟩ := Kd.R_celln 0 hTk.out v.f0 g1 g2
        have e := hp.out
        rw [drop_cons_of hv0, heardL] at e
        obtain ⟨v0, v1, v2⟩ := v
        simp only at g1 g2 g3 g4 h0 h1 h2 hc hf e
        generalize rdOf 0 acc v0 = z at *
        have i1 : (0 : Int) ≤ (k : Int) := by omega
        have i2 : (k : Int) < (G.length : Int) := by omega
        have hgs := blk_lt' hTk.out
        replace e := Aside0.mk e
        replace hv0 := Aside0.mk hv0
        go_wp2
        go_region
        all_goals go_wp2
        all_goals go_roundw
        case rel => exact ⟨k + 1, acc.set v0.toNat (wrap64 (z + 1)), by omega, by simp; exact hacc, by go_num, ⟨e.out⟩, ⟨Kd.R_far (Kd.R_drewN hOk.out _) (p := ⟨gt, v0.toNat, none⟩) (fun _ h => h) _⟩, ⟨Kd.R_putn (Kd.R_drewN hTk.out _) v0 _⟩, ⟨hgb.out⟩, ⟨Below.setCell (p := ⟨gt, v0.toNat, none⟩) (pw_below_drewN hW.out _) hgb.out _⟩⟩
        case measure => simp [intOf]; omega
      · have : k = G.length := by omega
        subst this
        go_wp2
        go_ret
        have e := hp.out
        rw [List.drop_length, heardL] at e
        subst e
        exact ⟨_, rfl, hTk.out, hW.out⟩
end Go.Proofs.Ytbdmnjobhfhinaa.M
