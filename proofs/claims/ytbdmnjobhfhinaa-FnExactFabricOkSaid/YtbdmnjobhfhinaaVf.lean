/- Plain law: the reference and the program tell the same. No conditions beside those that each theorem states. -/
import Derived.Test.YtbdmnjobhfhinaaVc
import Derived.Test.YtbdmnjobhfhinaaVb
import Derived.Test.YtbdmnjobhfhinaaVd
namespace Go.Proofs.Ytbdmnjobhfhinaa.M
open Go.RowKit Go.Proofs.YtbdmnjobhfhinaaW.PrintWords Go.Proofs.YtbdmnjobhfhinaaW.PrintLast Go.Proofs.YtbdmnjobhfhinaaW.PrintMore
set_option linter.unusedVariables false
set_option linter.unusedSimpArgs false
def ends : List S145 → List S162
  | [] => []
  | x :: xs => ⟨x.f0, x.f1⟩ :: ⟨x.f2, x.f3⟩ :: ends xs
def cnt (a p : Int) (u : List S162) : Nat := u.countP (fun x => a == x.f0 && p == x.f1)
theorem cnt_nil (a p : Int) : cnt a p [] = 0 := rfl
theorem cnt_cons (a p : Int) (x : S162) (u : List S162) : cnt a p (x :: u) = cnt a p u + (if a = x.f0 ∧ p = x.f1 then 1 else 0) := by
  simp [cnt, List.countP_cons]
theorem cnt_app (a p : Int) (u v : List S162) : cnt a p (u ++ v) = cnt a p u + cnt a p v := by simp [cnt, List.countP_append]
theorem memE_cnt (a p : Int) (u : List S162) : memE a p u = decide (0 < cnt a p u) := by
  rw [Bool.eq_iff_iff]
  simp [memE, cnt, List.countP_pos_iff]
theorem onceL_cnt (a p : Int) : ∀ ls, onceL a p ls = (cnt a p (ends ls) : Int)
  | [] => by simp [onceL, ends, cnt_nil]
  | x :: xs => by
    have ih := onceL_cnt a p xs
    have e : ∀ b c d e : Int, bitI (b == c && d == e) = if c = b ∧ e = d then 1 else 0 := by
      intro b c d e
      by_cases h : c = b ∧ e = d
      · rw [if_pos h]; obtain ⟨rfl, rfl⟩ := h; simp [bitI]
      · rw [if_neg h]
        have : (b == c && d == e) = false := by
          rw [Bool.eq_false_iff]; intro h2; simp at h2; exact h ⟨h2.1.symm, h2.2.symm⟩
        rw [this]; rfl
    simp only [onceL, ends, cnt_cons, ih, e]
    split <;> split <;> omega
def goodL (bs : List S65) (x : S145) : Prop := x.f0 ≠ x.f2 ∧ isEndB bs x.f0 x.f1 = true ∧ isEndB bs x.f2 x.f3 = true
theorem linkBad_false {bs : List S65} {x : S145} {u : List S162} (h : linkBad bs x u = false) : goodL bs x ∧ cnt x.f0 x.f1 u = 0 ∧ cnt x.f2 x.f3 u = 0 := by
  simp only [linkBad, Bool.or_eq_false_iff, memE_cnt, decide_eq_false_iff_not, Bool.not_eq_false'] at h
  obtain ⟨⟨⟨⟨h1, h2⟩, h3⟩, h4⟩, h5⟩ := h
  exact ⟨⟨by simpa using h1, h2, h3⟩, by omega, by omega⟩
theorem linkBad_of {bs : List S65} {x : S145} {u : List S162} (g : goodL bs x) (h1 : cnt x.f0 x.f1 u = 0) (h2 : cnt x.f2 x.f3 u = 0) : linkBad bs x u = false := by
  obtain ⟨a, b, c⟩ := g
  simp [linkBad, memE_cnt, a, b, c, h1, h2]
theorem used_some {bs : List S65} : ∀ (ls : List S145) (u v : List S162), usedL bs ls u = some v → (∀ a p, cnt a p u ≤ 1) → v = u ++ ends ls ∧ (∀ x ∈ ls, goodL bs x) ∧ ∀ a p, cnt a p v ≤ 1
  | [], u, v, h, hc => by
    simp [usedL] at h; subst h
    exact ⟨by simp [ends], by simp, hc⟩
  | x :: xs, u, v, h, hc => by
    simp only [usedL] at h
    split at h
    · cases h
    · rename_i hb
      obtain ⟨g, h1, h2⟩ := linkBad_false (Bool.eq_false_iff.2 hb)
      obtain ⟨e, hg, hn⟩ := used_some xs _ v h (by
        intro a p
        rw [cnt_app, cnt_cons, cnt_cons, cnt_nil]
        have := hc a p
        by_cases c1 : a = x.f0 ∧ p = x.f1
        · by_cases c2 : a = x.f2 ∧ p = x.f3
          · exact absurd (c1.1.symm.trans c2.1) g.1
          · simp only [if_pos c1, if_neg c2]; obtain ⟨rfl, rfl⟩ := c1; omega
        · by_cases c2 : a = x.f2 ∧ p = x.f3
          · simp only [if_neg c1, if_pos c2]; obtain ⟨rfl, rfl⟩ := c2; omega
          · simp only [if_neg c1, if_neg c2]; omega)
      exact ⟨by rw [e]; simp [ends], by intro y hy; rcases List.mem_cons.1 hy with rfl | hy; exact g; exact hg y hy, hn⟩
theorem used_of {bs : List S65} : ∀ (ls : List S145) (u : List S162), (∀ x ∈ ls, goodL bs x) → (∀ a p, isEndB bs a p = true → cnt a p (u ++ ends ls) ≤ 1) → usedL bs ls u = some (u ++ ends ls)
  | [], u, _, _ => by simp [usedL, ends]
  | x :: xs, u, hg, hc => by
    have g := hg x (List.mem_cons_self ..)
    have c1 := hc x.f0 x.f1 g.2.1
    have c2 := hc x.f2 x.f3 g.2.2
    simp only [ends, cnt_app, cnt_cons] at c1 c2
    simp at c1 c2
    have hb : linkBad bs x u = false := linkBad_of g (by omega) (by omega)
    rw [usedL, if_neg (by rw [hb]; simp)]
    have := used_of xs (u ++ [⟨x.f0, x.f1⟩, ⟨x.f2, x.f3⟩]) (fun y hy => hg y (List.mem_cons_of_mem _ hy)) (by
      intro a p h; have := hc a p h; simpa [ends] using this)
    rw [this]; simp [ends]
theorem ports_eq {ls : List S145} (u : List S162) (i : Int) (hu : ∀ q, onceL i q ls = (cnt i q u : Int)) (hc : ∀ q, cnt i q u ≤ 1) : ∀ (xs : List S138) (p : Int), portsOkL ls i xs p = portsI u i xs p
  | [], _ => rfl
  | x :: xs, p => by
    rw [portsOkL, portsI, ports_eq u i hu hc xs (p + 1)]
    congr 1
    rw [hu, memE_cnt]
    have := hc p
    rcases Nat.lt_or_ge 0 (cnt i p u) with h | h
    · have e : cnt i p u = 1 := by omega
      rw [e]; cases x.f0 <;> rfl
    · have e : cnt i p u = 0 := by omega
      rw [e]; cases x.f0 <;> rfl
theorem bridges_eq {bs : List S65} {ls : List S145} (u : List S162) (hu : ∀ a q, onceL a q ls = (cnt a q u : Int)) (hc : ∀ a q, cnt a q u ≤ 1) : ∀ (rest : List S65) (i : Nat), bridgesOkL bs ls rest i = (idsL bs rest i && bridgesI u rest (i : Int))
  | [], _ => rfl
  | b :: rest, i => by
    rw [bridgesOkL, idsL, bridgesI, bridges_eq u hu hc rest (i + 1), ports_eq u i (hu i) (hc i)]
    rw [show ((i + 1 : Nat) : Int) = (i : Int) + 1 by omega]
    cases bridgeOkB b <;> cases ((bs.take i).all (fun c => !(c.f0 == b.f0))) <;> cases (portsI u i b.f1 0) <;> cases (idsL bs rest (i + 1)) <;> cases (bridgesI u rest (↑i + 1)) <;> rfl
theorem portsI_at {u : List S162} {i : Int} : ∀ {xs : List S138} {p : Int}, portsI u i xs p = true → ∀ (j : Nat) (s : S138), xs[j]? = some s → s.f0 = memE i (p + j) u
  | [], _, _, j, s, h => by simp at h
  | x :: xs, p, hp, j, s, h => by
    simp only [portsI, Bool.and_eq_true, beq_iff_eq] at hp
    cases j with
    | zero => simp at h; subst h; simpa using hp.1
    | succ j =>
      have := portsI_at hp.2 j s (by simpa using h)
      rw [this, show p + 1 + (j : Int) = p + ((j + 1 : Nat) : Int) by omega]
theorem bridgesI_at {u : List S162} : ∀ {rest : List S65} {i : Int}, bridgesI u rest i = true → ∀ (k : Nat) (b : S65), rest[k]? = some b → portsI u (i + k) b.f1 0 = true
  | [], _, _, k, b, h => by simp at h
  | c :: rest, i, hp, k, b, h => by
    simp only [bridgesI, Bool.and_eq_true] at hp
    cases k with
    | zero => simp at h; subst h; simpa using hp.1
    | succ k =>
      have := bridgesI_at hp.2 k b (by simpa using h)
      rwa [show i + 1 + (k : Int) = i + ((k + 1 : Nat) : Int) by omega] at this
theorem portsOkL_at {ls : List S145} {i : Int} : ∀ {xs : List S138} {p : Int}, portsOkL ls i xs p = true → ∀ (j : Nat) (s : S138), xs[j]? = some s → onceL i (p + j) ls = bitI s.f0
  | [], _, _, j, s, h => by simp at h
  | x :: xs, p, hp, j, s, h => by
    simp only [portsOkL, Bool.and_eq_true, beq_iff_eq] at hp
    cases j with
    | zero => simp at h; subst h; simpa using hp.1
    | succ j =>
      have := portsOkL_at hp.2 j s (by simpa using h)
      rw [← this, show p + 1 + (j : Int) = p + ((j + 1 : Nat) : Int) by omega]
theorem bridgesOkL_at {bs : List S65} {ls : List S145} : ∀ {rest : List S65} {i : Nat}, bridgesOkL bs ls rest i = true → ∀ (k : Nat) (b : S65), rest[k]? = some b → bridgeOkB b = true ∧ portsOkL ls ((i + k : Nat) : Int) b.f1 0 = true
  | [], _, _, k, b, h => by simp at h
  | c :: rest, i, hp, k, b, h => by
    simp only [bridgesOkL, Bool.and_eq_true] at hp
    cases k with
    | zero => simp at h; subst h; exact ⟨hp.1.1.1, by simpa using hp.1.2⟩
    | succ k =>
      have := bridgesOkL_at hp.2 k b (by simpa using h)
      rwa [show i + 1 + k = i + (k + 1) by omega] at this
theorem inB_iff (x lo hi : Int) : inB x lo hi = true ↔ lo ≤ x ∧ x ≤ hi := by simp [inB]
theorem isEnd_at {bs : List S65} {a p : Int} (h : isEndB bs a p = true) : ∃ (i j : Nat) (b : S65) (s : S138), a = i ∧ p = j ∧ bs[i]? = some b ∧ b.f1[j]? = some s := by
  simp only [isEndB, Bool.and_eq_true, inB_iff] at h
  obtain ⟨⟨h1, h2⟩, h3, h4⟩ := h
  refine ⟨a.toNat, p.toNat, bs[a.toNat]'(by omega), ?_⟩
  have e : bs[a.toNat]? = some (bs[a.toNat]'(by omega)) := List.getElem?_eq_getElem _
  rw [List.getD_eq_getElem?_getD, e, Option.getD_some] at h4
  exact ⟨(bs[a.toNat]'(by omega)).f1[p.toNat]'(by omega), by omega, by omega, e, List.getElem?_eq_getElem _⟩
theorem isEnd_in {bs : List S65} {a p : Int} (h : isEndB bs a p = true) : EndIn bs a p := by
  obtain ⟨i, j, b, s, rfl, rfl, h1, h2⟩ := isEnd_at h
  exact ⟨i, j, rfl, rfl, b, s, h1, h2⟩
theorem endB_eq (bs : List S65) (a p : Int) : endB bs a p = (isEndB bs a p && (portAt bs a p).f0) := by
  simp [endB, isEndB, Bool.and_assoc]
theorem mem_ends {x : S145} : ∀ {ls : List S145}, x ∈ ls → (⟨x.f0, x.f1⟩ : S162) ∈ ends ls ∧ (⟨x.f2, x.f3⟩ : S162) ∈ ends ls
  | y :: ys, h => by
    rcases List.mem_cons.1 h with rfl | h
    · simp [ends]
    · obtain ⟨h1, h2⟩ := mem_ends h; simp [ends, h1, h2]
theorem mem_cnt {x : S162} {u : List S162} (h : x ∈ u) : memE x.f0 x.f1 u = true := by
  simp only [memE, List.any_eq_true]; exact ⟨x, h, by simp⟩
theorem netOk_good {bs : List S65} {ls : List S145} (h : netOkS bs ls = true) : (∀ x ∈ ls, goodL bs x) ∧ usedL bs ls [] = some (ends ls) := by
  simp only [netOkS, Bool.and_eq_true, List.all_eq_true] at h
  obtain ⟨⟨⟨_, _⟩, hb⟩, hl⟩ := h
  have hg : ∀ x ∈ ls, goodL bs x := by
    intro x hx
    have := hl x hx
    simp only [linkOkB, Bool.and_eq_true, endB_eq] at this
    exact ⟨by simpa using this.1.1, this.1.2.1, this.2.1⟩
  refine ⟨hg, ?_⟩
  have := used_of ls [] hg (by
    intro a p h
    obtain ⟨i, j, b, s, rfl, rfl, h1, h2⟩ := isEnd_at h
    have := portsOkL_at (bridgesOkL_at hb i b h1).2 j s h2
    rw [onceL_cnt] at this
    simp at this ⊢
    have hbit : bitI s.f0 ≤ 1 := by unfold bitI; split <;> omega
    omega)
  simpa using this
theorem netOk_eq (bs : List S65) (ls : List S145) : netOkI bs ls = netOkS bs ls := by
  cases hu : usedL bs ls [] with
  | none =>
    have h2 : netOkS bs ls = false := by
      rw [Bool.eq_false_iff]; intro h
      rw [(netOk_good h).2] at hu; cases hu
    rw [h2]; simp [netOkI, linksOkB, hu]
  | some u =>
    obtain ⟨e, hg, hc⟩ := used_some ls [] u hu (by simp [cnt_nil])
    simp at e; subst e
    rw [netOkI, netOkS, linksOkB, hu, bridges_eq (ends ls) (fun a q => onceL_cnt a q ls) hc]
    simp only
    have hl : bridgesI (ends ls) bs 0 = true → ls.all (linkOkB bs) = true := by
      intro hB
      rw [List.all_eq_true]
      intro x hx
      obtain ⟨g1, g2, g3⟩ := hg x hx
      obtain ⟨m1, m2⟩ := mem_ends hx
      have m1 := mem_cnt m1
      have m2 := mem_cnt m2
      have P : ∀ a p, isEndB bs a p = true → memE a p (ends ls) = true → endB bs a p = true := by
        intro a p h hm
        rw [endB_eq, h, Bool.true_and]
        obtain ⟨i, j, b, s, rfl, rfl, h1, h2⟩ := isEnd_at h
        rw [portAt_eq h1 h2, portsI_at (bridgesI_at hB i b h1) j s h2]
        simpa using hm
      simp only [linkOkB, P _ _ g2 m1, P _ _ g3 m2]
      simpa using g1
    show _ = (inB bs.length 1 5 && decide (ls.length ≤ 6) && (idsL bs bs 0 && bridgesI (ends ls) bs ((0 : Nat) : Int)) && ls.all (linkOkB bs))
    rw [show ((0 : Nat) : Int) = 0 from rfl]
    cases h : bridgesI (ends ls) bs 0
    · simp
    · rw [hl h]
      cases idsL bs bs 0 <;> cases inB bs.length 1 5 <;> cases decide (ls.length ≤ 6) <;> rfl
theorem netOk_cnt {bs : List S65} {ls : List S145} (h : netOkS bs ls = true) : ∀ a p, cnt a p (ends ls) ≤ 1 :=
  (used_some ls [] _ (netOk_good h).2 (by simp [cnt_nil])).2.2
theorem netOk_in {bs : List S65} {ls : List S145} (h : netOkS bs ls = true) : ∀ y ∈ ls, LinkIn bs y := fun y hy =>
  ⟨isEnd_in ((netOk_good h).1 y hy).2.1, isEnd_in ((netOk_good h).1 y hy).2.2⟩
theorem netOk_ports {bs : List S65} {ls : List S145} (h : netOkS bs ls = true) : ∀ b ∈ bs, b.f1.length ≤ 4 := by
  intro b hb
  simp only [netOkS, Bool.and_eq_true] at h
  obtain ⟨k, hk⟩ := List.mem_iff_getElem?.1 hb
  have := (bridgesOkL_at h.1.2 k b hk).1
  simp only [bridgeOkB, Bool.and_eq_true, inB_iff] at this
  omega
theorem acrossL_none {bs : List S65} {b p : Int} : ∀ {ls : List S145}, cnt b p (ends ls) = 0 → acrossL bs b p ls = (0, 0, false)
  | [], _ => rfl
  | x :: xs, h => by
    simp only [ends, cnt_cons] at h
    have c1 : ¬ (x.f0 = b ∧ x.f1 = p) := by
      intro e; rw [if_pos (show b = (⟨x.f0, x.f1⟩ : S162).f0 ∧ p = (⟨x.f0, x.f1⟩ : S162).f1 from ⟨e.1.symm, e.2.symm⟩)] at h; omega
    have c2 : ¬ (x.f2 = b ∧ x.f3 = p) := by
      intro e; rw [if_pos (show b = (⟨x.f2, x.f3⟩ : S162).f0 ∧ p = (⟨x.f2, x.f3⟩ : S162).f1 from ⟨e.1.symm, e.2.symm⟩)] at h; omega
    rw [acrossL, if_neg c1, if_neg c2, acrossL_none (ls := xs) (by omega)]
    split <;> rfl
theorem across_rel {bs : List S65} {b p : Int} : ∀ {ls : List S145} (i : Int), 0 ≤ i → cnt b p (ends ls) ≤ 1 →
    (acrossL bs b p ls = (0, 0, false) ∧ ((otherL b p ls i).2.2 = -1 ∨ (i ≤ (otherL b p ls i).2.2 ∧ ∃ x, ls[((otherL b p ls i).2.2 - i).toNat]? = some x ∧ passB bs x = false))) ∨
    (i ≤ (otherL b p ls i).2.2 ∧ (∃ x, ls[((otherL b p ls i).2.2 - i).toNat]? = some x ∧ passB bs x = true) ∧ acrossL bs b p ls = ((otherL b p ls i).1, (otherL b p ls i).2.1, true))
  | [], i, _, _ => .inl ⟨rfl, .inl rfl⟩
  | x :: xs, i, hi, h => by
    simp only [ends, cnt_cons] at h
    by_cases c1 : x.f0 = b ∧ x.f1 = p
    · have hp : b = (⟨x.f0, x.f1⟩ : S162).f0 ∧ p = (⟨x.f0, x.f1⟩ : S162).f1 := ⟨c1.1.symm, c1.2.symm⟩
      rw [if_pos hp] at h
      have h0 : cnt b p (ends xs) = 0 := by omega
      rw [otherL, if_pos c1, acrossL, if_pos c1, acrossL_none h0]
      cases hx : passB bs x
      · left
        by_cases c2 : x.f2 = b ∧ x.f3 = p
        · exact ⟨by simp, .inr ⟨by simp, x, by simp, hx⟩⟩
        · exact ⟨by simp, .inr ⟨by simp, x, by simp, hx⟩⟩
      · right; exact ⟨by simp, ⟨x, by simp, hx⟩, by simp⟩
    · by_cases c2 : x.f2 = b ∧ x.f3 = p
      · have hp : b = (⟨x.f2, x.f3⟩ : S162).f0 ∧ p = (⟨x.f2, x.f3⟩ : S162).f1 := ⟨c2.1.symm, c2.2.symm⟩
        rw [if_pos hp] at h
        have h0 : cnt b p (ends xs) = 0 := by omega
        rw [otherL, if_neg c1, if_pos c2, acrossL, if_neg c1, if_pos c2, acrossL_none h0]
        cases hx : passB bs x
        · left; exact ⟨by simp, .inr ⟨by simp, x, by simp, hx⟩⟩
        · right; exact ⟨by simp, ⟨x, by simp, hx⟩, by simp⟩
      · have e : acrossL bs b p (x :: xs) = acrossL bs b p xs := by
          rw [acrossL, if_neg c1, if_neg c2]; split <;> rfl
        have sh : ∀ n : Int, i + 1 ≤ n → (x :: xs)[(n - i).toNat]? = xs[(n - (i + 1)).toNat]? := by
          intro n hn
          rw [show (n - i).toNat = (n - (i + 1)).toNat + 1 by omega]; simp
        rw [otherL, if_neg c1, if_neg c2, e]
        rcases across_rel (bs := bs) (b := b) (p := p) (ls := xs) (i + 1) (by omega) (by omega) with ⟨h1, h2 | ⟨h2, y, h3, h4⟩⟩ | ⟨h1, ⟨y, h3, h4⟩, h2⟩
        · exact .inl ⟨h1, .inl h2⟩
        · exact .inl ⟨h1, .inr ⟨by omega, y, by rw [sh _ h2]; exact h3, h4⟩⟩
        · exact .inr ⟨by omega, ⟨y, by rw [sh _ h1]; exact h3, h4⟩, h2⟩
theorem across_eq {bs : List S65} {ls : List S145} {b p : Int} (h : cnt b p (ends ls) ≤ 1) :
    (acrossI bs ls b p = false ∧ acrossL bs b p ls = (0, 0, false)) ∨ (acrossI bs ls b p = true ∧ acrossL bs b p ls = ((otherL b p ls 0).1, (otherL b p ls 0).2.1, true)) := by
  rcases across_rel (bs := bs) (ls := ls) 0 (by omega) h with ⟨h1, h2 | ⟨h2, y, h3, h4⟩⟩ | ⟨h1, ⟨y, h3, h4⟩, h2⟩
  · left; exact ⟨by simp [acrossI, h2], h1⟩
  · left; simp only [Int.sub_zero] at h3; exact ⟨by simp [acrossI, List.getD_eq_getElem?_getD, h3, h4], h1⟩
  · right; simp only [Int.sub_zero] at h3; exact ⟨by simp [acrossI, List.getD_eq_getElem?_getD, h3, h4, h1], h2⟩
theorem stepI_eq {bs : List S65} {ls : List S145} {b but far i : Int} (h : ∀ a p, cnt a p (ends ls) ≤ 1) : ∀ (xs : List S138) (p : Int) (s : List S94 × List Int), s.1.length ≤ 60 → (stepI bs ls b but far i xs p s).1 = (s.1 ++ outL bs ls b but far xs p).take 60
  | [], p, s, hs => by simp [stepI, outL, List.take_of_length_le hs]
  | x :: xs, p, s, hs => by
    rw [stepI, outL]
    rcases across_eq (bs := bs) (h b p) with ⟨e1, e2⟩ | ⟨e1, e2⟩
    · rw [if_neg (by simp [e1]), if_neg (by simp [e2])]
      exact stepI_eq h xs (p + 1) s hs
    · rw [e2]
      by_cases hb : p = but
      · rw [if_neg (by simp [hb]), if_neg (by simp [hb])]
        exact stepI_eq h xs (p + 1) s hs
      · rw [if_pos (show ((otherL b p ls 0).1, (otherL b p ls 0).2.1, true).2.2 = true ∧ p ≠ but from ⟨rfl, hb⟩)]
        by_cases hl : s.1.length < 60
        · rw [if_pos ⟨hb, e1, hl⟩, stepI_eq h xs (p + 1) _ (by simp; omega)]
          simp
        · rw [if_neg (by omega), stepI_eq h xs (p + 1) s hs]
          have e : s.1.length = 60 := by omega
          rw [List.take_append_of_le_length (by omega), List.take_append_of_le_length (by omega)]
theorem bfs_eq {bs : List S65} {ls : List S145} (h : ∀ a p, cnt a p (ends ls) ≤ 1) : ∀ (k i : Nat) (out : List S94) (s : List S94 × List Int), k + i = 60 → s.1 = out.take 60 →
    (match s.1[i]? with | some u => if s.1.length = 60 then s else bfsI bs ls k (i + 1) u s | none => s).1 = (bfsS bs ls k i out).take 60 := by
  intro k
  induction k with
  | zero =>
    intro i out s hk hs
    have hi : i = 60 := by omega
    subst hi
    have : s.1[60]? = none := List.getElem?_eq_none (by rw [hs]; simp; omega)
    rw [this, bfsS]; exact hs
  | succ k ih =>
    intro i out s hk hs
    by_cases hl : out.length < 60
    · have e : s.1 = out := by rw [hs, List.take_of_length_le (by omega)]
      rw [e, bfsS]
      cases hu : out[i]? with
      | none => simp only; rw [hs]
      | some u =>
        have hi := (List.getElem?_eq_some_iff.1 hu).1
        simp only
        rw [if_neg (by omega), if_pos (by omega), bfsI]
        have hS := stepI_eq (bs := bs) (b := u.f0) (but := u.f1) (far := u.f2 + 1) (i := ((i + 1 : Nat) : Int) - 1) h (bs.getD u.f0.toNat z65).f1 0 s (by rw [e]; omega)
        rw [e] at hS
        exact ih (i + 1) (out ++ outV bs ls u) _ (by omega) hS
    · obtain ⟨t, ht⟩ := bfsS_pre bs ls (k + 1) i out
      rw [ht, List.take_append_of_le_length (by omega), ← hs]
      have : s.1.length = 60 := by rw [hs]; simp; omega
      cases s.1[i]? with
      | none => rfl
      | some u => simp only [if_pos this]
theorem flood_eq {bs : List S65} {ls : List S145} (hn : netOkS bs ls = true) (x : Int) : (floodI bs ls x).1 = floodS bs ls x := by
  have h := netOk_cnt hn
  have hS := stepI_eq (bs := bs) (b := x) (but := -1) (far := 0 + 1) (i := ((0 : Nat) : Int) - 1) h (bs.getD x.toNat z65).f1 0 ([], []) (by simp)
  simp only [List.nil_append] at hS
  rw [floodI, bfsI, floodS]
  exact bfs_eq h 60 0 _ _ (by omega) hS
def VOk (bs : List S65) (m : Int) (v : S94) : Prop := 0 ≤ v.f0 ∧ v.f0 < bs.length ∧ 0 ≤ v.f2 ∧ v.f2 ≤ m
theorem acrossL_in {bs : List S65} {b p : Int} : ∀ {ls : List S145}, (∀ y ∈ ls, LinkIn bs y) → (acrossL bs b p ls).2.2 = true → 0 ≤ (acrossL bs b p ls).1 ∧ (acrossL bs b p ls).1 < bs.length
  | [], _, h => by simp [acrossL] at h
  | x :: xs, hin, h => by
    have ih := acrossL_in (bs := bs) (b := b) (p := p) (ls := xs) (fun y hy => hin y (List.mem_cons_of_mem _ hy))
    obtain ⟨⟨i1, _, e1, _, u1, _, g1, _⟩, ⟨i2, _, e2, _, u2, _, g2, _⟩⟩ := hin x (List.mem_cons_self ..)
    have b1 := (List.getElem?_eq_some_iff.1 g1).1
    have b2 := (List.getElem?_eq_some_iff.1 g2).1
    rw [acrossL] at h ⊢
    split
    · rename_i hp; rw [if_pos hp] at h
      split
      · simp only; omega
      · rename_i hq; rw [if_neg hq] at h
        split
        · simp only; omega
        · rename_i hr; rw [if_neg hr] at h; exact ih h
    · rename_i hp; rw [if_neg hp] at h; exact ih h
theorem outL_ok {bs : List S65} {ls : List S145} (hin : ∀ y ∈ ls, LinkIn bs y) {b but far : Int} (h0 : 0 ≤ far) : ∀ {xs : List S138} {p : Int}, ∀ v ∈ outL bs ls b but far xs p, VOk bs far v
  | [], p, v, h => by simp [outL] at h
  | x :: xs, p, v, h => by
    rw [outL] at h
    split at h
    · rename_i hc
      rcases List.mem_cons.1 h with rfl | h
      · have := acrossL_in hin hc.1
        exact ⟨this.1, this.2, h0, Int.le_refl _⟩
      · exact outL_ok hin h0 v h
    · exact outL_ok hin h0 v h
theorem bfsS_ok {bs : List S65} {ls : List S145} (hin : ∀ y ∈ ls, LinkIn bs y) : ∀ (k i : Nat) (out : List S94), k + i = 60 → (∀ v ∈ out, VOk bs (i + 1) v) → ∀ v ∈ bfsS bs ls k i out, VOk bs 61 v := by
  intro k
  induction k with
  | zero =>
    intro i out hk ho v hv
    rw [bfsS] at hv
    obtain ⟨a, b, c, d⟩ := ho v hv
    exact ⟨a, b, c, by omega⟩
  | succ k ih =>
    intro i out hk ho v hv
    rw [bfsS] at hv
    cases hu : out[i]? with
    | none =>
      rw [hu] at hv
      obtain ⟨a, b, c, d⟩ := ho v hv
      exact ⟨a, b, c, by omega⟩
    | some u =>
      rw [hu] at hv
      simp only at hv
      rw [if_pos (by omega)] at hv
      obtain ⟨ua, ub, uc, ud⟩ := ho u (List.mem_of_getElem? hu)
      refine ih (i + 1) _ (by omega) ?_ v hv
      intro y hy
      rcases List.mem_append.1 hy with hy | hy
      · obtain ⟨a, b, c, d⟩ := ho y hy
        exact ⟨a, b, c, by omega⟩
      · obtain ⟨a, b, c, d⟩ := outL_ok hin (by omega) y hy
        exact ⟨a, b, c, by omega⟩
theorem floodS_ok {bs : List S65} {ls : List S145} (hn : netOkS bs ls = true) (x : Int) : ∀ v ∈ bfsS bs ls 60 0 (outL bs ls x (-1) 1 (bs.getD x.toNat z65).f1 0), 0 ≤ v.f0 ∧ v.f0 < bs.length ∧ 0 ≤ v.f2 ∧ v.f2 ≤ 100 := by
  intro v hv
  have hin := netOk_in hn
  obtain ⟨a, b, c, d⟩ := bfsS_ok hin 60 0 _ rfl (fun y hy => by
    obtain ⟨a, b, c, d⟩ := outL_ok hin (by omega) y hy; exact ⟨a, b, c, by omega⟩) v hv
  exact ⟨a, b, c, by omega⟩
theorem floodI_ok {bs : List S65} {ls : List S145} (hn : netOkI bs ls = true) (x : Int) : ∀ v ∈ (floodI bs ls x).1, 0 ≤ v.f0 ∧ v.f0 < bs.length ∧ 0 ≤ v.f2 ∧ v.f2 ≤ 100 := by
  intro v hv
  rw [netOk_eq] at hn
  rw [flood_eq hn, floodS] at hv
  exact floodS_ok hn x v (List.mem_of_mem_take hv)
end Go.Proofs.Ytbdmnjobhfhinaa.M
namespace Go.Proofs.Ytbdmnjobhfhinaa.M
open Go.RowKit Go.Proofs.YtbdmnjobhfhinaaW.PrintWords Go.Proofs.YtbdmnjobhfhinaaW.PrintLast Go.Proofs.YtbdmnjobhfhinaaW.PrintMore
set_option linter.unusedVariables false
set_option linter.unusedSimpArgs false
/-- The rounds without a bound, and who handed each visit on. -/
def bfsT (bs : List S65) (ls : List S145) : Nat → Nat → (List S94 × List Int) → (List S94 × List Int)
  | 0, _, s => s
  | k + 1, i, s => match s.1[i]? with
    | some v => bfsT bs ls k (i + 1) (s.1 ++ outV bs ls v, s.2 ++ (outV bs ls v).map (fun _ => (i : Int)))
    | none => s
def out0 (bs : List S65) (ls : List S145) (x : Int) : List S94 := outL bs ls x (-1) 1 (bs.getD x.toNat z65).f1 0
def startT (bs : List S65) (ls : List S145) (x : Int) : List S94 × List Int := (out0 bs ls x, (out0 bs ls x).map (fun _ => (-1 : Int)))
theorem stepI_pair {bs : List S65} {ls : List S145} {b but far i : Int} (h : ∀ a p, cnt a p (ends ls) ≤ 1) : ∀ (xs : List S138) (p : Int) (s : List S94 × List Int), s.1.length ≤ 60 → s.2.length = s.1.length → (stepI bs ls b but far i xs p s).2 = (s.2 ++ (outL bs ls b but far xs p).map (fun _ => i)).take 60
  | [], p, s, hs, hl => by simp [stepI, outL, List.take_of_length_le (show s.2.length ≤ 60 by omega)]
  | x :: xs, p, s, hs, hl2 => by
    rw [stepI, outL]
    rcases across_eq (bs := bs) (h b p) with ⟨e1, e2⟩ | ⟨e1, e2⟩
    · rw [if_neg (by simp [e1]), if_neg (by simp [e2])]
      exact stepI_pair h xs (p + 1) s hs hl2
    · rw [e2]
      by_cases hb : p = but
      · rw [if_neg (by simp [hb]), if_neg (by simp [hb])]
        exact stepI_pair h xs (p + 1) s hs hl2
      · rw [if_pos (show ((otherL b p ls 0).1, (otherL b p ls 0).2.1, true).2.2 = true ∧ p ≠ but from ⟨rfl, hb⟩)]
        by_cases hl : s.1.length < 60
        · rw [if_pos ⟨hb, e1, hl⟩, stepI_pair h xs (p + 1) _ (by simp; omega) (by simp [hl2])]
          simp
        · rw [if_neg (by omega), stepI_pair h xs (p + 1) s hs hl2]
          rw [List.take_append_of_le_length (by omega), List.take_append_of_le_length (by omega)]
theorem bfsT_pre (bs : List S65) (ls : List S145) : ∀ (k i : Nat) (s : List S94 × List Int), ∃ t u, bfsT bs ls k i s = (s.1 ++ t, s.2 ++ u) ∧ t.length = u.length
  | 0, _, s => ⟨[], [], by simp [bfsT], rfl⟩
  | k + 1, i, s => by
    unfold bfsT
    split
    · obtain ⟨t, u, e, hl⟩ := bfsT_pre bs ls k (i + 1) (s.1 ++ outV bs ls ‹_›, s.2 ++ (outV bs ls ‹_›).map (fun _ => (i : Int)))
      exact ⟨outV bs ls ‹_› ++ t, (outV bs ls ‹_›).map (fun _ => (i : Int)) ++ u, by rw [e]; simp, by simp [hl]⟩
    · exact ⟨[], [], by simp, rfl⟩
theorem bfsT_eq {bs : List S65} {ls : List S145} (h : ∀ a p, cnt a p (ends ls) ≤ 1) : ∀ (k i : Nat) (t s : List S94 × List Int), k + i = 60 → t.2.length = t.1.length → s = (t.1.take 60, t.2.take 60) →
    (match s.1[i]? with | some u => if s.1.length = 60 then s else bfsI bs ls k (i + 1) u s | none => s) = ((bfsT bs ls k i t).1.take 60, (bfsT bs ls k i t).2.take 60) := by
  intro k
  induction k with
  | zero =>
    intro i t s hk ht hs
    have hi : i = 60 := by omega
    subst hi
    have : s.1[60]? = none := List.getElem?_eq_none (by rw [hs]; simp; omega)
    rw [this, bfsT]; exact hs
  | succ k ih =>
    intro i t s hk ht hs
    by_cases hl : t.1.length < 60
    · have e : s = t := by rw [hs, List.take_of_length_le (by omega), List.take_of_length_le (by omega)]
      rw [e, bfsT]
      cases hu : t.1[i]? with
      | none => simp only; rw [← hs, e]
      | some u =>
        have hi := (List.getElem?_eq_some_iff.1 hu).1
        simp only
        rw [if_neg (by omega), bfsI]
        have hS := stepI_eq (bs := bs) (b := u.f0) (but := u.f1) (far := u.f2 + 1) (i := ((i + 1 : Nat) : Int) - 1) h (bs.getD u.f0.toNat z65).f1 0 t (by omega)
        have hP := stepI_pair (bs := bs) (b := u.f0) (but := u.f1) (far := u.f2 + 1) (i := ((i + 1 : Nat) : Int) - 1) h (bs.getD u.f0.toNat z65).f1 0 t (by omega) ht
        rw [show ((i + 1 : Nat) : Int) - 1 = i by omega] at hS hP ⊢
        exact ih (i + 1) (t.1 ++ outV bs ls u, t.2 ++ (outV bs ls u).map (fun _ => (i : Int))) _ (by omega) (by simp [ht]) (Prod.ext hS hP)
    · obtain ⟨p, q, e, hpq⟩ := bfsT_pre bs ls (k + 1) i t
      rw [e]
      simp only
      rw [List.take_append_of_le_length (by omega), List.take_append_of_le_length (by omega), ← hs]
      have : s.1.length = 60 := by rw [hs]; simp; omega
      cases s.1[i]? with
      | none => rfl
      | some u => simp only [if_pos this]
def floodT (bs : List S65) (ls : List S145) (x : Int) : List S94 × List Int := bfsT bs ls 60 0 (startT bs ls x)
theorem floodI_pair {bs : List S65} {ls : List S145} (hn : netOkS bs ls = true) (x : Int) : floodI bs ls x = ((floodT bs ls x).1.take 60, (floodT bs ls x).2.take 60) := by
  have h := netOk_cnt hn
  have hS := stepI_eq (bs := bs) (b := x) (but := -1) (far := 0 + 1) (i := ((0 : Nat) : Int) - 1) h (bs.getD x.toNat z65).f1 0 ([], []) (by simp)
  have hP := stepI_pair (bs := bs) (b := x) (but := -1) (far := 0 + 1) (i := ((0 : Nat) : Int) - 1) h (bs.getD x.toNat z65).f1 0 ([], []) (by simp) (by simp)
  simp only [List.nil_append] at hS hP
  rw [floodI, bfsI, floodT]
  exact bfsT_eq h 60 0 (startT bs ls x) _ (by omega) (by simp [startT]) (Prod.ext hS hP)
/-! What is so of all visits. -/
def srcB (x : Int) (T : List S94) (y : Int) : Int := if y < 0 then x else (T.getD y.toNat z94).f0
/-- All that the visits handed on from y are. -/
def outOf (bs : List S65) (ls : List S145) (x : Int) (T : List S94) (y : Int) : List S94 := if y < 0 then out0 bs ls x else outV bs ls (T.getD y.toNat z94)
structure FInv (bs : List S65) (ls : List S145) (x : Int) (k : Nat) (s : List S94 × List Int) : Prop where
  len : s.2.length = s.1.length
  lo : ∀ (i : Nat) (y : Int), s.2[i]? = some y → -1 ≤ y ∧ y < k ∧ y < i
  mono : ∀ (i j : Nat) (y z : Int), s.2[i]? = some y → s.2[j]? = some z → y < z → i < j
  src : ∀ (i : Nat) (y : Int) (v : S94), s.2[i]? = some y → s.1[i]? = some v → v ∈ outOf bs ls x s.1 y
  full : ∀ y : Int, -1 ≤ y → y < k → ∀ v ∈ outOf bs ls x s.1 y, ∃ i : Nat, s.1[i]? = some v ∧ s.2[i]? = some y
theorem outOf_app (bs : List S65) (ls : List S145) (x : Int) (T U : List S94) {y : Int} (h : y < T.length) : outOf bs ls x (T ++ U) y = outOf bs ls x T y := by
  unfold outOf
  split
  · rfl
  · rw [List.getD_eq_getElem?_getD, List.getD_eq_getElem?_getD, List.getElem?_append_left (by omega)]
theorem finv_start (bs : List S65) (ls : List S145) (x : Int) : FInv bs ls x 0 (startT bs ls x) := by
  have e : ∀ (i : Nat) (y : Int), (startT bs ls x).2[i]? = some y → y = -1 := by
    intro i y h
    simp only [startT, List.getElem?_map, Option.map_eq_some_iff] at h
    obtain ⟨_, _, h⟩ := h; exact h.symm
  refine ⟨by simp [startT], fun i y h => by have := e i y h; omega, fun i j y z h1 h2 h3 => by have := e i y h1; have := e j z h2; omega, fun i y v h1 h2 => ?_, fun y h1 h2 v hv => ?_⟩
  · have := e i y h1
    subst this
    simpa [outOf, startT] using List.mem_of_getElem? h2
  · have : y = -1 := by omega
    subst this
    obtain ⟨i, hi⟩ := List.mem_iff_getElem?.1 (show v ∈ out0 bs ls x from by simpa [outOf] using hv)
    exact ⟨i, hi, by simp [startT, hi]⟩
theorem finv_step {bs : List S65} {ls : List S145} {x : Int} {k : Nat} {s : List S94 × List Int} (h : FInv bs ls x k s) {v : S94} (hv : s.1[k]? = some v) : FInv bs ls x (k + 1) (s.1 ++ outV bs ls v, s.2 ++ (outV bs ls v).map (fun _ => (k : Int))) := by
  have hk := (List.getElem?_eq_some_iff.1 hv).1
  have hl := h.len
  have ek : outOf bs ls x s.1 k = outV bs ls v := by
    unfold outOf; rw [if_neg (by omega), List.getD_eq_getElem?_getD, Int.toNat_natCast, hv]; rfl
  have e : ∀ (i : Nat) (y : Int), (s.2 ++ (outV bs ls v).map (fun _ => (k : Int)))[i]? = some y → (i < s.2.length ∧ s.2[i]? = some y) ∨ (s.2.length ≤ i ∧ y = k) := by
    intro i y hi
    rcases Nat.lt_or_ge i s.2.length with h1 | h1
    · left; rw [List.getElem?_append_left h1] at hi; exact ⟨h1, hi⟩
    · right; rw [List.getElem?_append_right h1] at hi
      simp only [List.getElem?_map, Option.map_eq_some_iff] at hi
      obtain ⟨_, _, hi⟩ := hi; exact ⟨h1, hi.symm⟩
  refine ⟨by simp [hl], fun i y hi => ?_, fun i j y z h1 h2 h3 => ?_, fun i y u h1 h2 => ?_, fun y h1 h2 u hu => ?_⟩
  · rcases e i y hi with ⟨_, h1⟩ | ⟨h1, h2⟩
    · have := h.lo i y h1; omega
    · omega
  · rcases e i y h1 with ⟨a1, a2⟩ | ⟨a1, a2⟩
    · rcases e j z h2 with ⟨b1, b2⟩ | ⟨b1, b2⟩
      · exact h.mono i j y z a2 b2 h3
      · omega
    · rcases e j z h2 with ⟨b1, b2⟩ | ⟨b1, b2⟩
      · have := h.lo j z b2; omega
      · omega
  · simp only at h1 h2 ⊢
    rcases e i y h1 with ⟨a1, a2⟩ | ⟨a1, a2⟩
    · have := h.lo i y a2
      rw [outOf_app _ _ _ _ _ (by omega)]
      rw [List.getElem?_append_left (by omega)] at h2
      exact h.src i y u a2 h2
    · subst a2
      rw [outOf_app _ _ _ _ _ (by omega), ek]
      rw [List.getElem?_append_right (by omega)] at h2
      exact List.mem_of_getElem? h2
  · simp only at hu ⊢
    rw [outOf_app _ _ _ _ _ (by omega)] at hu
    rcases (show y < (k : Int) ∨ (k : Int) ≤ y by omega) with hy | hy
    · obtain ⟨i, a1, a2⟩ := h.full y h1 hy u hu
      have := (List.getElem?_eq_some_iff.1 a1).1
      exact ⟨i, by rw [List.getElem?_append_left this]; exact a1, by rw [List.getElem?_append_left (by omega)]; exact a2⟩
    · have : y = k := by omega
      subst this
      rw [ek] at hu
      obtain ⟨i, hi⟩ := List.mem_iff_getElem?.1 hu
      exact ⟨s.1.length + i, by rw [List.getElem?_append_right (by omega)]; simpa using hi, by rw [List.getElem?_append_right (by omega)]; simp [hl, hi]⟩
theorem finv_bfs {bs : List S65} {ls : List S145} {x : Int} : ∀ (k i : Nat) (s : List S94 × List Int), FInv bs ls x i s → ∃ m, i ≤ m ∧ FInv bs ls x m (bfsT bs ls k i s)
  | 0, i, s, h => ⟨i, Nat.le_refl _, h⟩
  | k + 1, i, s, h => by
    rw [bfsT]
    split
    · rename_i v hv
      obtain ⟨m, hm, h2⟩ := finv_bfs k (i + 1) _ (finv_step h hv)
      exact ⟨m, by omega, h2⟩
    · exact ⟨i, Nat.le_refl _, h⟩
theorem floodT_inv (bs : List S65) (ls : List S145) (x : Int) : ∃ m, FInv bs ls x m (floodT bs ls x) := by
  obtain ⟨m, _, h⟩ := finv_bfs 60 0 _ (finv_start bs ls x)
  exact ⟨m, h⟩
def firstI (t : Int) : List S94 → Int → Int
  | [], _ => -1
  | v :: vs, i => if v.f0 = t then i else firstI t vs (i + 1)
theorem firstI_rel (t : Int) : ∀ (L : List S94) (i : Int), 0 ≤ i → (firstI t L i = -1 ∧ ∀ v ∈ L, v.f0 ≠ t) ∨ (∃ k : Nat, firstI t L i = i + k ∧ (∃ v, L[k]? = some v ∧ v.f0 = t) ∧ ∀ (j : Nat) (u : S94), j < k → L[j]? = some u → u.f0 ≠ t)
  | [], i, _ => .inl ⟨rfl, by simp⟩
  | v :: vs, i, hi => by
    rw [firstI]
    split
    · rename_i h
      exact .inr ⟨0, by simp, ⟨v, rfl, h⟩, fun j u hj => by omega⟩
    · rename_i h
      rcases firstI_rel t vs (i + 1) (by omega) with ⟨h1, h2⟩ | ⟨k, h1, ⟨u, h2, h3⟩, h4⟩
      · exact .inl ⟨h1, fun w hw => by rcases List.mem_cons.1 hw with rfl | hw; exact h; exact h2 w hw⟩
      · refine .inr ⟨k + 1, by rw [h1]; omega, ⟨u, by simpa using h2, h3⟩, fun j w hj hw => ?_⟩
        cases j with
        | zero => simp at hw; subst hw; exact h
        | succ j => exact h4 j w (by omega) (by simpa using hw)
/-- The program's way: from a visit back to the first. -/
def chainI (L : List S94) (Y : List Int) : Nat → Int → List Int
  | 0, _ => []
  | n + 1, at_ => if at_ < 0 then [] else (L.getD at_.toNat z94).f0 :: chainI L Y n (Y.getD at_.toNat 0)
def backL (bs : List S65) (ls : List S145) (v : S94) : Int := (acrossL bs v.f0 v.f1 ls).1
/-- The reference's way. -/
def chainS (bs : List S65) (ls : List S145) (x : Int) (L : List S94) : Nat → Int → List Int → List Int
  | 0, _, _ => []
  | n + 1, at_, out => if at_ = x then out else
    if firstI at_ L 0 < 0 then [] else chainS bs ls x L n (backL bs ls (L.getD (firstI at_ L 0).toNat z94)) (backL bs ls (L.getD (firstI at_ L 0).toNat z94) :: out)
/-! A link has two ends. -/
theorem acrossL_mem {bs : List S65} {b p c q : Int} : ∀ {ls : List S145}, acrossL bs b p ls = (c, q, true) → ∃ x ∈ ls, passB bs x = true ∧ ((x.f0 = b ∧ x.f1 = p ∧ x.f2 = c ∧ x.f3 = q) ∨ (x.f2 = b ∧ x.f3 = p ∧ x.f0 = c ∧ x.f1 = q))
  | [], h => by simp [acrossL] at h
  | x :: xs, h => by
    rw [acrossL] at h
    split at h
    · rename_i hp
      split at h
      · rename_i h1; simp only [Prod.mk.injEq, and_true] at h
        exact ⟨x, List.mem_cons_self .., hp, .inl ⟨h1.1, h1.2, h.1, h.2⟩⟩
      · split at h
        · rename_i h1; simp only [Prod.mk.injEq, and_true] at h
          exact ⟨x, List.mem_cons_self .., hp, .inr ⟨h1.1, h1.2, h.1, h.2⟩⟩
        · obtain ⟨y, hy, r⟩ := acrossL_mem h; exact ⟨y, List.mem_cons_of_mem _ hy, r⟩
    · obtain ⟨y, hy, r⟩ := acrossL_mem h; exact ⟨y, List.mem_cons_of_mem _ hy, r⟩
theorem cnt_mem {x : S145} : ∀ {ls : List S145}, x ∈ ls → 1 ≤ cnt x.f0 x.f1 (ends ls) ∧ 1 ≤ cnt x.f2 x.f3 (ends ls)
  | y :: ys, h => by
    rcases List.mem_cons.1 h with rfl | h
    · simp only [ends, cnt_cons]; simp; omega
    · have := cnt_mem h; simp only [ends, cnt_cons]; omega
theorem acrossL_of {bs : List S65} : ∀ {ls : List S145} {x : S145}, x ∈ ls → passB bs x = true → (∀ a p, cnt a p (ends ls) ≤ 1) → acrossL bs x.f0 x.f1 ls = (x.f2, x.f3, true) ∧ acrossL bs x.f2 x.f3 ls = (x.f0, x.f1, true)
  | y :: ys, x, h, hp, hc => by
    rcases List.mem_cons.1 h with rfl | h
    · rw [acrossL, if_pos hp, if_pos ⟨rfl, rfl⟩, acrossL, if_pos hp]
      refine ⟨rfl, ?_⟩
      by_cases e : x.f0 = x.f2 ∧ x.f1 = x.f3
      · exfalso
        have := hc x.f0 x.f1
        simp only [ends, cnt_cons] at this
        rw [if_pos e, if_pos ⟨trivial, trivial⟩] at this
        omega
      · rw [if_neg e, if_pos ⟨rfl, rfl⟩]
    · have hm := cnt_mem h
      have h1 := hc x.f0 x.f1
      have h2 := hc x.f2 x.f3
      simp only [ends, cnt_cons] at h1 h2
      have n1 : ¬ (y.f0 = x.f0 ∧ y.f1 = x.f1) := by
        intro e; rw [if_pos (show x.f0 = y.f0 ∧ x.f1 = y.f1 from ⟨e.1.symm, e.2.symm⟩)] at h1; omega
      have n2 : ¬ (y.f2 = x.f0 ∧ y.f3 = x.f1) := by
        intro e; rw [if_pos (show x.f0 = y.f2 ∧ x.f1 = y.f3 from ⟨e.1.symm, e.2.symm⟩)] at h1; omega
      have n3 : ¬ (y.f0 = x.f2 ∧ y.f1 = x.f3) := by
        intro e; rw [if_pos (show x.f2 = y.f0 ∧ x.f3 = y.f1 from ⟨e.1.symm, e.2.symm⟩)] at h2; omega
      have n4 : ¬ (y.f2 = x.f2 ∧ y.f3 = x.f3) := by
        intro e; rw [if_pos (show x.f2 = y.f2 ∧ x.f3 = y.f3 from ⟨e.1.symm, e.2.symm⟩)] at h2; omega
      obtain ⟨r1, r2⟩ := acrossL_of (bs := bs) (ls := ys) h hp (fun a p => by have := hc a p; simp only [ends, cnt_cons] at this; omega)
      rw [acrossL, if_neg n1, if_neg n2, r1, acrossL, if_neg n3, if_neg n4, r2]
      exact ⟨by split <;> rfl, by split <;> rfl⟩
theorem acrossL_sym {bs : List S65} {ls : List S145} (hc : ∀ a p, cnt a p (ends ls) ≤ 1) {b p c q : Int} (h : acrossL bs b p ls = (c, q, true)) : acrossL bs c q ls = (b, p, true) := by
  obtain ⟨x, hx, hp, ⟨rfl, rfl, rfl, rfl⟩ | ⟨rfl, rfl, rfl, rfl⟩⟩ := acrossL_mem h
  · exact (acrossL_of hx hp hc).2
  · exact (acrossL_of hx hp hc).1
theorem outL_mem {bs : List S65} {ls : List S145} {b but far : Int} {v : S94} : ∀ {xs : List S138} {p : Int}, v ∈ outL bs ls b but far xs p → ∃ j : Nat, j < xs.length ∧ acrossL bs b (p + j) ls = (v.f0, v.f1, true) ∧ p + j ≠ but
  | [], p, h => by simp [outL] at h
  | x :: xs, p, h => by
    rw [outL] at h
    have rec_ : v ∈ outL bs ls b but far xs (p + 1) → ∃ j : Nat, j < (x :: xs).length ∧ acrossL bs b (p + j) ls = (v.f0, v.f1, true) ∧ p + j ≠ but := by
      intro h
      obtain ⟨j, h1, h2, h3⟩ := outL_mem h
      exact ⟨j + 1, by simpa using h1, by rw [show p + ((j + 1 : Nat) : Int) = p + 1 + j by omega]; exact h2, by omega⟩
    split at h
    · rename_i hc
      rcases List.mem_cons.1 h with rfl | h
      · refine ⟨0, by simp, ?_, by simpa using hc.2⟩
        rw [show p + ((0 : Nat) : Int) = p by omega]
        exact Prod.ext rfl (Prod.ext rfl hc.1)
      · exact rec_ h
    · exact rec_ h
theorem mem_outL {bs : List S65} {ls : List S145} {b but far c q : Int} : ∀ {xs : List S138} {p : Int} (j : Nat), j < xs.length → acrossL bs b (p + j) ls = (c, q, true) → p + j ≠ but → (⟨c, q, far⟩ : S94) ∈ outL bs ls b but far xs p
  | [], p, j, h, _, _ => by simp at h
  | x :: xs, p, j, h, ha, hb => by
    rw [outL]
    cases j with
    | zero =>
      rw [show p + ((0 : Nat) : Int) = p by omega] at ha hb
      rw [ha, if_pos ⟨rfl, hb⟩]; exact List.mem_cons_self ..
    | succ j =>
      rw [show p + ((j + 1 : Nat) : Int) = p + 1 + j by omega] at ha hb
      have := mem_outL (far := far) (xs := xs) (p := p + 1) j (by simpa using h) ha hb
      split
      · exact List.mem_cons_of_mem _ this
      · exact this
/-- The port where a bridge meets another is one of its ports. -/
theorem across_port {bs : List S65} {ls : List S145} (hin : ∀ y ∈ ls, LinkIn bs y) {b p c q : Int} (h : acrossL bs b p ls = (c, q, true)) : ∃ j : Nat, p = j ∧ j < (bs.getD b.toNat z65).f1.length := by
  have E : ∀ {a r : Int}, EndIn bs a r → ∃ j : Nat, r = j ∧ j < (bs.getD a.toNat z65).f1.length := by
    rintro a r ⟨i, j, rfl, rfl, u, s, h1, h2⟩
    exact ⟨j, rfl, by rw [Int.toNat_natCast, List.getD_eq_getElem?_getD, h1]; exact (List.getElem?_eq_some_iff.1 h2).1⟩
  obtain ⟨x, hx, _, ⟨rfl, rfl, _, _⟩ | ⟨rfl, rfl, _, _⟩⟩ := acrossL_mem h
  · exact E (hin x hx).1
  · exact E (hin x hx).2
/-- Who hands on, and by which port: of a visit's source. -/
theorem outOf_mem {bs : List S65} {ls : List S145} {x : Int} {T : List S94} {y : Int} {v : S94} (h : v ∈ outOf bs ls x T y) : ∃ p : Int, 0 ≤ p ∧ acrossL bs (srcB x T y) p ls = (v.f0, v.f1, true) ∧ (0 ≤ y → p ≠ (T.getD y.toNat z94).f1) := by
  unfold outOf at h
  unfold srcB
  split at h
  · rename_i hy
    obtain ⟨j, _, h1, _⟩ := outL_mem h
    exact ⟨j, by omega, by rw [if_pos hy]; simpa using h1, fun h => by omega⟩
  · rename_i hy
    obtain ⟨j, _, h1, h2⟩ := outL_mem h
    exact ⟨j, by omega, by rw [if_neg hy]; simpa using h1, fun _ => by simpa using h2⟩
theorem mem_outOf {bs : List S65} {ls : List S145} (hin : ∀ y ∈ ls, LinkIn bs y) {x : Int} {T : List S94} {y p c q : Int} (h : acrossL bs (srcB x T y) p ls = (c, q, true)) (hp : 0 ≤ y → p ≠ (T.getD y.toNat z94).f1) : ∃ v ∈ outOf bs ls x T y, v.f0 = c := by
  obtain ⟨j, rfl, hj⟩ := across_port hin h
  unfold outOf
  unfold srcB at h hj
  split
  · rename_i hy
    rw [if_pos hy] at h hj
    exact ⟨_, mem_outL (far := 1) j hj (by simpa using h) (by omega), rfl⟩
  · rename_i hy
    rw [if_neg hy] at h hj
    exact ⟨_, mem_outL (far := (T.getD y.toNat z94).f2 + 1) j hj (by simpa using h) (by have := hp (by omega); omega), rfl⟩
/-- The first visit to a bridge was handed on by the first visit to another, or by the beginning. -/
theorem first_back {bs : List S65} {ls : List S145} (hn : netOkS bs ls = true) {x : Int} {m : Nat} {s : List S94 × List Int} (I : FInv bs ls x m s) {i : Nat} {v : S94} (hv : s.1[i]? = some v) (hx : v.f0 ≠ x) (hf : ∀ (j : Nat) (u : S94), j < i → s.1[j]? = some u → u.f0 ≠ v.f0) :
    ∃ y : Int, s.2[i]? = some y ∧ -1 ≤ y ∧ y < i ∧ backL bs ls v = srcB x s.1 y ∧ (0 ≤ y → ∃ u, s.1[y.toNat]? = some u ∧ u.f0 = srcB x s.1 y ∧ u.f0 ≠ x ∧ ∀ (j : Nat) (w : S94), j < y.toNat → s.1[j]? = some w → w.f0 ≠ u.f0) := by
  have hc := netOk_cnt hn
  have hin := netOk_in hn
  have hi := (List.getElem?_eq_some_iff.1 hv).1
  obtain ⟨y, hy⟩ : ∃ y, s.2[i]? = some y := ⟨_, List.getElem?_eq_getElem (by rw [I.len]; exact hi)⟩
  obtain ⟨l1, l2, l3⟩ := I.lo i y hy
  obtain ⟨p, hp0, hp, hpb⟩ := outOf_mem (I.src i y v hy hv)
  have hs := acrossL_sym hc hp
  refine ⟨y, hy, l1, l3, by unfold backL; rw [hs], fun h0 => ?_⟩
  obtain ⟨u, hu⟩ : ∃ u, s.1[y.toNat]? = some u := ⟨_, List.getElem?_eq_getElem (by omega)⟩
  have eu : u.f0 = srcB x s.1 y := by unfold srcB; rw [if_neg (by omega), List.getD_eq_getElem?_getD, hu]; rfl
  have early : ∀ z : Int, -1 ≤ z → z < y → (∃ w ∈ outOf bs ls x s.1 z, w.f0 = v.f0) → False := by
    intro z z1 z2 ⟨w, hw, ew⟩
    obtain ⟨j, j1, j2⟩ := I.full z z1 (by omega) w hw
    exact hf j w (I.mono j i z y j2 hy z2) j1 ew
  refine ⟨u, hu, eu, fun e => ?_, fun j w hj hw e => ?_⟩
  · exact early (-1) (by omega) (by omega) (mem_outOf hin (p := p) (q := v.f1) (by rw [show srcB x s.1 (-1) = x from rfl, ← e, eu]; exact hp) (fun h => by omega))
  · have ej : srcB x s.1 (j : Int) = w.f0 := by unfold srcB; rw [if_neg (by omega), List.getD_eq_getElem?_getD, Int.toNat_natCast, hw]; rfl
    by_cases hq : p = w.f1
    · -- the visit came in where the first one goes out
      obtain ⟨z, hz⟩ : ∃ z, s.2[j]? = some z := ⟨_, List.getElem?_eq_getElem (by rw [I.len]; omega)⟩
      obtain ⟨z1, z2, z3⟩ := I.lo j z hz
      obtain ⟨r, _, hr, _⟩ := outOf_mem (I.src j z w hz hw)
      have hr2 := acrossL_sym hc hr
      rw [e, eu, ← hq, hp] at hr2
      have e3 : v.f0 = srcB x s.1 z := (Prod.mk.inj hr2).1
      unfold srcB at e3
      split at e3
      · exact hx e3
      · obtain ⟨t, ht⟩ : ∃ t, s.1[z.toNat]? = some t := ⟨_, List.getElem?_eq_getElem (by omega)⟩
        rw [List.getD_eq_getElem?_getD, ht] at e3
        exact hf z.toNat t (by omega) ht e3.symm
    · refine early (j : Int) (by omega) (by omega) (mem_outOf hin (p := p) (q := v.f1) (by rw [ej, e, eu]; exact hp) (fun _ => ?_))
      rw [List.getD_eq_getElem?_getD, Int.toNat_natCast, hw]; exact hq
theorem firstI_of {t : Int} {L : List S94} {k : Nat} {v : S94} (hv : L[k]? = some v) (ht : v.f0 = t) (hf : ∀ (j : Nat) (u : S94), j < k → L[j]? = some u → u.f0 ≠ t) : firstI t L 0 = k := by
  rcases firstI_rel t L 0 (by omega) with ⟨_, h⟩ | ⟨q, h1, ⟨u, h2, h3⟩, h4⟩
  · exact absurd ht (h v (List.mem_of_getElem? hv))
  · rw [h1]
    have : q = k := by
      rcases Nat.lt_trichotomy q k with hq | hq | hq
      · exact absurd h3 (hf q u hq h2)
      · exact hq
      · exact absurd ht (h4 k v hq hv)
    omega
theorem take_get {α : Type} {l : List α} {n i : Nat} {v : α} (h : (l.take n)[i]? = some v) : l[i]? = some v ∧ i < n := by
  rw [List.getElem?_take] at h
  split at h
  · exact ⟨h, by assumption⟩
  · cases h
theorem get_take {α : Type} {l : List α} {n i : Nat} (h : i < n) : (l.take n)[i]? = l[i]? := by rw [List.getElem?_take, if_pos h]
theorem chain_eq {bs : List S65} {ls : List S145} (hn : netOkS bs ls = true) {x : Int} {m : Nat} {s : List S94 × List Int} (I : FInv bs ls x m s) : ∀ (N i : Nat), i < N → ∀ (v : S94), (s.1.take 60)[i]? = some v → v.f0 ≠ x → (∀ (j : Nat) (u : S94), j < i → (s.1.take 60)[j]? = some u → u.f0 ≠ v.f0) →
    ∀ (n n' : Nat) (rest : List Int), i + 2 ≤ n → i + 2 ≤ n' → chainS bs ls x (s.1.take 60) n v.f0 (v.f0 :: rest) = (chainI (s.1.take 60) (s.2.take 60) n' (i : Int) ++ [x]).reverse ++ rest := by
  intro N
  induction N with
  | zero => intro i h; omega
  | succ N ih =>
    intro i hiN v hv hx hf n n' rest hn1 hn2
    obtain ⟨hv', hi60⟩ := take_get hv
    have hf' : ∀ (j : Nat) (u : S94), j < i → s.1[j]? = some u → u.f0 ≠ v.f0 := fun j u hj hu => hf j u hj (by rw [get_take (by omega)]; exact hu)
    obtain ⟨y, hy, y1, y2, hb, hr⟩ := first_back hn I hv' hx hf'
    obtain ⟨n, rfl⟩ : ∃ q, n = q + 1 := ⟨n - 1, by omega⟩
    obtain ⟨n', rfl⟩ : ∃ q, n' = q + 1 := ⟨n' - 1, by omega⟩
    have hfi := firstI_of hv rfl hf
    have gy : (s.2.take 60).getD ((i : Int)).toNat 0 = y := by
      rw [Int.toNat_natCast, List.getD_eq_getElem?_getD, get_take hi60, hy]; rfl
    have gv : (s.1.take 60).getD ((i : Int)).toNat z94 = v := by
      rw [Int.toNat_natCast, List.getD_eq_getElem?_getD, hv]; rfl
    rw [chainS, if_neg hx, hfi, if_neg (by omega), gv, hb, chainI, if_neg (by omega), gy, gv]
    by_cases h0 : y < 0
    · have e : srcB x s.1 y = x := by unfold srcB; rw [if_pos h0]
      rw [e]
      obtain ⟨n, rfl⟩ : ∃ q, n = q + 1 := ⟨n - 1, by omega⟩
      obtain ⟨n', rfl⟩ : ∃ q, n' = q + 1 := ⟨n' - 1, by omega⟩
      rw [chainS, if_pos rfl, chainI, if_pos h0]
      simp
    · obtain ⟨u, hu, eu, ux, uf⟩ := hr (by omega)
      have := ih y.toNat (by omega) u (by rw [get_take (by omega)]; exact hu) ux (fun j w hj hw => uf j w hj (take_get hw).1) n n' (v.f0 :: rest) (by omega) (by omega)
      rw [← eu, this, show ((y.toNat : Nat) : Int) = y by omega]
      simp
def pathS (bs : List S65) (ls : List S145) (x to_ : Int) : List Int := chainS bs ls x (floodS bs ls x) 62 to_ [to_]
def pathI (bs : List S65) (ls : List S145) (x to_ : Int) : List Int :=
  if x = to_ then [x] else if firstI to_ (floodI bs ls x).1 0 < 0 then [] else (chainI (floodI bs ls x).1 (floodI bs ls x).2 62 (firstI to_ (floodI bs ls x).1 0) ++ [x]).reverse
theorem path_eq {bs : List S65} {ls : List S145} (hn : netOkS bs ls = true) (x to_ : Int) : pathI bs ls x to_ = pathS bs ls x to_ := by
  unfold pathI pathS
  by_cases h : x = to_
  · rw [if_pos h, chainS, if_pos h.symm, h]
  · rw [if_neg h]
    obtain ⟨m, I⟩ := floodT_inv bs ls x
    have hp := floodI_pair hn x
    have h1 : (floodI bs ls x).1 = (floodT bs ls x).1.take 60 := by rw [hp]
    have h2 : (floodI bs ls x).2 = (floodT bs ls x).2.take 60 := by rw [hp]
    rw [← flood_eq hn, h1, h2]
    rcases firstI_rel to_ ((floodT bs ls x).1.take 60) 0 (by omega) with ⟨e, _⟩ | ⟨k, e, ⟨v, hv, rfl⟩, hf⟩
    · rw [e, if_pos (by omega), chainS, if_neg (fun h2 => h h2.symm), e, if_pos (by omega)]
    · rw [e, Int.zero_add, if_neg (by omega)]
      have hk := (take_get hv).2
      rw [chain_eq hn I (k + 1) k (by omega) v hv (fun e => h e.symm) hf 62 62 [] (by omega) (by omega), List.append_nil]
/-- What a walk along the way needs. -/
theorem by_ok {bs : List S65} {ls : List S145} (hn : netOkS bs ls = true) (x : Int) : (floodI bs ls x).2.length = (floodI bs ls x).1.length ∧ ∀ (i : Nat) (y : Int), (floodI bs ls x).2[i]? = some y → -1 ≤ y ∧ y < i := by
  obtain ⟨m, I⟩ := floodT_inv bs ls x
  rw [floodI_pair hn x]
  refine ⟨by simp [I.len], fun i y h => ?_⟩
  have := I.lo i y (take_get h).1
  omega
theorem back_ok {bs : List S65} {ls : List S145} (hn : netOkS bs ls = true) {x : Int} {i : Nat} {v : S94} (hv : (floodS bs ls x)[i]? = some v) (hx : v.f0 ≠ x) (hf : ∀ (j : Nat) (u : S94), j < i → (floodS bs ls x)[j]? = some u → u.f0 ≠ v.f0) :
    backL bs ls v = x ∨ ∃ (k : Nat) (u : S94), k < i ∧ (floodS bs ls x)[k]? = some u ∧ u.f0 = backL bs ls v ∧ u.f0 ≠ x ∧ ∀ (j : Nat) (w : S94), j < k → (floodS bs ls x)[j]? = some w → w.f0 ≠ u.f0 := by
  obtain ⟨m, I⟩ := floodT_inv bs ls x
  have h1 : floodS bs ls x = (floodT bs ls x).1.take 60 := by rw [← flood_eq hn, floodI_pair hn x]
  rw [h1] at hv hf ⊢
  obtain ⟨hv', hi60⟩ := take_get hv
  obtain ⟨y, hy, y1, y2, hb, hr⟩ := first_back hn I hv' hx (fun j u hj hu => hf j u hj (by rw [get_take (by omega)]; exact hu))
  by_cases h0 : y < 0
  · left; rw [hb]; unfold srcB; rw [if_pos h0]
  · right
    obtain ⟨u, hu, eu, ux, uf⟩ := hr (by omega)
    exact ⟨y.toNat, u, by omega, by rw [get_take (by omega)]; exact hu, by rw [hb, eu], ux, fun j w hj hw => uf j w hj (take_get hw).1⟩
end Go.Proofs.Ytbdmnjobhfhinaa.M
namespace Go.Proofs.Ytbdmnjobhfhinaa.M
open Go.RowKit Go.Proofs.YtbdmnjobhfhinaaW.PrintWords Go.Proofs.YtbdmnjobhfhinaaW.PrintLast Go.Proofs.YtbdmnjobhfhinaaW.PrintMore
set_option linter.unusedVariables false
set_option linter.unusedSimpArgs false
theorem szBs_ok : ∀ (bs : List S172) (left : Int), left ≤ 1048576 → 0 ≤ szBs bs left → 0 ≤ left ∧ ∀ b ∈ bs, b.f1.length ≤ 1048576
  | [], left, _, h => ⟨h, by simp⟩
  | b :: r, left, hl, h => by
    rw [szBs] at h
    split at h
    · omega
    · rename_i hs
      have e : szL b.f1.length left = left - b.f1.length := by unfold szL at hs ⊢; split <;> simp_all
      have h0 : 0 ≤ left - (b.f1.length : Int) := by rw [← e]; omega
      obtain ⟨_, h2⟩ := szBs_ok r _ (by rw [e]; omega) h
      refine ⟨by omega, fun c hc => ?_⟩
      rcases List.mem_cons.1 hc with rfl | hc
      · omega
      · exact h2 c hc
theorem szN_ok {bs : List S172} {ls : List S175} (h : 0 ≤ szN bs ls 1048576) : bs.length ≤ 1048576 ∧ ls.length ≤ 1048576 ∧ ∀ b ∈ bs, b.f1.length ≤ 1048576 := by
  unfold szN at h
  split at h
  · omega
  · rename_i hb
    have hb' : 0 ≤ szBS bs 1048576 := by omega
    have e : szBS bs 1048576 ≤ 1048576 := by
      unfold szBS
      split
      · omega
      · rename_i h2
        rcases szBs_range bs (1048576 - bs.length) (by omega) with h3 | h3 <;> omega
    unfold szBS at hb'
    split at hb'
    · omega
    · rename_i h2
      obtain ⟨h3, h4⟩ := szBs_ok bs _ (by omega) hb'
      have h5 : (ls.length : Int) ≤ szBS bs 1048576 := by
        unfold szL at h
        split at h <;> omega
      exact ⟨by omega, by omega, h4⟩
/-- What the reference tells, and the program. -/
def outHeard (bs : List S65) (ls : List S145) (x : Int) : List Int := if netOkS bs ls && inB x 0 (bs.length - 1) then heardL (floodS bs ls x) (List.replicate bs.length 0) else []
def outFlood (bs : List S65) (ls : List S145) (x : Int) : List S94 := if netOkS bs ls && inB x 0 (bs.length - 1) then floodS bs ls x else []
theorem outHeard_eq (bs : List S65) (ls : List S145) (x : Int) : (if inB x 0 (bs.length - 1) && netOkI bs ls then heardL (floodI bs ls x).1 (List.replicate bs.length 0) else []) = outHeard bs ls x := by
  unfold outHeard
  rw [netOk_eq]
  cases h : netOkS bs ls
  · simp
  · rw [flood_eq h]; simp [Bool.and_comm]
theorem outFlood_eq (bs : List S65) (ls : List S145) (x : Int) : (if inB x 0 (bs.length - 1) && netOkI bs ls then (floodI bs ls x).1 else []) = outFlood bs ls x := by
  unfold outFlood
  rw [netOk_eq]
  cases h : netOkS bs ls
  · simp
  · rw [flood_eq h]; simp [Bool.and_comm]
theorem heardL_len : ∀ (l : List S94) (o : List Int), (heardL l o).length = o.length
  | [], _ => rfl
  | v :: vs, o => by rw [heardL, heardL_len vs]; simp
theorem outHeard_len (bs : List S65) (ls : List S145) (x : Int) : (outHeard bs ls x).length ≤ bs.length := by
  unfold outHeard
  split
  · rw [heardL_len]; simp
  · simp
theorem outFlood_len (bs : List S65) (ls : List S145) (x : Int) : (outFlood bs ls x).length ≤ 60 := by
  unfold outFlood
  split
  · unfold floodS; simp; omega
  · simp
/-- The reference's and the program's contracts, with what they need proved. -/
theorem specHeard_f (A B : Option Addr) (ca cb : Nat) (bs : List S65) (ls : List S145) (x : Int) (w : World) (hA : Kd.C k65 w A bs.length bs) (hB : Kd.C k145 w B ls.length ls) (hbz : bs.length ≤ 1048576) :
    Calls Try.prog 14 #[.agg #[.slice A bs.length ca, .slice B ls.length cb], .int .i64 x] w fun e w' => ∃ v, e = .returned v ∧ Kd.R (Kd.int .i64) 3 w' w.heap.size (fun _ => True) v (outHeard bs ls x) ∧ Below w.heap.size w w' :=
  specHeardBy_c A B ca cb bs ls x w hA hB hbz (fun h => netOk_in h) (fun h => netOk_ports h) (fun h => floodS_ok h x)
theorem implHeard_f (A B : Option Addr) (ca cb : Nat) (bs : List S65) (ls : List S145) (x : Int) (w : World) (hA : Kd.C k65 w A bs.length bs) (hB : Kd.C k145 w B ls.length ls) (hbz : bs.length ≤ 1048576) (hsz : ls.length ≤ 1048576) (hca : bs.length ≤ ca) :
    Calls Try.prog 16 #[.agg #[.slice A bs.length ca, .slice B ls.length cb], .int .i64 x] w fun e w' => ∃ v, e = .returned v ∧ Kd.R (Kd.int .i64) 3 w' w.heap.size (fun _ => True) v (outHeard bs ls x) ∧ Below w.heap.size w w' := by
  rw [← outHeard_eq]
  exact implHeardBy_c A B ca cb bs ls x w hA hB hsz hbz hca (fun h => netOk_in (by rwa [netOk_eq] at h)) (fun h _ => floodI_ok h x)
theorem specFlood_f (A B : Option Addr) (ca cb : Nat) (bs : List S65) (ls : List S145) (x : Int) (w : World) (hA : Kd.C k65 w A bs.length bs) (hB : Kd.C k145 w B ls.length ls) (hbz : bs.length ≤ 1048576) :
    Calls Try.prog 22 #[.agg #[.slice A bs.length ca, .slice B ls.length cb], .int .i64 x] w fun e w' => ∃ v, e = .returned v ∧ Kd.R k94 94 w' w.heap.size (fun _ => True) v (outFlood bs ls x) ∧ Below w.heap.size w w' :=
  specFlood_c A B ca cb bs ls x w hA hB (fun h => netOk_in h) (fun h => netOk_ports h) (fun h => floodS_ok h x)
theorem implFlood_f (A B : Option Addr) (ca cb : Nat) (bs : List S65) (ls : List S145) (x : Int) (w : World) (hA : Kd.C k65 w A bs.length bs) (hB : Kd.C k145 w B ls.length ls) (hbz : bs.length ≤ 1048576) (hsz : ls.length ≤ 1048576) (hca : bs.length ≤ ca) :
    Calls Try.prog 23 #[.agg #[.slice A bs.length ca, .slice B ls.length cb], .int .i64 x] w fun e w' => ∃ v, e = .returned v ∧ Kd.R k94 94 w' w.heap.size (fun _ => True) v (outFlood bs ls x) ∧ Below w.heap.size w w' := by
  rw [← outFlood_eq]
  exact implFlood_c A B ca cb bs ls x w hA hB hsz hca (fun h => netOk_in (by rwa [netOk_eq] at h)) (fun h _ => floodI_ok h x)
end Go.Proofs.Ytbdmnjobhfhinaa.M
