/- A parameter opened by kinds. No conditions beside those that each theorem states. -/
import Derived.Test.YtbdmnjobhfhinaaMx0
import Derived.Deep.Slices
import Derived.Deep.Fields
import Derived.ChangeSame
import Derived.WideShapes
namespace Go.Proofs.Ytbdmnjobhfhinaa.M
open Go.RowKit Go.Proofs.YtbdmnjobhfhinaaW.PrintWords Go.Proofs.YtbdmnjobhfhinaaW.PrintLast Go.Proofs.YtbdmnjobhfhinaaW.PrintMore
open Go.ChangeShapes Go.WideShapes Go.Deep
set_option linter.unusedVariables false
set_option linter.unusedSimpArgs false
/-- What is read as a datum of type t holds a value of kind d. -/
structure Opens {α : Type} (d : Kd α) (P : Program) (t : TypeId) : Prop where
  out : ∀ {H : Type} (enc : TypeId × Value → H) (w : World) (base : Nat) (spare : Nat → Bool) (held : Bool) (fuel : Nat) (cs : List Value) (x : DataW H × List MemPlace), DataW.trod enc P w base spare held fuel t cs = some x → ∃ a, d.K w a cs
theorem opens_int {P : Program} {t : TypeId} {k : IntKind} (ht : P.underlying t = some (.int k)) : Opens (Kd.int k) P t := by
  refine ⟨?_⟩
  intro H enc w base spare held fuel cs x h
  obtain ⟨n, rfl, _⟩ := DataW.trod_int ht h
  exact ⟨n, rfl⟩
theorem opens_bool {P : Program} {t : TypeId} (ht : P.underlying t = some .bool) : Opens Kd.bool P t := by
  refine ⟨?_⟩
  intro H enc w base spare held fuel cs x h
  obtain ⟨n, rfl, _⟩ := DataW.trod_bool ht h
  exact ⟨n, rfl⟩
theorem opens_string {P : Program} {t : TypeId} (ht : P.underlying t = some .string) : Opens Kd.string P t := by
  refine ⟨?_⟩
  intro H enc w base spare held fuel cs x h
  obtain ⟨n, rfl, _⟩ := DataW.trod_string ht h
  exact ⟨n, rfl⟩
theorem opens_iso {α β : Type} {d : Kd α} {P : Program} {t : TypeId} (f : β → α) (g : α → β) (hg : ∀ a, f (g a) = a) (h : Opens d P t) : Opens (Kd.iso d f) P t := by
  refine ⟨?_⟩
  intro H enc w base spare held fuel cs x hx
  obtain ⟨a, ha⟩ := h.out enc w base spare held fuel cs x hx
  exact ⟨g a, by show d.K w (f (g a)) cs; rw [hg]; exact ha⟩
theorem list_of {α : Type} {n : Nat} {R : Nat → α → Prop} (h : ∀ i, i < n → ∃ y, R i y) : ∃ l : List α, l.length = n ∧ ∀ i y, l[i]? = some y → R i y := by
  induction n with
  | zero => exact ⟨[], rfl, fun i y h => by simp at h⟩
  | succ n ih =>
    obtain ⟨l, hl, hr⟩ := ih (fun i hi => h i (by omega))
    obtain ⟨y, hy⟩ := h n (by omega)
    refine ⟨l ++ [y], by simp [hl], fun i z hz => ?_⟩
    rcases Nat.lt_or_ge i l.length with hi | hi
    · exact hr i z (by rwa [List.getElem?_append_left hi] at hz)
    · rw [List.getElem?_append_right hi] at hz
      have : i = n := by
        rcases Nat.lt_or_ge (i - l.length) 1 with h1 | h1
        · omega
        · rw [List.getElem?_eq_none (by simpa using h1)] at hz; cases hz
      subst this
      rw [hl, Nat.sub_self] at hz
      simp at hz; subst hz; exact hy
theorem opens_slice {α : Type} {d : Kd α} {P : Program} {t e : TypeId} (ht : P.underlying t = some (.slice e)) (hs : d.sz = P.cellsOf e) (hd : Opens d P e) : Opens (Kd.slice e d) P t := by
  refine ⟨?_⟩
  intro H enc w base spare held fuel cs x h
  rcases open_slice ht h with ⟨rfl, _⟩ | ⟨a, len, cap, m, n, D, Pl, rfl, hb, hl, hm, hmm, _, hi⟩
  · exact ⟨[], none, 0, rfl, Nat.le_refl _, ⟨rfl, by simp, fun h => absurd h (by simp)⟩⟩
  · have hlm : len ≤ m := by subst hmm; split <;> omega
    obtain ⟨l, hl1, hl2⟩ := list_of (n := len) (R := fun i y => ∃ c : List Value, c.length = d.sz ∧ d.K w y c ∧ ∀ j u, c[j]? = some u → w.cell? (a.add (i * d.sz + j)) = some u) (by
      intro i hi2
      obtain ⟨cs', h1, h2⟩ := hi i (by omega)
      obtain ⟨y, hy⟩ := hd.out enc w base spare held n cs' _ h2
      obtain ⟨_, hcl, hat⟩ := World.cells?_some h1
      refine ⟨y, cs', d.K_len hy, hy, fun j u hj => ?_⟩
      have hjl := (List.getElem?_eq_some_iff.1 hj).1
      have := hat j (by omega)
      rw [hs, ← Go.Deep.add_add, this, hj])
    subst hl1
    refine ⟨l, some a, cap, rfl, hl, ⟨rfl, ?_, fun _ => ⟨a, rfl, fun j p hj => ?_⟩⟩⟩
    · have : maxLen = 9223372036854775807 := rfl
      omega
    · exact hl2 j p hj
/-- The fields from one on. -/
structure OpensF {α : Type} (d : Kd α) (P : Program) (fs : List Field) (off : Nat) : Prop where
  out : ∀ {H : Type} (enc : TypeId × Value → H) (w : World) (base : Nat) (spare : Nat → Bool) (held : Bool) (n : Nat) (cs : List Value) (ys : List (DataW H × List MemPlace)), cs.length = off + d.sz → ys.length = fs.length →
    (∀ (i : Nat) (f : Field), fs[i]? = some f → DataW.trod enc P w base spare held n f.type ((cs.drop f.offset).take (P.cellsOf f.type)) = ys[i]?) → ∃ a, d.K w a (cs.drop off)
theorem opensF_one {α : Type} {d : Kd α} {P : Program} {f : Field} {off : Nat} (ho : f.offset = off) (hs : d.sz = P.cellsOf f.type) (hd : Opens d P f.type) : OpensF d P [f] off := by
  refine ⟨?_⟩
  intro H enc w base spare held n cs ys hc hy h
  have h0 := h 0 f rfl
  match ys, hy with
  | [y], _ =>
    rw [ho, ← hs, List.take_of_length_le (by rw [List.length_drop]; omega)] at h0
    exact hd.out enc w base spare held n _ y h0
theorem opensF_cons {α β : Type} {a : Kd α} {b : Kd β} {P : Program} {f : Field} {fs : List Field} {off : Nat} (ho : f.offset = off) (hs : a.sz = P.cellsOf f.type) (ha : Opens a P f.type) (hb : OpensF b P fs (off + a.sz)) : OpensF (Kd.pair a b) P (f :: fs) off := by
  refine ⟨?_⟩
  intro H enc w base spare held n cs ys hc hy h
  have hc' : cs.length = off + (a.sz + b.sz) := hc
  have h0 := h 0 f rfl
  match ys, hy with
  | y :: ys, hy =>
    rw [ho, ← hs] at h0
    obtain ⟨xa, hxa⟩ := ha.out enc w base spare held n _ y h0
    obtain ⟨xb, hxb⟩ := hb.out enc w base spare held n cs ys (by omega) (by simpa using hy) (fun i g hg => by
      have := h (i + 1) g (by simpa using hg)
      simpa using this)
    refine ⟨(xa, xb), (cs.drop off).take a.sz, cs.drop (off + a.sz), ?_, hxa, hxb⟩
    rw [← List.drop_drop, List.take_append_drop]
theorem opens_struct {α : Type} {d : Kd α} {P : Program} {t : TypeId} {fs : Array Field} (ht : P.underlying t = some (.struct fs)) (hs : d.sz = P.cellsOf t) (hd : OpensF d P fs.toList 0) : Opens d P t := by
  refine ⟨?_⟩
  intro H enc w base spare held fuel cs x h
  obtain ⟨xs, n, _, _, hl, hxl, hf⟩ := DataW.trod_struct ht h
  have := hd.out enc w base spare held n cs xs (by omega) (by simpa using hxl) (fun i f hi => hf i f (by simpa using hi))
  simpa using this
end Go.Proofs.Ytbdmnjobhfhinaa.M
namespace Go.Proofs.Ytbdmnjobhfhinaa.M
open Go.RowKit Go.Proofs.YtbdmnjobhfhinaaW.PrintWords Go.Proofs.YtbdmnjobhfhinaaW.PrintLast Go.Proofs.YtbdmnjobhfhinaaW.PrintMore
open Go.ChangeShapes Go.WideShapes Go.Deep
set_option linter.unusedVariables false
set_option linter.unusedSimpArgs false
set_option maxRecDepth 100000
theorem oInt : Opens (Kd.int .i64) Try.prog 3 := opens_int Try.underlying3
theorem oBool : Opens Kd.bool Try.prog 4 := opens_bool Try.underlying4
theorem opens123 : Opens k123 Try.prog 123 := by
  refine opens_iso _ (fun a => (⟨a.1, a.2.1, a.2.2.1, a.2.2.2⟩ : S123)) (fun _ => rfl) (opens_struct Try.underlying123 (by kernel_rfl) ?_)
  exact opensF_cons rfl (by kernel_rfl) oInt (opensF_cons rfl (by kernel_rfl) oInt (opensF_cons rfl (by kernel_rfl) oInt (opensF_one rfl (by kernel_rfl) oInt)))
theorem opens175 : Opens k175 Try.prog 175 := by
  refine opens_iso _ (fun a => (⟨a.1, a.2.1, a.2.2.1, a.2.2.2⟩ : S175)) (fun _ => rfl) (opens_struct Try.underlying175 (by kernel_rfl) ?_)
  exact opensF_cons rfl (by kernel_rfl) oInt (opensF_cons rfl (by kernel_rfl) oInt (opensF_cons rfl (by kernel_rfl) oInt (opensF_one rfl (by kernel_rfl) oInt)))
theorem opens260 : Opens k260 Try.prog 260 := by
  refine opens_iso _ (fun a => (⟨a.1, a.2.1, a.2.2.1, a.2.2.2.1, a.2.2.2.2.1, a.2.2.2.2.2.1, a.2.2.2.2.2.2.1, a.2.2.2.2.2.2.2⟩ : S260)) (fun _ => rfl) (opens_struct Try.underlying260 (by kernel_rfl) ?_)
  exact opensF_cons rfl (by kernel_rfl) oBool (opensF_cons rfl (by kernel_rfl) oBool (opensF_cons rfl (by kernel_rfl) opens123 (opensF_cons rfl (by kernel_rfl) oInt (opensF_cons rfl (by kernel_rfl) oInt (opensF_cons rfl (by kernel_rfl) oInt (opensF_cons rfl (by kernel_rfl) oInt (opensF_one rfl (by kernel_rfl) oBool)))))))
theorem opens172 : Opens k172 Try.prog 172 := by
  refine opens_iso _ (fun a => (⟨a.1, a.2⟩ : S172)) (fun _ => rfl) (opens_struct Try.underlying172 (by kernel_rfl) ?_)
  exact opensF_cons rfl (by kernel_rfl) oInt (opensF_one rfl (by kernel_rfl) (opens_slice Try.underlying170 (by kernel_rfl) opens260))
def kNet : Kd (List S172 × List S175) := Kd.pair (Kd.slice 172 k172) (Kd.slice 175 k175)
theorem opensNet : Opens kNet Try.prog 25 := by
  refine opens_struct Try.underlying25 (by kernel_rfl) ?_
  exact opensF_cons rfl (by kernel_rfl) (opens_slice Try.underlying22 (by kernel_rfl) opens172) (opensF_one rfl (by kernel_rfl) (opens_slice Try.underlying23 (by kernel_rfl) opens175))
theorem openNet {H : Type} {enc : TypeId × Value → H} {w : World} {base : Nat} {spare : Nat → Bool} {held : Bool} {r : Reach} {b0 : Nat} {v : Value} {d : DataW H} {p : List MemPlace} (hv : Value.okWide Try.prog w r b0 25 v) (h : DataW.Trod enc Try.prog w base spare held 25 v d p) :
    ∃ (A B : Option Addr) (ca cb : Nat) (bs : List S172) (ls : List S175), v = .agg #[.slice A bs.length ca, .slice B ls.length cb] ∧ Kd.C k172 w A bs.length bs ∧ Kd.C k175 w B ls.length ls := by
  obtain ⟨cs, rfl, _⟩ := okWide_struct Try.underlying25 hv
  obtain ⟨fuel, hf⟩ := h
  obtain ⟨⟨bs, ls⟩, c0, c1, e, ⟨A, ca, rfl, _, hA⟩, ⟨B, cb, rfl, _, hB⟩⟩ := opensNet.out enc w base spare held fuel _ _ hf
  refine ⟨A, B, ca, cb, bs, ls, ?_, hA, hB⟩
  obtain ⟨l⟩ := cs
  have e2 : l = [.slice A bs.length ca] ++ [.slice B ls.length cb] := e
  rw [e2]; rfl
end Go.Proofs.Ytbdmnjobhfhinaa.M
