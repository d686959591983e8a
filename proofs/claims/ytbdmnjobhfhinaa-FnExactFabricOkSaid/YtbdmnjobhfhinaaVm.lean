/- A Fabric opened by kinds. No conditions beside those that each theorem states. -/
import Derived.Test.YtbdmnjobhfhinaaVg
namespace Go.Proofs.Ytbdmnjobhfhinaa.M
open Go.RowKit Go.Proofs.YtbdmnjobhfhinaaW.PrintWords Go.Proofs.YtbdmnjobhfhinaaW.PrintLast Go.Proofs.YtbdmnjobhfhinaaW.PrintMore
open Go.ChangeShapes Go.WideShapes Go.Deep
set_option linter.unusedVariables false
set_option linter.unusedSimpArgs false
set_option maxRecDepth 100000
theorem opens267 : Opens k267 Try.prog 267 := by
  refine opens_iso _ (fun a => (⟨a.1, a.2⟩ : S267)) (fun _ => rfl) (opens_struct Try.underlying267 (by kernel_rfl) ?_)
  exact opensF_cons rfl (by kernel_rfl) oInt (opensF_one rfl (by kernel_rfl) (opens_slice Try.underlying27 (by kernel_rfl) oInt))
theorem opens270 : Opens k270 Try.prog 270 := by
  refine opens_iso _ (fun a => (⟨a.1, a.2.1, a.2.2.1, a.2.2.2⟩ : S270)) (fun _ => rfl) (opens_struct Try.underlying270 (by kernel_rfl) ?_)
  exact opensF_cons rfl (by kernel_rfl) oInt (opensF_cons rfl (by kernel_rfl) oInt (opensF_cons rfl (by kernel_rfl) oInt (opensF_one rfl (by kernel_rfl) oInt)))
theorem opens220 : Opens k220 Try.prog 220 := by
  refine opens_iso _ (fun a => (⟨a.1, a.2.1, a.2.2⟩ : S220)) (fun _ => rfl) (opens_struct Try.underlying220 (by kernel_rfl) ?_)
  exact opensF_cons rfl (by kernel_rfl) (opens_slice Try.underlying149 (by kernel_rfl) oBool) (opensF_cons rfl (by kernel_rfl) (opens_slice Try.underlying217 (by kernel_rfl) opens267) (opensF_one rfl (by kernel_rfl) (opens_slice Try.underlying218 (by kernel_rfl) opens270)))
def kFab : Kd ((List S172 × List S175) × List S220) := Kd.pair kNet (Kd.slice 220 k220)
theorem opensFab : Opens kFab Try.prog 78 := by
  refine opens_struct Try.underlying78 (by kernel_rfl) ?_
  exact opensF_cons rfl (by kernel_rfl) opensNet (opensF_one rfl (by kernel_rfl) (opens_slice Try.underlying76 (by kernel_rfl) opens220))
theorem openFabric {H : Type} {enc : TypeId × Value → H} {w : World} {base : Nat} {spare : Nat → Bool} {held : Bool} {r : Reach} {b0 : Nat} {v : Value} {d : DataW H} {p : List MemPlace} (hv : Value.okWide Try.prog w r b0 78 v) (h : DataW.Trod enc Try.prog w base spare held 78 v d p) :
    ∃ (A B C : Option Addr) (ca cb cc : Nat) (bs : List S172) (ls : List S175) (cs : List S220), v = .agg #[.slice A bs.length ca, .slice B ls.length cb, .slice C cs.length cc] ∧ Kd.C k172 w A bs.length bs ∧ Kd.C k175 w B ls.length ls ∧ Kd.C k220 w C cs.length cs := by
  obtain ⟨vs, rfl, _⟩ := okWide_struct Try.underlying78 hv
  obtain ⟨fuel, hf⟩ := h
  obtain ⟨⟨⟨bs, ls⟩, cs⟩, c0, c1, e, ⟨d0, d1, e0, ⟨A, ca, rfl, _, hA⟩, ⟨B, cb, rfl, _, hB⟩⟩, ⟨C, cc, rfl, _, hC⟩⟩ := opensFab.out enc w base spare held fuel _ _ hf
  refine ⟨A, B, C, ca, cb, cc, bs, ls, cs, ?_, hA, hB, hC⟩
  obtain ⟨l⟩ := vs
  have e2 : l = ([.slice A bs.length ca] ++ [.slice B ls.length cb]) ++ [.slice C cs.length cc] := by rw [← e0]; exact e
  rw [e2]; rfl
end Go.Proofs.Ytbdmnjobhfhinaa.M
