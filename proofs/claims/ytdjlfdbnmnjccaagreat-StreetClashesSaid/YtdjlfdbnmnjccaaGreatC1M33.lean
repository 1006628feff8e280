/- StreetClashes (chapter 8): for every town the law returns true: what Check and Clash answer is what the document says, hour by hour, and the town reads behind the call as it read before.
   Conditions: none beyond the given row. -/
import Derived.Test.YtdjlfdbnmnjccaaGreatRows
import Derived.WalkKit
import Derived.ProofKit
import Derived.OpenShut
import Derived.ShutString
import Derived.ChangeOld
import Derived.Below
import Derived.SizedLaws
import Derived.Test.YtdjlfdbnmnjccaaGreatC1M32
set_option linter.all false
set_option linter.unusedSectionVars false
section
namespace Go.Proofs.YtdjlfdbnmnjccaaGreat.streetClashes
open Go.ChangeShapes Go.WideShapes Go.ChangeAt Go.RowKit
open Go.ChangeMaps (open_string shut_string)
set_option linter.unusedVariables false
theorem own : ownKnob Tryz.prog.godebug = none := by kernel_rfl
theorem laidOut : laidOutB Tryz.prog = true := by kernel_rfl
set_option maxRecDepth 100000 in
theorem lifted (os : Os) (started : os.Started) (H : Type) (enc : TypeId × Value → H) :
    ReturnsInHanded {} Tryz.checked os 3 .any (Rows.streetClashesSpec.pre6 enc Tryz.prog Tryz.f3 Rows.streetClashesRow.domain false) (Rows.streetClashesSpec.post enc Tryz.prog Tryz.f3 false true false false) := by
  refine returnsInHanded_of_change_sized (C := Tryz.checked) own started (by kernel_rfl) Tryz.func3
    (ChangeSpec.witness6 (enc := enc) (C := Tryz.checked) false ⟨#[], #[.agg #[.slice none 0 0, .slice none 0 0]], []⟩ 8 (by kernel_rfl) (by kernel_rfl) (by kernel_rfl) (by kernel_rfl)) ?_
  intro W base args ds gs before hval0 hW hcnd hsz0 _
  have hval : ∀ (j : Nat) t v, Tryz.f3.params[j]? = some t → args[j]? = some v → Value.okWide Tryz.prog W .any base t v := hval0
  have hW' := hW
  obtain ⟨p, q, hA0, hV, rfl, hfz, hnd⟩ := hW
  have hA : DataW.TrodAll enc Tryz.prog W 0 (fun _ => true) true Tryz.f3.params.toList args.toList ds p := hA0
  rw [Tryz.params3] at hA hval
  obtain ⟨v0, vs0, d0, ds0, p0, q0, hargs, rfl, rfl, h0, r0⟩ := trodAll_cons hA
  obtain ⟨rfl, rfl, rfl⟩ := trodAll_nil r0
  obtain rfl : args = #[v0] := by cases args; simp_all
  obtain ⟨rfl, rfl⟩ := trodVars_none hV
  obtain ⟨cs0, rfl, _⟩ := okWide_struct Tryz.underlying25 (hval 0 25 v0 rfl rfl)
  have k0 := h0
  have lt0 : ∀ x ∈ p0, x.block < W.heap.size := by obtain ⟨m, hm⟩ := k0; exact DataW.trod_lt m _ _ _ hm
  obtain ⟨fuel, hf⟩ := h0
  obtain ⟨A0, c0, l0, A1, c1, l1, hcs, n0, m0, n1, m1⟩ := St.open_town hf
  obtain rfl : cs0 = #[.slice A0 l0.length c0, .slice A1 l1.length c1] := by
    have : cs0.toList = [.slice A0 l0.length c0, .slice A1 l1.length c1] := hcs
    cases cs0; simp_all
  clear hA0 hval0 hsz0
  refine (St.smaltolaw08_StreetClashes.calls 4000 A0 c0 l0 A1 c1 l1 true W m0 n0 m1 n1 (St.clashes_true l0 l1 4000 (Nat.le_refl _))).mono fun e W' he => ?_
  obtain ⟨he, bel⟩ := he
  subst he
  exact ⟨_, rfl, _, _, _, [], _, [], hW', trodAll_mk1 (shut_bool Tryz.underlying4 _), (trodAll_cons_mk (Below.trod laidOut (by kernel_rfl) (of_decide_eq_true (by kernel_rfl)) k0 bel lt0) trodAll_mk0), rfl, bel.frame _, fun h => by cases h⟩
theorem over : Rows.streetClashesRow.holds Tryz.pinned (OpenSpec.ofChange Rows.streetClashesSpec) :=
  OpenClaim.holds_of_wide 3 Tryz.f3 rfl rfl rfl rfl rfl rfl rfl ⟨rfl, rfl, rfl, rfl, rfl⟩ rfl rfl rfl rfl rfl (by kernel_rfl) Tryz.func3 (by kernel_rfl)
    (of_decide_eq_true (by kernel_rfl)) (by unfold Func.isWrapper; first | (rw [if_pos (by decide +kernel)]; kernel_rfl) | (rw [if_neg (by decide +kernel)]; exact ⟨rfl, rfl⟩))
    (fun os started H enc _ => lifted os started H enc)
theorem proved : Rows.StreetClashesSaid := over
#print axioms proved
end Go.Proofs.YtdjlfdbnmnjccaaGreat.streetClashes
namespace Go.Proofs.YtdjlfdbnmnjccaaGreat
theorem streetClashes_holds : Rows.StreetClashesSaid := streetClashes.proved
end Go.Proofs.YtdjlfdbnmnjccaaGreat
end
