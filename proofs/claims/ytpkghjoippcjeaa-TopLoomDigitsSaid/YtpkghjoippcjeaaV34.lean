/- For all arguments, talismantop.TopLoomDigits returns true, and the arguments read afterwards as they did before. Conditions: none beyond the given statement. -/
import Derived.Test.YtpkghjoippcjeaaW18
import Derived.Test.YtpkghjoippcjeaaW02
import Derived.Test.YtpkghjoippcjeaaRows
import Derived.WalkKit
import Derived.ProofKit
import Derived.SizedLaws
import Derived.ChangeOld
import Derived.Below
namespace Go.Proofs.Ytpkghjoippcjeaa
open Go Go.RowKit Go.ChangeShapes Go.WideShapes Go.ChangeAt

theorem F34.own : ownKnob Try.prog.godebug = none := by kernel_rfl
theorem F34.laidOut : laidOutB Try.prog = true := by kernel_rfl

set_option maxRecDepth 100000 in
theorem F34.lifted (os : Os) (started : os.Started) (H : Type) (enc : TypeId × Value → H) :
    ReturnsInHanded {} Try.checked os 3 .any (Rows.topLoomDigitsSpec.pre6 enc Try.prog Try.f3 Rows.topLoomDigitsRow.domain false) (Rows.topLoomDigitsSpec.post enc Try.prog Try.f3 false true false false) := by
  refine returnsInHanded_of_change_sized (C := Try.checked) F34.own started (by kernel_rfl) Try.func3
    (ChangeSpec.witness6 (enc := enc) (C := Try.checked) false ⟨#[], #[.agg #[.int .i64 0, .int .i64 0, .int .i64 0, .int .i64 0, .int .i64 0, .int .i64 0, .int .i64 0]], []⟩ 8 (by kernel_rfl) (by kernel_rfl) (by kernel_rfl) (by kernel_rfl)) ?_
  intro W base args ds gs before hval0 hW hcnd hsz0 _
  have hsz : (DataW.weightsEach Try.prog (Try.f3.params.toList ++ Rows.topLoomDigitsSpec.plain.varTypes Try.prog) (ds ++ gs)).all (· ≤ reachBytes) = true := hsz0
  have hval : ∀ (j : Nat) t v, Try.f3.params[j]? = some t → args[j]? = some v → Value.okWide Try.prog W .any base t v := hval0
  have hW' := hW
  obtain ⟨p, q, hA0, hV, rfl, hfz, hnd⟩ := hW
  have hA : DataW.TrodAll enc Try.prog W 0 (fun _ => true) true Try.f3.params.toList args.toList ds p := hA0
  rw [Try.params3] at hA hval hsz
  obtain ⟨v0, d0, hargs, rfl, h0⟩ := trodAll_one hA
  obtain rfl : args = #[v0] := by cases args; simp_all
  obtain ⟨rfl, rfl⟩ := trodVars_none hV
  have k0 := h0
  have lt0 : ∀ x ∈ p, x.block < W.heap.size := by obtain ⟨m, hm⟩ := k0; exact DataW.trod_lt m _ _ _ hm
  obtain ⟨pn0, pa0, pb0, pc0, pd0, pe0, pf0, rfl⟩ := open_step (hval 0 24 v0 rfl rfl) h0
  clear hA0 hval0 hsz0 hsz  h0
  refine (ldigits_c pn0 pa0 pb0 pc0 pd0 pe0 pf0 W ).mono fun e W' ⟨he, bel⟩ => ?_
  subst he
  exact ⟨_, rfl, _, _, _, [], _, [], hW', trodAll_mk1 (shut_bool Try.underlying4 _), trodAll_mk1 (Below.trod F34.laidOut (by kernel_rfl) (of_decide_eq_true (by kernel_rfl)) k0 bel lt0), rfl, bel.frame _, fun h => by cases h⟩

theorem F34.named : Try.pinned.checked.prog.funcNamed Rows.topLoomDigitsRow.func = some 3 := by kernel_rfl
theorem F34.inst : Try.f3.isInstance Try.pinned.checked.prog Rows.topLoomDigitsRow.origin Rows.topLoomDigitsRow.targs := of_decide_eq_true (by kernel_rfl)
theorem F34.wrap : Try.f3.isWrapper Try.pinned.checked.prog Rows.topLoomDigitsRow.wrapper Rows.topLoomDigitsRow.mainSum := by unfold Func.isWrapper; first | (rw [if_pos (by decide +kernel)]; kernel_rfl) | (rw [if_neg (by decide +kernel)]; exact ⟨rfl, rfl⟩)
set_option maxHeartbeats 8000000 in
theorem F34.closed : joinedFacts Try.pinned.checked.prog 3 Try.f3 Rows.topLoomDigitsSpec Rows.topLoomDigitsRow = true := by
  unfold joinedFacts
  simp only [Bool.and_eq_true]
  repeat' (refine And.intro ?_ ?_)
  all_goals decide +kernel
theorem F34.over : Rows.topLoomDigitsRow.holds Try.pinned (OpenSpec.ofChange Rows.topLoomDigitsSpec) :=
  OpenClaim.holds_of_wide 3 Try.f3 rfl rfl rfl rfl rfl rfl rfl ⟨rfl, rfl, rfl, rfl, rfl⟩ rfl rfl rfl rfl rfl F34.named Try.func3 F34.closed
    F34.inst F34.wrap
    (fun os started H enc _ => F34.lifted os started H enc)

theorem topLoomDigits : Rows.TopLoomDigitsSaid := F34.over
#print axioms topLoomDigits
end Go.Proofs.Ytpkghjoippcjeaa
