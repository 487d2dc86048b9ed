/- For all arguments, talismantop.TopKnotCarried returns true, and the arguments read afterwards as they did before. Conditions: none beyond the given statement. -/
import Derived.Test.YtaadpihbjhachaaGreatW30
import Derived.Test.YtaadpihbjhachaaGreatW17
import Derived.Test.YtaadpihbjhachaaGreatW27
import Derived.Test.YtaadpihbjhachaaGreatRows
import Derived.WalkKit
import Derived.ProofKit
import Derived.SizedLaws
import Derived.ChangeOld
import Derived.Below
namespace Go.Proofs.YtaadpihbjhachaaGreat
open Go Go.RowKit Go.ChangeShapes Go.WideShapes Go.ChangeAt

theorem F16.own : ownKnob Tryz.prog.godebug = none := by kernel_rfl
theorem F16.laidOut : laidOutB Tryz.prog = true := by kernel_rfl

set_option maxRecDepth 100000 in
theorem F16.lifted (os : Os) (started : os.Started) (H : Type) (enc : TypeId × Value → H) :
    ReturnsInHanded {} Tryz.checked os 6 .any (Rows.topKnotCarriedSpec.pre6 enc Tryz.prog Tryz.f6 Rows.topKnotCarriedRow.domain false) (Rows.topKnotCarriedSpec.post enc Tryz.prog Tryz.f6 false true false false) := by
  refine returnsInHanded_of_change_sized (C := Tryz.checked) F16.own started (by kernel_rfl) Tryz.func6
    (ChangeSpec.witness6 (enc := enc) (C := Tryz.checked) false ⟨#[], #[.agg #[.int .i64 0, .slice none 0 0, .int .i64 0, .slice none 0 0], .agg #[.slice none 0 0, .bool false]], []⟩ 8 (by kernel_rfl) (by kernel_rfl) (by kernel_rfl) (by kernel_rfl)) ?_
  intro W base args ds gs before hval0 hW hcnd hsz0 _
  have hsz : (DataW.weightsEach Tryz.prog (Tryz.f6.params.toList ++ Rows.topKnotCarriedSpec.plain.varTypes Tryz.prog) (ds ++ gs)).all (· ≤ reachBytes) = true := hsz0
  have hval : ∀ (j : Nat) t v, Tryz.f6.params[j]? = some t → args[j]? = some v → Value.okWide Tryz.prog W .any base t v := hval0
  have hW' := hW
  obtain ⟨p, q, hA0, hV, rfl, hfz, hnd⟩ := hW
  have hA : DataW.TrodAll enc Tryz.prog W 0 (fun _ => true) true Tryz.f6.params.toList args.toList ds p := hA0
  rw [Tryz.params6] at hA hval hsz
  obtain ⟨v0, v1, d0, d1, p0, p1, hargs, rfl, rfl, h0, h1⟩ := trodAll_two hA
  obtain rfl : args = #[v0, v1] := by cases args; simp_all
  obtain ⟨rfl, rfl⟩ := trodVars_none hV
  have k0 := h0
  have lt0 : ∀ x ∈ p0, x.block < W.heap.size := by obtain ⟨m, hm⟩ := k0; exact DataW.trod_lt m _ _ _ hm
  have k1 := h1
  have lt1 : ∀ x ∈ p1, x.block < W.heap.size := by obtain ⟨m, hm⟩ := k1; exact DataW.trod_lt m _ _ _ hm
  have hz0 : ∀ n ∈ d0.weights Tryz.prog 27, n ≤ reachBytes := fun n hn =>
    of_decide_eq_true (List.all_eq_true.1 hsz n (DataW.weights_mem_each (j := 0) (t := 27) rfl rfl n hn))
  have hz1 : ∀ n ∈ d1.weights Tryz.prog 29, n ≤ reachBytes := fun n hn =>
    of_decide_eq_true (List.all_eq_true.1 hsz n (DataW.weights_mem_each (j := 1) (t := 29) rfl rfl n hn))
  obtain ⟨cells, sum, a, n, c, ls, a', n', c', g, rfl, hc, hc', hr, hg⟩ := open_task (hval 0 27 v0 rfl rfl) h0 hz0
  obtain ⟨as1, ns1, cs1, X1, b1, rfl, hcs1, hX1⟩ := open_sym (hval 1 29 v1 rfl rfl) h1 hz1
  clear hA0 hval0 hsz0 hsz hz0 hz1 h0 h1
  refine (carried_c a n c ls cells sum a' n' c' g as1 ns1 cs1 X1 b1 W hr hc hg hc' hX1).mono fun e W' ⟨he, bel⟩ => ?_
  subst he
  exact ⟨_, rfl, _, _, _, [], _, [], hW', trodAll_mk1 (shut_bool Tryz.underlying4 _), trodAll_mk2 (Below.trod F16.laidOut (by kernel_rfl) (of_decide_eq_true (by kernel_rfl)) k0 bel lt0) (Below.trod F16.laidOut (by kernel_rfl) (of_decide_eq_true (by kernel_rfl)) k1 bel lt1), rfl, bel.frame _, fun h => by cases h⟩

theorem F16.over : Rows.topKnotCarriedRow.holds Tryz.pinned (OpenSpec.ofChange Rows.topKnotCarriedSpec) :=
  OpenClaim.holds_of_wide 6 Tryz.f6 rfl rfl rfl rfl rfl rfl rfl ⟨rfl, rfl, rfl, rfl, rfl⟩ rfl rfl rfl rfl rfl (by kernel_rfl) Tryz.func6 (by kernel_rfl)
    (of_decide_eq_true (by kernel_rfl)) (by unfold Func.isWrapper; first | (rw [if_pos (by decide +kernel)]; kernel_rfl) | (rw [if_neg (by decide +kernel)]; exact ⟨rfl, rfl⟩))
    (fun os started H enc _ => F16.lifted os started H enc)

theorem topKnotCarried : Rows.TopKnotCarriedSaid := F16.over
#print axioms topKnotCarried
end Go.Proofs.YtaadpihbjhachaaGreat
