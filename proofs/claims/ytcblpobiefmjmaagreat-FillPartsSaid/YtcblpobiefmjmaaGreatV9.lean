/- For all arguments, talismanlaw06.FillParts returns true, and the arguments read afterwards as they did before. Conditions: none beyond the given statement. -/
import Derived.Test.YtcblpobiefmjmaaGreatW51
import Derived.Test.YtcblpobiefmjmaaGreatW21
import Derived.Test.YtcblpobiefmjmaaGreatW42
import Derived.Test.YtcblpobiefmjmaaGreatRows
import Derived.WalkKit
import Derived.ProofKit
import Derived.SizedLaws
import Derived.ChangeOld
import Derived.Below
namespace Go.Proofs.YtcblpobiefmjmaaGreat
open Go Go.RowKit Go.ChangeShapes Go.WideShapes Go.ChangeAt

theorem F9.own : ownKnob Tryz.prog.godebug = none := by kernel_rfl
theorem F9.laidOut : laidOutB Tryz.prog = true := by kernel_rfl

set_option maxRecDepth 100000 in
theorem F9.lifted (os : Os) (started : os.Started) (H : Type) (enc : TypeId × Value → H) :
    ReturnsInHanded {} Tryz.checked os 10 .any (Rows.fillPartsSpec.pre6 enc Tryz.prog Tryz.f10 Rows.fillPartsRow.domain false) (Rows.fillPartsSpec.post enc Tryz.prog Tryz.f10 false true false false) := by
  refine returnsInHanded_of_change_sized (C := Tryz.checked) F9.own started (by kernel_rfl) Tryz.func10
    (ChangeSpec.witness6 (enc := enc) (C := Tryz.checked) false ⟨#[], #[.agg #[.int .i64 0, .slice none 0 0, .int .i64 0, .slice none 0 0], .slice none 0 0], []⟩ 8 (by kernel_rfl) (by kernel_rfl) (by kernel_rfl) (by kernel_rfl)) ?_
  intro W base args ds gs before hval0 hW hcnd hsz0 _
  have hsz : (DataW.weightsEach Tryz.prog (Tryz.f10.params.toList ++ Rows.fillPartsSpec.plain.varTypes Tryz.prog) (ds ++ gs)).all (· ≤ reachBytes) = true := hsz0
  have hval : ∀ (j : Nat) t v, Tryz.f10.params[j]? = some t → args[j]? = some v → Value.okWide Tryz.prog W .any base t v := hval0
  have hW' := hW
  obtain ⟨p, q, hA0, hV, rfl, hfz, hnd⟩ := hW
  have hA : DataW.TrodAll enc Tryz.prog W 0 (fun _ => true) true Tryz.f10.params.toList args.toList ds p := hA0
  rw [Tryz.params10] at hA hval hsz
  obtain ⟨v0, v1, d0, d1, p0, p1, hargs, rfl, rfl, h0, h1⟩ := trodAll_two hA
  obtain rfl : args = #[v0, v1] := by cases args; simp_all
  obtain ⟨rfl, rfl⟩ := trodVars_none hV
  have k0 := h0
  have lt0 : ∀ x ∈ p0, x.block < W.heap.size := by obtain ⟨m, hm⟩ := k0; exact DataW.trod_lt m _ _ _ hm
  have k1 := h1
  have lt1 : ∀ x ∈ p1, x.block < W.heap.size := by obtain ⟨m, hm⟩ := k1; exact DataW.trod_lt m _ _ _ hm
  have hz0 : ∀ n ∈ d0.weights Tryz.prog 27, n ≤ reachBytes := fun n hn =>
    of_decide_eq_true (List.all_eq_true.1 hsz n (DataW.weights_mem_each (j := 0) (t := 27) rfl rfl n hn))
  have hz1 : ∀ n ∈ d1.weights Tryz.prog 82, n ≤ reachBytes := fun n hn =>
    of_decide_eq_true (List.all_eq_true.1 hsz n (DataW.weights_mem_each (j := 1) (t := 82) rfl rfl n hn))
  obtain ⟨cells, sum, a, n, c, ls, a', n', c', g, rfl, hc, hc', hr, hg⟩ := open_task (hval 0 27 v0 rfl rfl) h0 hz0
  obtain ⟨ab1, nb1, cb1, rfl⟩ := okWide_slice Tryz.underlying82 (hval 1 82 v1 rfl rfl)
  obtain ⟨X1, hcb1, hX1⟩ : ∃ X, nb1 ≤ cb1 ∧ BC W ab1 nb1 X := by
    obtain ⟨m, hm⟩ := h1
    obtain ⟨a2, n2, c2, X, e, hc2, hX⟩ := O3.bytes (c := .slice ab1 nb1 cb1) (by simpa [Value.cells] using hm) hz1
    cases e
    exact ⟨X, hc2, hX⟩
  clear hA0 hval0 hsz0 hsz hz0 hz1 h0 h1
  refine (fparts_c a n c ls cells sum a' n' c' g ab1 nb1 cb1 X1 W hr hc hg hc' hX1).mono fun e W' ⟨he, bel⟩ => ?_
  subst he
  exact ⟨_, rfl, _, _, _, [], _, [], hW', trodAll_mk1 (shut_bool Tryz.underlying4 _), trodAll_mk2 (Below.trod F9.laidOut (by kernel_rfl) (of_decide_eq_true (by kernel_rfl)) k0 bel lt0) (Below.trod F9.laidOut (by kernel_rfl) (of_decide_eq_true (by kernel_rfl)) k1 bel lt1), rfl, bel.frame _, fun h => by cases h⟩

theorem F9.over : Rows.fillPartsRow.holds Tryz.pinned (OpenSpec.ofChange Rows.fillPartsSpec) :=
  OpenClaim.holds_of_wide 10 Tryz.f10 rfl rfl rfl rfl rfl rfl rfl ⟨rfl, rfl, rfl, rfl, rfl⟩ rfl rfl rfl rfl rfl (by kernel_rfl) Tryz.func10 (by kernel_rfl)
    (of_decide_eq_true (by kernel_rfl)) (by unfold Func.isWrapper; first | (rw [if_pos (by decide +kernel)]; kernel_rfl) | (rw [if_neg (by decide +kernel)]; exact ⟨rfl, rfl⟩))
    (fun os started H enc _ => F9.lifted os started H enc)

theorem fillParts : Rows.FillPartsSaid := F9.over
#print axioms fillParts
end Go.Proofs.YtcblpobiefmjmaaGreat
