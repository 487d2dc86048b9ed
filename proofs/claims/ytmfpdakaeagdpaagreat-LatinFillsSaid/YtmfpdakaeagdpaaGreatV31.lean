/- For all arguments, talismanlaw04.LatinFills returns true, and the arguments read afterwards as they did before. Conditions: none beyond the given statement. -/
import Derived.Test.YtmfpdakaeagdpaaGreatW01
import Derived.Test.YtmfpdakaeagdpaaGreatW02
import Derived.Test.YtmfpdakaeagdpaaGreatW03
import Derived.Test.YtmfpdakaeagdpaaGreatW04
import Derived.Test.YtmfpdakaeagdpaaGreatW05
import Derived.Test.YtmfpdakaeagdpaaGreatW06
import Derived.Test.YtmfpdakaeagdpaaGreatW07
import Derived.Test.YtmfpdakaeagdpaaGreatW08
import Derived.Test.YtmfpdakaeagdpaaGreatW09
import Derived.Test.YtmfpdakaeagdpaaGreatW10
import Derived.Test.YtmfpdakaeagdpaaGreatW11
import Derived.Test.YtmfpdakaeagdpaaGreatW12
import Derived.Test.YtmfpdakaeagdpaaGreatW13
import Derived.Test.YtmfpdakaeagdpaaGreatW14
import Derived.Test.YtmfpdakaeagdpaaGreatW15
import Derived.Test.YtmfpdakaeagdpaaGreatW16
import Derived.Test.YtmfpdakaeagdpaaGreatW17
import Derived.Test.YtmfpdakaeagdpaaGreatW18
import Derived.Test.YtmfpdakaeagdpaaGreatW19
import Derived.Test.YtmfpdakaeagdpaaGreatW20
import Derived.Test.YtmfpdakaeagdpaaGreatW21
import Derived.Test.YtmfpdakaeagdpaaGreatW22
import Derived.Test.YtmfpdakaeagdpaaGreatW23
import Derived.Test.YtmfpdakaeagdpaaGreatW24
import Derived.Test.YtmfpdakaeagdpaaGreatW25
import Derived.Test.YtmfpdakaeagdpaaGreatW26
import Derived.Test.YtmfpdakaeagdpaaGreatW27
import Derived.Test.YtmfpdakaeagdpaaGreatX31n01
import Derived.Test.YtmfpdakaeagdpaaGreatX31n02
import Derived.Test.YtmfpdakaeagdpaaGreatX31n03
import Derived.Test.YtmfpdakaeagdpaaGreatRows
import Derived.WalkKit
import Derived.ProofKit
import Derived.SizedLaws
import Derived.ChangeOld
import Derived.Below
namespace Go.Proofs.YtmfpdakaeagdpaaGreat
open Go Go.RowKit Go.ChangeShapes Go.WideShapes Go.ChangeAt

theorem F31.own : ownKnob Tryz.prog.godebug = none := by kernel_rfl
theorem F31.laidOut : laidOutB Tryz.prog = true := by kernel_rfl

set_option maxRecDepth 100000 in
theorem F31.lifted (os : Os) (started : os.Started) (H : Type) (enc : TypeId × Value → H) :
    ReturnsInHanded {} Tryz.checked os 8 .any (Rows.latinFillsSpec.pre6 enc Tryz.prog Tryz.f8 Rows.latinFillsRow.domain false) (Rows.latinFillsSpec.post enc Tryz.prog Tryz.f8 false true false false) := by
  refine returnsInHanded_of_change_sized (C := Tryz.checked) F31.own started (by kernel_rfl) Tryz.func8
    (ChangeSpec.witness6 (enc := enc) (C := Tryz.checked) false ⟨#[], #[.agg #[.int .i64 0, .int .i64 0, .slice none 0 0], .agg #[.int .i64 0, .int .i64 0, .slice none 0 0]], []⟩ 8 (by kernel_rfl) (by kernel_rfl) (by kernel_rfl) (by kernel_rfl)) ?_
  intro W base args ds gs before hval0 hW hcnd hsz0 _
  have hsz : (DataW.weightsEach Tryz.prog (Tryz.f8.params.toList ++ Rows.latinFillsSpec.plain.varTypes Tryz.prog) (ds ++ gs)).all (· ≤ reachBytes) = true := hsz0
  have hval : ∀ (j : Nat) t v, Tryz.f8.params[j]? = some t → args[j]? = some v → Value.okWide Tryz.prog W .any base t v := hval0
  have hW' := hW
  obtain ⟨p, q, hA0, hV, rfl, hfz, hnd⟩ := hW
  have hA : DataW.TrodAll enc Tryz.prog W 0 (fun _ => true) true Tryz.f8.params.toList args.toList ds p := hA0
  rw [Tryz.params8] at hA hval hsz
  obtain ⟨v0, v1, d0, d1, p0, p1, hargs, rfl, rfl, h0, h1⟩ := trodAll_two hA
  obtain rfl : args = #[v0, v1] := by cases args; simp_all
  obtain ⟨rfl, rfl⟩ := trodVars_none hV
  have k0 := h0
  have lt0 : ∀ x ∈ p0, x.block < W.heap.size := by obtain ⟨m, hm⟩ := k0; exact DataW.trod_lt m _ _ _ hm
  have k1 := h1
  have lt1 : ∀ x ∈ p1, x.block < W.heap.size := by obtain ⟨m, hm⟩ := k1; exact DataW.trod_lt m _ _ _ hm
  have hz0 : ∀ n ∈ d0.weights Tryz.prog 24, n ≤ reachBytes := fun n hn =>
    of_decide_eq_true (List.all_eq_true.1 hsz n (DataW.weights_mem_each (j := 0) (t := 24) rfl rfl n hn))
  have hz1 : ∀ n ∈ d1.weights Tryz.prog 24, n ≤ reachBytes := fun n hn =>
    of_decide_eq_true (List.all_eq_true.1 hsz n (DataW.weights_mem_each (j := 1) (t := 24) rfl rfl n hn))
  obtain ⟨r0, C0, as0, ns0, cs0, X0, rfl, hcs0, hX0⟩ := open_grid (hval 0 24 v0 rfl rfl) h0 hz0
  obtain ⟨r1, C1, as1, ns1, cs1, X1, rfl, hcs1, hX1⟩ := open_grid (hval 1 24 v1 rfl rfl) h1 hz1
  clear hA0 hval0 hsz0 hsz hz0 hz1 h0 h1
  refine (lfills_c r0 C0 as0 ns0 cs0 X0 r1 C1 as1 ns1 cs1 X1 W hX0 hcs0 hX1 hcs1).mono fun e W' ⟨he, bel⟩ => ?_
  subst he
  exact ⟨_, rfl, _, _, _, [], _, [], hW', trodAll_mk1 (shut_bool Tryz.underlying4 _), trodAll_mk2 (Below.trod F31.laidOut (by kernel_rfl) (of_decide_eq_true (by kernel_rfl)) k0 bel lt0) (Below.trod F31.laidOut (by kernel_rfl) (of_decide_eq_true (by kernel_rfl)) k1 bel lt1), rfl, bel.frame _, fun h => by cases h⟩

theorem F31.named : Tryz.pinned.checked.prog.funcNamed Rows.latinFillsRow.func = some 8 := by kernel_rfl
theorem F31.inst : Tryz.f8.isInstance Tryz.pinned.checked.prog Rows.latinFillsRow.origin Rows.latinFillsRow.targs := of_decide_eq_true (by kernel_rfl)
theorem F31.wrap : Tryz.f8.isWrapper Tryz.pinned.checked.prog Rows.latinFillsRow.wrapper Rows.latinFillsRow.mainSum := by unfold Func.isWrapper; first | (rw [if_pos (by decide +kernel)]; kernel_rfl) | (rw [if_neg (by decide +kernel)]; exact ⟨rfl, rfl⟩)
set_option maxHeartbeats 8000000 in
theorem F31.closed : joinedFacts Tryz.pinned.checked.prog 8 Tryz.f8 Rows.latinFillsSpec Rows.latinFillsRow = true := by
  unfold joinedFacts
  simp only [Bool.and_eq_true]
  repeat' (refine And.intro ?_ ?_)
  all_goals decide +kernel
theorem F31.over : Rows.latinFillsRow.holds Tryz.pinned (OpenSpec.ofChange Rows.latinFillsSpec) :=
  OpenClaim.holds_of_wide 8 Tryz.f8 rfl rfl rfl rfl rfl rfl rfl ⟨rfl, rfl, rfl, rfl, rfl⟩ rfl rfl rfl rfl rfl F31.named Tryz.func8 F31.closed
    F31.inst F31.wrap
    (fun os started H enc _ => F31.lifted os started H enc)

theorem latinFills : Rows.LatinFillsSaid := F31.over
#print axioms latinFills
end Go.Proofs.YtmfpdakaeagdpaaGreat
