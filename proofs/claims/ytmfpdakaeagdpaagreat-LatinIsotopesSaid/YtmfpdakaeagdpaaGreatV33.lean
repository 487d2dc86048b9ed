/- For all arguments, talismanlaw04.LatinIsotopes returns true, and the arguments read afterwards as they did before. Conditions: none beyond the given statement. -/
import Derived.Test.YtmfpdakaeagdpaaGreatW01
import Derived.Test.YtmfpdakaeagdpaaGreatW02
import Derived.Test.YtmfpdakaeagdpaaGreatW03
import Derived.Test.YtmfpdakaeagdpaaGreatW04
import Derived.Test.YtmfpdakaeagdpaaGreatW05
import Derived.Test.YtmfpdakaeagdpaaGreatW06
import Derived.Test.YtmfpdakaeagdpaaGreatW07
import Derived.Test.YtmfpdakaeagdpaaGreatW08
import Derived.Test.YtmfpdakaeagdpaaGreatW09
import Derived.Test.YtmfpdakaeagdpaaGreatW10
import Derived.Test.YtmfpdakaeagdpaaGreatW11
import Derived.Test.YtmfpdakaeagdpaaGreatW12
import Derived.Test.YtmfpdakaeagdpaaGreatW13
import Derived.Test.YtmfpdakaeagdpaaGreatW14
import Derived.Test.YtmfpdakaeagdpaaGreatW15
import Derived.Test.YtmfpdakaeagdpaaGreatW16
import Derived.Test.YtmfpdakaeagdpaaGreatW17
import Derived.Test.YtmfpdakaeagdpaaGreatW18
import Derived.Test.YtmfpdakaeagdpaaGreatW19
import Derived.Test.YtmfpdakaeagdpaaGreatW20
import Derived.Test.YtmfpdakaeagdpaaGreatW21
import Derived.Test.YtmfpdakaeagdpaaGreatW22
import Derived.Test.YtmfpdakaeagdpaaGreatW23
import Derived.Test.YtmfpdakaeagdpaaGreatW24
import Derived.Test.YtmfpdakaeagdpaaGreatW25
import Derived.Test.YtmfpdakaeagdpaaGreatW26
import Derived.Test.YtmfpdakaeagdpaaGreatW27
import Derived.Test.YtmfpdakaeagdpaaGreatX33n01
import Derived.Test.YtmfpdakaeagdpaaGreatX33n02
import Derived.Test.YtmfpdakaeagdpaaGreatX33n03
import Derived.Test.YtmfpdakaeagdpaaGreatX33n04
import Derived.Test.YtmfpdakaeagdpaaGreatX33n05
import Derived.Test.YtmfpdakaeagdpaaGreatX33n06
import Derived.Test.YtmfpdakaeagdpaaGreatRows
import Derived.WalkKit
import Derived.ProofKit
import Derived.SizedLaws
import Derived.ChangeOld
import Derived.Below
namespace Go.Proofs.YtmfpdakaeagdpaaGreat
open Go Go.RowKit Go.ChangeShapes Go.WideShapes Go.ChangeAt

theorem F33.own : ownKnob Tryz.prog.godebug = none := by kernel_rfl
theorem F33.laidOut : laidOutB Tryz.prog = true := by kernel_rfl

set_option maxRecDepth 100000 in
theorem F33.lifted (os : Os) (started : os.Started) (H : Type) (enc : TypeId × Value → H) :
    ReturnsInHanded {} Tryz.checked os 18 .any (Rows.latinIsotopesSpec.pre6 enc Tryz.prog Tryz.f18 Rows.latinIsotopesRow.domain false) (Rows.latinIsotopesSpec.post enc Tryz.prog Tryz.f18 false true false false) := by
  refine returnsInHanded_of_change_sized (C := Tryz.checked) F33.own started (by kernel_rfl) Tryz.func18
    (ChangeSpec.witness6 (enc := enc) (C := Tryz.checked) false ⟨#[], #[.agg #[.int .i64 0, .int .i64 0, .slice none 0 0], .agg #[.slice none 0 0, .slice none 0 0, .slice none 0 0, .int .i64 0, .int .i64 0, .int .i64 0]], []⟩ 8 (by kernel_rfl) (by kernel_rfl) (by kernel_rfl) (by kernel_rfl)) ?_
  intro W base args ds gs before hval0 hW hcnd hsz0 _
  have hsz : (DataW.weightsEach Tryz.prog (Tryz.f18.params.toList ++ Rows.latinIsotopesSpec.plain.varTypes Tryz.prog) (ds ++ gs)).all (· ≤ reachBytes) = true := hsz0
  have hval : ∀ (j : Nat) t v, Tryz.f18.params[j]? = some t → args[j]? = some v → Value.okWide Tryz.prog W .any base t v := hval0
  have hW' := hW
  obtain ⟨p, q, hA0, hV, rfl, hfz, hnd⟩ := hW
  have hA : DataW.TrodAll enc Tryz.prog W 0 (fun _ => true) true Tryz.f18.params.toList args.toList ds p := hA0
  rw [Tryz.params18] at hA hval hsz
  obtain ⟨v0, v1, d0, d1, p0, p1, hargs, rfl, rfl, h0, h1⟩ := trodAll_two hA
  obtain rfl : args = #[v0, v1] := by cases args; simp_all
  obtain ⟨rfl, rfl⟩ := trodVars_none hV
  have k0 := h0
  have lt0 : ∀ x ∈ p0, x.block < W.heap.size := by obtain ⟨m, hm⟩ := k0; exact DataW.trod_lt m _ _ _ hm
  have k1 := h1
  have lt1 : ∀ x ∈ p1, x.block < W.heap.size := by obtain ⟨m, hm⟩ := k1; exact DataW.trod_lt m _ _ _ hm
  have hz0 : ∀ n ∈ d0.weights Tryz.prog 24, n ≤ reachBytes := fun n hn =>
    of_decide_eq_true (List.all_eq_true.1 hsz n (DataW.weights_mem_each (j := 0) (t := 24) rfl rfl n hn))
  have hz1 : ∀ n ∈ d1.weights Tryz.prog 98, n ≤ reachBytes := fun n hn =>
    of_decide_eq_true (List.all_eq_true.1 hsz n (DataW.weights_mem_each (j := 1) (t := 98) rfl rfl n hn))
  obtain ⟨r0, C0, as0, ns0, cs0, X0, rfl, hcs0, hX0⟩ := open_grid (hval 0 24 v0 rfl rfl) h0 hz0
  obtain ⟨aR1, nR1, cR1, XR1, aK1, nK1, cK1, XK1, aM1, nM1, cM1, XM1, p01, p11, p21, rfl, hR1, hK1, hM1⟩ := open_moves (hval 1 98 v1 rfl rfl) h1 hz1
  clear hA0 hval0 hsz0 hsz hz0 hz1 h0 h1
  refine (lisotopes_c r0 C0 as0 ns0 cs0 X0 aR1 nR1 cR1 XR1 aK1 nK1 cK1 XK1 aM1 nM1 cM1 XM1 p01 p11 p21 W hX0 hcs0 hR1 hK1 hM1).mono fun e W' ⟨he, bel⟩ => ?_
  subst he
  exact ⟨_, rfl, _, _, _, [], _, [], hW', trodAll_mk1 (shut_bool Tryz.underlying4 _), trodAll_mk2 (Below.trod F33.laidOut (by kernel_rfl) (of_decide_eq_true (by kernel_rfl)) k0 bel lt0) (Below.trod F33.laidOut (by kernel_rfl) (of_decide_eq_true (by kernel_rfl)) k1 bel lt1), rfl, bel.frame _, fun h => by cases h⟩

theorem F33.named : Tryz.pinned.checked.prog.funcNamed Rows.latinIsotopesRow.func = some 18 := by kernel_rfl
theorem F33.inst : Tryz.f18.isInstance Tryz.pinned.checked.prog Rows.latinIsotopesRow.origin Rows.latinIsotopesRow.targs := of_decide_eq_true (by kernel_rfl)
theorem F33.wrap : Tryz.f18.isWrapper Tryz.pinned.checked.prog Rows.latinIsotopesRow.wrapper Rows.latinIsotopesRow.mainSum := by unfold Func.isWrapper; first | (rw [if_pos (by decide +kernel)]; kernel_rfl) | (rw [if_neg (by decide +kernel)]; exact ⟨rfl, rfl⟩)
set_option maxHeartbeats 8000000 in
theorem F33.closed : joinedFacts Tryz.pinned.checked.prog 18 Tryz.f18 Rows.latinIsotopesSpec Rows.latinIsotopesRow = true := by
  unfold joinedFacts
  simp only [Bool.and_eq_true]
  repeat' (refine And.intro ?_ ?_)
  all_goals decide +kernel
theorem F33.over : Rows.latinIsotopesRow.holds Tryz.pinned (OpenSpec.ofChange Rows.latinIsotopesSpec) :=
  OpenClaim.holds_of_wide 18 Tryz.f18 rfl rfl rfl rfl rfl rfl rfl ⟨rfl, rfl, rfl, rfl, rfl⟩ rfl rfl rfl rfl rfl F33.named Tryz.func18 F33.closed
    F33.inst F33.wrap
    (fun os started H enc _ => F33.lifted os started H enc)

theorem latinIsotopes : Rows.LatinIsotopesSaid := F33.over
#print axioms latinIsotopes
end Go.Proofs.YtmfpdakaeagdpaaGreat
