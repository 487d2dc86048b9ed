/- Texts O2 to O2 of this proof, in one file. -/
import Derived.Test.YtcblpobiefmjmaaGreatU15
import Derived.Test.YtcblpobiefmjmaaGreatU21
import Derived.Deep.Slices
import Derived.ChangeArms
namespace Go.Proofs.YtcblpobiefmjmaaGreat
open Go Go.RowKit Go.ChangeShapes Go.WideShapes
theorem O2.cellsN : Tryz.prog.cellsOf 109 = 5 := by kernel_rfl
theorem O2.bytesN : Tryz.prog.bytesOf 109 = 48 := by kernel_rfl
theorem O2.cells9 : Tryz.prog.cellsOf 9 = 1 := by kernel_rfl
instance : Inhabited Nd := ⟨⟨⟨#[]⟩, 0, 0, 0, 0⟩⟩
section
variable {H : Type} {enc : TypeId × Value → H} {w : World} {held : Bool}
set_option maxRecDepth 100000 in
theorem O2.node {n : Nat} {cs : List Value} {x : DataW H × List MemPlace} (hl : cs.length = 5) (h : DataW.trod enc Tryz.prog w 0 (fun _ => true) held n 109 cs = some x) : ∃ d : Nd, cs = ndA d := by
  obtain ⟨xs, m, _, _, _, hxl, hf⟩ := DataW.trod_struct Tryz.underlying109 h
  match cs, hl with
  | [v0, v1, v2, v3, v4], _ =>
    have hx : ∀ i, i < 5 → ∃ y, xs[i]? = some y := fun i hi => ⟨xs[i]'(by rw [hxl]; exact hi), List.getElem?_eq_getElem _⟩
    obtain ⟨y0, e0⟩ := hx 0 (by decide)
    obtain ⟨y1, e1⟩ := hx 1 (by decide)
    obtain ⟨y2, e2⟩ := hx 2 (by decide)
    obtain ⟨y3, e3⟩ := hx 3 (by decide)
    obtain ⟨y4, e4⟩ := hx 4 (by decide)
    have g0 := hf 0 _ rfl
    have g1 := hf 1 _ rfl
    have g2 := hf 2 _ rfl
    have g3 := hf 3 _ rfl
    have g4 := hf 4 _ rfl
    rw [e0] at g0
    rw [e1] at g1
    rw [e2] at g2
    rw [e3] at g3
    rw [e4] at g4
    simp [O2.cells9] at g0
    simp [O1.cells3] at g1
    simp [O1.cells3] at g2
    simp [O1.cells3] at g3
    simp [O1.cells3] at g4
    obtain ⟨s, r0, _, _⟩ := DataW.trod_string Tryz.underlying9 g0
    obtain ⟨i1, r1, _, _⟩ := DataW.trod_int Tryz.underlying3 g1
    obtain ⟨i2, r2, _, _⟩ := DataW.trod_int Tryz.underlying3 g2
    obtain ⟨i3, r3, _, _⟩ := DataW.trod_int Tryz.underlying3 g3
    obtain ⟨i4, r4, _, _⟩ := DataW.trod_int Tryz.underlying3 g4
    simp only [List.cons.injEq, and_true] at r0 r1 r2 r3 r4
    exact ⟨⟨s, i1, i2, i3, i4⟩, by rw [r0, r1, r2, r3, r4]; rfl⟩
set_option maxRecDepth 100000 in
theorem open_nodes {fuel : Nat} {c : Value} {y : DataW H × List MemPlace} (h : DataW.trod enc Tryz.prog w 0 (fun _ => true) held fuel 33 [c] = some y) (hz : ∀ n ∈ y.1.weights Tryz.prog 33, n ≤ reachBytes) :
    ∃ a n cap T, c = .slice a n cap ∧ n ≤ cap ∧ TC w a n T := by
  rcases Go.Deep.open_slice Tryz.underlying33 h with ⟨hcs, _⟩ | ⟨x, l, cap, m, k, D, Pl, hcs, _, hl, hm, hmm, hy, hel⟩
  · simp only [List.cons.injEq, and_true] at hcs
    exact ⟨none, 0, 0, [], hcs, Nat.le_refl _, ⟨rfl, by omega⟩, fun k d hk => by cases hk⟩
  · simp only [List.cons.injEq, and_true] at hcs
    simp only [if_true] at hmm
    subst hmm
    rw [hy] at hz
    have h1 := hz _ (by simp only [DataW.weights, Tryz.underlying33]; exact List.mem_cons_self)
    simp only [List.length_map, List.length_range, O2.bytesN, O1.reach] at h1
    rw [O2.cellsN] at hel
    have hex : ∀ i, i < l → ∃ d : Nd, ∀ j, j < 5 → w.cell? ((x.add (i * 5)).add j) = (ndA d)[j]? := by
      intro i hi
      obtain ⟨cs', h2, h3⟩ := hel i (by omega)
      obtain ⟨_, hlen, hcell⟩ := World.cells?_some h2
      obtain ⟨d, rfl⟩ := O2.node hlen h3
      exact ⟨d, hcell⟩
    obtain ⟨N, hN⟩ := Go.Deep.choose_lt hex
    obtain ⟨b, off, spot⟩ := x
    refine ⟨some ⟨b, off, spot⟩, l, m, (List.range l).map N, hcs, hl, ⟨by simp, by omega⟩, fun r d hr => ?_⟩
    have hrl : r < l := by
      rcases Nat.lt_or_ge r l with h | h
      · exact h
      · rw [List.getElem?_eq_none (by simpa using h)] at hr; cases hr
    rw [List.getElem?_map, List.getElem?_range hrl] at hr
    simp only [Option.map_some, Option.some.injEq] at hr
    subst hr
    have hc := hN r hrl
    have hs : spot = none := by simpa [Addr.add] using World.cell?_spot (hN 0 (by omega) 0 (by decide))
    subst hs
    have key : ∀ j, j < 5 → w.cell? ⟨b, off + r * 5 + j, none⟩ = (ndA (N r))[j]? := fun j hj => by
      have := hc j hj
      rwa [Go.Deep.add_add, add_plain, ← Nat.add_assoc] at this
    have k0 := key 0 (by decide)
    exact ⟨b, off, rfl, World.block_lt_of_cell? _ _ k0, k0, key 1 (by decide), key 2 (by decide), key 3 (by decide), key 4 (by decide)⟩
end
end Go.Proofs.YtcblpobiefmjmaaGreat
