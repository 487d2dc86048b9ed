/- Plain law: what a search finds is what the enumeration visits and what extends the given numbers. -/
import Derived.Test.YtcblpobiefmjmaaP3
namespace Go.Proofs.Ytcblpobiefmjmaa
open Go Go.RowKit

/-- A filling has the given numbers. -/
def extB (g f : List Int) : Bool := (List.range g.length).all fun i => g[i]?.getD 0 == 0 || g[i]?.getD 0 == f[i]?.getD 0

theorem extB_iff {g f : List Int} : extB g f = true ↔ ∀ i : Nat, i < g.length → g[i]?.getD 0 = 0 ∨ g[i]?.getD 0 = f[i]?.getD 0 := by
  simp only [extB, List.all_eq_true, List.mem_range, Bool.or_eq_true, beq_iff_eq]

structure Good (ls : List (List Int)) (sum : Int) (N : Nat) (f : List Int) : Prop where
  len : f.length = N
  num : ∀ k : Nat, k < N → 1 ≤ f[k]?.getD 0 ∧ f[k]?.getD 0 ≤ (N : Int)
  nodup : f.Nodup
  line : ∀ l, l ∈ ls → sumAt l f = sum

theorem sumAt_congr {l F G : List Int} (h : ∀ x, x ∈ l → F[x.toNat]?.getD 0 = G[x.toNat]?.getD 0) : sumAt l F = sumAt l G := by
  unfold sumAt
  congr 1
  exact List.map_congr_left h

theorem hasB_take {f : List Int} (hn : f.Nodup) {k : Nat} (hk : k < f.length) : hasB (f.take k) (f[k]?.getD 0) = false := by
  rw [Bool.eq_false_iff]
  intro h
  rw [hasB_iff, List.getElem?_eq_getElem hk, Option.getD_some, List.mem_take_iff_getElem] at h
  obtain ⟨i, hi, e⟩ := h
  exact List.pairwise_iff_getElem.1 hn i k (by omega) hk (by omega) e

theorem place_good {cells : Int} {ls : List (List Int)} {sum : Int} {g : List Int} (h : GoodTask cells ls sum g) (f : List Int) : f ∈ placeL ls sum g.length g.length [] ↔ Good ls sum g.length f := by
  rw [mem_placeL]
  simp only [List.length_nil, Nat.zero_add, List.take_zero, Nat.zero_le, forall_const, true_and]
  have hlast : ∀ l, l ∈ ls → lastC l < g.length ∧ ∀ x, x ∈ l → 0 ≤ x ∧ x < ((lastC l + 1 : Nat) : Int) := by
    intro l hl
    have h1 := h.mem l hl (l.length - 1) (by have := h.some l hl; omega)
    have h2 := h.len
    refine ⟨by unfold lastC; omega, fun x hx => ?_⟩
    have h3 := h.le_last hl hx
    have h4 := ((h.lineLen hl).2 x hx).1
    omega
  constructor
  · rintro ⟨h1, h2⟩
    refine ⟨h1, fun k hk => (h2 k (by omega)).1, ?_, fun l hl => ?_⟩
    · refine List.pairwise_iff_getElem.2 fun i j hi hj hij e => ?_
      have h3 := (h2 j hj).2.1
      rw [Bool.eq_false_iff] at h3
      apply h3
      rw [hasB_iff, List.getElem?_eq_getElem hj, Option.getD_some, ← e, List.mem_take_iff_getElem]
      exact ⟨i, by omega, rfl⟩
    · obtain ⟨a1, a2⟩ := hlast l hl
      have h3 := (h2 (lastC l) (by omega)).2.2
      unfold okAt at h3
      have h4 := List.all_eq_true.1 h3 l (List.mem_filter.2 ⟨hl, by rw [List.length_take]; simp; omega⟩)
      rw [sumAt_take a2] at h4
      have : sum - sumAt l f = 0 := by simpa using h4
      omega
  · intro hg
    refine ⟨hg.len, fun k hk => ⟨hg.num k (by have := hg.len; omega), hasB_take hg.nodup hk, ?_⟩⟩
    unfold okAt
    rw [List.all_eq_true]
    intro l hl
    obtain ⟨b1, b2⟩ := List.mem_filter.1 hl
    rw [List.length_take] at b2
    have b3 : lastC l = k := by
      have : lastC l = min (k + 1) f.length - 1 := by simpa using b2
      omega
    have a2 := (hlast l b1).2
    rw [b3] at a2
    rw [sumAt_take a2, hg.line l b1]
    simp

def C0 (cells : Int) (ls : List (List Int)) (sum : Int) (g : List Int) : Cst := ⟨cells, none, 0, 0, ls, sum, none, g.length, 0, g, none, 0, 0, 0⟩

theorem lastTo_ge (O l : List Int) : ∀ (k i : Nat), i < k → hasB l (O[i]?.getD 0) = true → i < lastTo O l k
  | 0, i, h, _ => by omega
  | k + 1, i, h, hb => by
    rw [lastTo_succ]
    rcases Nat.lt_or_ge i k with h1 | h1
    · have := lastTo_ge O l k i h1 hb
      split <;> omega
    · have : i = k := by omega
      subst this
      rw [if_pos hb]; omega

theorem line_path {C : Cst} {S l : List Int} (hS : S.length = C.O.length) (hl : ∀ x, x ∈ l → 0 ≤ x) : sumAt l (fillP C (S.take (lastO C.O l))) = sumAt l (fillP C S) := by
  have hk : lastO C.O l ≤ C.O.length := lastTo_le C.O l C.O.length
  refine sumAt_congr fun x hx => ?_
  by_cases e : ∃ (i : Nat) (hi : i < C.O.length), (C.O[i]).toNat = x.toNat
  · obtain ⟨i, hi, e⟩ := e
    have h1 := mem_open.1 (show C.O[i] ∈ openL C.g from List.getElem_mem hi)
    have h2 := hl x hx
    have hx2 : C.O[i] = x := by omega
    have hik : i < lastO C.O l := lastTo_ge C.O l C.O.length i hi (by rw [List.getElem?_eq_getElem hi, Option.getD_some, hx2]; exact hasB_iff.2 hx)
    rw [← e, fillP_full hS i hi, fillP_at S _ (by omega) hk i hik]
  · rw [fillP_same (fun i hi _ e2 => e ⟨i, hi, e2⟩), fillP_same (fun i hi _ e2 => e ⟨i, hi, e2⟩)]

theorem right_iff {C : Cst} {S : List Int} (hS : S.length = C.O.length) (hf : Fine C) : (∀ k, k ≤ C.O.length → wrongB C (S.take k) = false) ↔ ∀ l, l ∈ C.ls → sumAt l (fillP C S) = C.sum := by
  constructor
  · intro h l hl
    have hk : lastO C.O l ≤ C.O.length := lastTo_le C.O l C.O.length
    have h1 := h (lastO C.O l) hk
    unfold wrongB at h1
    rw [List.any_eq_false] at h1
    have h2 := h1 l (List.mem_filter.2 ⟨hl, by rw [List.length_take]; simp; omega⟩)
    rw [line_path hS (fun x hx => ((hf.line l hl).2 x hx).1)] at h2
    simpa using h2
  · intro h k hk
    unfold wrongB
    rw [List.any_eq_false]
    intro l hl
    obtain ⟨b1, b2⟩ := List.mem_filter.1 hl
    rw [List.length_take] at b2
    have b3 : lastO C.O l = k := by
      have : lastO C.O l = min k S.length := by simpa using b2
      omega
    rw [← b3, line_path hS (fun x hx => ((hf.line l b1).2 x hx).1), h l b1]
    simp

theorem cell_case {C : Cst} {S : List Int} (hS : S.length = C.O.length) (j : Nat) (hj : j < C.g.length) :
    (∃ (i : Nat) (hi : i < C.O.length), (C.O[i]).toNat = j ∧ (fillP C S)[j]?.getD 0 = S[i]?.getD 0 ∧ C.g[j]?.getD 0 = 0) ∨ (C.g[j]?.getD 0 ≠ 0 ∧ (fillP C S)[j]?.getD 0 = C.g[j]?.getD 0) := by
  by_cases h0 : C.g[j]?.getD 0 = 0
  · left
    have hm : (j : Int) ∈ C.O := mem_open.2 ⟨by omega, by omega, by simpa using h0⟩
    obtain ⟨i, hi, e⟩ := List.getElem_of_mem hm
    have e2 : (C.O[i]).toNat = j := by omega
    exact ⟨i, hi, e2, by rw [← e2, fillP_full hS i hi, Option.getD_some], h0⟩
  · right
    refine ⟨h0, ?_⟩
    rw [fillP_same]
    intro i hi _ e
    have h1 := mem_open.1 (show C.O[i] ∈ openL C.g from List.getElem_mem hi)
    rw [e] at h1
    exact h0 h1.2.2

theorem sol_good {cells : Int} {ls : List (List Int)} {sum : Int} {g S : List Int} (h : GoodTask cells ls sum g) (hS : SolP (C0 cells ls sum g) S) : Good ls sum g.length (fillP (C0 cells ls sum g) S) ∧ extB g (fillP (C0 cells ls sum g) S) = true := by
  have hf : Fine (C0 cells ls sum g) := GoodTask.fine h rfl
  have hlen := fillP_len (C0 cells ls sum g) S
  have hgl := h.len
  have hSn : ∀ i, i < S.length → 1 ≤ S[i]?.getD 0 ∧ S[i]?.getD 0 ≤ (g.length : Int) ∧ hasB g (S[i]?.getD 0) = false := by
    intro i hi
    rw [List.getElem?_eq_getElem hi, Option.getD_some]
    exact mem_unused.1 (hS.ok.num _ (List.getElem_mem hi))
  refine ⟨⟨hlen, fun k hk => ?_, ?_, ?_⟩, ?_⟩
  · rcases cell_case hS.len k hk with ⟨i, hi, _, e, _⟩ | ⟨h0, e⟩
    · rw [e]
      have := hSn i (by rw [hS.len]; exact hi)
      exact ⟨this.1, this.2.1⟩
    · have h1 := h.num k hk
      rw [e]
      have h2 : (C0 cells ls sum g).g[k]?.getD 0 = g[k]?.getD 0 := rfl
      rw [h2] at h0 ⊢
      omega
  · refine List.pairwise_iff_getElem.2 fun a b ha hb hab e => ?_
    have hga : a < g.length := by rw [hlen] at ha; exact ha
    have hgb : b < g.length := by rw [hlen] at hb; exact hb
    have e2 : (fillP (C0 cells ls sum g) S)[a]?.getD 0 = (fillP (C0 cells ls sum g) S)[b]?.getD 0 := by
      rw [List.getElem?_eq_getElem ha, List.getElem?_eq_getElem hb, Option.getD_some, Option.getD_some]; exact e
    have hgm : ∀ k, k < g.length → g[k]?.getD 0 ∈ g := fun k hk => by rw [List.getElem?_eq_getElem hk]; exact List.getElem_mem hk
    rcases cell_case hS.len a hga with ⟨i, hi, ei, va, _⟩ | ⟨h0a, va⟩ <;> rcases cell_case hS.len b hgb with ⟨j, hj, ej, vb, _⟩ | ⟨h0b, vb⟩
    · rw [va, vb] at e2
      have hi2 : i < S.length := by rw [hS.len]; exact hi
      have hj2 : j < S.length := by rw [hS.len]; exact hj
      rw [List.getElem?_eq_getElem hi2, List.getElem?_eq_getElem hj2, Option.getD_some, Option.getD_some] at e2
      have hij : i = j := by
        rcases Nat.lt_trichotomy i j with h1 | h1 | h1
        · exact absurd e2 (List.pairwise_iff_getElem.1 hS.ok.nodup i j hi2 hj2 h1)
        · exact h1
        · exact absurd e2.symm (List.pairwise_iff_getElem.1 hS.ok.nodup j i hj2 hi2 h1)
      subst hij
      omega
    · rw [va, vb] at e2
      have h1 := (hSn i (by rw [hS.len]; exact hi)).2.2
      rw [e2, Bool.eq_false_iff] at h1
      exact h1 (hasB_iff.2 (hgm b hgb))
    · rw [va, vb] at e2
      have h1 := (hSn j (by rw [hS.len]; exact hj)).2.2
      rw [← e2, Bool.eq_false_iff] at h1
      exact h1 (hasB_iff.2 (hgm a hga))
    · rw [va, vb] at e2
      have h1 := h.num b hgb
      have h2 : (C0 cells ls sum g).g[b]?.getD 0 = g[b]?.getD 0 := rfl
      rw [h2] at h0b
      exact h.apart a b hab hgb (by omega) e2
  · exact (right_iff hS.len hf).1 hS.right
  · rw [extB_iff]
    intro i hi
    rcases cell_case hS.len i hi with ⟨_, _, _, _, h0⟩ | ⟨_, e⟩
    · exact .inl h0
    · exact .inr e.symm

theorem good_sol {cells : Int} {ls : List (List Int)} {sum : Int} {g f : List Int} (h : GoodTask cells ls sum g) (hg : Good ls sum g.length f) (he : extB g f = true) : ∃ S, SolP (C0 cells ls sum g) S ∧ f = fillP (C0 cells ls sum g) S := by
  have hf : Fine (C0 cells ls sum g) := GoodTask.fine h rfl
  have hx := extB_iff.1 he
  obtain ⟨S, hSd⟩ : ∃ S, S = (C0 cells ls sum g).O.map (fun c => f[c.toNat]?.getD 0) := ⟨_, rfl⟩
  have hlen : S.length = (C0 cells ls sum g).O.length := by rw [hSd, List.length_map]
  have hSi : ∀ (i : Nat) (hi : i < (C0 cells ls sum g).O.length), S[i]?.getD 0 = f[((C0 cells ls sum g).O[i]).toNat]?.getD 0 := by
    intro i hi
    rw [hSd, List.getElem?_map, List.getElem?_eq_getElem hi]
    rfl
  have hopen : ∀ (i : Nat) (hi : i < (C0 cells ls sum g).O.length), ((C0 cells ls sum g).O[i]).toNat < g.length ∧ g[((C0 cells ls sum g).O[i]).toNat]?.getD 0 = 0 := by
    intro i hi
    have h1 := mem_open.1 (show (C0 cells ls sum g).O[i] ∈ openL g from List.getElem_mem hi)
    exact ⟨by omega, h1.2.2⟩
  have hinj : ∀ a b : Nat, a < f.length → b < f.length → f[a]?.getD 0 = f[b]?.getD 0 → a = b := by
    intro a b ha hb e
    rw [List.getElem?_eq_getElem ha, List.getElem?_eq_getElem hb, Option.getD_some, Option.getD_some] at e
    rcases Nat.lt_trichotomy a b with h1 | h1 | h1
    · exact absurd e (List.pairwise_iff_getElem.1 hg.nodup a b ha hb h1)
    · exact h1
    · exact absurd e.symm (List.pairwise_iff_getElem.1 hg.nodup b a hb ha h1)
  have hfl := hg.len
  have hfill : fillP (C0 cells ls sum g) S = f := by
    apply List.ext_getElem?
    intro j
    have hl2 := fillP_len (C0 cells ls sum g) S
    have hl3 : (C0 cells ls sum g).g.length = g.length := rfl
    by_cases hj : j < g.length
    · have key : (fillP (C0 cells ls sum g) S)[j]?.getD 0 = f[j]?.getD 0 := by
        rcases cell_case hlen j hj with ⟨i, hi, ei, e, _⟩ | ⟨h0, e⟩
        · rw [e, hSi i hi, ei]
        · rw [e]
          rcases hx j hj with h1 | h1
          · exact absurd h1 h0
          · exact h1
      rw [List.getElem?_eq_getElem (by omega), List.getElem?_eq_getElem (by omega)] at key ⊢
      simpa using key
    · rw [List.getElem?_eq_none (by omega), List.getElem?_eq_none (by omega)]
  refine ⟨S, ⟨⟨by omega, ?_, ?_⟩, hlen, ?_⟩, hfill.symm⟩
  · intro x hxm
    obtain ⟨i, hi, rfl⟩ := List.getElem_of_mem hxm
    have hi2 : i < (C0 cells ls sum g).O.length := by omega
    obtain ⟨h1, h2⟩ := hopen i hi2
    have h3 := hSi i hi2
    rw [List.getElem?_eq_getElem hi, Option.getD_some] at h3
    rw [h3]
    have h4 := hg.num _ h1
    refine mem_unused.2 ⟨h4.1, h4.2, ?_⟩
    rw [Bool.eq_false_iff]
    intro hb
    have hb2 : f[((C0 cells ls sum g).O[i]).toNat]?.getD 0 ∈ g := hasB_iff.1 hb
    obtain ⟨j, hj, e⟩ := List.getElem_of_mem hb2
    have e2 : g[j]?.getD 0 = f[((C0 cells ls sum g).O[i]).toNat]?.getD 0 := by rw [List.getElem?_eq_getElem hj]; exact e
    rcases hx j hj with h5 | h5
    · omega
    · have := hinj j _ (by omega) (by omega) (h5.symm.trans e2)
      rw [← this] at h2
      omega
  · rw [hSd]
    refine List.Pairwise.map _ (fun (a b : Int) h => h) (R := fun (a b : Int) => f[a.toNat]?.getD 0 ≠ f[b.toNat]?.getD 0) ?_
    refine List.Pairwise.imp_of_mem ?_ (open_nodup g)
    intro a b ha hb hab e
    have h1 : 0 ≤ a ∧ a < (g.length : Int) ∧ g[a.toNat]?.getD 0 = 0 := mem_open.1 ha
    have h2 : 0 ≤ b ∧ b < (g.length : Int) ∧ g[b.toNat]?.getD 0 = 0 := mem_open.1 hb
    have := hinj a.toNat b.toNat (by omega) (by omega) e
    omega
  · refine (right_iff hlen hf).2 fun l hl => ?_
    rw [hfill]
    exact hg.line l hl

theorem mem_sols {C : Cst} (he : Even C) (hf : Fine C) (f : List Int) : f ∈ sols C [] ↔ ∃ S, SolP C S ∧ f = fillP C S := by
  unfold sols
  have hok : OkP C [] := ⟨Nat.zero_le _, fun x hx => absurd hx (by simp), List.nodup_nil⟩
  by_cases h0 : C.O.length = 0
  · rw [if_pos h0]
    by_cases hw : wrongB C [] = true
    · rw [if_pos hw]
      constructor
      · intro h; cases h
      · rintro ⟨S, hS, _⟩
        have h1 := hS.right 0 (Nat.zero_le _)
        rw [List.take_zero, hw] at h1
        cases h1
    · rw [if_neg hw, List.mem_singleton]
      constructor
      · rintro rfl
        refine ⟨[], ⟨hok, by simp [h0], fun k hk => ?_⟩, rfl⟩
        rw [List.take_nil]; simpa using hw
      · rintro ⟨S, hS, rfl⟩
        have := hS.len
        rw [List.eq_nil_of_length_eq_zero (by omega : S.length = 0)]
  · rw [if_neg h0]
    constructor
    · intro h
      obtain ⟨S, h1, h2, _⟩ := found_sound he hf _ [] rfl hok (fun k hk => absurd hk (by simp)) f h
      exact ⟨S, h1, h2⟩
    · rintro ⟨S, hS, rfl⟩
      refine found_mem he hf hS _ [] rfl hok (.inl ⟨List.nil_prefix, fun e => h0 ?_⟩)
      rw [← hS.len, ← e]; rfl

theorem sols_sorted {C : Cst} (he : Even C) (hf : Fine C) : (sols C []).Pairwise Lx := by
  unfold sols
  split
  · split
    · exact List.Pairwise.nil
    · exact List.pairwise_singleton _ _
  · exact found_sorted he hf _ [] rfl ⟨Nat.zero_le _, fun x hx => absurd hx (by simp), List.nodup_nil⟩ (fun k hk => absurd hk (by simp))

/-- THE LAW: the search finds what the enumeration visits and what extends the given numbers, in the same order. -/
theorem sols_eq {cells : Int} {ls : List (List Int)} {sum : Int} {g : List Int} (h : GoodTask cells ls sum g) : solsL ls sum g [] = (placeL ls sum g.length g.length []).filter (extB g) := by
  have hf : Fine (C0 cells ls sum g) := GoodTask.fine h rfl
  have he : Even (C0 cells ls sum g) := h.even
  have e1 : solsL ls sum g [] = sols (C0 cells ls sum g) [] := (sols_pl (C0 cells ls sum g) []).symm
  rw [e1]
  refine sorted_ext Lx.irr Lx.asymm _ _ (sols_sorted he hf) ((placeL_sorted ls sum g.length g.length []).filter _) fun f => ?_
  rw [mem_sols he hf, List.mem_filter, place_good h]
  constructor
  · rintro ⟨S, hS, rfl⟩
    exact sol_good h hS
  · rintro ⟨h1, h2⟩
    exact good_sol h h1 h2

end Go.Proofs.Ytcblpobiefmjmaa
