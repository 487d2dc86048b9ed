/- Texts S1 to S1 of this proof, in one file. -/
import Derived.Test.YtcblpobiefmjmaaGreatW24
namespace Go.Proofs.YtcblpobiefmjmaaGreat
set_option maxRecDepth 100000
set_option maxHeartbeats 16000000
section
open Go Go.RowKit
theorem lastN_le (O l : List Int) (m : Nat) : ∀ n, (List.range n).foldl (fun m i => if hasB l (O[i]?.getD 0) = true then i + 1 else m) 0 ≤ m ↔ ∀ i, i < n → hasB l (O[i]?.getD 0) = true → i + 1 ≤ m
 | 0 => by simp
 | n + 1 => by
  rw [List.range_succ, List.foldl_append]
  simp only [List.foldl_cons, List.foldl_nil]
  by_cases h : hasB l (O[n]?.getD 0) = true
  ·rw [if_pos h]
   constructor
   ·intro h1 i hi _; omega
   ·intro h1; exact h1 n (by omega) h
  ·rw [if_neg h, lastN_le O l m n]
   constructor
   ·intro h1 i hi h2
    by_cases e : i = n
    ·subst e; exact absurd h2 h
    ·exact h1 i (by omega) h2
   ·intro h1 i hi h2; exact h1 i (by omega) h2
theorem fillG_openT (g P : List Int) (hP : P.length ≤ (openL g).length) : ∀ n, n ≤ P.length → ∀ i, i < (openL g).length → (fillG g (P.take n))[((openL g)[i]?.getD 0).toNat]?.getD 0 = (P.take n)[i]?.getD 0
 | 0, _, i, hi => by
  obtain ⟨x, h1, _, h3⟩ := open_lt hi
  rw [List.take_zero]
  have e : fillG g [] = g := by unfold fillG; rw [List.zip_nil_right]; rfl
  rw [e, h1, Int.toNat_natCast, h3]; rfl
 | n + 1, hn, i, hi => by
  have ih := fillG_openT g P hP n (by omega) i hi
  have hl : (P.take n).length = n := by rw [List.length_take]; omega
  rw [take_snoc P 0 n (by omega), fillG_snoc g _ _ (by rw [hl]; omega), hl]
  obtain ⟨x, h1, h2, _⟩ := open_lt (g := g) (k := n) (by omega)
  obtain ⟨y, k1, _, _⟩ := open_lt hi
  rw [h1, Int.toNat_natCast]
  by_cases e : i = n
  ·subst e
   rw [h1, Int.toNat_natCast, List.getElem?_set_self (by rw [fillG_len]; exact h2), List.getElem?_append_right (by omega), hl]
   simp
  ·have hne : x ≠ y := by
    intro e2
    have hn' : n < (openL g).length := by omega
    rw [List.getElem?_eq_getElem hi] at k1
    rw [List.getElem?_eq_getElem hn'] at h1
    simp only [Option.getD_some] at k1 h1
    have h5 : (openL g)[i] = (openL g)[n] := by rw [k1, h1, e2]
    exact e ((List.getElem_inj (open_nodup g)).1 h5)
   rw [k1, Int.toNat_natCast, List.getElem?_set_ne hne]
   rw [k1, Int.toNat_natCast] at ih
   rw [ih]
   rcases Nat.lt_or_ge i n with h6 | h6
   ·rw [List.getElem?_append_left (by omega)]
   ·rw [List.getElem?_eq_none (by omega), List.getElem?_eq_none (by simp; omega)]
theorem fillG_open (g P : List Int) (hP : P.length ≤ (openL g).length) (i : Nat) (hi : i < (openL g).length) : (fillG g P)[((openL g)[i]?.getD 0).toNat]?.getD 0 = P[i]?.getD 0 := by
 have := fillG_openT g P hP P.length (Nat.le_refl _) i hi
 rwa [List.take_length] at this
theorem zip_fst {α β : Type} {x : α × β} : ∀ {O : List α} {P : List β}, x ∈ O.zip P → x.1 ∈ O
 | [], _, h => by simp at h
 | _ :: _, [], h => by simp at h
 | o :: O, p :: P, h => by
  rw [List.zip_cons_cons, List.mem_cons] at h
  rcases h with h | h
  ·rw [h]; exact List.mem_cons_self
  ·exact List.mem_cons_of_mem _ (zip_fst h)
theorem fillG_given (g P : List Int) (c : Nat) (h : g[c]?.getD 0 ≠ 0) : (fillG g P)[c]?.getD 0 = g[c]?.getD 0 := by
 unfold fillG
 rw [foldl_set_other]
 intro x hx e
 have h1 := mem_open.1 (zip_fst hx)
 rw [e] at h1
 exact h h1.2.2
theorem fillG_cell {cells : Int} {ls : List (List Int)} {sum : Int} {g : List Int} (G : GoodTask cells ls sum g) {P : List Int} (ho : OkG g P) {c : Int} (h0 : 0 ≤ c) (h1 : c < cells) :
  (0 < (fillG g P)[c.toNat]?.getD 0 ↔ ∀ i, i < (openL g).length → (openL g)[i]?.getD 0 = c → i < P.length) := by
 have hgl := G.len
 have hpl := ho.len
 by_cases hg : g[c.toNat]?.getD 0 = 0
 ·have hm : c ∈ openL g := mem_open.2 ⟨h0, by omega, hg⟩
  obtain ⟨i, hi, e⟩ := List.getElem_of_mem hm
  have e2 : (openL g)[i]?.getD 0 = c := by rw [List.getElem?_eq_getElem hi]; exact e
  have h2 := fillG_open g P hpl i hi
  rw [e2] at h2
  rw [h2]
  constructor
  ·intro h3 j hj hje
   have : j = i := by
    rw [List.getElem?_eq_getElem hj] at hje
    exact (List.getElem_inj (open_nodup g)).1 ((by simpa using hje : (openL g)[j] = c).trans e.symm)
   subst this
   rcases Nat.lt_or_ge j P.length with h4 | h4
   ·exact h4
   ·rw [List.getElem?_eq_none h4] at h3; exact absurd h3 (by decide)
  ·intro h3
   have h4 := h3 i hi e2
   rw [List.getElem?_eq_getElem h4, Option.getD_some]
   have := mem_unused.1 (OkP.num ho _ (List.getElem_mem h4))
   omega
 ·rw [fillG_given g P _ hg]
  have h2 := G.num c.toNat (by omega)
  refine ⟨fun _ i hi e => ?_, fun _ => by omega⟩
  have h3 := mem_open.1 (List.getElem_mem hi)
  rw [List.getElem?_eq_getElem hi, Option.getD_some] at e
  rw [e] at h3
  exact absurd h3.2.2 hg
theorem full_last {cells : Int} {ls : List (List Int)} {sum : Int} {g : List Int} (G : GoodTask cells ls sum g) {P : List Int} (ho : OkG g P) {l : List Int} (hl : l ∈ ls) : flTo (fillG g P) l l.length = true ↔ lastO (openL g) l ≤ P.length := by
 unfold flTo lastO
 rw [List.take_length, lastN_le, List.all_eq_true]
 have hr := (G.lineLen hl).2
 constructor
 ·intro h i hi hb
  have hm := hasB_iff.1 hb
  have h1 := h _ hm
  have h2 := hr _ hm
  have := (fillG_cell G ho h2.1 h2.2).1 (by simpa using h1) i hi rfl
  omega
 ·intro h c hc
  have h2 := hr c hc
  have := (fillG_cell G ho h2.1 h2.2).2 (fun i hi e => by
   have := h i hi (by rw [e]; exact hasB_iff.2 hc)
   omega)
  simpa using this
theorem sum_prefix {cells : Int} {ls : List (List Int)} {sum : Int} {g : List Int} (G : GoodTask cells ls sum g) {P : List Int} (ho : OkG g P) {l : List Int} (hl : l ∈ ls) {k : Nat} (hk : lastO (openL g) l ≤ k) (hkp : k ≤ P.length) : sumAt l (fillG g (P.take k)) = sumAt l (fillG g P) := by
 unfold sumAt
 congr 1
 apply List.map_congr_left
 intro c hc
 have hr := (G.lineLen hl).2 c hc
 have hgl := G.len
 have hpl := ho.len
 by_cases hg : g[c.toNat]?.getD 0 = 0
 ·have hm : c ∈ openL g := mem_open.2 ⟨hr.1, by omega, hg⟩
  obtain ⟨i, hi, e⟩ := List.getElem_of_mem hm
  have e2 : (openL g)[i]?.getD 0 = c := by rw [List.getElem?_eq_getElem hi]; exact e
  have h1 := fillG_open g (P.take k) (by rw [List.length_take]; omega) i hi
  have h2 := fillG_open g P hpl i hi
  rw [e2] at h1 h2
  have h3 : i + 1 ≤ k := by
   unfold lastO at hk
   exact (lastN_le _ _ _ _).1 hk i hi (by rw [e2]; exact hasB_iff.2 hc)
  rw [h1, h2, List.getElem?_take, if_pos (by omega)]
 ·rw [fillG_given g _ _ hg, fillG_given g _ _ hg]
theorem wrong_eq {cells : Int} {ls : List (List Int)} {sum : Int} {g : List Int} (G : GoodTask cells ls sum g) {P : List Int} (ho : OkG g P) (hr : Rch (plC ls sum g) P) : wrongR ls sum g P = wrongB (plC ls sum g) P := by
 rw [Bool.eq_iff_iff]
 unfold wrongR wrongB Cst.tbl
 rw [List.any_eq_true, List.any_eq_true]
 constructor
 ·rintro ⟨l, hl, hb⟩
  unfold badLB at hb
  rw [Bool.and_eq_true] at hb
  have h1 := (full_last G ho hl).1 hb.1
  rcases Nat.lt_or_ge (lastO (openL g) l) P.length with h2 | h2
  ·have h3 := hr _ h2
   exfalso
   unfold wrongB Cst.tbl at h3
   rw [List.any_eq_false] at h3
   refine h3 l (List.mem_filter.2 ⟨hl, ?_⟩) ?_
   ·rw [List.length_take, Nat.min_eq_left (by omega)]; exact beq_self_eq_true _
   ·show (sumAt l (fillG g (P.take (lastO (openL g) l))) != sum) = true
    rw [sum_prefix G ho hl (Nat.le_refl _) (by omega)]
    exact hb.2
  ·refine ⟨l, List.mem_filter.2 ⟨hl, ?_⟩, hb.2⟩
   have h3 : lastO (openL g) l = P.length := by omega
   show (lastO (openL g) l == P.length) = true
   rw [h3]; exact beq_self_eq_true _
 ·rintro ⟨l, hl, hb⟩
  obtain ⟨hl, he⟩ := List.mem_filter.1 hl
  have he2 : lastO (openL g) l = P.length := by
   have he3 : lastO (plC ls sum g).O l = P.length := by simpa using he
   exact he3
  refine ⟨l, hl, ?_⟩
  unfold badLB
  rw [(full_last G ho hl).2 (by omega), Bool.true_and]
  exact hb
theorem step_eq {cells : Int} {ls : List (List Int)} {sum : Int} {g : List Int} (G : GoodTask cells ls sum g) {P : List Int} (ho : OkG g P) (hr : Rch (plC ls sum g) P) : stpR ls sum g P = nextP (plC ls sum g) P := by
 have hb : ∀ R, backP (plC [] 0 g) R = backP (plC ls sum g) R := fun R => by
  induction R with
  | nil => rfl
  | cons x R ih => unfold backP; rw [ih]; rfl
 unfold stpR nextP deadR
 rw [wrong_eq G ho hr, hb]
 have hO : (plC ls sum g).O = openL g := rfl
 rw [hO]
 by_cases h : (P.length == (openL g).length) = false ∧ wrongB (plC ls sum g) P = false
 ·rw [if_pos (by rw [h.1, h.2]; rfl), if_pos h]; rfl
 ·rw [if_neg, if_neg h]
  intro e
  rw [Bool.or_eq_false_iff] at e
  exact h e
theorem found_eq {cells : Int} {ls : List (List Int)} {sum : Int} {g : List Int} (G : GoodTask cells ls sum g) {P : List Int} (ho : OkG g P) (hr : Rch (plC ls sum g) P) : foundR ls sum g P = ((P.length == (plC ls sum g).O.length) && !wrongB (plC ls sum g) P) := by
 unfold foundR
 rw [wrong_eq G ho hr]
 rfl
theorem rest_visit {cells : Int} {ls : List (List Int)} {sum : Int} {g : List Int} (G : GoodTask cells ls sum g) (most : Nat) (h0 : (openL g).length ≠ 0) : ∀ (f : Nat) (P : List Int) (t : Int) (acc : List (List Int)), OkG g P → Rch (plC ls sum g) P → acc.length ≤ most →
  restR ls sum g most f (P, t, false) acc = (acc ++ visit (plC ls sum g) f P).take most
 | 0, P, t, acc, _, _, hl => by simp only [restR, visit, List.append_nil]; rw [List.take_of_length_le hl]
 | f + 1, P, t, acc, ho, hr, hl => by
  simp only [restR, visit]
  by_cases hm : (most : Int) ≤ (acc.length : Int)
  ·rw [if_pos (.inr hm), List.take_append_of_le_length (by omega), List.take_of_length_le hl]
  ·rw [if_neg (fun h => h.elim (fun h => by cases h) hm)]
   have he := step_eq G ho hr
   cases hs : nextP (plC ls sum g) P with
   | none =>
    rw [hs] at he
    rw [contR_one_none he, restR_end (.inl rfl)]
    have e2 : (contR ls sum g 1 (P, t, false)).2 = [] := by
     unfold contR
     simp only [goR]
     rw [if_neg (by decide), he]
     unfold preR
     rw [if_neg (fun h => h0 h.2.2.1)]
     rfl
    simp only [e2, List.append_nil]
    rw [List.take_of_length_le hl]
   | some P' =>
    rw [hs] at he
    have ho' := stpR_ok G ho he
    have hr' := rch_next hr hs
    have e2 : (contR ls sum g 1 (P, t, false)).2 = (if (P'.length == (plC ls sum g).O.length) = true ∧ wrongB (plC ls sum g) P' = false then [fillP (plC ls sum g) P'] else []) := by
     unfold contR
     simp only [goR]
     rw [if_neg (by decide), he]
     unfold preR
     rw [if_neg (fun h => h0 h.2.2.1)]
     simp only [List.nil_append, List.append_nil]
     rw [found_eq G ho' hr']
     by_cases hc : (P'.length == (plC ls sum g).O.length) = true ∧ wrongB (plC ls sum g) P' = false
     ·rw [if_pos hc, if_pos (by rw [hc.1, hc.2]; rfl)]; rfl
     ·rw [if_neg hc, if_neg]
      intro e
      rw [Bool.and_eq_true, Bool.not_eq_true'] at e
      exact hc e
    rw [contR_one_some he, e2]
    have h3 : (acc ++ (if (P'.length == (plC ls sum g).O.length) = true ∧ wrongB (plC ls sum g) P' = false then [fillP (plC ls sum g) P'] else [])).length ≤ most := by
     rw [List.length_append]
     split
     ·simp; omega
     ·simp; omega
    rw [rest_visit G most h0 f P' (t + 1) _ ho' hr' h3, List.append_assoc]
theorem solsR_eq {cells : Int} {ls : List (List Int)} {sum : Int} {g : List Int} (G : GoodTask cells ls sum g) (most : Nat) : solsR ls sum g most = (solsL ls sum g []).take most := by
 have hr0 : Rch (plC ls sum g) [] := fun k hk => absurd hk (Nat.not_lt_zero _)
 unfold solsR solsL sols
 by_cases h0 : (openL g).length = 0
 ·have h0' : (plC ls sum g).O.length = 0 := h0
  rw [if_pos h0', h0, Nat.pow_zero]
  simp only [restR]
  by_cases hm : (most : Int) ≤ 0
  ·rw [if_pos (.inr (by simpa using hm)), show most = 0 from by omega, List.take_zero]
  ·rw [if_neg (fun h => h.elim (fun h => by cases h) (fun h => hm (by simpa using h)))]
   have hs : stpR ls sum g [] = none := by
    unfold stpR deadR
    rw [h0]
    rfl
   have hw := wrong_eq G (OkG.nil g) hr0
   have e : (contR ls sum g 1 ([], 0, false)).2 = if wrongB (plC ls sum g) [] = true then [] else [fillP (plC ls sum g) []] := by
    unfold contR
    simp only [goR]
    rw [if_neg (by decide), hs]
    unfold preR foundR
    rw [h0, hw]
    cases wrongB (plC ls sum g) [] <;> rfl
   rw [e, List.nil_append]
   split
   ·simp
   ·rw [List.take_of_length_le]
    simp; omega
 ·have h0' : (plC ls sum g).O.length ≠ 0 := h0
  rw [if_neg h0', rest_visit G most h0 _ [] 0 [] (OkG.nil g) hr0 (Nat.zero_le _), List.nil_append]
  unfold found fuelP
  have hv : val (plC ls sum g).O.length [] = 0 := by
   cases (plC ls sum g).O.length <;> rfl
  rw [hv]
  rfl
end
end Go.Proofs.YtcblpobiefmjmaaGreat
