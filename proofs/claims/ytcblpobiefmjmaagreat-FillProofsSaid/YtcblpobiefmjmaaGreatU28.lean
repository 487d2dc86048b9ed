/- Texts N4 to N4 of this proof, in one file. -/
import Derived.Test.YtcblpobiefmjmaaGreatU06
import Derived.Test.YtcblpobiefmjmaaGreatU19
import Derived.Test.YtcblpobiefmjmaaGreatU20
import Derived.Test.YtcblpobiefmjmaaGreatU27
namespace Go.Proofs.YtcblpobiefmjmaaGreat
open Go Go.RowKit
attribute [local go_sem] over_cell
attribute [local go_sem] Oper.semAt_some
theorem proves_some {ls : List (List Int)} {sum : Int} {g : List Int} {T R : List Nd} (h : refT ls sum (T.length + 1) g T = some R) : provesT ls sum g T = decide (R = []) := by
  unfold provesT
  rw [h]
  cases R <;> simp
theorem proves_none {ls : List (List Int)} {sum : Int} {g : List Int} {T : List Nd} (h : refT ls sum (T.length + 1) g T = none) : provesT ls sum g T = false := by
  unfold provesT
  rw [h]
set_option maxRecDepth 100000 in
set_option maxHeartbeats 4000000 in
theorem rrefutes_c {cells : Int} {ls : List (List Int)} {sum : Int} {g : List Int} (G : GoodTask cells ls sum g) (a : Option Addr) (n c : Nat) (a' : Option Addr) (n' c' : Nat) (at' : Option Addr) (nt ct : Nat) (T : List Nd) (w : World) (h : RC w a n ls) (h' : IC w a' n' g) (ht : TC w at' nt T) (hkd : ∀ d, d ∈ T → kindB d.kind = true) :
    Calls Tryz.prog 21 #[.agg #[.int .i64 cells, .slice a n c, .int .i64 sum, .slice a' n' c'], .slice at' nt ct] w fun e w' => e = .returned (.bool (provesT ls sum g T)) ∧ Below w.heap.size w w' := by
  have hgl := h'.len
  have hgs : n' ≤ 256 := by have := G.len; have := G.cells2; omega
  have hns := ht.1.2
  have htl := ht.1.1
  have HR := Go.Lib.hid (fun w1 (hb : Below w.heap.size w w1) => refutes_c w1 a n c n' (h.mono hb) hgs at' nt ct T (ht.mono hb) hkd (nt + 1) g 0 a' c' w1 G (by omega) (by omega) (h'.mono hb) (Below.refl _ _))
  obtain ⟨o, ho⟩ : ∃ o, refT ls sum (nt + 1) g (T.drop 0) = o := ⟨_, rfl⟩
  have HO := ho
  rw [List.drop_zero, ← htl] at HO
  have hdl : ∀ i, i ≤ nt → (T.drop i = [] ↔ i = nt) := fun i hi => by rw [List.drop_eq_nil_iff, htl]; omega
  have HDL := Go.Lib.hid hdl
  clear h h' ht hkd G hgl hgs hdl
  go_enter Tryz.func21, Tryz.ntmps21
  go_wp2_with fail
  have fsz : (w.alloc (.cells #[.int .i64 cells, .slice a n c, .int .i64 sum, .slice a' n' c'] 28)).heap.size = w.heap.size + 1 := by simp only [World.size_alloc]
  have fB : Below w.heap.size w (w.alloc (.cells #[.int .i64 cells, .slice a n c, .int .i64 sum, .slice a' n' c'] 28)) := (Below.refl _ _).alloc (Nat.le_refl _) _
  have fq0 : (w.alloc (.cells #[.int .i64 cells, .slice a n c, .int .i64 sum, .slice a' n' c'] 28)).heap[w.heap.size]? = some (.cells #[.int .i64 cells, .slice a n c, .int .i64 sum, .slice a' n' c'] 28 (0, 0)) := by have h := World.alloc_heap_new w (.cells #[.int .i64 cells, .slice a n c, .int .i64 sum, .slice a' n' c'] 28); exact h
  generalize (w.alloc (.cells #[.int .i64 cells, .slice a n c, .int .i64 sum, .slice a' n' c'] 28)) = W0 at fsz fB fq0 ⊢
  clear fq0 fsz
  refine (HR.out W0 fB).mono ?_
  rintro _ w1 ⟨i1, hi1, rfl, hR1, hb1⟩
  rw [ho] at hR1 ⊢
  have hB := keep_trans fB hb1
  clear HR ho hb1 fB
  cases o with
  | none =>
    have HP := Go.Lib.hid (proves_none HO)
    clear HO hR1
    dsimp only [Option.isSome]
    go_wp2_with fail
    go_ret
    exact ⟨ret_bool HP.out.symm, hB⟩
  | some R =>
    have HP := Go.Lib.hid (proves_some HO)
    have hRd := hR1 R rfl
    have HE : Hid (provesT ls sum g T = decide (i1 = nt)) := by
      unfold Hid
      rw [HP.out, hRd]
      exact decide_eq_decide.2 (HDL.out i1 hi1)
    clear HO hR1 hRd HP
    dsimp only [Option.isSome]
    by_cases e : i1 = nt
    · rw [decide_eq_true e] at HE
      have m : ((i1 : Int) == (nt : Int)) = true := by simp [e]
      clear e
      go_wp2_with fail
      go_ret
      exact ⟨ret_bool HE.out.symm, hB⟩
    · rw [decide_eq_false e] at HE
      have m : ((i1 : Int) == (nt : Int)) = false := by simp; omega
      clear e
      go_wp2_with fail
      go_ret
      exact ⟨ret_bool HE.out.symm, hB⟩
theorem tree_kinds {n : Nat} {T : List Nd} (h : treeErr n T = 0) : ∀ d, d ∈ T → kindB d.kind = true := by
  intro d hd
  unfold treeErr at h
  split at h
  · exact absurd h (by decide)
  · obtain ⟨k, hk, rfl⟩ := List.getElem_of_mem hd
    have h1 := errs_zero h k hk
    unfold ndAt at h1
    rw [List.getElem?_eq_getElem hk] at h1
    cases hK : kindB T[k].kind with
    | true => rfl
    | false =>
      have h2 := nodeBad_kind (n := n) hK
      simp only [Option.getD_some] at h1
      rw [h1] at h2
      exact absurd h2 (by decide)
set_option maxRecDepth 100000 in
set_option maxHeartbeats 8000000 in
theorem fproofs_c (a : Option Addr) (n c : Nat) (ls : List (List Int)) (cells sum : Int) (a' : Option Addr) (n' c' : Nat) (g : List Int) (at' : Option Addr) (nt ct : Nat) (T : List Nd) (w : World) (h : RC w a n ls) (hcap : n ≤ c) (h' : IC w a' n' g) (hcap' : n' ≤ c') (ht : TC w at' nt T) :
    Calls Tryz.prog 4 #[.agg #[.int .i64 cells, .slice a n c, .int .i64 sum, .slice a' n' c'], .slice at' nt ct] w fun e w' => e = .returned (.bool true) ∧ Below w.heap.size w w' := by
  have H := Go.Lib.hid h
  have H' := Go.Lib.hid h'
  have HT := Go.Lib.hid ht
  have hgl := Go.Lib.hid h'.len
  have HA := Go.Lib.hid awake_c
  have HSH := Go.Lib.hid (fun w1 (hb : Below w.heap.size w w1) => short6_c a n c ls cells sum a' n' c' g 40 w1 (h.mono hb) (h'.mono hb))
  have HBR := Go.Lib.hid (fun w1 (hb : Below w.heap.size w w1) => brief_c at' nt ct T w1 (ht.mono hb))
  have HTK := Go.Lib.hid (fun w1 (hb : Below w.heap.size w w1) => rtask_c a n c ls cells sum a' n' c' g w1 (h.mono hb) hcap (h'.mono hb) hcap')
  have HTR := Go.Lib.hid (fun w1 (hb : Below w.heap.size w w1) => rtree_c (.int .i64 cells) (.slice a n c) (.int .i64 sum) a' n' c' at' nt ct T w1 (ht.mono hb))
  have HRF := Go.Lib.hid (fun (G : GoodTask cells ls sum g) (hkd : ∀ d, d ∈ T → kindB d.kind = true) w1 (hb : Below w.heap.size w w1) => rrefutes_c G a n c a' n' c' at' nt ct T w1 (h.mono hb) (h'.mono hb) (ht.mono hb) hkd)
  have HCK := Go.Lib.hid (fun w1 (hb : Below w.heap.size w w1) => checkref_c a n c ls cells sum a' n' c' g at' nt ct T w1 (h.mono hb) hcap (h'.mono hb) hcap' (ht.mono hb))
  have hRE : Hid (refErr cells ls sum g T = if taskErr cells ls sum g ≠ 0 then taskErr cells ls sum g else if treeErr n' T ≠ 0 then treeErr n' T else whenV (!provesT ls sum g T) 19) := by unfold Hid refErr; rw [h'.len]
  have HGT : Hid (taskErr cells ls sum g = 0 → GoodTask cells ls sum g) := goodTask
  have HKD : Hid (treeErr n' T = 0 → ∀ d, d ∈ T → kindB d.kind = true) := tree_kinds
  clear h h' ht
  generalize refErr cells ls sum g T = re at HCK hRE
  generalize taskErr cells ls sum g = te at HTK hRE HGT
  generalize treeErr n' T = tr at HTR hRE HKD
  generalize provesT ls sum g T = pv at HRF hRE
  generalize short6B 40 ls g = sb at HSH
  generalize briefB T = bb at HBR
  go_enter Tryz.func4, Tryz.ntmps4
  go_upto_region 2 with fail
  have fsz : ((w.alloc (.cells #[.int .i64 cells, .slice a n c, .int .i64 sum, .slice a' n' c'] 27)).alloc (.cells #[.int .i64 cells, .slice a n c, .int .i64 sum, .slice a' n' c'] 28)).heap.size = w.heap.size + 2 := by simp only [World.size_alloc] <;> omega
  have fB : Below w.heap.size w ((w.alloc (.cells #[.int .i64 cells, .slice a n c, .int .i64 sum, .slice a' n' c'] 27)).alloc (.cells #[.int .i64 cells, .slice a n c, .int .i64 sum, .slice a' n' c'] 28)) := ((Below.refl _ _).alloc (Nat.le_refl _) _).alloc (by simp only [World.size_alloc]; omega) _
  have fq0 : ((w.alloc (.cells #[.int .i64 cells, .slice a n c, .int .i64 sum, .slice a' n' c'] 27)).alloc (.cells #[.int .i64 cells, .slice a n c, .int .i64 sum, .slice a' n' c'] 28)).heap[w.heap.size]? = some (.cells #[.int .i64 cells, .slice a n c, .int .i64 sum, .slice a' n' c'] 27 (0, 0)) := by have h := World.alloc_heap_new w (.cells #[.int .i64 cells, .slice a n c, .int .i64 sum, .slice a' n' c'] 27); exact (Below.heap_alloc _ _ _ (by simp only [World.size_alloc]; omega)).trans (h)
  have fq1 : ((w.alloc (.cells #[.int .i64 cells, .slice a n c, .int .i64 sum, .slice a' n' c'] 27)).alloc (.cells #[.int .i64 cells, .slice a n c, .int .i64 sum, .slice a' n' c'] 28)).heap[w.heap.size + 1]? = some (.cells #[.int .i64 cells, .slice a n c, .int .i64 sum, .slice a' n' c'] 28 (0, 0)) := by have h := World.alloc_heap_new (w.alloc (.cells #[.int .i64 cells, .slice a n c, .int .i64 sum, .slice a' n' c'] 27)) (.cells #[.int .i64 cells, .slice a n c, .int .i64 sum, .slice a' n' c'] 28); simp only [World.size_alloc] at h; exact h
  generalize ((w.alloc (.cells #[.int .i64 cells, .slice a n c, .int .i64 sum, .slice a' n' c'] 27)).alloc (.cells #[.int .i64 cells, .slice a n c, .int .i64 sum, .slice a' n' c'] 28)) = W0 at fsz fB fq0 fq1 ⊢
  have HQ0 := Go.Lib.hid fq0
  have HQ1 := Go.Lib.hid fq1
  have x0 : W0.cell? ⟨w.heap.size + 1, 0, none⟩ = some (.int .i64 cells) := q_cell fq1 0
  have x1 : W0.cell? ⟨w.heap.size + 1, 1, none⟩ = some (.slice a n c) := q_cell fq1 1
  have x2 : W0.cell? ⟨w.heap.size + 1, 2, none⟩ = some (.int .i64 sum) := q_cell fq1 2
  have x3 : W0.cell? ⟨w.heap.size + 1, 3, none⟩ = some (.slice a' n' c') := q_cell fq1 3
  have xl := q_lt fq1
  clear fq0 fq1 fsz
  cases sb with
  | false =>
    go_wp2_with (first | (go_at_call 14; refine (HSH.out _ fB).mono ?_; rintro _ w1 ⟨rfl, hb1⟩) | (go_at_call 17; refine (HA.out _).mono ?_; rintro _ w2 ⟨rfl, hb2⟩))
    go_ret
    exact ⟨rfl, keep_trans (keep_trans fB hb1) hb2⟩
  | true =>
    cases bb with
    | false =>
      go_wp2_with (first | (go_at_call 14; refine (HSH.out _ fB).mono ?_; rintro _ w1 ⟨rfl, hb1⟩; have hB1 := keep_trans fB hb1) | (go_at_call 23; refine (HBR.out _ hB1).mono ?_; rintro _ w2 ⟨rfl, hb2⟩) | (go_at_call 17; refine (HA.out _).mono ?_; rintro _ w3 ⟨rfl, hb3⟩))
      go_ret
      exact ⟨rfl, keep_trans (keep_trans hB1 hb2) hb3⟩
    | true =>
      go_wp2_with (first | (go_at_call 14; refine (HSH.out _ fB).mono ?_; rintro _ w1 ⟨rfl, hb1⟩; have hB1 := keep_trans fB hb1) | (go_at_call 23; refine (HBR.out _ hB1).mono ?_; rintro _ w2 ⟨rfl, hb2⟩; have hB2 := keep_trans hB1 hb2; have hc2 := keep_trans hb1 hb2; have y0 := q_cell (keepq hc2 HQ1.out) 0; have y1 := q_cell (keepq hc2 HQ1.out) 1; have y2 := q_cell (keepq hc2 HQ1.out) 2; have y3 := q_cell (keepq hc2 HQ1.out) 3; have yl := q_lt (keepq hc2 HQ1.out)))
      refine (HTK.out _ hB2).mono ?_
      rintro _ w3 ⟨rfl, hb3⟩
      have hB3 := keep_trans hB2 hb3
      have hc3 := keep_trans hc2 hb3
      have z0 : w3.cell? ⟨w.heap.size + 1, 0, none⟩ = some (.int .i64 cells) := q_cell (keepq hc3 HQ1.out) 0
      have z1 : w3.cell? ⟨w.heap.size + 1, 1, none⟩ = some (.slice a n c) := q_cell (keepq hc3 HQ1.out) 1
      have z2 : w3.cell? ⟨w.heap.size + 1, 2, none⟩ = some (.int .i64 sum) := q_cell (keepq hc3 HQ1.out) 2
      have z3 : w3.cell? ⟨w.heap.size + 1, 3, none⟩ = some (.slice a' n' c') := q_cell (keepq hc3 HQ1.out) 3
      have zl := q_lt (keepq hc3 HQ1.out)
      have t0 : w3.cell? ⟨w.heap.size, 0, none⟩ = some (.int .i64 cells) := q_cell (keepq hc3 HQ0.out) 0
      have t1 : w3.cell? ⟨w.heap.size, 1, none⟩ = some (.slice a n c) := q_cell (keepq hc3 HQ0.out) 1
      have t2 : w3.cell? ⟨w.heap.size, 2, none⟩ = some (.int .i64 sum) := q_cell (keepq hc3 HQ0.out) 2
      have t3 : w3.cell? ⟨w.heap.size, 3, none⟩ = some (.slice a' n' c') := q_cell (keepq hc3 HQ0.out) 3
      have tl := q_lt (keepq hc3 HQ0.out)
      clear x0 x1 x2 x3 xl y0 y1 y2 y3 yl hb1 hb2 hb3 hB1 hB2 hc2
      by_cases e1 : te = 0
      · have G := HGT.out e1
        have HRG := Go.Lib.hid (HRF.out G)
        rw [if_neg (by omega)] at hRE
        have E1 : (te == 0) = true := by simp [e1]
        clear G HGT HRF
        go_wp2_with fail
        refine (HTR.out _ hB3).mono ?_
        rintro _ w4 ⟨rfl, hb4⟩
        have hB4 := keep_trans hB3 hb4
        have hc4 := keep_trans hc3 hb4
        clear z0 z1 z2 z3 zl t0 t1 t2 t3 tl
        have z0 : w4.cell? ⟨w.heap.size + 1, 0, none⟩ = some (.int .i64 cells) := q_cell (keepq hc4 HQ1.out) 0
        have z1 : w4.cell? ⟨w.heap.size + 1, 1, none⟩ = some (.slice a n c) := q_cell (keepq hc4 HQ1.out) 1
        have z2 : w4.cell? ⟨w.heap.size + 1, 2, none⟩ = some (.int .i64 sum) := q_cell (keepq hc4 HQ1.out) 2
        have z3 : w4.cell? ⟨w.heap.size + 1, 3, none⟩ = some (.slice a' n' c') := q_cell (keepq hc4 HQ1.out) 3
        have zl := q_lt (keepq hc4 HQ1.out)
        have t0 : w4.cell? ⟨w.heap.size, 0, none⟩ = some (.int .i64 cells) := q_cell (keepq hc4 HQ0.out) 0
        have t1 : w4.cell? ⟨w.heap.size, 1, none⟩ = some (.slice a n c) := q_cell (keepq hc4 HQ0.out) 1
        have t2 : w4.cell? ⟨w.heap.size, 2, none⟩ = some (.int .i64 sum) := q_cell (keepq hc4 HQ0.out) 2
        have t3 : w4.cell? ⟨w.heap.size, 3, none⟩ = some (.slice a' n' c') := q_cell (keepq hc4 HQ0.out) 3
        have tl := q_lt (keepq hc4 HQ0.out)
        by_cases e2 : tr = 0
        · have HRG := Go.Lib.hid (HRG.out (HKD.out e2))
          have E2 : (tr == 0) = true := by simp [e2]
          rw [if_neg (by omega)] at hRE
          clear HKD e1 e2
          go_wp2_with fail
          refine (HRG.out _ hB4).mono ?_
          rintro _ w5 ⟨rfl, hb5⟩
          have hB5 := keep_trans hB4 hb5
          have hc5 := keep_trans hc4 hb5
          clear z0 z1 z2 z3 zl t0 t1 t2 t3 tl
          have t0 : w5.cell? ⟨w.heap.size, 0, none⟩ = some (.int .i64 cells) := q_cell (keepq hc5 HQ0.out) 0
          have t1 : w5.cell? ⟨w.heap.size, 1, none⟩ = some (.slice a n c) := q_cell (keepq hc5 HQ0.out) 1
          have t2 : w5.cell? ⟨w.heap.size, 2, none⟩ = some (.int .i64 sum) := q_cell (keepq hc5 HQ0.out) 2
          have t3 : w5.cell? ⟨w.heap.size, 3, none⟩ = some (.slice a' n' c') := q_cell (keepq hc5 HQ0.out) 3
          have tl := q_lt (keepq hc5 HQ0.out)
          cases pv with
          | true =>
            have E3 : (re == tr) = true := by rw [hRE.out, show tr = 0 from by simpa using E2]; rfl
            go_wp2_with (first | (go_at_call 22; refine (HCK.out _ hB5).mono ?_; rintro _ w6 ⟨rfl, hb6⟩; have hB6 := keep_trans hB5 hb6) | (go_at_call 17; refine (HA.out _).mono ?_; rintro _ w7 ⟨rfl, hb7⟩))
            go_ret
            exact ⟨rfl, keep_trans hB6 hb7⟩
          | false =>
            have E3 : (re == 19) = true := by rw [hRE.out]; rfl
            go_wp2_with (first | (go_at_call 22; refine (HCK.out _ hB5).mono ?_; rintro _ w6 ⟨rfl, hb6⟩; have hB6 := keep_trans hB5 hb6) | (go_at_call 17; refine (HA.out _).mono ?_; rintro _ w7 ⟨rfl, hb7⟩))
            go_ret
            exact ⟨rfl, keep_trans hB6 hb7⟩
        · have E2 : (tr == 0) = false := by simpa using e2
          rw [if_pos e2] at hRE
          have E3 : (re == tr) = true := by rw [hRE.out]; simp
          clear HKD e2
          go_wp2_with (first | (go_at_call 22; refine (HCK.out _ hB4).mono ?_; rintro _ w6 ⟨rfl, hb6⟩; have hB6 := keep_trans hB4 hb6) | (go_at_call 17; refine (HA.out _).mono ?_; rintro _ w7 ⟨rfl, hb7⟩))
          go_ret
          exact ⟨rfl, keep_trans hB6 hb7⟩
      · have E1 : (te == 0) = false := by simpa using e1
        rw [if_pos e1] at hRE
        have E3 : (re == te) = true := by rw [hRE.out]; simp
        clear e1
        go_wp2_with (first | (go_at_call 22; refine (HCK.out _ hB3).mono ?_; rintro _ w6 ⟨rfl, hb6⟩; have hB6 := keep_trans hB3 hb6) | (go_at_call 17; refine (HA.out _).mono ?_; rintro _ w7 ⟨rfl, hb7⟩))
        go_ret
        exact ⟨rfl, keep_trans hB6 hb7⟩
end Go.Proofs.YtcblpobiefmjmaaGreat
