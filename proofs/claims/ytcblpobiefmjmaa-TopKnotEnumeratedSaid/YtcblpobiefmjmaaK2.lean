/- Contracts of count: ended: for each cell the lines that end there. -/
import Derived.Test.YtcblpobiefmjmaaK1
namespace Go.Proofs.Ytcblpobiefmjmaa
open Go Go.RowKit Go.Shelf
attribute [local go_sem] over_cell

/-- The last cell of a line. -/
def lastC (l : List Int) : Nat := (l[l.length - 1]?.getD 0).toNat

def rowsBy (key : List Int → Nat) (ls : List (List Int)) (lv : Nat → Value) (j k : Nat) : List Value := ((List.range j).filter (fun i => key (ls[i]?.getD []) == k)).map lv

theorem rowsBy_succ (key : List Int → Nat) (ls : List (List Int)) (lv : Nat → Value) (j : Nat) : rowsBy key ls lv (j + 1) = fun k => if k = key (ls[j]?.getD []) then rowsBy key ls lv j (key (ls[j]?.getD [])) ++ [lv j] else rowsBy key ls lv j k := by
  funext k
  simp only [rowsBy, List.range_succ, List.filter_append, List.map_append]
  by_cases e : k = key (ls[j]?.getD [])
  · subst e
    rw [if_pos rfl]
    simp
  · rw [if_neg e]
    have e2 : (key (ls[j]?.getD []) == k) = false := by simp; exact fun h => e h.symm
    simp [e2]

/-- A row of the table reads as the lines of its key. -/
theorem rowBy_rc {w w0 : World} {a : Option Addr} {n : Nat} {ls : List (List Int)} {key : List Int → Nat} {k B : Nat} {ar : Option Addr} {nr cr : Nat} (hl : ls.length = n) (hsmall : n ≤ 17592186044416)
    (hlv : ∀ i, i < n → ∃ a9 n9 c9, lineV w0 a i = .slice a9 n9 c9 ∧ IC w a9 n9 (ls[i]?.getD []) ∧ n9 ≤ c9)
    (hown : w.ownsRow B 25 1 (.slice ar nr cr) (rowsBy key ls (lineV w0 a) n k).length (rowsBy key ls (lineV w0 a) n k)) :
    RC w ar nr (ls.filter (fun l => key l == k)) ∧ nr ≤ cr := by
  have hnr : nr = (rowsBy key ls (lineV w0 a) n k).length ∧ nr ≤ cr := by
    rcases hown.2 with ⟨e, e2⟩ | ⟨_, _, _, e, _, _, e3, _⟩
    · simp only [Value.slice.injEq] at e; omega
    · simp only [Value.slice.injEq] at e; omega
  obtain ⟨hnr, hnc⟩ := hnr
  have hf := filter_range ls [] (fun l => key l == k)
  rw [hl] at hf
  have hrl : (rowsBy key ls (lineV w0 a) n k).length = ((List.range n).filter (fun i => key (ls[i]?.getD []) == k)).length := by simp [rowsBy]
  have hle := List.length_filter_le (fun i => key (ls[i]?.getD []) == k) (List.range n)
  rw [List.length_range] at hle
  refine ⟨⟨⟨by rw [hf, List.length_map, hnr, hrl], by omega⟩, fun i hi => ?_⟩, hnc⟩
  have hi2 : i < (rowsBy key ls (lineV w0 a) n k).length := by omega
  obtain ⟨g, cap, x, hv, hx, hc, _, hg, _⟩ := owns_free (owns_base hown (Nat.zero_le _)) i hi2
  simp only [Value.slice.injEq] at hv
  obtain ⟨rfl, _, _⟩ := hv
  have hi3 : i < ((List.range n).filter (fun i => key (ls[i]?.getD []) == k)).length := by omega
  have hm := List.getElem_mem hi3
  rw [List.mem_filter, List.mem_range] at hm
  obtain ⟨a9, n9, c9, hl9, hic, hn9⟩ := hlv _ hm.1
  have hx2 : x = .slice a9 n9 c9 := by
    rw [rowsBy, List.getElem?_map, List.getElem?_eq_getElem hi3] at hx
    simp only [Option.map_some, Option.some.injEq] at hx
    rw [← hx, hl9]
  refine ⟨g, 0, a9, n9, c9, rfl, hg, by rw [Nat.zero_add, hc, hx2], ?_, hn9⟩
  rw [hf, List.getElem?_map, List.getElem?_eq_getElem hi3]
  exact hic

/-- The table of lines by their last cell. -/
def EndsT (ls : List (List Int)) (N al : Nat) (w : World) : Prop := ∀ k, k < N → ∃ ak nk ck, w.cell? ⟨al, k, none⟩ = some (.slice ak nk ck) ∧ al < w.heap.size ∧ RC w ak nk (ls.filter (fun l => lastC l == k)) ∧ nk ≤ ck

set_option maxRecDepth 100000 in
set_option maxHeartbeats 4000000 in
theorem ended_c (a : Option Addr) (n c N : Nat) (ls : List (List Int)) (w : World) (h : RC w a n ls) (hnl : n ≤ 1000000) (hN : N ≤ 256) (hline : ∀ l, l ∈ ls → 0 < l.length ∧ ∀ x, x ∈ l → 0 ≤ x ∧ x < (N : Int))
    (Old : Nat → Prop) (hOl : ∀ k, Old k → k < w.heap.size)
    (hOld : Sure Old w (fun w' => ∀ i, i < n → ∃ a9 n9 c9, lineV w a i = .slice a9 n9 c9 ∧ IC w' a9 n9 (ls[i]?.getD []) ∧ n9 ≤ c9)) :
    Calls Try.prog 34 #[.agg #[.int .i64 (N : Int), .slice a n c]] w fun e w' => ∃ al, e = .returned (.slice (some ⟨al, 0, none⟩) N N) ∧ Below w.heap.size w w' ∧ w.heap.size ≤ al ∧ al < w'.heap.size ∧ Sure (fun k => Old k ∨ (w.heap.size ≤ k ∧ k < w'.heap.size)) w' (EndsT ls N al) := by
  have HLINE := Go.Lib.hid hline
  have HOL := Go.Lib.hid hOl
  have HOLD := Go.Lib.hid hOld
  have HH := Go.Lib.hid h
  clear hline hOl hOld
  go_enter Try.func34, Try.ntmps34
  obtain ⟨i2, hi, hz0, hz1, hz2⟩ := info_parts infoRows
  have fq0 : (w.alloc (.cells #[.int .i64 (N : Int), .slice a n c] 24)).heap[w.heap.size]? = some (.cells #[.int .i64 (N : Int), .slice a n c] 24 (0, 0)) := World.alloc_heap_new _ _
  have fB : Below w.heap.size w (w.alloc (.cells #[.int .i64 (N : Int), .slice a n c] 24)) := (Below.refl _ _).alloc (Nat.le_refl _) _
  go_wp2_with (refine wpList_make_full _ rfl _ _ 61 rfl w.heap.size 22 i2 (.slice none 0 0) 1 Try.underlying61 hi hz0 hz1 _ _ _ _ N rfl rfl (by simp) (by simp) (by rw [hz2]; omega) (by unfold maxLen; omega) (by simp) ?_; intro W6 hown6 hgr6; have hs6 := (Below.refl _ _).grown hgr6 (Nat.le_refl _) (fun k e => by cases e); have q0 := keepq hs6 fq0; have c1 := q_cell q0 1)
  simp only [World.size_alloc] at hown6
  have hz6 : w.heap.size + 1 < W6.heap.size := (hown6.lt _ rfl).2
  have hB6 : Below w.heap.size w W6 := fB.trans (hs6.mono (by simp))
  obtain ⟨al, hal⟩ : ∃ al, al = w.heap.size + 1 := ⟨_, rfl⟩
  rw [← hal] at hown6 hz6 ⊢
  have HT6 : Hid (TB W6 al N W6.heap.size (fun _ => []) (fun _ => .slice none 0 0)) := by
    have hrow : ∀ k, k < N → W6.cell? ⟨al, k, none⟩ = some (.slice none 0 0) ∧ W6.frozen? ⟨al, k, none⟩ = false := fun k hk => by
      obtain ⟨g6, cap6, x6, e6, hx6, hc6, hf6, _, _⟩ := owns_free (owns_len hown6) k hk
      simp only [Value.slice.injEq, Option.some.injEq, Addr.mk.injEq, and_true] at e6
      obtain ⟨rfl, _⟩ := e6
      refine ⟨?_, hf6⟩
      rw [hc6, ← hx6]
      simp [madeCells, hk, Value.cells, Nat.mod_one]
    exact ⟨hz6, fun k hk => (hrow k hk).2, fun k hk => (hrow k hk).1, fun k _ => World.ownsRow_nil _ _ _ _, fun _ _ _ _ _ _ e => by cases e⟩
  have HAL := Go.Lib.hid hal
  have hge : w.heap.size ≤ al := by omega
  have HR6 := Go.Lib.hid (HH.out.mono hB6)
  clear hal h c1 hs6 hgr6 hown6 fq0 fB
  obtain ⟨lv, hlv⟩ : ∃ lv, lv = lineV W6 a := ⟨_, rfl⟩
  have HLV := Go.Lib.hid hlv
  clear hlv
  obtain ⟨i3, hi', hz0', hz1', hz2'⟩ := info_parts infoRow
  go_loopw [5, 6, 13] (fun _ _ i wr => ∃ j : Nat, j ≤ n ∧ i = .int .i64 j ∧ Hid (∃ vs, TB wr al N W6.heap.size (rowsBy lastC ls lv j) vs) ∧ Stays (fun k => k = al) W6 wr) (fun _ _ i _ => n - (intOf i).toNat)
  case atStart => exact ⟨0, by omega, rfl, ⟨_, HT6.out⟩, Stays.refl _ _⟩
  case round =>
    obtain ⟨j, hj, rfl, htb, hs8⟩ := hrel
    have hbr : Below w.heap.size w wr := hB6.trans (Stays.below hs8 hB6.size (fun k e => by omega))
    by_cases hlt : j < n
    · obtain ⟨bl, off, a9, n9, c9, ha, hbl9, hc9, hic, hn9⟩ := (HH.out.mono hbr).2 j hlt
      subst ha
      have hline := HLINE.out (ls[j]?.getD []) (by rw [List.getElem?_eq_getElem (by rw [HH.out.len]; exact hlt)]; exact List.getElem_mem _)
      have hl9 := hic.len
      obtain ⟨b9, off9, rfl, hb9, hcx⟩ := hic.2 (n9 - 1) (by omega)
      have hxr := hline.2 _ (List.getElem_mem (l := ls[j]?.getD []) (n := n9 - 1) (by omega))
      have hxe : (ls[j]?.getD [])[n9 - 1]?.getD 0 = (ls[j]?.getD [])[n9 - 1]'(by omega) := by rw [List.getElem?_eq_getElem (by omega)]; rfl
      obtain ⟨nn, hnn⟩ : ∃ nn : Nat, (ls[j]?.getD [])[n9 - 1]?.getD 0 = (nn : Int) := ⟨((ls[j]?.getD [])[n9 - 1]'(by omega)).toNat, by omega⟩
      have hkey : lastC (ls[j]?.getD []) = nn := by unfold lastC; rw [hl9, hnn]; rfl
      rw [hnn] at hcx
      have hnm : nn < N := by omega
      have HKEY := Go.Lib.hid hkey
      have hcr : lv j = .slice (some ⟨b9, off9, none⟩) n9 c9 := by
        rw [HLV.out]
        obtain ⟨bl2, off2, _, _, _, e2, hl2, hc2, _⟩ := HR6.out.2 j hlt
        simp only [Option.some.injEq, Addr.mk.injEq, and_true] at e2
        obtain ⟨rfl, rfl⟩ := e2
        have h3 : wr.cell? ⟨bl, off + j, none⟩ = W6.cell? ⟨bl, off + j, none⟩ := by
          obtain ⟨bl3, off3, _, _, _, e3, hl3, _⟩ := HH.out.2 j hlt
          simp only [Option.some.injEq, Addr.mk.injEq, and_true] at e3
          obtain ⟨rfl, rfl⟩ := e3
          exact ((bcell hbr).1 _ _ hl3).trans ((bcell hB6).1 _ _ hl3).symm
        simp only [lineV]
        rw [← h3, hc9]
        rfl
      have HCR := Go.Lib.hid hcr
      have h19 : 1 ≤ n9 := by omega
      have h9s := hic.small
      clear hcr hkey hxe hxr hline hl9 hnn hic
      obtain ⟨vs, htv⟩ := htb.out
      obtain ⟨ar, cr, hvn⟩ := owns_shape (htv.own nn hnm)
      have hown9 := owns_len (htv.own nn hnm)
      have hcn := htv.cell nn hnm
      rw [hvn] at hown9 hcn
      have hrl : (rowsBy lastC ls lv j nn).length ≤ 1000000 := by
        have h1 := List.length_filter_le (fun i => lastC (ls[i]?.getD []) == nn) (List.range j)
        simp only [rowsBy, List.length_map]
        simp only [List.length_range] at h1
        omega
      have hBt : W6.heap.size ≤ wr.heap.size := hs8.size
      have HFZN := Go.Lib.hid (htv.fz nn hnm)
      have HTV := Go.Lib.hid htv
      have HVN := Go.Lib.hid hvn
      clear htv hvn
      go_wp2_with (at_builtin; refine wpList_append_own2 _ rfl _ _ 22 rfl 25 i3 (.slice none 0 0) 1 24 Try.underlying22 hi' hz0' hz1' hz2' rfl (by decide) _ _ _ rfl (hown9.alloc _) ⟨wr.heap.size, 0, none⟩ 1 1 [.slice (some ⟨b9, off9, none⟩) n9 c9] rfl rfl (cell_one_new _ _ _) (by simp [Value.oneCell']) (by unfold maxLen; omega) (by omega) ?_; intro v' w9 hown' hgrow hnew; obtain ⟨av, cv, rfl⟩ := owns_shape hown'; have hst9 := grow_stays hgrow; have hna : ¬ (Value.slice ar (rowsBy lastC ls lv j nn).length cr).ownBlock = some al := (fun e => by have h2 := HVN.out; have h3 := (HTV.out.own nn hnm).lt al (by rw [h2]; exact e); omega); have q1 := (hst9.cell (o := nn) HTV.out.lt hna).trans (HTV.out.cell nn hnm); have q2 := (hst9.frozen (o := nn) HTV.out.lt hna).trans HFZN.out; rw [HVN.out] at q1)
      have hadd := TB.add HTV.out (by omega) hBt hnm (v' := .slice av ((rowsBy lastC ls lv j nn).length + 1) cv) (l := .slice (some ⟨b9, off9, none⟩) n9 c9) (w2 := w9) (by rw [HVN.out]; exact hst9) hown' (fun k e => by rw [HVN.out]; exact (hnew k e).imp id (fun h => by simp at h; omega))
      have hrw : rowsBy lastC ls lv (j + 1) = fun k => if k = nn then rowsBy lastC ls lv j nn ++ [.slice (some ⟨b9, off9, none⟩) n9 c9] else rowsBy lastC ls lv j k := by
        rw [rowsBy_succ, HKEY.out, HCR.out]
      rw [← hrw] at hadd
      have hs9' : Stays (fun k => k = al) W6 (w9.setCell ⟨al, nn, none⟩ (.slice av ((rowsBy lastC ls lv j nn).length + 1) cv)) := (hs8.trans hst9 (fun i e => .inr (by have h2 := HVN.out; exact ((HTV.out.own nn hnm).lt i (by rw [h2]; exact e)).1))).trans (Stays.setCell (S := fun k => k = al) w9 (p := ⟨al, nn, none⟩) rfl _) (fun i e => .inl e)
      have HADD := Go.Lib.hid hadd
      have HS9 := Go.Lib.hid hs9'
      clear hadd hs9' hrw
      go_roundw
      case rel => exact ⟨j + 1, by omega, by go_num, ⟨_, HADD.out⟩, HS9.out⟩
      case measure => simp [intOf]; omega
    · have e : j = n := by omega
      subst e
      go_wp2
      go_ret
      obtain ⟨vs, htv⟩ := htb.out
      refine ⟨al, rfl, hbr, hge, htv.lt, ?_⟩
      intro w2 hs2 hk2 k hk
      have hcell : w2.cell? ⟨al, k, none⟩ = some (vs k) := (World.cell?_of_block (hk2 al (.inr ⟨hge, htv.lt⟩))).trans (htv.cell k hk)
      obtain ⟨ar, cr, hvk⟩ := owns_shape (htv.own k hk)
      have hrow := owns_keep (w' := w2) (htv.own k hk) (fun x e hlt => hk2 x (.inr ⟨by have h3 := (htv.own k hk).lt x e; have := hB6.size; omega, hlt⟩))
      rw [hvk] at hcell hrow
      rw [HLV.out] at hrow hcell
      have hrr := rowBy_rc (ls := ls) (key := lastC) (k := k) (w0 := W6) HH.out.len (by omega) (fun i hi => by
        obtain ⟨a9, n9, c9, e9, h9⟩ := HOLD.out w2 (Nat.le_trans hbr.size hs2) (fun x hx => (hk2 x (.inl hx)).trans (hbr.block x (HOL.out x hx))) i hi
        exact ⟨a9, n9, c9, (lineV_keep HH.out hB6 i hi).trans e9, h9⟩) hrow
      exact ⟨ar, _, cr, hcell, Nat.lt_of_lt_of_le htv.lt hs2, hrr.1, hrr.2⟩

end Go.Proofs.Ytcblpobiefmjmaa
