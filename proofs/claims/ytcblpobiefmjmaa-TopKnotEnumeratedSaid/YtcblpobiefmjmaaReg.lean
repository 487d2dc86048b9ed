/- A region that draws its order: its quiet operations are taken first, the others come in their one order. -/
import Derived.OrdersHeld
import Derived.Deep.Quiet
import Derived.Still
import Derived.Below
import Derived.KernelRfl
import Derived.BigFrame
import Derived.BigQuiet
import Derived.Deep.RegionHeld3
namespace Go.Proofs.Ytcblpobiefmjmaa
open Go Go.RowKit

section
variable {P : Program} {ops : Array Oper} {Q : Exit → Act → World → Prop} {md : Region.Mode} {S : World → Prop} {late : Nat → Bool}

/-- Whatever order is picked; behind every operation that is not late, S holds. -/
def wpL (P : Program) (md : Region.Mode) (ops : Array Oper) (Q : Exit → Act → World → Prop) (S : World → Prop) (late : Nat → Bool) : Nat → Array Bool → Act → World → Prop
  | 0, listed, a, w => Region.ready md ops listed = [] ∧ Q .normal a w
  | fuel + 1, listed, a, w =>
    (Region.ready md ops listed = [] → Q .normal a w) ∧
    ∀ i ∈ Region.ready md ops listed, wpOp P ops Q i (fun a' w' => (late i = false → S w') ∧ wpL P md ops Q S late fuel (listed.setIfInBounds i true) a' w') a w

theorem wpAny_of_L : ∀ (fuel : Nat) (listed : Array Bool) (a : Act) (w : World), wpL P md ops Q S late fuel listed a w → wpAny P md ops Q fuel listed a w
  | 0, _, _, _, h => h
  | fuel + 1, _, _, _, h => ⟨h.1, fun i hi => wpOp_mono (fun a' w' h' => wpAny_of_L fuel _ a' w' h'.2) (h.2 i hi)⟩

/-- Whoever is listed, what comes before it is listed too. -/
def Closed (md : Region.Mode) (ops : Array Oper) (listed : Array Bool) : Prop :=
  ∀ j oj, ops[j]? = some oj → listed.getD j false = true → ∀ e ∈ oj.after, Region.binds md e = true → listed.getD e.on false = true

theorem Closed.set {listed : Array Bool} {i : Nat} (h : Closed md ops listed) (hi : i ∈ Region.ready md ops listed) : Closed md ops (listed.setIfInBounds i true) := by
  obtain ⟨_, oi, hoi, hall⟩ := mem_ready.1 hi
  intro j oj hj hl e he hb
  by_cases hij : i = j
  · subst hij
    have : oj = oi := Option.some.inj (hj.symm.trans hoi)
    subst this
    exact getD_set_true (hall e he hb)
  · rw [getD_set_ne false hij] at hl
    exact getD_set_true (h j oj hj hl e he hb)

theorem closed_none (m : Nat) : Closed md ops (Array.replicate m false) := by
  intro j oj _ hl
  rcases Nat.lt_or_ge j m with h | h
  · simp [h] at hl
  · simp [h] at hl

def aftersOf (md : Region.Mode) (ops : Array Oper) (j : Nat) : List Nat :=
  match ops[j]? with
  | some oj => (oj.after.toList.filter fun e => Region.binds md e).map (·.on)
  | none => []

/-- What comes before the members of l. -/
def closure (md : Region.Mode) (ops : Array Oper) : Nat → List Nat → List Nat
  | 0, l => l
  | f + 1, l => closure md ops f (l ++ ((l.flatMap (aftersOf md ops)).filter fun i => !l.contains i).eraseDups)

theorem afters_listed {listed : Array Bool} (h : Closed md ops listed) {j i : Nat} (hj : listed.getD j false = true) (hi : i ∈ aftersOf md ops j) : listed.getD i false = true := by
  unfold aftersOf at hi
  split at hi
  · rename_i oj hoj
    obtain ⟨e, he, rfl⟩ := List.mem_map.1 hi
    obtain ⟨he1, he2⟩ := List.mem_filter.1 he
    exact h j oj hoj hj e (by simpa using he1) he2
  · cases hi

theorem closure_listed {listed : Array Bool} (h : Closed md ops listed) : ∀ (f : Nat) (l : List Nat), (∀ i ∈ l, listed.getD i false = true) → ∀ i ∈ closure md ops f l, listed.getD i false = true
  | 0, _, hl => hl
  | f + 1, l, hl => closure_listed h f _ fun i hi => by
    rcases List.mem_append.1 hi with hi | hi
    · exact hl i hi
    · have h1 := List.mem_eraseDups.1 hi
      have h2 := (List.mem_filter.1 h1).1
      obtain ⟨j, hj, hij⟩ := List.mem_flatMap.1 h2
      exact afters_listed h (hl j hj) hij

theorem ready_afters {listed : Array Bool} {j : Nat} (hr : j ∈ Region.ready md ops listed) : ∀ i ∈ aftersOf md ops j, listed.getD i false = true := by
  obtain ⟨_, oj, hoj, hall⟩ := mem_ready.1 hr
  intro i hi
  simp only [aftersOf, hoj] at hi
  obtain ⟨e, he, rfl⟩ := List.mem_map.1 hi
  obtain ⟨he1, he2⟩ := List.mem_filter.1 he
  exact hall e (by simpa using he1) he2

theorem wpL_first {i : Nat} {oi : Oper} {v : Value} (hi : ops[i]? = some oi) (hsel : ∀ (j : Nat) (o : Oper) cs b, ops[j]? = some o → o.op ≠ .select cs b)
    (hQ : ∀ c a w, Q (.panic c) (a.put oi.dst v) w → Q (.panic c) a w) (hnl : late i = false)
    (hlate : ∀ j listed, late j = true → Closed md ops listed → j ∈ Region.ready md ops listed → listed.getD i false = true) :
    ∀ (fuel : Nat) (listed : Array Bool) (a : Act) (w : World), Closed md ops listed →
      (∀ j oj, ops[j]? = some oj → j ≠ i → listed.getD j true = false → (∀ e ∈ oj.after, Region.binds md e = true → e.on ≠ i) → oi.apart ops oj = true) →
      i ∈ Region.ready md ops listed → YieldsIf P ops S oi v a → S w →
      wpL P md ops Q S late fuel (listed.setIfInBounds i true) (a.put oi.dst v) w → wpL P md ops Q S late (fuel + 1) listed a w := by
  intro fuel
  induction fuel with
  | zero =>
    intro listed a w hcl hfree hr hy hS H
    refine ⟨fun h => (by rw [h] at hr; cases hr), fun j hj => ?_⟩
    by_cases hji : j = i
    · subst hji; exact hy.wpOp hi hS ⟨fun _ => hS, H⟩
    · have := ready_mono hj hji
      rw [H.1] at this
      cases this
  | succ fuel ih =>
    intro listed a w hcl hfree hr hy hS H
    refine ⟨fun h => (by rw [h] at hr; cases hr), fun j hj => ?_⟩
    by_cases hji : j = i
    · subst hji; exact hy.wpOp hi hS ⟨fun _ => hS, H⟩
    · have h1 := H.2 j (ready_mono hj hji)
      obtain ⟨hjun, oj, hoj, hall⟩ := mem_ready.1 hj
      have hnot : ∀ e ∈ oj.after, Region.binds md e = true → e.on ≠ i := fun e he hb heq => by
        have h1 := hall e he hb
        have h0 := (mem_ready.1 hr).1
        rw [heq] at h1
        rcases Nat.lt_or_ge i listed.size with h' | h'
        · simp [h'] at h0 h1; rw [h0] at h1; cases h1
        · simp [Array.getElem?_eq_none h'] at h1
      have hjl : late j = false := by
        cases hl : late j with
        | false => rfl
        | true =>
          have h1 := hlate j listed hl hcl hj
          have h0 := (mem_ready.1 hr).1
          rcases Nat.lt_or_ge i listed.size with h' | h'
          · simp [h'] at h0 h1; rw [h0] at h1; cases h1
          · simp [Array.getElem?_eq_none h'] at h1
      have h2 := wpOp_putIf hoj (hfree j oj hoj hji hjun hnot) (fun cs b => hsel i oi cs b hi) (fun cs b => hsel j oj cs b hoj) hQ hy h1
      have hfree' : ∀ k ok, ops[k]? = some ok → k ≠ i → (listed.setIfInBounds j true).getD k true = false →
          (∀ e ∈ ok.after, Region.binds md e = true → e.on ≠ i) → oi.apart ops ok = true := fun k ok hk hki hun hno => by
        refine hfree k ok hk hki ?_ hno
        by_cases hjk : j = k
        · subst hjk; exact hjun
        · rw [getD_set_ne true hjk] at hun; exact hun
      refine wpOp_mono (fun a' w' h3 => ⟨h3.2.1, ih (listed.setIfInBounds j true) a' w' (hcl.set hj) hfree' (ready_mono hr (Ne.symm hji)) h3.1 (h3.2.1 hjl) ?_⟩) h2
      rw [Array.setIfInBounds_comm _ _ hji]
      exact h3.2.2

/-- May this operation, where it runs, only hand back a value? -/
def plainOp (o : Oper) : Bool :=
  match o.op with
  | .call { callee := .builtin .len, .. } => true
  | .call _ | .go _ | .defer _ | .panic _ | .send .. | .recv .. | .select .. | .store .. | .ready _ | .mapUpdate .. | .insert .. | .entryStore .. => false
  | _ => true

/-- The walk: kind 0: quiet; 1: loud; else late. -/
def wpS (P : Program) (ops : Array Oper) (S : World → Prop) (Q : Exit → Act → World → Prop) : List (Nat × Oper) → Act → World → Prop
  | [], a, w => Q .normal a w
  | (0, o) :: r, a, w =>
    if Region.wanted o (yielded ops a.tmps) then ∃ v, (∀ w', S w' → (execOp a.eval o).run P w' = .ok (.value v) w') ∧ wpS P ops S Q r (a.put o.dst v) w
    else wpS P ops S Q r (a.put o.dst undef) w
  | (1, o) :: r, a, w => 
    if Region.wanted o (yielded ops a.tmps) then o.wp P a w (fun a' w' => S w' ∧ wpS P ops S Q r a' w') Q ∨ (o.asks P a w ∧ LetsOut Q)
    else wpS P ops S Q r (a.put o.dst undef) w
  | (_, o) :: r, a, w => 
    if Region.wanted o (yielded ops a.tmps) then o.wp P a w (fun a' w' => wpS P ops S Q r a' w') Q ∨ (o.asks P a w ∧ LetsOut Q)
    else wpS P ops S Q r (a.put o.dst undef) w

def nthOp : List Oper → Nat → Option Oper
  | [], _ => none
  | x :: _, 0 => some x
  | _ :: l, n + 1 => nthOp l n

def pickOps (l : List Oper) : List (Nat × Nat) → List (Nat × Oper)
  | [] => []
  | (k, i) :: r => match nthOp l i with
    | some o => (k, o) :: pickOps l r
    | none => []

/-- The static check of a sequence. -/
def seqOk (md : Region.Mode) (ops : Array Oper) (late : List Nat) : List (Nat × Nat) → Array Bool → Bool
  | [], listed => (Region.ready md ops listed).isEmpty
  | (0, i) :: r, listed =>
    (Region.ready md ops listed).contains i && Region.free md ops listed i && !late.contains i && late.all (fun j => (closure md ops ops.size (aftersOf md ops j)).contains i) && seqOk md ops late r (listed.setIfInBounds i true)
  | (1, i) :: r, listed => ((Region.ready md ops listed) == [i]) && seqOk md ops late r (listed.setIfInBounds i true)
  | (_, i) :: r, listed => ((Region.ready md ops listed) == [i]) && late.contains i && r.all (fun x => decide (2 ≤ x.1)) && seqOk md ops late r (listed.setIfInBounds i true)

theorem nthOp_eq : ∀ (l : List Oper) (i : Nat), nthOp l i = l[i]?
  | [], i => by simp [nthOp]
  | x :: l, 0 => rfl
  | x :: l, i + 1 => by simp [nthOp, nthOp_eq l i]

theorem wpOp_of_if {i : Nat} {o : Oper} (hi : ops[i]? = some o) {K : Act → World → Prop} {a : Act} {w : World}
    (h : if Region.wanted o (yielded ops a.tmps) then o.wp P a w K Q ∨ (o.asks P a w ∧ LetsOut Q) else K (a.put o.dst undef) w) : wpOp P ops Q i K a w := by
  unfold Go.wpOp
  simp only [hi]
  split
  · rename_i hw; rw [if_pos hw] at h; exact h
  · rename_i hw; rw [if_neg hw] at h; exact h

theorem wpL_of_S (hs : Region.noSelect ops = true) (lt : List Nat) (hQ : ∀ c a d v w, Q (.panic c) (Act.put a d v) w → Q (.panic c) a w) :
    ∀ (seq : List (Nat × Nat)) (listed : Array Bool) (a : Act) (w : World), Closed md ops listed → ((∃ x ∈ seq, x.1 ≤ 1) → S w) →
      seqOk md ops lt seq listed = true → wpS P ops S Q (pickOps ops.toList seq) a w → wpL P md ops Q S (fun i => lt.contains i) seq.length listed a w
  | [], listed, a, w, _, _, hc, h => ⟨by simpa [seqOk] using hc, h⟩
  | (0, i) :: r, listed, a, w, hcl, hS, hc, h => by
    have hSw : S w := hS ⟨_, List.mem_cons_self, Nat.zero_le _⟩
    simp only [seqOk, Bool.and_eq_true] at hc
    obtain ⟨⟨⟨⟨hr, hf⟩, hnl⟩, hla⟩, hc'⟩ := hc
    obtain ⟨oi, hoi⟩ : ∃ oi, ops[i]? = some oi := by
      have := (mem_ready (md := md) (ops := ops) (listed := listed) (j := i)).1 (by simpa using hr)
      obtain ⟨_, oi, h1, _⟩ := this
      exact ⟨oi, h1⟩
    have hp : nthOp ops.toList i = some oi := by rw [nthOp_eq]; simpa using hoi
    have hnl' : lt.contains i = false := by simpa using hnl
    have hlate : ∀ j listed, lt.contains j = true → Closed md ops listed → j ∈ Region.ready md ops listed → listed.getD i false = true := by
      intro j listed' hl hcl' hj
      have h1 := List.all_eq_true.1 hla j (by simpa using hl)
      exact closure_listed hcl' _ _ (ready_afters hj) i (by simpa using h1)
    simp only [pickOps, hp, wpS] at h
    have key : ∀ v, YieldsIf P ops S oi v a → wpS P ops S Q (pickOps ops.toList r) (a.put oi.dst v) w → wpL P md ops Q S (fun i => lt.contains i) (r.length + 1) listed a w := by
      intro v hy hK
      exact wpL_first hoi (Region.noSelect_spec hs) (fun c a' w' => hQ c a' _ _ w') hnl' hlate r.length listed a w hcl (Region.free_spec hoi hf) (by simpa using hr) hy hSw
        (wpL_of_S hs lt hQ r _ _ w (hcl.set (by simpa using hr)) (fun _ => hSw) hc' hK)
    by_cases hw : Region.wanted oi (yielded ops a.tmps) = true
    · rw [if_pos hw] at h
      obtain ⟨v, hv, hK⟩ := h
      exact key v (.inl ⟨hw, hv⟩) hK
    · rw [if_neg hw] at h
      exact key undef (.inr ⟨by simpa using hw, rfl⟩) h
  | (1, i) :: r, listed, a, w, hcl, hS, hc, h => by
    have hSw : S w := hS ⟨_, List.mem_cons_self, Nat.le_refl _⟩
    simp only [seqOk, Bool.and_eq_true, beq_iff_eq] at hc
    obtain ⟨hr, hc'⟩ := hc
    obtain ⟨oi, hoi⟩ : ∃ oi, ops[i]? = some oi := by
      obtain ⟨_, oi, h1, _⟩ := (mem_ready (md := md) (ops := ops) (listed := listed) (j := i)).1 (by rw [hr]; simp)
      exact ⟨oi, h1⟩
    have hp : nthOp ops.toList i = some oi := by rw [nthOp_eq]; simpa using hoi
    simp only [pickOps, hp, wpS] at h
    refine ⟨fun h0 => absurd (hr ▸ h0) (by simp), fun j hj => ?_⟩
    rw [hr] at hj
    obtain rfl : j = i := by simpa using hj
    refine wpOp_of_if hoi ?_
    split
    · rename_i hw
      rw [if_pos hw] at h
      exact h.imp (Oper.wp_mono fun a' w' hk => ⟨fun _ => hk.1, wpL_of_S hs lt hQ r _ a' w' (hcl.set (by rw [hr]; simp)) (fun _ => hk.1) hc' hk.2⟩) id
    · rename_i hw
      rw [if_neg hw] at h
      exact ⟨fun _ => hSw, wpL_of_S hs lt hQ r _ _ w (hcl.set (by rw [hr]; simp)) (fun _ => hSw) hc' h⟩
  | (n + 2, i) :: r, listed, a, w, hcl, hS, hc, h => by
    simp only [seqOk, Bool.and_eq_true, beq_iff_eq] at hc
    obtain ⟨⟨⟨hr, hl⟩, hno⟩, hc'⟩ := hc
    obtain ⟨oi, hoi⟩ : ∃ oi, ops[i]? = some oi := by
      obtain ⟨_, oi, h1, _⟩ := (mem_ready (md := md) (ops := ops) (listed := listed) (j := i)).1 (by rw [hr]; simp)
      exact ⟨oi, h1⟩
    have hp : nthOp ops.toList i = some oi := by rw [nthOp_eq]; simpa using hoi
    simp only [pickOps, hp, wpS] at h
    refine ⟨fun h0 => absurd (hr ▸ h0) (by simp), fun j hj => ?_⟩
    rw [hr] at hj
    obtain rfl : j = i := by simpa using hj
    have hnoz : ¬ ∃ x ∈ r, x.1 ≤ 1 := by
      rintro ⟨x, hx, h0⟩
      have := List.all_eq_true.1 hno x hx
      simp at this
      omega
    refine wpOp_of_if hoi ?_
    split
    · rename_i hw
      rw [if_pos hw] at h
      exact h.imp (Oper.wp_mono fun a' w' hk => ⟨fun h0 => by rw [show (fun i => lt.contains i) j = lt.contains j from rfl, hl] at h0; exact absurd h0 (by simp), wpL_of_S hs lt hQ r _ a' w' (hcl.set (by rw [hr]; simp)) (fun hz => absurd hz hnoz) hc' hk⟩) id
    · rename_i hw
      rw [if_neg hw] at h
      exact ⟨fun h0 => by rw [show (fun i => lt.contains i) j = lt.contains j from rfl, hl] at h0; exact absurd h0 (by simp), wpL_of_S hs lt hQ r _ _ w (hcl.set (by rw [hr]; simp)) (fun hz => absurd hz hnoz) hc' h⟩

theorem wpAny_more : ∀ (fuel m : Nat) (listed : Array Bool) (a : Act) (w : World), wpAny P md ops Q fuel listed a w → wpAny P md ops Q (fuel + m) listed a w
  | 0, 0, _, _, _, h => h
  | 0, m + 1, _, _, _, h => by
    rw [show 0 + (m + 1) = m + 1 from by omega]
    exact ⟨fun _ => h.2, by rw [h.1]; simp⟩
  | fuel + 1, m, _, _, _, h => by
    rw [show fuel + 1 + m = fuel + m + 1 from by omega]
    exact ⟨h.1, fun i hi => wpOp_mono (fun a' w' h' => wpAny_more fuel m _ a' w' h') (h.2 i hi)⟩

/-- THE REGION: by a sequence that the check takes; S holds of the world behind the draw. No panic comes up. -/
theorem wp_region_S {id : Nat} {l : List Oper} {a : Act} {w : World} (S : World → Prop) (lt : List Nat) (seq : List (Nat × Nat))
    (hm : P.follows .mixedOrders = true) (hc : (Region.noSelect l.toArray && decide (seq.length ≤ l.length) && seqOk .any l.toArray lt seq (Array.replicate l.length false)) = true)
    (hS : S w.drew)
    (h : wpS P l.toArray S (NoPanic Q) (pickOps l seq) a w.drew) : (Code.region id l.toArray true).wp P Q a w := by
  refine wp_region_noPanic ?_
  simp only [Bool.and_eq_true, decide_eq_true_eq] at hc
  obtain ⟨⟨hs, hlen⟩, hc⟩ := hc
  refine wp_region_any hm ?_
  obtain ⟨m, hm'⟩ : ∃ m, l.toArray.size = seq.length + m := ⟨l.length - seq.length, by simp; omega⟩
  rw [hm']
  refine wpAny_more _ _ _ _ _ (wpAny_of_L (S := S) (late := fun i => lt.contains i) _ _ _ _ ?_)
  have e : Array.replicate (seq.length + m) false = Array.replicate l.length false := by rw [← hm']; simp
  rw [e]
  exact wpL_of_S hs lt (fun _ _ _ _ _ h => h) seq _ a w.drew (closed_none _) (fun _ => hS) hc h

theorem run_v {s : Sem Value} {w w' : World} {n : Next} (h : (do pure (Next.value (← s)) : Sem Next).run P w = .ok n w') : ∃ u, n = .value u := by
  rw [Sem.run_bind] at h
  cases hs : s.run P w with
  | ok x w1 => rw [hs] at h; simp [Result.andThen, Sem.run_pure] at h; exact ⟨x, h.1.symm⟩
  | halt x w1 => rw [hs] at h; simp [Result.andThen] at h

theorem plain_value {o : Oper} (hp : plainOp o = true) (ρ : Operand → Value) {w w' : World} {n : Next} (h : (execOp ρ o).run P w = .ok n w') : ∃ u, n = .value u := by
  unfold plainOp at hp
  unfold execOp at h
  cases ho : o.op <;> rw [ho] at hp h <;> (try (simp at hp; done)) <;> dsimp only at h <;> (try exact run_v h)
  case move x => simp [Sem.run_pure] at h; exact ⟨_, h.1.symm⟩
  case assign x => simp [Sem.run_pure] at h; exact ⟨_, h.1.symm⟩
  case pick c a b =>
    rw [Sem.run_bind] at h
    cases hs : (asBool (ρ c)).run P w with
    | ok x w1 => rw [hs] at h; simp [Result.andThen, Sem.run_pure] at h; exact ⟨_, h.1.symm⟩
    | halt x w1 => rw [hs] at h; simp [Result.andThen] at h
  case nilCheck x =>
    split at h
    · simp [runtimePanic, Sem.run_bind, Result.andThen] at h
    · simp [runtimePanic, Sem.run_bind, Result.andThen] at h
    · simp [runtimePanic, Sem.run_bind, Result.andThen] at h
    · split at h
      · simp [runtimePanic, Sem.run_bind, Result.andThen] at h
      · simp [Sem.run_bind, Result.andThen] at h
        generalize Sem.run P (nilAhead _ _ _ _) _ = r1 at h
        cases r1 with
        | halt x w1 => simp at h
        | ok x w1 =>
          by_cases hx : x = some false
          · simp [hx] at h; exact ⟨_, h.1.symm⟩
          · simp [hx] at h
      · simp [Sem.run_pure] at h; exact ⟨_, h.1.symm⟩
    · simp [Sem.run_pure] at h; exact ⟨_, h.1.symm⟩
  case call c =>
    obtain ⟨cl, args, ats⟩ := c
    cases cl with
    | value f => simp at hp
    | invoke r m => simp at hp
    | builtin b =>
      cases b <;> (try (simp at hp; done))
      have h' : (builtin .len ats o.type (args.map fun | .const _ => true | _ => false) (args.map ρ)).run P w = .ok n w' := h
      rw [BigFrame.builtin_len] at h'
      exact run_v h'

/-- The steps of the walk. -/
theorem wpS_quiet {S : World → Prop} {a : Act} {w : World} {o : Oper} {r : List (Nat × Oper)} (hp : plainOp o = true) (hw : Region.wanted o (yielded ops a.tmps) = true)
    (h : ∀ K : Act → Prop, (∀ a', wpS P ops S Q r a' w → K a') → o.quiet P a S K) : wpS P ops S Q ((0, o) :: r) a w := by
  simp only [wpS, hw, if_true]
  obtain ⟨v, hv, hK⟩ := h (fun a' => wpS P ops S Q r a' w) (fun _ h => h)
  refine ⟨v, fun w' hS => ?_, hK⟩
  have hq := hv w' hS
  unfold Oper.quietAt at hq
  cases hr : (execOp a.eval o).run P w' with
  | halt x w1 => rw [hr] at hq; exact hq.elim
  | ok n w1 =>
    obtain ⟨u, rfl⟩ := plain_value hp _ hr
    rw [hr] at hq
    obtain ⟨rfl, rfl⟩ := hq
    rfl

/-- An operation whose guard says no. -/
theorem wpS_skip {S : World → Prop} {a : Act} {w : World} {k : Nat} {dst : Option Tmp} {op : Op} {ty : TypeId} {pos : String} {after : Array Edge} {g : Option (Nat × Bool)} {r : List (Nat × Oper)}
    (hw : Region.wanted (Oper.mk dst op ty pos after g) (yielded ops a.tmps) = false)
    (h : ∀ K : Act → Prop, (∀ a', wpS P ops S Q r a' w → K a') → (Oper.mk dst (.move (.const undef)) ty pos after none).quiet P a (fun w' => w' = w) K) : wpS P ops S Q ((k, Oper.mk dst op ty pos after g) :: r) a w := by
  obtain ⟨v, hv, hK⟩ := h (fun a' => wpS P ops S Q r a' w) (fun _ h => h)
  have hq := hv w rfl
  have : v = undef := by
    simp [Oper.quietAt, execOp, Sem.run_pure, Oper.quietUpon] at hq
    exact hq.symm
  subst this
  match k with
  | 0 => simp only [wpS, hw]; exact hK
  | 1 => simp only [wpS, hw]; exact hK
  | n + 2 => simp only [wpS, hw]; exact hK

def LQ (P : Program) (ops : Array Oper) (S : World → Prop) (Q : Exit → Act → World → Prop) (r : List (Nat × Oper)) : Exit → Act → World → Prop
  | .normal, a, w => S w ∧ wpS P ops S Q r a w
  | e, a, w => Q e a w

theorem LQ_lets {S : World → Prop} {r : List (Nat × Oper)} (h : LetsOut (LQ P ops S Q r)) : LetsOut Q := h

/-- A loud operation, as the walk has it. -/
theorem wpS_loud {S : World → Prop} {a : Act} {w : World} {o : Oper} {r : List (Nat × Oper)}
    (h : wpList P ops (LQ P ops S Q r) [o] a w) : wpS P ops S Q ((1, o) :: r) a w := by
  simp only [wpList] at h
  simp only [wpS]
  split
  · rename_i hw
    rw [if_pos hw] at h
    rcases h with h | ⟨h1, h2⟩
    · left
      unfold Oper.wp at *
      generalize (execOp a.eval o).run P w = x at *
      cases x with
      | ok n w' => cases n <;> simp only [Oper.upon] at h ⊢ <;> (try exact h) <;> (try exact h.2) <;> (try exact h.2.2)
      | halt x w' => cases x <;> simp only [Oper.upon] at h ⊢ <;> exact h
    · exact .inr ⟨h1, LQ_lets h2⟩
  · rename_i hw
    rw [if_neg hw] at h
    exact h.2

theorem wpS_end {S : World → Prop} {a : Act} {w : World} (h : Q .normal a w) : wpS P ops S (NoPanic Q) [] a w := h

/-- What is left is late: the walk's own list. -/
theorem wpS_late {S : World → Prop} : ∀ (r : List (Nat × Oper)) (a : Act) (w : World), (r.all fun x => decide (2 ≤ x.1)) = true → wpList P ops Q (r.map (·.2)) a w → wpS P ops S Q r a w
  | [], _, _, _, h => h
  | (n, o) :: r, a, w, hk, h => by
    simp only [List.all_cons, Bool.and_eq_true, decide_eq_true_eq] at hk
    obtain ⟨m, rfl⟩ : ∃ m, n = m + 2 := ⟨n - 2, by omega⟩
    simp only [List.map_cons, wpList] at h
    simp only [wpS]
    split
    · rename_i hw
      rw [if_pos hw] at h
      exact h.imp (Oper.wp_mono fun a' w' hK => wpS_late r a' w' hk.2 hK) id
    · rename_i hw
      rw [if_neg hw] at h
      exact wpS_late r _ _ hk.2 h
end

/-- The world u, with w's blocks where w has some, and w's streams. -/
def over (w u : World) : World := { u with heap := (w.heap.toList ++ u.heap.toList.drop w.heap.size).toArray, os := w.os, tape := w.tape, output := w.output }

theorem over_heap (w u : World) (k : Nat) (h : k < w.heap.size) : (over w u).heap[k]? = w.heap[k]? := by
  simp [over]
  rw [List.getElem?_append_left (by simpa using h)]
  simp

theorem over_size (w u : World) : w.heap.size ≤ (over w u).heap.size := by simp [over]

theorem over_cell (w u : World) (b o : Nat) (h : b < w.heap.size) : (over w u).cell? ⟨b, o, none⟩ = w.cell? ⟨b, o, none⟩ :=
  World.cell?_of_block (w := w) (w' := over w u) (over_heap w u b h)

theorem over_frozen (w u : World) (b o : Nat) (h : b < w.heap.size) : (over w u).frozen? ⟨b, o, none⟩ = w.frozen? ⟨b, o, none⟩ :=
  World.frozen?_of_block (w := w) (w' := over w u) (over_heap w u b h)

theorem over_below (w u : World) : Below w.heap.size w (over w u) := ⟨rfl, rfl, rfl, over_size w u, fun k hk => over_heap w u k hk⟩

theorem below_over {w w' : World} (h : Below w.heap.size w w') : w' = over w w' := by
  obtain ⟨h1, h2, h3, h4, h5⟩ := h
  cases w' with
  | mk hp tp dr os ou =>
    simp only at h1 h2 h3 h4
    subst h1 h2 h3
    simp only [over, World.mk.injEq, and_true]
    apply Array.ext_getElem?
    intro k
    have e : ((w.heap.toList ++ List.drop w.heap.size hp.toList).toArray)[k]? = (w.heap.toList ++ List.drop w.heap.size hp.toList)[k]? := by simp
    rw [e]
    rcases Nat.lt_or_ge k w.heap.size with hk | hk
    · rw [List.getElem?_append_left (by simpa using hk)]
      have := h5 k hk
      simpa using this
    · rw [List.getElem?_append_right (by simpa using hk), List.getElem?_drop]
      simp
      congr 1
      omega

/-- The class of the worlds that keep what w holds. -/
def Keeps (w : World) (w' : World) : Prop := ∃ u, w' = over w u
theorem Keeps.refl (w : World) : Keeps w w := ⟨w, below_over (Below.refl _ _)⟩
theorem Keeps.of {w w' : World} (h : Below w.heap.size w w') : Keeps w w' := ⟨w', below_over h⟩
theorem Keeps.below {w w' : World} (h : Keeps w w') : Below w.heap.size w w' := by obtain ⟨u, rfl⟩ := h; exact over_below w u
theorem keep_alloc {W w1 : World} (h : Below W.heap.size W w1) (o : Obj) : Below W.heap.size W (w1.alloc o) := h.alloc h.size o
theorem keep_trans {W w1 w2 : World} (h : Below W.heap.size W w1) (k : Below w1.heap.size w1 w2) : Below W.heap.size W w2 := h.trans (k.mono h.size)
theorem keep_drew {W w1 : World} (h : Below W.heap.size W w1) : Below W.heap.size W w1.drew := h.drew
attribute [irreducible] wpS
end Go.Proofs.Ytcblpobiefmjmaa
