/- A law for a region that draws its order, whose last operations wait for all the others: what the head's loads read (S) need hold only while an operation of the head has not come up. -/
import Derived.OrdersHeld
import Derived.StillTail
namespace Go.Proofs.YtbffpkmfhkphdaaGreatDoor
open Go

variable {P : Program} {md : Region.Mode} {ops : Array Oper} {Q : Exit → Act → World → Prop} {S : World → Prop}

def wpAnyS (P : Program) (md : Region.Mode) (ops : Array Oper) (Q : Exit → Act → World → Prop) (S : World → Prop) (n : Nat) : Nat → Array Bool → Act → World → Prop
  | 0, listed, a, w => wpAny P md ops Q 0 listed a w
  | fuel + 1, listed, a, w =>
    ((∀ i, i < n → listed.getD i true = true) → wpAny P md ops Q (fuel + 1) listed a w) ∧
    ((∃ i, i < n ∧ listed.getD i true = false) → Region.ready md ops listed ≠ [] ∧
      ∀ i ∈ Region.ready md ops listed, wpOp P ops Q i (fun a' w' => S w' ∧ wpAnyS P md ops Q S n fuel (listed.setIfInBounds i true) a' w') a w)

theorem wpAny_of_S {n : Nat} : ∀ (fuel : Nat) (listed : Array Bool) (a : Act) (w : World), wpAnyS P md ops Q S n fuel listed a w → wpAny P md ops Q fuel listed a w
  | 0, _, _, _, h => h
  | fuel + 1, listed, a, w, h => by
    by_cases hx : ∃ i, i < n ∧ listed.getD i true = false
    · obtain ⟨h1, h2⟩ := h.2 hx
      exact ⟨fun h0 => absurd h0 h1, fun i hi => wpOp_mono (fun a' w' h' => wpAny_of_S fuel _ a' w' h'.2) (h2 i hi)⟩
    · refine h.1 (fun i hi => ?_)
      cases hl : listed.getD i true with
      | true => rfl
      | false => exact absurd ⟨i, hi, hl⟩ hx

theorem wpAnyS_first {n i : Nat} {oi : Oper} {v : Value} (hi : ops[i]? = some oi) (hsel : ∀ (j : Nat) (o : Oper) cs b, ops[j]? = some o → o.op ≠ .select cs b)
    (hs : Region.sinkB md ops n = true) (hc : Region.chainB md ops n = true) (hn : n < ops.size) (hin : i < n)
    (hQ : ∀ c a w, Q (.panic c) (a.put oi.dst v) w → Q (.panic c) a w) :
    ∀ (fuel : Nat) (listed : Array Bool) (a : Act) (w : World), HeadInv md ops n listed →
      (∀ j oj, ops[j]? = some oj → j ≠ i → listed.getD j true = false → (∀ e ∈ oj.after, Region.binds md e = true → e.on ≠ i) → oi.apart ops oj = true) →
      i ∈ Region.ready md ops listed → YieldsIf P ops S oi v a → S w →
      wpAnyS P md ops Q S n fuel (listed.setIfInBounds i true) (a.put oi.dst v) w → wpAnyS P md ops Q S n (fuel + 1) listed a w := by
  intro fuel
  induction fuel with
  | zero =>
    intro listed a w inv _ hr hy hS H
    have hun := (mem_ready.1 hr).1
    refine ⟨fun hall => (by rw [hall i hin] at hun; cases hun), fun _ => ⟨fun h => (by rw [h] at hr; cases hr), fun j hj => ?_⟩⟩
    by_cases hji : j = i
    · subst hji; exact hy.wpOp hi hS ⟨hS, H⟩
    · have := ready_mono hj hji
      rw [H.1] at this
      cases this
  | succ fuel ih =>
    intro listed a w inv hfree hr hy hS H
    have hun := (mem_ready.1 hr).1
    refine ⟨fun hall => (by rw [hall i hin] at hun; cases hun), fun _ => ⟨fun h => (by rw [h] at hr; cases hr), fun j hj => ?_⟩⟩
    by_cases hji : j = i
    · subst hji; exact hy.wpOp hi hS ⟨hS, H⟩
    · have hjn : j < n := by
        rcases Nat.lt_or_ge j n with h | h
        · exact h
        · exact absurd hj (tail_waits hs hc hn inv _ i rfl hin hun j h)
      obtain ⟨hjun, oj, hoj, hall⟩ := mem_ready.1 hj
      have hex : ∃ k, k < n ∧ (listed.setIfInBounds i true).getD k true = false := ⟨j, hjn, by rw [getD_set_ne true (Ne.symm hji)]; exact hjun⟩
      have h1 := (H.2 hex).2 j (ready_mono hj hji)
      have hnot : ∀ e ∈ oj.after, Region.binds md e = true → e.on ≠ i := fun e he hb heq => by
        have h1 := hall e he hb
        rw [heq, getD_both hun] at h1
        cases h1
      have h2 := wpOp_putIf hoj (hfree j oj hoj hji hjun hnot) (fun cs b => hsel i oi cs b hi) (fun cs b => hsel j oj cs b hoj) hQ hy h1
      have hfree' : ∀ k ok, ops[k]? = some ok → k ≠ i → (listed.setIfInBounds j true).getD k true = false →
          (∀ e ∈ ok.after, Region.binds md e = true → e.on ≠ i) → oi.apart ops ok = true := fun k ok hk hki hun hno => by
        refine hfree k ok hk hki ?_ hno
        by_cases hjk : j = k
        · subst hjk; exact hjun
        · rw [getD_set_ne true hjk] at hun; exact hun
      refine wpOp_mono (fun a' w' h3 => ⟨h3.2.1, ih (listed.setIfInBounds j true) a' w' (inv.set hj hjn) hfree' (ready_mono hr (Ne.symm hji)) h3.1 h3.2.1 ?_⟩) h2
      rw [Array.setIfInBounds_comm _ _ hji]
      exact h3.2.2

/-- Take number i first. -/
theorem wpAnyS_take {n i : Nat} {oi : Oper} {v : Value} {fuel : Nat} {listed : Array Bool} {a : Act} {w : World} (inv : HeadInv md ops n listed) (hi : ops[i]? = some oi)
    (hsel : Region.noSelect ops = true) (hs : Region.sinkB md ops n = true) (hc : Region.chainB md ops n = true) (hn : n < ops.size) (hin : i < n)
    (hf : Region.free md ops listed i = true) (hr : (Region.ready md ops listed).contains i = true)
    (hQ : ∀ c a w, Q (.panic c) (a.put oi.dst v) w → Q (.panic c) a w) (hy : YieldsIf P ops S oi v a) (hS : S w)
    (h : HeadInv md ops n (listed.setIfInBounds i true) → wpAnyS P md ops Q S n fuel (listed.setIfInBounds i true) (a.put oi.dst v) w) : wpAnyS P md ops Q S n (fuel + 1) listed a w := by
  have hr' : i ∈ Region.ready md ops listed := by simpa using hr
  exact wpAnyS_first hi (Region.noSelect_spec hsel) hs hc hn hin hQ fuel listed a w inv (Region.free_spec hi hf) hr' hy hS (h (inv.set hr' hin))

/-- The same, the slot written out. -/
theorem wpAnyS_take_at {n i : Nat} {oi : Oper} {v : Value} {fuel : Nat} {listed : Array Bool} {a : Act} {w : World} (d : Tmp) (inv : HeadInv md ops n listed) (hi : ops[i]? = some oi) (hd : oi.dst = some d)
    (hsel : Region.noSelect ops = true) (hs : Region.sinkB md ops n = true) (hc : Region.chainB md ops n = true) (hn : n < ops.size) (hin : i < n)
    (hf : Region.free md ops listed i = true) (hr : (Region.ready md ops listed).contains i = true)
    (hQ : ∀ c a w, Q (.panic c) (a.put oi.dst v) w → Q (.panic c) a w) (hy : YieldsIf P ops S oi v a) (hS : S w)
    (h : HeadInv md ops n (listed.setIfInBounds i true) → wpAnyS P md ops Q S n fuel (listed.setIfInBounds i true) (a.put (some d) v) w) : wpAnyS P md ops Q S n (fuel + 1) listed a w :=
  wpAnyS_take inv hi hsel hs hc hn hin hf hr hQ hy hS (by rw [hd]; exact h)

/-- One operation alone may come up, of the head: behind it S is to be shown anew. -/
theorem wpAnyS_one {n i : Nat} {fuel : Nat} {listed : Array Bool} {a : Act} {w : World} (inv : HeadInv md ops n listed) (hin : i < n) (hr : Region.ready md ops listed = [i])
    (h : HeadInv md ops n (listed.setIfInBounds i true) → wpOp P ops Q i (fun a' w' => S w' ∧ wpAnyS P md ops Q S n fuel (listed.setIfInBounds i true) a' w') a w) : wpAnyS P md ops Q S n (fuel + 1) listed a w := by
  have hm : i ∈ Region.ready md ops listed := by rw [hr]; simp
  have hun := (mem_ready.1 hm).1
  refine ⟨fun hall => (by rw [hall i hin] at hun; cases hun), fun _ => ⟨by rw [hr]; simp, fun j hj => ?_⟩⟩
  rw [hr, List.mem_singleton] at hj
  subst hj
  exact h (inv.set hm hin)

/-- The head is through: from here on with no S. -/
theorem wpAnyS_tail {n fuel : Nat} {listed : Array Bool} {a : Act} {w : World} (hall : ∀ i, i < n → listed.getD i true = true) (h : wpAny P md ops Q fuel listed a w) : wpAnyS P md ops Q S n fuel listed a w := by
  cases fuel with
  | zero => exact h
  | succ fuel =>
    refine ⟨fun _ => h, fun ⟨i, hi, hl⟩ => ?_⟩
    rw [hall i hi] at hl; cases hl

/-- The beginning. -/
theorem wp_region_S {n id : Nat} {a : Act} {w : World} (hm : P.follows .mixedOrders = true) (hn : n < ops.size)
    (h : HeadInv .any ops n (Array.replicate ops.size false) → wpAnyS P .any ops Q S n ops.size (Array.replicate ops.size false) a { w with drawn := w.drawn + 1 }) : (Code.region id ops true).wp P Q a w := by
  refine wp_region_any hm (wpAny_of_S _ _ _ _ (h ⟨by simp, fun j oj hj hl => ?_, fun t ht ht' => ?_⟩))
  · rw [getD_replicate_false] at hl; cases hl
  · simp [ht']

/-- One operation alone may come up. -/
theorem wpAny_one {i : Nat} {fuel : Nat} {listed : Array Bool} {a : Act} {w : World} (hr : Region.ready md ops listed = [i])
    (h : wpOp P ops Q i (fun a' w' => wpAny P md ops Q fuel (listed.setIfInBounds i true) a' w') a w) : wpAny P md ops Q (fuel + 1) listed a w :=
  ⟨fun h0 => (by rw [hr] at h0; cases h0), fun j hj => by rw [hr, List.mem_singleton] at hj; subst hj; exact h⟩

end Go.Proofs.YtbffpkmfhkphdaaGreatDoor
