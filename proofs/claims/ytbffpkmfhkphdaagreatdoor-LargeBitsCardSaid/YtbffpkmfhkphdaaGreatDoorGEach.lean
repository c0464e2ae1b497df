/- A law for a region that draws its order: of the head (whose operations make or read memory, and write none that was there) each operation is looked at once. Steps of a drawn region, a kind of operation each. -/
import Derived.Test.YtbffpkmfhkphdaaGreatDoorHeld
import Derived.Test.YtbffpkmfhkphdaaGreatDoorGNat
import Derived.Test.YtbffpkmfhkphdaaGreatDoorGTree
import Derived.Test.YtbffpkmfhkphdaaGreatDoorGRefA
namespace Go.Proofs.YtbffpkmfhkphdaaGreatDoor
open Go Go.RowKit

variable {P : Program} {md : Region.Mode} {ops : Array Oper} {Q : Exit → Act → World → Prop} {S : World → Prop} {V : Nat → Value → World → Prop}

/-- How many of the first n are not listed. -/
def cntU (listed : Array Bool) : Nat → Nat
  | 0 => 0
  | k + 1 => cntU listed k + (if listed.getD k true = false then 1 else 0)
theorem cntU_ge (listed : Array Bool) (i : Nat) : ∀ n, n ≤ i → cntU (listed.setIfInBounds i true) n = cntU listed n
  | 0, _ => rfl
  | n + 1, h => by
    unfold cntU
    rw [cntU_ge listed i n (by omega), getD_set_ne true (show i ≠ n by omega)]
theorem cntU_set (listed : Array Bool) (i : Nat) (hi : listed.getD i true = false) : ∀ n, i < n → cntU listed n = cntU (listed.setIfInBounds i true) n + 1
  | 0, h => by omega
  | n + 1, h => by
    unfold cntU
    by_cases hn : i = n
    · subst hn
      have hs : i < listed.size := by
        rcases Nat.lt_or_ge i listed.size with h | h
        · exact h
        · simp [Array.getElem?_eq_none h] at hi
      rw [cntU_ge listed i i (Nat.le_refl _), if_pos hi, if_neg (by simp [Array.getD_eq_getD_getElem?, Array.getElem?_setIfInBounds, hs])]
    · rw [getD_set_ne true hn, cntU_set listed i hi n (by omega)]; omega
theorem cntU_zero (listed : Array Bool) : ∀ n, cntU listed n = 0 → ∀ i, i < n → listed.getD i true = true
  | 0, _, i, h => by omega
  | n + 1, h0, i, h => by
    unfold cntU at h0
    by_cases hn : i = n
    · subst hn
      cases hl : listed.getD i true with
      | true => rfl
      | false => rw [hl] at h0; simp at h0
    · exact cntU_zero listed n (by omega) i (by omega)
theorem cntU_least (listed : Array Bool) : ∀ n, cntU listed n ≠ 0 → ∃ i, i < n ∧ listed.getD i true = false ∧ ∀ j, j < i → listed.getD j true = true
  | 0, h => absurd rfl h
  | n + 1, h => by
    by_cases h0 : cntU listed n = 0
    · refine ⟨n, by omega, ?_, cntU_zero listed n h0⟩
      unfold cntU at h
      cases hl : listed.getD n true with
      | true => rw [h0, hl] at h; simp at h
      | false => rfl
    · obtain ⟨i, h1, h2, h3⟩ := cntU_least listed n h0
      exact ⟨i, by omega, h2, h3⟩

/-- Each operation of the head waits for earlier ones alone. -/
def ordB (md : Region.Mode) (ops : Array Oper) (n : Nat) : Bool := (List.range n).all fun i => ((ops[i]?).map fun o => o.after.all fun e => !Region.binds md e || decide (e.on < i)).getD false
def pairB : List (Option Nat) → Bool
  | [] => true
  | d :: t => t.all (fun e => e != d) && pairB t
/-- Each operation of the head has a slot of its own. -/
def dstB (ops : Array Oper) (n m : Nat) : Bool := (ops.toList.take n).all (fun o => (o.dst.map fun d => decide (d < m)).getD false) && pairB ((ops.toList.take n).map (·.dst))
theorem pairB_spec : ∀ l : List (Option Nat), pairB l = true → ∀ i j (hi : i < l.length) (hj : j < l.length), i < j → l[i] ≠ l[j]
  | [], _, i, j, hi, _, _ => by simp at hi
  | d :: t, h, i, j, hi, hj, hij => by
    unfold pairB at h
    rw [Bool.and_eq_true, List.all_eq_true] at h
    cases j with
    | zero => omega
    | succ j =>
      cases i with
      | zero =>
        intro e
        have := h.1 _ (List.getElem_mem (show j < t.length by simpa using hj))
        simp only [List.getElem_cons_zero, List.getElem_cons_succ] at e
        rw [← e] at this; simp at this
      | succ i => exact pairB_spec t h.2 i j (by simpa using hi) (by simpa using hj) (by omega)
theorem dstB_lt {n m : Nat} (h : dstB ops n m = true) {i : Nat} {o : Oper} (hi : i < n) (ho : ops[i]? = some o) : ∃ d, o.dst = some d ∧ d < m := by
  unfold dstB at h
  rw [Bool.and_eq_true, List.all_eq_true] at h
  have hm : o ∈ ops.toList.take n := by
    rw [List.mem_iff_getElem?]
    exact ⟨i, by rw [List.getElem?_take_of_lt hi]; simpa using ho⟩
  have := h.1 o hm
  cases hd : o.dst with
  | none => rw [hd] at this; simp at this
  | some d => rw [hd] at this; exact ⟨d, rfl, by simpa using this⟩
theorem dstB_ne {n m : Nat} (h : dstB ops n m = true) {i j : Nat} {oi oj : Oper} (hi : i < n) (hj : j < n) (hoi : ops[i]? = some oi) (hoj : ops[j]? = some oj) (hij : i ≠ j) : oi.dst ≠ oj.dst := by
  unfold dstB at h
  rw [Bool.and_eq_true] at h
  have key : ∀ a b oa ob, a < n → b < n → ops[a]? = some oa → ops[b]? = some ob → a < b → oa.dst ≠ ob.dst := by
    intro a b oa ob ha hb hoa hob hab
    have la : a < ops.toList.length := by simpa using (Array.getElem?_eq_some_iff.1 hoa).1
    have lb : b < ops.toList.length := by simpa using (Array.getElem?_eq_some_iff.1 hob).1
    have := pairB_spec _ h.2 a b (by simp at la ⊢; omega) (by simp at lb ⊢; omega) hab
    simp only [List.getElem_map, List.getElem_take] at this
    have ea : ops.toList[a] = oa := by simpa using (Array.getElem?_eq_some_iff.1 hoa).2
    have eb : ops.toList[b] = ob := by simpa using (Array.getElem?_eq_some_iff.1 hob).2
    rw [ea, eb] at this; exact this
  rcases Nat.lt_or_gt_of_ne hij with h1 | h1
  · exact key i j oi oj hi hj hoi hoj h1
  · exact (key j i oj oi hj hi hoj hoi h1).symm

/-- What holds while the head comes up. -/
structure EachInv (md : Region.Mode) (ops : Array Oper) (n : Nat) (S : World → Prop) (V : Nat → Value → World → Prop) (base : Act) (listed : Array Bool) (a : Act) (w : World) : Prop where
  head : HeadInv md ops n listed
  S : S w
  defers : a.defers = base.defers
  size : a.tmps.size = base.tmps.size
  old : ∀ t, (∀ i o, i < n → ops[i]? = some o → o.dst ≠ some t) → a.tmps[t]? = base.tmps[t]?
  val : ∀ i o d, i < n → ops[i]? = some o → o.dst = some d → listed.getD i true = true → V i (a.tmps.getD d undef) w

/-- Some slot of an operation of the head. -/
def freshB (ops : Array Oper) (n t : Nat) : Bool := (ops.toList.take n).all fun o => o.dst != some t
theorem freshB_spec {n t : Nat} (h : freshB ops n t = true) : ∀ i o, i < n → ops[i]? = some o → o.dst ≠ some t := by
  intro i o hi ho
  unfold freshB at h
  rw [List.all_eq_true] at h
  have hm : o ∈ ops.toList.take n := by
    rw [List.mem_iff_getElem?]
    exact ⟨i, by rw [List.getElem?_take_of_lt hi]; simpa using ho⟩
  simpa using h o hm

/-- What is to be shown of number i, once: its operands' values are those of the operations for which it waits, or they stood ahead of the region. -/
def EachStep (P : Program) (md : Region.Mode) (ops : Array Oper) (Q : Exit → Act → World → Prop) (n : Nat) (S : World → Prop) (V : Nat → Value → World → Prop) (base : Act) (i : Nat) : Prop :=
  ∀ (a : Act) (w : World), S w → a.tmps.size = base.tmps.size → (∀ t, freshB ops n t = true → a.tmps[t]? = base.tmps[t]?) →
    (∀ j d, (((ops[i]?).map fun o => o.after.any fun e => e.on == j && Region.binds md e).getD false) = true → ((ops[j]?).bind (·.dst)) = some d → V j (a.tmps.getD d undef) w) →
    wpOp P ops Q i (fun a' w' => ∃ v, a' = a.put ((ops[i]?).bind (·.dst)) v ∧ S w' ∧ Below w.heap.size w w' ∧ V i v w') a w

theorem each_next {n i : Nat} {base : Act} {listed : Array Bool} {a : Act} {w : World} (hd : dstB ops n base.tmps.size = true) (hV : ∀ i v w w', V i v w → Below w.heap.size w w' → V i v w')
    (inv : EachInv md ops n S V base listed a w) (hi : i ∈ Region.ready md ops listed) (hin : i < n) {v : Value} {w' : World} (hS : S w') (hb : Below w.heap.size w w') (hv : V i v w') :
    EachInv md ops n S V base (listed.setIfInBounds i true) (a.put ((ops[i]?).bind (·.dst)) v) w' := by
  obtain ⟨hun, oi, hoi, hall⟩ := mem_ready.1 hi
  obtain ⟨di, hdi, hlt⟩ := dstB_lt hd hin hoi
  have e : (ops[i]?).bind (·.dst) = some di := by rw [hoi]; exact hdi
  rw [e]
  refine ⟨inv.head.set hi hin, hS, inv.defers, by simp [Act.put, inv.size], fun t ht => ?_, fun j oj d hj hoj hdj hl => ?_⟩
  · have hne : di ≠ t := fun h => ht i oi hin hoi (by rw [hdi, h])
    simp only [Act.put]
    rw [Array.getElem?_setIfInBounds_ne hne]
    exact inv.old t ht
  · by_cases hji : j = i
    · subst hji
      rw [hoi] at hoj
      obtain rfl := Option.some.inj hoj
      rw [hdi] at hdj
      obtain rfl := Option.some.inj hdj
      simp only [Act.put]
      rw [Array.getD_eq_getD_getElem?, Array.getElem?_setIfInBounds_self_of_lt (by rw [inv.size]; exact hlt)]
      exact hv
    · have hne : di ≠ d := fun h => dstB_ne hd hin hj hoi hoj (Ne.symm hji) (by rw [hdi, hdj, h])
      rw [getD_set_ne true (Ne.symm hji)] at hl
      have := hV _ _ _ _ (inv.val j oj d hj hoj hdj hl) hb
      simp only [Act.put]
      rw [Array.getD_eq_getD_getElem?, Array.getElem?_setIfInBounds_ne hne, ← Array.getD_eq_getD_getElem?]
      exact this

theorem each_ready {n : Nat} {listed : Array Bool} (hord : ordB md ops n = true) (hsz : listed.size = ops.size) (hn : n ≤ ops.size) (h0 : cntU listed n ≠ 0) : Region.ready md ops listed ≠ [] := by
  obtain ⟨i, hi, hun, hless⟩ := cntU_least listed n h0
  unfold ordB at hord
  have h1 := List.all_eq_true.1 hord i (List.mem_range.2 hi)
  have hio : i < ops.size := by omega
  have hoi : ops[i]? = some ops[i] := Array.getElem?_eq_getElem hio
  rw [hoi] at h1
  simp only [Option.map_some, Option.getD_some, Array.all_eq_true'] at h1
  have hm : i ∈ Region.ready md ops listed := by
    refine mem_ready.2 ⟨hun, ops[i], hoi, fun e he hb => ?_⟩
    have h2 := h1 e he
    rw [hb] at h2
    have h3 : e.on < i := by simpa using h2
    have h4 := hless _ h3
    have h5 : e.on < listed.size := by omega
    simpa [Array.getD_eq_getD_getElem?, h5] using h4
  intro h
  rw [h] at hm
  cases hm

theorem wpAnyS_each {n : Nat} {base : Act} (hs : Region.sinkB md ops n = true) (hc : Region.chainB md ops n = true) (hn : n < ops.size) (hord : ordB md ops n = true) (hd : dstB ops n base.tmps.size = true)
    (hV : ∀ i v w w', V i v w → Below w.heap.size w w' → V i v w') (hstep : ∀ i, i < n → EachStep P md ops Q n S V base i) (k : Nat)
    (htail : ∀ listed a w, (∀ i, i < n → listed.getD i true = true) → EachInv md ops n S V base listed a w → wpAny P md ops Q k listed a w) :
    ∀ (m : Nat) (listed : Array Bool) (a : Act) (w : World), cntU listed n = m → EachInv md ops n S V base listed a w → wpAnyS P md ops Q S n (m + k) listed a w
  | 0, listed, a, w, hm, inv => by
    rw [Nat.zero_add]
    have hall := cntU_zero listed n hm
    exact wpAnyS_tail hall (htail listed a w hall inv)
  | m + 1, listed, a, w, hm, inv => by
    rw [show m + 1 + k = (m + k) + 1 by omega]
    have hr := each_ready (md := md) hord inv.head.size (Nat.le_of_lt hn) (by omega : cntU listed n ≠ 0)
    refine ⟨fun hall => ?_, fun _ => ⟨hr, fun i hi => ?_⟩⟩
    · exfalso
      obtain ⟨i, h1, h2, _⟩ := cntU_least listed n (by omega)
      rw [hall i h1] at h2; cases h2
    · obtain ⟨hun, oi, hoi, hall⟩ := mem_ready.1 hi
      have hin : i < n := by
        rcases Nat.lt_or_ge i n with h | h
        · exact h
        · exfalso
          obtain ⟨j, h1, h2, _⟩ := cntU_least listed n (by omega)
          exact tail_waits hs hc hn inv.head _ j rfl h1 h2 i h hi
      refine wpOp_mono (fun a' w' h' => ?_) (hstep i hin a w inv.S inv.size (fun t ht => inv.old t (freshB_spec ht)) (fun j d hj hdj => ?_))
      · obtain ⟨v, rfl, hS', hb, hv⟩ := h'
        exact ⟨hS', wpAnyS_each hs hc hn hord hd hV hstep k htail m _ _ _ (by have := cntU_set listed i hun n hin; omega) (each_next hd hV inv hi hin hS' hb hv)⟩
      · rw [hoi] at hj
        simp only [Option.map_some, Option.getD_some, Array.any_eq_true'] at hj
        obtain ⟨e, he, h2⟩ := hj
        rw [Bool.and_eq_true, beq_iff_eq] at h2
        obtain ⟨rfl, hb⟩ := h2
        have h3 := hall e he hb
        unfold ordB at hord
        have h1 := List.all_eq_true.1 hord i (List.mem_range.2 hin)
        rw [hoi] at h1
        simp only [Option.map_some, Option.getD_some, Array.all_eq_true'] at h1
        have h4 := h1 e he
        rw [hb] at h4
        have h5 : e.on < i := by simpa using h4
        have hes : e.on < ops.size := by omega
        cases hoe : ops[e.on]? with
        | none => rw [hoe] at hdj; cases hdj
        | some oe =>
          rw [hoe] at hdj
          refine inv.val e.on oe d (by omega) hoe hdj ?_
          have h6 : e.on < listed.size := by rw [inv.head.size]; exact hes
          simpa [Array.getD_eq_getD_getElem?, h6] using h3

/-- The beginning. -/
theorem wp_region_each {n id : Nat} {a : Act} {w : World} (hm : P.follows .mixedOrders = true) (hs : Region.sinkB .any ops n = true) (hc : Region.chainB .any ops n = true) (hn : n < ops.size) (hord : ordB .any ops n = true) (hd : dstB ops n a.tmps.size = true)
    (hV : ∀ i v w w', V i v w → Below w.heap.size w w' → V i v w') (hS : S w.drew) (hstep : ∀ i, i < n → EachStep P .any ops Q n S V a i)
    (htail : ∀ listed a' w', (∀ i, i < n → listed.getD i true = true) → EachInv .any ops n S V a listed a' w' → wpAny P .any ops Q (ops.size - n) listed a' w') : (Code.region id ops true).wp P Q a w := by
  refine wp_region_S (S := S) hm hn (fun inv => ?_)
  have hl : ∀ i, i < n → (Array.replicate ops.size false).getD i true = false := fun i hi => by
    rw [Array.getD_eq_getD_getElem?, Array.getElem?_replicate, if_pos (by omega)]; rfl
  have hcnt : ∀ k, k ≤ n → cntU (Array.replicate ops.size false) k = k := by
    intro k
    induction k with
    | zero => intro _; rfl
    | succ k ih => intro hk; unfold cntU; rw [ih (by omega), hl k (by omega), if_pos rfl]
  have := wpAnyS_each (P := P) (Q := Q) (base := a) hs hc hn hord hd hV hstep (ops.size - n) htail n _ a w.drew (hcnt n (Nat.le_refl _)) ⟨inv, hS, rfl, rfl, fun _ _ => rfl, fun i o d hi _ _ hl' => by rw [hl i hi] at hl'; cases hl'⟩
  rw [show n + (ops.size - n) = ops.size by omega] at this
  exact this

/-- The listing behind the head. -/
theorem each_listed {n : Nat} {listed : Array Bool} (inv : HeadInv md ops n listed) (hall : ∀ i, i < n → listed.getD i true = true) (l : Array Bool) (hl : l = ((List.range ops.size).map fun i => decide (i < n)).toArray) : listed = l := by
  subst hl
  apply Array.ext
  · simp [inv.size]
  · intro i h1 h2
    simp only [List.getElem_toArray, List.getElem_map, List.getElem_range]
    by_cases h : i < n
    · have := hall i h
      simp only [h, decide_true]
      simpa [Array.getD_eq_getD_getElem?, h1] using this
    · have := inv.tail i (by omega) (by rw [← inv.size]; exact h1)
      simp only [h, decide_false]
      simpa [Array.getD_eq_getD_getElem?, h1] using this

/-- The frame behind the head, written out: what stood ahead of it, with the head's slots laid in. -/
def layIn (t : Array Value) (u : Nat → Value) : List Nat → Array Value
  | [] => t
  | d :: ds => (layIn t u ds).setIfInBounds d (u d)
theorem layIn_size (t : Array Value) (u : Nat → Value) : ∀ ds, (layIn t u ds).size = t.size
  | [] => rfl
  | d :: ds => by unfold layIn; simp [layIn_size t u ds]
theorem layIn_get (t : Array Value) (u : Nat → Value) (i : Nat) : ∀ ds, (layIn t u ds)[i]? = if i ∈ ds ∧ i < t.size then some (u i) else t[i]?
  | [] => by simp [layIn]
  | d :: ds => by
    unfold layIn
    rw [Array.getElem?_setIfInBounds, layIn_size, layIn_get t u i ds]
    by_cases h : d = i
    · subst h
      by_cases hs : d < t.size
      · simp [hs]
      · simp [hs, Array.getElem?_eq_none (show t.size ≤ d by omega)]
    · simp only [h, if_false, List.mem_cons]
      have : i ≠ d := fun e => h e.symm
      simp [this]
theorem each_frame {n : Nat} {base : Act} {listed : Array Bool} {a : Act} {w : World} (inv : EachInv md ops n S V base listed a w) (ds : List Nat) (hds : (ops.toList.take n).filterMap (·.dst) = ds) :
    a = ⟨layIn base.tmps (fun d => a.tmps.getD d undef) ds, base.defers⟩ := by
  obtain ⟨t, df⟩ := a
  have h1 := inv.defers
  have h2 := inv.size
  have h3 := inv.old
  simp only at h1 h2 h3
  subst h1
  congr 1
  apply Array.ext_getElem?
  intro i
  rw [layIn_get]
  by_cases hi : i ∈ ds ∧ i < base.tmps.size
  · rw [if_pos hi]
    simp only [Array.getD_eq_getD_getElem?]
    rw [Array.getElem?_eq_getElem (by rw [h2]; exact hi.2)]; rfl
  · rw [if_neg hi]
    by_cases hs : i < base.tmps.size
    · refine h3 i (fun j o hj ho e => hi ⟨?_, hs⟩)
      rw [← hds, List.mem_filterMap]
      refine ⟨o, ?_, e⟩
      rw [List.mem_iff_getElem?]
      exact ⟨j, by rw [List.getElem?_take_of_lt hj]; simpa using ho⟩
    · rw [Array.getElem?_eq_none (by omega), Array.getElem?_eq_none (by omega)]

end Go.Proofs.YtbffpkmfhkphdaaGreatDoor

namespace Go.Proofs.YtbffpkmfhkphdaaGreatDoor
open Go Go.RowKit

theorem upto_step {p : Nat → Prop} (k m : Nat) (hm : m = k + 1) (h : ∀ i, i < k → p i) (hk : p k) : ∀ i, i < m → p i := by
  intro i hi
  by_cases e : i = k
  · subst e; exact hk
  · exact h i (by omega)

/-- The frame written out: the slots ds (rising) hold what u says, the others what they held. -/
def pickL (u : Nat → Value) : List Value → Nat → List Nat → List Value
  | [], _, _ => []
  | v :: vs, _, [] => v :: vs
  | v :: vs, k, d :: ds => if k = d then u k :: pickL u vs (k + 1) ds else v :: pickL u vs (k + 1) (d :: ds)
theorem pickL_get (u : Nat → Value) : ∀ (l : List Value) (k : Nat) (ds : List Nat), List.Pairwise (· < ·) ds → (∀ d ∈ ds, k ≤ d) → ∀ i, (pickL u l k ds)[i]? = if k + i ∈ ds ∧ i < l.length then some (u (k + i)) else l[i]?
  | [], k, ds, _, _, i => by cases ds <;> simp [pickL]
  | v :: vs, k, [], _, _, i => by simp [pickL]
  | v :: vs, k, d :: ds, hp, hk, i => by
    have hp' := List.pairwise_cons.1 hp
    unfold pickL
    by_cases h : k = d
    · subst h
      rw [if_pos rfl]
      cases i with
      | zero => simp
      | succ i =>
        rw [List.getElem?_cons_succ, pickL_get u vs (k + 1) ds hp'.2 (fun e he => hp'.1 e he)]
        have e : (k + 1 + i ∈ k :: ds) ↔ k + 1 + i ∈ ds := by
          rw [List.mem_cons]
          constructor
          · rintro (h | h)
            · omega
            · exact h
          · exact .inr
        simp only [List.length_cons, Nat.add_lt_add_iff_right, List.getElem?_cons_succ, show k + (i + 1) = k + 1 + i by omega, e]
    · rw [if_neg h]
      have hd : k < d := by have := hk d (by simp); omega
      cases i with
      | zero =>
        have e : ¬ (k + 0 ∈ d :: ds) := by
          rw [List.mem_cons]
          rintro (h | h)
          · omega
          · have := hp'.1 _ h; omega
        rw [if_neg (fun h => e h.1)]; rfl
      | succ i =>
        rw [List.getElem?_cons_succ, pickL_get u vs (k + 1) (d :: ds) hp (fun e he => by
          rcases List.mem_cons.1 he with rfl | he
          · omega
          · have := hp'.1 e he; omega)]
        simp only [List.length_cons, Nat.add_lt_add_iff_right, List.getElem?_cons_succ, show k + (i + 1) = k + 1 + i by omega]
def risingB : List Nat → Bool
  | a :: b :: t => Nat.blt a b && risingB (b :: t)
  | _ => true
theorem risingB_spec : ∀ l : List Nat, risingB l = true → List.Pairwise (· < ·) l
  | [], _ => List.Pairwise.nil
  | [a], _ => by simp
  | a :: b :: t, h => by
    unfold risingB at h
    rw [Bool.and_eq_true] at h
    have h1 : a < b := by simpa using h.1
    have h2 := risingB_spec (b :: t) h.2
    rw [List.pairwise_cons]
    refine ⟨fun x hx => ?_, h2⟩
    rcases List.mem_cons.1 hx with rfl | hx
    · exact h1
    · exact Nat.lt_trans h1 ((List.pairwise_cons.1 h2).1 x hx)
/-- The frame behind the head, written out. -/
theorem each_shape {md : Region.Mode} {ops : Array Oper} {S : World → Prop} {V : Nat → Value → World → Prop} {n : Nat} {base : Act} {listed : Array Bool} {a : Act} {w : World} (inv : EachInv md ops n S V base listed a w) (ds : List Nat) (hr : risingB ds = true)
    (hds : ((ops.toList.take n).all fun o => (o.dst.map fun d => ds.contains d).getD true) = true) : a = ⟨(pickL (fun d => a.tmps.getD d undef) base.tmps.toList 0 ds).toArray, base.defers⟩ := by
  obtain ⟨t, df⟩ := a
  have h1 := inv.defers
  have h2 := inv.size
  have h3 := inv.old
  simp only at h1 h2 h3
  subst h1
  congr 1
  apply Array.ext_getElem?
  intro i
  rw [← Array.getElem?_toList (xs := (pickL _ _ _ _).toArray), List.toList_toArray, pickL_get _ _ _ _ (risingB_spec ds hr) (fun d _ => Nat.zero_le d), Nat.zero_add]
  by_cases hi : i ∈ ds ∧ i < base.tmps.toList.length
  · rw [if_pos hi]
    have hi2 : i < t.size := by rw [h2]; simpa using hi.2
    simp [Array.getD_eq_getD_getElem?, hi2]
  · rw [if_neg hi, Array.getElem?_toList]
    by_cases hs : i < base.tmps.size
    · refine h3 i (fun j o hj ho e => hi ⟨?_, by simpa using hs⟩)
      have hm : o ∈ ops.toList.take n := by
        rw [List.mem_iff_getElem?]
        exact ⟨j, by rw [List.getElem?_take_of_lt hj]; simpa using ho⟩
      have := List.all_eq_true.1 hds o hm
      rw [e] at this
      simpa using this
    · rw [Array.getElem?_eq_none (by omega), Array.getElem?_eq_none (by omega)]

/-- What is known of a slot's value. -/
inductive Sp where
  | any
  | eq (v : Value)
  | api (z : Int)
  | tup (z : Int)
  | box (B : Nat)
def Sp.at : Sp → Value → World → Prop
  | .any, _, _ => True
  | .eq v, u, _ => u = v
  | .api z, u, w => ApiV w u z
  | .tup z, u, w => ∃ v, u = .tuple #[v, .int .i64 0] ∧ ApiV w v z
  | .box B, u, w => ∃ g, u = .pointer (some ⟨g, 0, none⟩) ∧ B ≤ g ∧ Row w g 24 [.bool false, .slice none 0 0]
theorem Sp.below {s : Sp} {u : Value} {w w' : World} (h : s.at u w) (hb : Below w.heap.size w w') : s.at u w' := by
  cases s with
  | any => trivial
  | eq v => exact h
  | api z => exact ApiV.below h hb
  | tup z => obtain ⟨v, e, h⟩ := h; exact ⟨v, e, ApiV.below h hb⟩
  | box B => obtain ⟨g, e, h1, h2⟩ := h; exact ⟨g, e, h1, h2.below hb h2.lt⟩
/-- The specs of a head's operations, in turn. -/
def SpV (l : List Sp) (i : Nat) (v : Value) (w : World) : Prop := (l.getD i .any).at v w
theorem SpV.below {l : List Sp} : ∀ i v w w', SpV l i v w → Below w.heap.size w w' → SpV l i v w' := fun _ _ _ _ h hb => Sp.below h hb

section
variable {P : Program} {md : Region.Mode} {ops : Array Oper} {Q : Exit → Act → World → Prop} {S : World → Prop} {V : Nat → Value → World → Prop} {n i : Nat} {base : Act} {o : Oper}

/-- Where number i is looked at. -/
structure Ctx (md : Region.Mode) (ops : Array Oper) (n : Nat) (S : World → Prop) (V : Nat → Value → World → Prop) (base : Act) (i : Nat) (a : Act) (w : World) : Prop where
  S : S w
  old : ∀ t, freshB ops n t = true → a.tmps[t]? = base.tmps[t]?
  dep : ∀ j d, (((ops[i]?).map fun o => o.after.any fun e => e.on == j && Region.binds md e).getD false) = true → ((ops[j]?).bind (·.dst)) = some d → V j (a.tmps.getD d undef) w

theorem each_of (h : ∀ a w, Ctx md ops n S V base i a w → wpOp P ops Q i (fun a' w' => ∃ v, a' = a.put ((ops[i]?).bind (·.dst)) v ∧ S w' ∧ Below w.heap.size w w' ∧ V i v w') a w) : EachStep P md ops Q n S V base i :=
  fun a w hS _ hold hdep => h a w ⟨hS, hold, hdep⟩

/-- An operand's value is known. -/
def Knows (md : Region.Mode) (ops : Array Oper) (n : Nat) (S : World → Prop) (V : Nat → Value → World → Prop) (base : Act) (i : Nat) (x : Operand) (F : Value → World → Prop) : Prop :=
  ∀ a w, Ctx md ops n S V base i a w → F (a.eval x) w
theorem knows_dep (j t : Nat) (h : (((ops[i]?).map fun o => o.after.any fun e => e.on == j && Region.binds md e).getD false) = true) (hd : ((ops[j]?).bind (·.dst)) = some t) : Knows md ops n S V base i (.tmp t) (V j) :=
  fun _ _ c => c.dep j t h hd
theorem knows_old (t : Nat) (v : Value) (hf : freshB ops n t = true) (hv : base.tmps[t]? = some v) : Knows md ops n S V base i (.tmp t) (fun u _ => u = v) := by
  intro a w c
  show a.tmps.getD t undef = v
  rw [Array.getD_eq_getD_getElem?, c.old t hf, hv]; rfl
theorem knows_const (v : Value) : Knows md ops n S V base i (.const v) (fun u _ => u = v) := fun _ _ _ => rfl

/-- Number i is wanted. -/
def Asked (md : Region.Mode) (ops : Array Oper) (n : Nat) (S : World → Prop) (V : Nat → Value → World → Prop) (base : Act) (i : Nat) (o : Oper) : Prop :=
  ∀ a w, Ctx md ops n S V base i a w → Region.wanted o (yielded ops a.tmps) = true
theorem asked_free (hg : o.guard = none) : Asked md ops n S V base i o := fun a w _ => by unfold Region.wanted; rw [hg]
theorem asked_if (g d : Nat) (b : Bool) (hg : o.guard = some (g, b)) (h : (((ops[i]?).map fun o => o.after.any fun e => e.on == g && Region.binds md e).getD false) = true) (hd : ((ops[g]?).bind (·.dst)) = some d) (hV : ∀ v w, V g v w → v = .bool b) : Asked md ops n S V base i o := by
  intro a w c
  have h1 := hV _ _ (c.dep g d h hd)
  unfold Region.wanted
  rw [hg]
  simp only [yielded, hd, Option.bind_some]
  rw [Array.getD_eq_getD_getElem?] at h1
  cases ht : a.tmps[d]? with
  | none => rw [ht] at h1; cases h1
  | some u => rw [ht] at h1; simp only [Option.getD_some] at h1; subst h1; simp

/-- An operation that yields a value and leaves the world. -/
theorem step_yield (hi : ops[i]? = some o) (hw : Asked md ops n S V base i o) (h : ∀ a w, Ctx md ops n S V base i a w → ∃ v, (execOp a.eval o).run P w = .ok (.value v) w ∧ V i v w) : EachStep P md ops Q n S V base i := by
  refine each_of (fun a w c => ?_)
  obtain ⟨v, h1, h2⟩ := h a w c
  unfold wpOp
  simp only [hi, hw a w c, if_true, Oper.wp, h1, Oper.upon]
  exact .inl ⟨v, rfl, c.S, Below.refl _ _, h2⟩
theorem step_move {x : Operand} {F : Value → World → Prop} (hi : ops[i]? = some o) (hw : Asked md ops n S V base i o) (ho : o.op = .move x) (hx : Knows md ops n S V base i x F) (hF : ∀ v w, F v w → V i v w) : EachStep P md ops Q n S V base i :=
  step_yield hi hw (fun a w c => ⟨a.eval x, by unfold execOp; rw [ho]; rfl, hF _ _ (hx a w c)⟩)
theorem step_not {x : Operand} {t : TypeId} {b : Bool} (hi : ops[i]? = some o) (hw : Asked md ops n S V base i o) (ho : o.op = .unOp .not t x) (hx : Knows md ops n S V base i x (fun v _ => v = .bool b)) (hF : ∀ w, V i (.bool !b) w) : EachStep P md ops Q n S V base i :=
  step_yield hi hw (fun a w c => ⟨.bool !b, by unfold execOp; rw [ho]; simp only [hx a w c]; rfl, hF w⟩)
theorem step_pick {x y z : Operand} {b : Bool} {F : Value → World → Prop} (hi : ops[i]? = some o) (hw : Asked md ops n S V base i o) (ho : o.op = .pick x y z) (hx : Knows md ops n S V base i x (fun v _ => v = .bool b)) (hy : Knows md ops n S V base i (bif b then y else z) F) (hF : ∀ v w, F v w → V i v w) : EachStep P md ops Q n S V base i :=
  step_yield hi hw (fun a w c => ⟨a.eval (bif b then y else z), by unfold execOp; rw [ho]; simp only [hx a w c]; cases b <;> rfl, hF _ _ (hy a w c)⟩)
/-- A read of a whole variable. -/
theorem step_load {x : Operand} {t : TypeId} {p : Value} {v : Value} (hi : ops[i]? = some o) (hw : Asked md ops n S V base i o) (ho : o.op = .load t x) (hx : Knows md ops n S V base i x (fun u _ => u = p)) (hr : ∀ w, S w → (Instr.loadAt t p).run P w = .ok v w) (hF : ∀ w, S w → V i v w) : EachStep P md ops Q n S V base i :=
  step_yield hi hw (fun a w c => ⟨v, by unfold execOp; rw [ho]; simp only [hx a w c]; simp [hr w c.S], hF w c.S⟩)
/-- Not wanted. -/
theorem step_skip (g d : Nat) (b b' : Bool) (hi : ops[i]? = some o) (hg : o.guard = some (g, b)) (hb : b' ≠ b) (h : (((ops[i]?).map fun o => o.after.any fun e => e.on == g && Region.binds md e).getD false) = true) (hd : ((ops[g]?).bind (·.dst)) = some d) (hV : ∀ v w, V g v w → v = .bool b') (hF : ∀ w, S w → V i undef w) : EachStep P md ops Q n S V base i := by
  refine each_of (fun a w c => ?_)
  have h1 := hV _ _ (c.dep g d h hd)
  have hw : Region.wanted o (yielded ops a.tmps) = false := by
    unfold Region.wanted
    rw [hg]
    simp only [yielded, hd, Option.bind_some]
    rw [Array.getD_eq_getD_getElem?] at h1
    cases ht : a.tmps[d]? with
    | none => rw [ht] at h1; cases h1
    | some u => rw [ht] at h1; simp only [Option.getD_some] at h1; subst h1; simpa using hb
  unfold wpOp
  simp only [hi, hw, Bool.false_eq_true, if_false]
  exact ⟨undef, by simp, c.S, Below.refl _ _, hF w c.S⟩

theorem knows_func (k : FuncId) : Knows md ops n S V base i (.func k) (fun u _ => u = .func (.func k) #[] #[]) := fun _ _ _ => rfl
/-- A function of Go's own text. -/
def entersB (P : Program) (k : FuncId) : Bool := ((P.funcs[k]?).map fun fn => !(fn.name == "runtime.NumGoroutine") && !fn.body.isNone).getD false
theorem run_enters {k : FuncId} (hk : entersB P k = true) (args : Array Value) (w : World) : (callFunc k args).run P w = .ok (.enter k args) w := by
  unfold entersB at hk
  cases hf : P.funcs[k]? with
  | none => rw [hf] at hk; cases hk
  | some fn =>
    rw [hf] at hk
    simp only [Option.map_some, Option.getD_some, Bool.and_eq_true, Bool.not_eq_true'] at hk
    obtain ⟨h1, h2⟩ := hk
    cases hb : fn.body with
    | none => rw [hb] at h2; cases h2
    | some b =>
      have h1 : ¬ fn.name = "runtime.NumGoroutine" := by simpa using h1
      unfold callFunc
      simp [go_sem, hf, h1, hb]
theorem exec_call {ρ : Operand → Value} {w : World} {x : Operand} {xs : Array Operand} {ts : Array TypeId} {k : FuncId} {cap : Array Value} (ho : o.op = .call { callee := .value x, args := xs, argTypes := ts }) (hx : ρ x = .func (.func k) #[] cap) (hk : entersB P k = true) :
    (execOp ρ o).run P w = .ok (.enter k (xs.map ρ ++ cap)) w := by
  unfold execOp
  rw [ho]
  simp only [resolve, hx, Deferred.ofValue]
  simp [invoke, run_enters hk]
/-- What a call's contract says here. -/
def Yes (P : Program) (S : World → Prop) (V : Nat → Value → World → Prop) (i : Nat) (k : FuncId) (args : Array Value) (w : World) : Prop :=
  Calls P k args w fun e w' => ∃ v, e = .returned v ∧ S w' ∧ Below w.heap.size w w' ∧ V i v w'
theorem step_call {x : Operand} {xs : Array Operand} {ts : Array TypeId} {k : FuncId} {cap : Array Value} (hi : ops[i]? = some o) (hw : Asked md ops n S V base i o) (ho : o.op = .call { callee := .value x, args := xs, argTypes := ts }) (hk : entersB P k = true)
    (hx : Knows md ops n S V base i x (fun u _ => u = .func (.func k) #[] cap)) (hc : ∀ a w, Ctx md ops n S V base i a w → Yes P S V i k (xs.map a.eval ++ cap) w) : EachStep P md ops Q n S V base i := by
  refine each_of (fun a w c => ?_)
  unfold wpOp
  simp only [hi, hw a w c, if_true, Oper.wp, exec_call ho (hx a w c) hk, Oper.upon]
  refine .inl ((hc a w c).mono ?_)
  rintro e w' ⟨v, rfl, h1, h2, h3⟩
  exact ⟨v, rfl, h1, h2, h3⟩
theorem step_call0 {x : Operand} {ts : Array TypeId} {k : FuncId} {cap : Array Value} (hi : ops[i]? = some o) (hw : Asked md ops n S V base i o) (ho : o.op = .call { callee := .value x, args := #[], argTypes := ts }) (hk : entersB P k = true)
    (hx : Knows md ops n S V base i x (fun u _ => u = .func (.func k) #[] cap)) (hc : ∀ w, S w → Yes P S V i k (#[] ++ cap) w) : EachStep P md ops Q n S V base i :=
  step_call hi hw ho hk hx (fun a w c => by rw [show Array.map a.eval #[] = #[] by simp]; exact hc w c.S)
theorem step_call1 {x y : Operand} {ts : Array TypeId} {k : FuncId} {cap : Array Value} {F : Value → World → Prop} (hi : ops[i]? = some o) (hw : Asked md ops n S V base i o) (ho : o.op = .call { callee := .value x, args := #[y], argTypes := ts }) (hk : entersB P k = true)
    (hx : Knows md ops n S V base i x (fun u _ => u = .func (.func k) #[] cap)) (hy : Knows md ops n S V base i y F) (hc : ∀ v w, S w → F v w → Yes P S V i k (#[v] ++ cap) w) : EachStep P md ops Q n S V base i :=
  step_call hi hw ho hk hx (fun a w c => by rw [show Array.map a.eval #[y] = #[a.eval y] by simp]; exact hc _ w c.S (hy a w c))
theorem step_call2 {x y z : Operand} {ts : Array TypeId} {k : FuncId} {cap : Array Value} {F G : Value → World → Prop} (hi : ops[i]? = some o) (hw : Asked md ops n S V base i o) (ho : o.op = .call { callee := .value x, args := #[y, z], argTypes := ts }) (hk : entersB P k = true)
    (hx : Knows md ops n S V base i x (fun u _ => u = .func (.func k) #[] cap)) (hy : Knows md ops n S V base i y F) (hz : Knows md ops n S V base i z G) (hc : ∀ u v w, S w → F u w → G v w → Yes P S V i k (#[u, v] ++ cap) w) : EachStep P md ops Q n S V base i :=
  step_call hi hw ho hk hx (fun a w c => by rw [show Array.map a.eval #[y, z] = #[a.eval y, a.eval z] by simp]; exact hc _ _ w c.S (hy a w c) (hz a w c))
/-- A computation of one or two operands. -/
theorem step_bin {x y : Operand} {t t' : TypeId} {op : BinOp} {u v r : Value} (hi : ops[i]? = some o) (hw : Asked md ops n S V base i o) (ho : o.op = .binOp op t x y t') (hx : Knows md ops n S V base i x (fun s _ => s = u)) (hy : Knows md ops n S V base i y (fun s _ => s = v))
    (hr : ∀ w, (eqGuard op t x y u v).run P w = .ok () w ∧ (binOp op t u v).run P w = .ok r w) (hF : ∀ w, V i r w) : EachStep P md ops Q n S V base i :=
  step_yield hi hw (fun a w c => ⟨r, by unfold execOp; rw [ho]; simp only [hx a w c, hy a w c]; simp [(hr w).1, (hr w).2], hF w⟩)
theorem step_field {x : Operand} {t : TypeId} {f : Nat} {u r : Value} (hi : ops[i]? = some o) (hw : Asked md ops n S V base i o) (ho : o.op = .fieldAddr t x f) (hx : Knows md ops n S V base i x (fun s _ => s = u)) (hr : ∀ w, (Instr.fieldAt t u f).run P w = .ok r w) (hF : ∀ w, V i r w) : EachStep P md ops Q n S V base i :=
  step_yield hi hw (fun a w c => ⟨r, by unfold execOp; rw [ho]; simp only [hx a w c]; simp [hr w], hF w⟩)
theorem step_len {x : Operand} {t : TypeId} {u r : Value} (hi : ops[i]? = some o) (hw : Asked md ops n S V base i o) (ho : o.op = .call { callee := .builtin .len, args := #[x], argTypes := #[t] }) (hx : Knows md ops n S V base i x (fun s _ => s = u)) (hr : ∀ w ty cs, (builtin .len #[t] ty cs #[u]).run P w = .ok (.value r) w) (hF : ∀ w, V i r w) : EachStep P md ops Q n S V base i :=
  step_yield hi hw (fun a w c => ⟨r, by unfold execOp; rw [ho]; simp [resolve, invoke, hx a w c, hr w], hF w⟩)
theorem step_first {x : Operand} {F : Value → World → Prop} {z : Int} (hi : ops[i]? = some o) (hw : Asked md ops n S V base i o) (ho : o.op = .extract x 0) (hx : Knows md ops n S V base i x F) (hF : ∀ u w, F u w → (Sp.tup z).at u w) (hV : ∀ v w, ApiV w v z → V i v w) : EachStep P md ops Q n S V base i :=
  step_yield hi hw (fun a w c => by
    obtain ⟨v, e, h⟩ := hF _ _ (hx a w c)
    exact ⟨v, by unfold execOp; rw [ho]; simp only [e]; rfl, hV v w h⟩)
theorem step_second {x : Operand} {F : Value → World → Prop} {z : Int} (hi : ops[i]? = some o) (hw : Asked md ops n S V base i o) (ho : o.op = .extract x 1) (hx : Knows md ops n S V base i x F) (hF : ∀ u w, F u w → (Sp.tup z).at u w) (hV : ∀ w, V i (.int .i64 0) w) : EachStep P md ops Q n S V base i :=
  step_yield hi hw (fun a w c => by
    obtain ⟨v, e, h⟩ := hF _ _ (hx a w c)
    exact ⟨.int .i64 0, by unfold execOp; rw [ho]; simp only [e]; rfl, hV w⟩)
end

section
variable {md : Region.Mode} {ops : Array Oper} {Q : Exit → Act → World → Prop} {S : World → Prop} {V : Nat → Value → World → Prop} {n i : Nat} {base : Act} {o : Oper}
theorem step_alloc {B : Nat} (hi : ops[i]? = some o) (hg : o.guard = none) (ho : o.op = .alloc 24) (hB : ∀ w, S w → B ≤ w.heap.size) (hS : ∀ w w', S w → Below w.heap.size w w' → S w') (hV : ∀ v w, (Sp.box B).at v w → V i v w) : EachStep Tryz.prog md ops Q n S V base i := by
  refine each_of (fun a w c => wpOp_alloc_int (o := o) hi hg ho (fun X' g h1 h2 h3 _ => ?_))
  rw [hi]
  exact ⟨_, rfl, hS w X' c.S h2, h2, hV _ _ ⟨g, rfl, Nat.le_trans (hB w c.S) h3, h1⟩⟩
/-- An address in a row of numbers, a cell of it. -/
theorem step_index {P : Program} {x y : Operand} {t : TypeId} {u v r : Value} (hi : ops[i]? = some o) (hw : Asked md ops n S V base i o) (ho : o.op = .indexAddr t x y) (hx : Knows md ops n S V base i x (fun s _ => s = u)) (hy : Knows md ops n S V base i y (fun s _ => s = v)) (hr : ∀ w, (Instr.indexAt t u v).run P w = .ok r w) (hF : ∀ w, V i r w) : EachStep P md ops Q n S V base i :=
  step_yield hi hw (fun a w c => ⟨r, by unfold execOp; rw [ho]; simp only [hx a w c, hy a w c]; simp [hr w], hF w⟩)
end

end Go.Proofs.YtbffpkmfhkphdaaGreatDoor
