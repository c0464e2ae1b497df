/- Entries laid one by one, and maps laid into one another: plain laws. -/
import Derived.Test.YtdhapmlgapflbaaGreatDoorPM
import Derived.Lib.SlKeysI
set_option linter.unusedVariables false
set_option linter.unusedSimpArgs false
namespace Go.Proofs.YtdhapmlgapflbaaGreatDoor
open Go Go.RowKit Go.Maps Limb

def encL (l : List (Int × Value)) : List (Lit × DataW Value) := l.map fun p => (.int .i64 p.1, .held p.2)
theorem putsD_fold (l : List (Int × Value)) : putsD l = (encL l).foldl (fun D p => D.put p.1 p.2) (.map []) := by
  unfold putsD encL; rw [List.foldl_map]
theorem encL_lit (l : List (Int × Value)) : ∀ p ∈ encL l, WideAt.IsKeyLit p.1 := by
  intro p hp
  unfold encL at hp
  obtain ⟨q, _, rfl⟩ := List.mem_map.1 hp
  trivial
theorem isMap_fold : ∀ (es : List (Lit × DataW Value)) (D : DataW Value), IsMap D → IsMap (es.foldl (fun D p => D.put p.1 p.2) D)
  | [], _, h => h
  | a :: r, _, h => isMap_fold r _ (h.put _ _)
theorem putsD_isMap (l : List (Int × Value)) : IsMap (putsD l) := by rw [putsD_fold]; exact isMap_fold _ _ isMap_empty
theorem encL_apart {l : List (Int × Value)} (h : (l.map (·.1)).Nodup) : (encL l).Pairwise (fun p q => p.1 ≠ q.1) := by
  unfold encL
  rw [List.pairwise_map]
  exact (List.pairwise_map.1 h).imp fun hne e => hne (by simpa using e)
def Wfs (l : List (Int × Value)) : Prop := ∀ k ∈ l.map (·.1), (Lit.int .i64 k).wf = true
theorem encL_keys {l : List (Int × Value)} (h : Wfs l) : Keys (KeysOf Tryz.prog 3) (encL l) := by
  intro p hp
  unfold encL at hp
  obtain ⟨q, hq, rfl⟩ := List.mem_map.1 hp
  exact ⟨_, key_int (h q.1 (List.mem_map.2 ⟨q, hq, rfl⟩))⟩
theorem putsD_canon {l : List (Int × Value)} (h : Wfs l) : CanonK (KeysOf Tryz.prog 3) (putsD l) := by
  rw [putsD_fold]
  exact canonK_fold keyed_int.one _ _ (encL_keys h) ⟨[], rfl, List.Pairwise.nil, fun p hp => by cases hp⟩
theorem putsD_append (a b : List (Int × Value)) : putsD (a ++ b) = (encL b).foldl (fun D p => D.put p.1 p.2) (putsD a) := by
  unfold putsD encL; rw [List.foldl_append, List.foldl_map]
theorem Wfs.append {a b : List (Int × Value)} (ha : Wfs a) (hb : Wfs b) : Wfs (a ++ b) := by
  intro k hk
  rw [List.map_append, List.mem_append] at hk
  exact hk.elim (ha k) (hb k)
theorem has_map (es : List (Lit × DataW Value)) (k : Lit) (hl : ∀ p ∈ es, WideAt.IsKeyLit p.1) : has (es.foldl (fun D p => D.put p.1 p.2) (.map [])) k = es.any (fun p => p.1.sameKey k) := by
  rw [has_foldPut k es _ isMap_empty hl]; rfl
/-- One map laid into another. -/
theorem merged_puts {Dout : DataW Value} {a b : List (Int × Value)} {left : Lit → Bool} (hM : Merged Dout (putsD a) (putsD b) left) (hl : ∀ k, left k = false) (cOut : Canon Dout) (ha : Wfs a) (hb : Wfs b) (hn : (b.map (·.1)).Nodup) : Dout = putsD (a ++ b) := by
  refine ext cOut ((putsD_canon (ha.append hb)).canon keyed_int.one) (fun k => ?_) (fun k z _ => ?_)
  · rw [hM.1 k, hl k, putsD_append, has_foldPut k _ _ (putsD_isMap a) (encL_lit b), putsD_fold b, has_map _ _ (encL_lit b)]
    simp
  · rw [hM.2 k z, hl k, putsD_append, atKey_foldPut k z _ _ (putsD_isMap a) (encL_lit b) (encL_apart hn), putsD_fold b, has_map _ _ (encL_lit b), atKey_foldPut k z _ _ isMap_empty (encL_lit b) (encL_apart hn)]
    cases hf : (encL b).find? (fun p => p.1.sameKey k) with
    | none =>
      have h0 : (encL b).any (fun p => p.1.sameKey k) = false := List.any_eq_false.2 (fun p hp => by simpa using List.find?_eq_none.1 hf p hp)
      rw [h0]; simp
    | some p =>
      have h1 : (encL b).any (fun p => p.1.sameKey k) = true := List.any_eq_true.2 ⟨p, List.mem_of_find?_eq_some hf, List.find?_some (p := fun (q : Lit × DataW Value) => q.1.sameKey k) hf⟩
      rw [h1]; simp
/-- The keys. -/
theorem putsD_keys {l : List (Int × Value)} (h : Wfs l) (hn : (l.map (·.1)).Nodup) : (l.map (·.1)).Perm (intKeys (putsD l)) := by
  obtain ⟨es, he, hp, hk⟩ := putsD_canon h
  rw [he]
  refine perm_intKeys (apart_of_rising hp) (fun p hp' => ?_) hn (fun x => ?_)
  · obtain ⟨v, hv⟩ := hk p hp'
    obtain ⟨x, _, hx, _⟩ := Maps.keyOf_i64 Tryz.underlying3 hv
    exact ⟨x, hx⟩
  · rw [← he, putsD_fold, has_map _ _ (encL_lit l), List.any_eq_true]
    constructor
    · intro hx
      obtain ⟨q, hq, rfl⟩ := List.mem_map.1 hx
      exact ⟨_, List.mem_map.2 ⟨q, hq, rfl⟩, WideAt.sameKey_self trivial⟩
    · rintro ⟨p, hp', hs⟩
      obtain ⟨q, hq, rfl⟩ := List.mem_map.1 hp'
      have := WideAt.sameKey_eq hs
      simp only [Lit.int.injEq, true_and] at this
      exact List.mem_map.2 ⟨q, hq, this⟩
/-- A map that the call has made: its entries so far. -/
def OwnM (w W : World) (b : Nat) (l : List (Int × Value)) : Prop := w.heap.size ≤ b ∧ MapL W b l ∧ Below w.heap.size w W
theorem OwnM.start {w W : World} (h : Below w.heap.size w W) : OwnM w (W.alloc (.map #[] 0)) W.heap.size [] := ⟨h.size, MapL.start W, h.alloc h.size _⟩
theorem OwnM.below {w W W' : World} {b : Nat} {l : List (Int × Value)} (h : OwnM w W b l) (hb : Below W.heap.size W W') : OwnM w W' b l := ⟨h.1, h.2.1.below hb, h.2.2.trans (hb.mono h.2.2.size)⟩
theorem OwnM.step {w W W' : World} {b : Nat} {l l' : List (Int × Value)} (h : OwnM w W b l) (hm : MapL W' b l') (ho : Only [b] W W') : OwnM w W' b l' :=
  ⟨h.1, hm, h.2.2.trans (ho.belowB h.2.2.size (fun p hp => by rw [List.mem_singleton.1 hp]; exact h.1))⟩
/-- One entry more. -/
theorem wpList_insert_next {w W : World} {ops : Array Oper} {rest : List Oper} {o : Oper} {a : Act} {Q : Exit → Act → World → Prop} {b : Nat} {l : List (Int × Value)} {n k : Int} {f : Fn} {x1 x2 : Array Value}
    (H : Hid (OwnM w W b l)) (m x y : Operand) (hg : o.guard = none) (hop : o.op = Op.insert 39 m x y) (hm : a.eval m = .map (some b)) (hx : a.eval x = .int .i64 n) (hv : a.eval y = entV (k, f, x1, x2)) (hn : (Lit.int .i64 n).wf = true) (hl : l.length ≤ 1000)
    (hK : ∀ W', Hid (OwnM w W' b (l ++ [(n, entV (k, f, x1, x2))])) → wpList Tryz.prog ops Q rest (a.put o.dst undef) W') : wpList Tryz.prog ops Q (o :: rest) a W :=
  wpList_insert_map W n (entV (k, f, x1, x2)) H.out.2.1 (heldR_ent _) m x y hg hop hm hx hv hn hl fun W' h1 h2 => hK W' (Lib.hid (H.out.step h1 h2))
theorem wpList_update_next {w W : World} {ops : Array Oper} {rest : List Oper} {o : Oper} {a : Act} {Q : Exit → Act → World → Prop} {b : Nat} {l : List (Int × Value)} {n k : Int} {f : Fn} {x1 x2 : Array Value}
    (H : Hid (OwnM w W b l)) (m x y : Operand) (hg : o.guard = none) (hop : o.op = Op.mapUpdate 39 m x y) (hm : a.eval m = .map (some b)) (hx : a.eval x = .int .i64 n) (hv : a.eval y = entV (k, f, x1, x2)) (hn : (Lit.int .i64 n).wf = true) (hl : l.length ≤ 1000)
    (hK : ∀ W', Hid (OwnM w W' b (l ++ [(n, entV (k, f, x1, x2))])) → wpList Tryz.prog ops Q rest (a.put o.dst undef) W') : wpList Tryz.prog ops Q (o :: rest) a W :=
  wpList_mapUpdate_own W hg m x y 39 hop 3 43 keyed_int Tryz.underlying39 heldR b l.length (putsD l) hm H.out.2.1 (by unfold maxLen; omega) _ _ _ hx hv (key_int hn) _ [] (heldR_ent _) fun W' h1 h2 => hK W' (Lib.hid (H.out.step (by
    unfold MapL
    rw [List.length_append, ← putsD_snoc]
    exact h1) (.of_grown h2)))
end Go.Proofs.YtdhapmlgapflbaaGreatDoor
