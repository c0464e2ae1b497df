/- maps.Copy of entries: one map laid into another. -/
import Derived.Test.YtdhapmlgapflbaaGreatDoorPM2
import Derived.Laws.IdiomRangeMap
set_option linter.unusedVariables false
set_option linter.unusedSimpArgs false
namespace Go.Proofs.YtdhapmlgapflbaaGreatDoor
open Go Go.RowKit Go.Maps Limb
theorem putsD_size {l : List (Int × Value)} (h : Wfs l) (hn : (l.map (·.1)).Nodup) : Maps.size (putsD l) = l.length := by
  have h1 := (putsD_keys h hn).length_eq
  rw [List.length_map] at h1
  obtain ⟨es, he⟩ := putsD_isMap l
  rw [he] at h1 ⊢
  rw [h1]
  show es.length = (es.map _).length
  rw [List.length_map]
theorem grown_below {w w' : World} (h : Below w.heap.size w w') (row : Option Nat) : w.grownBy w' row := ⟨h.os, h.tape, h.output, h.size, fun k hk _ => h.block k hk⟩
set_option maxHeartbeats 6400000 in
set_option maxRecDepth 100000 in
theorem maps_copy (w : World) (bd bs : Nat) (ld ls : List (Int × Value)) (hd : MapL w bd ld) (hs : MapL w bs ls) (hne : bd ≠ bs) (hwd : Wfs ld) (hws : Wfs ls) (hns : (ls.map (·.1)).Nodup) (hl : ld.length + ls.length ≤ 1000) :
    Calls Tryz.prog 21 #[.map (some bd), .map (some bs)] w fun e w' => e = .returned (.tuple #[]) ∧ MapL w' bd (ld ++ ls) ∧ Only [bd] w w' := by
  have hsz := putsD_size hws hns
  have hbd := hd.lt
  have hbs := hs.lt
  unfold MapL at hd hs
  go_enter Tryz.func21, Tryz.ntmps21
  go_wp2_with (first
    | (at_range; refine wpList_range_own _ rfl _ 39 rfl 3 43 keyed_int Tryz.underlying39 heldR bs ls.length _ rfl hs ?_; intro w0 hrg0 hg0 hs0)
    | go_in)
  go_frame
  go_loopw [8] (fun _ wr => ∃ (left : Lit → Bool) (cnt : Nat) (Dout : DataW Value), wr.ranges Tryz.prog 3 heldR bs w.heap.size ls.length (putsD ls) left cnt ∧ cnt ≤ Maps.size (putsD ls) ∧
      wr.ownsMap Tryz.prog 3 heldR bd (ld.length + (Maps.size (putsD ls) - cnt)) Dout ∧ Merged Dout (putsD ld) (putsD ls) left ∧ w.grownBy wr (some bd))
    (fun _ wr => wr.rangeLeft bs w.heap.size)
  case atStart =>
    exact ⟨_, _, putsD ld, hrg0, Nat.le_refl _, (hd.kept hg0 (by simp)).mono (by omega), merged_start _ _, hg0.but _⟩
  case round =>
    obtain ⟨left, cnt, Dout, hrg, hcs, hout, hM, hgw⟩ := hrel
    go_wp2_with (first
      | (at_next; refine wpList_next_ranges _ rfl _ rfl 3 keyed_int heldR (fun x : Int => Value.int .i64 x) (fun c : Int × Fn × Array Value × Array Value => Value.agg #[.int .i64 c.1, .func c.2.1 c.2.2.1 c.2.2.2]) (fun key kl h => by obtain ⟨x, rfl, _⟩ := Maps.keyOf_i64 Tryz.underlying3 h; exact ⟨x, rfl⟩) (fun v y h => heldR_inv v y h) bs w.heap.size ls.length _ _ _ rfl hrg ?_ ?_)
      | go_in)
    · intro hc0 hl0
      go_wp2
      go_end0
      subst hc0
      have e := merged_puts hM hl0 (hout.canon keyed_int) hwd hws hns
      subst e
      refine ⟨rfl, ?_, .of_grown hgw⟩
      unfold MapL
      rw [List.length_append]
      rw [hsz] at hout
      simpa using hout
    · intro x ck cf c1 c2 kl yd yp w1 cnt1 hkey hlx hv hat hrg1 hlt hg1 hs1 hen
      obtain ⟨W1, h1, r1, b1, z1⟩ := alloc_row w1 43 [.int .i64 ck, .nilFunc]
      rw [hs1] at r1
      have s1 := r1.store_any 1 (.func cf c1 c2)
      have q1' := r1.cell_at 1
      have f1' := r1.free 1
      have e0 := s1.cell_at 0
      have e1 := s1.cell_at 1
      simp only [List.set_cons_zero, List.set_cons_succ, List.getElem?_cons_zero, List.getElem?_cons_succ] at q1' e0 e1
      obtain ⟨W2, h2⟩ : ∃ W, W = W1.setCell ⟨wr.heap.size, 1, none⟩ (.func cf c1 c2) := ⟨_, rfl⟩
      have hst : (store ⟨wr.heap.size, 1, none⟩ (.func cf c1 c2)).run Tryz.prog W1 = .ok () W2 := by rw [h2]; simp [store, Sem.run, q1', f1']
      have hb : Below w1.heap.size w1 W2 := by rw [h2]; exact b1.setCell (by simp [hs1]) _
      rw [← h2] at e0 e1
      rw [h1] at hst
      have hg2 := grown_below hb none
      have hrg2 := hrg1.kept hg2 (by simp) (by simp)
      have hout2 := (hout.kept hg1 (fun e => by have := Option.some.inj e; omega)).kept hg2 (by simp)
      clear r1 s1 b1 h1 h2 q1' f1' z1
      go_wp2_with (first
        | (at_mapUpdate; refine wpList_mapUpdate_own _ rfl _ _ _ 39 rfl 3 43 keyed_int Tryz.underlying39 heldR bd _ _ rfl hout2 (by unfold maxLen; omega) _ _ _ rfl rfl hkey yd yp hv ?_; intro w2 hout3 hg3; go_frame)
        | go_in)
      have hrg3 := hrg2.kept hg3 (fun e => hne (Option.some.inj e).symm) (fun e => by have := Option.some.inj e; omega)
      refine ⟨⟨_, cnt1, _, hrg3, by omega, hout3.mono (by omega), merged_step hM hout.isMap (keyed_int.key hkey) hat, ((hgw.andThen hg1 (fun j hj => .inl (by cases hj; exact Nat.le_refl _))).andThen hg2 (fun j hj => by cases hj)).andThen hg3 (fun j hj => .inr hj)⟩, ?_⟩
      rw [hrg3.left_eq, hrg.left_eq]; exact hlt
end Go.Proofs.YtdhapmlgapflbaaGreatDoor
