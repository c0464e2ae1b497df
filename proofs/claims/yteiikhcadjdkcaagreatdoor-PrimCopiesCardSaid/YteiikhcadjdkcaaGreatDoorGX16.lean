/- The walks of package heap: SetClass, Length. The walk of package heap: New. Appends onto a slice that has its block to itself. -/
import Derived.Test.YteiikhcadjdkcaaGreatDoorGX15
import Derived.Test.YteiikhcadjdkcaaGreatDoorGX12
import Derived.Maps.AppendAt
import Derived.Lib.AppendZerosOnto
set_option linter.unusedVariables false
set_option linter.unusedSimpArgs false
namespace Go.Proofs.YteiikhcadjdkcaaGreatDoor
open Go Go.RowKit Limb
theorem i64_self {x : Int} (h1 : -9223372036854775808 ≤ x) (h2 : x ≤ 9223372036854775807) : IntKind.i64.wrap x = x := by
  simp only [IntKind.wrap, IntKind.bits, IntKind.signed]; simp; omega
section
variable {w : World} {F : Foot} {h : Hp}
set_option maxHeartbeats 1600000 in
set_option maxRecDepth 100000 in
theorem heap_setclass (H : HeapAt w F h) (o c : Nat) (ho : o < 4294967296) (hc : c < 4294967296) (h1 : isO h o = true) (h2 : clsO h c = true) :
    Calls Tryz.prog 38 #[.pointer (some ⟨F.p, 0, none⟩), .int .u32 o, .int .u32 c] w fun e w' => e = .returned (.int .i64 0) ∧ Step w F w' F (Limb.setC h o c) := by
  have hI := heap_is H o ho
  have hC := heap_class H c hc
  rw [h1] at hI
  rw [h2] at hC
  have HI := Lib.hid hI
  have HC := Lib.hid hC
  have ha := fun X => heap_at o ho X (.pointer (some ⟨F.p, 0, none⟩))
  rw [idxN_of h1] at ha
  have HA := Lib.hid ha
  have hb := (isO_iff.1 h1).2.2
  have hin := H.good.inside _ hb
  have hlt : o / 2 + 1 < h.ws.length := by omega
  have hG := H.good.setC hb (c := c) hc
  have hSW := Step.putW H hlt hG
  have e0 : Limb.setC h o c = Limb.putW h (o / 2 + 1) c := rfl
  have hsm := H.small
  rw [e0]
  generalize o / 2 = at0 at *
  obtain ⟨cw, cs, c0, c1, c2, c3, c4, hw, hs⟩ := H.cells
  have z0 := hw.free (at0 + 1)
  have cx := hw.cell hlt
  rw [nums_get hlt] at cx
  have ix := fun W => hw.index 71 Tryz.underlying71 size32 W .i64 (at0 + 1) hlt
  rw [Int.natCast_add, show ((1 : Nat) : Int) = 1 from rfl] at ix
  have hlp : ∀ X, Only [F.gw] w X → X.cell? ⟨F.p, 0, none⟩ = some (.slice (some ⟨F.gw, 0, none⟩) h.ws.length cw) := fun X hX => by
    rw [← c0]; exact World.cell?_of_block (hX.block _ (H.lt _ (mem_p F)) (by simp; exact H.apart.1))
  have HK := Lib.hid hlp
  have HS := Lib.hid (show ∀ n, Step w F ((w.drewN n).setCell ⟨F.gw, at0 + 1, none⟩ (.int .u32 (c : Nat))) F (Limb.putW h (at0 + 1) c) from fun n => Step.of_below (w' := w.drewN n) ⟨rfl, rfl, rfl, Nat.le_refl _, fun _ _ => rfl⟩ (Step.putW (H.below (w' := w.drewN n) ⟨rfl, rfl, rfl, Nat.le_refl _, fun _ _ => rfl⟩) hlt hG))
  have hX : Only [F.gw] w w.drew := (Only.refl _ _).drew
  clear hlp hw hs H hI hC ha hb hin hG hSW e0 h1 h2
  go_enter Tryz.func38, Tryz.ntmps38
  go_wp2_with fail
  refine (HI.out).mono ?_
  rintro e w1 ⟨rfl, rfl⟩
  (try dsimp only)
  go_wp2_with fail
  refine (HC.out).mono ?_
  rintro e w1 ⟨rfl, rfl⟩
  (try dsimp only)
  go_wp2_with fail
  refine wp_region_held (S := fun X => Only [F.gw] w X) (by kernel_rfl) ?_
  refine wpAnyH_take_at (i := 0) (v := .pointer (some ⟨F.p, 0, none⟩)) 17 rfl rfl (by kernel_rfl) (by kernel_rfl) (by kernel_rfl) (fun _ _ _ h => h) (.inl ⟨rfl, fun X hX => by go_simp⟩) hX ?_
  simp only [Act.put, List.setIfInBounds_toArray, List.set_cons_zero, List.set_cons_succ]
  refine wpAnyH_take_at (i := 1) (v := .pointer (some ⟨F.p, 0, none⟩)) 18 rfl rfl (by kernel_rfl) (by kernel_rfl) (by kernel_rfl) (fun _ _ _ h => h) (.inl ⟨rfl, fun X hX => by go_simp⟩) hX ?_
  simp only [Act.put, List.setIfInBounds_toArray, List.set_cons_zero, List.set_cons_succ]
  refine wpAnyH_take_at (i := 2) (v := .pointer (some ⟨F.p, 0, none⟩)) 19 rfl rfl (by kernel_rfl) (by kernel_rfl) (by kernel_rfl) (fun _ _ _ h => h) (.inl ⟨rfl, fun X hX => by go_simp⟩) hX ?_
  simp only [Act.put, List.setIfInBounds_toArray, List.set_cons_zero, List.set_cons_succ]
  refine wpAnyH_take_at (i := 3) (v := .slice (some ⟨F.gw, 0, none⟩) h.ws.length cw) 20 rfl rfl (by kernel_rfl) (by kernel_rfl) (by kernel_rfl) (fun _ _ _ h => h) (.inl ⟨rfl, fun X hX => by have c0 := HK.out X hX; go_simp⟩) hX ?_
  simp only [Act.put, List.setIfInBounds_toArray, List.set_cons_zero, List.set_cons_succ]
  refine wpAnyH_take_at (i := 4) (v := .pointer (some ⟨F.p, 0, none⟩)) 21 rfl rfl (by kernel_rfl) (by kernel_rfl) (by kernel_rfl) (fun _ _ _ h => h) (.inl ⟨rfl, fun X hX => by go_simp⟩) hX ?_
  simp only [Act.put, List.setIfInBounds_toArray, List.set_cons_zero, List.set_cons_succ]
  refine wpAnyH_take_at (i := 5) (v := .int .u32 o) 22 rfl rfl (by kernel_rfl) (by kernel_rfl) (by kernel_rfl) (fun _ _ _ h => h) (.inl ⟨rfl, fun X hX => by go_simp⟩) hX ?_
  simp only [Act.put, List.setIfInBounds_toArray, List.set_cons_zero, List.set_cons_succ]
  refine wpAnyH_take_at (i := 8) (v := .int .u32 c) 25 rfl rfl (by kernel_rfl) (by kernel_rfl) (by kernel_rfl) (fun _ _ _ h => h) (.inl ⟨rfl, fun X hX => by go_simp⟩) hX ?_
  simp only [Act.put, List.setIfInBounds_toArray, List.set_cons_zero, List.set_cons_succ]
  refine wpAnyH_all (rs := [6]) (by kernel_rfl) (by decide) (fun i hi => ?_)
  rw [List.mem_singleton] at hi
  subst hi
  unfold wpOp
  go_simp
  refine .inl ((HA.out _).mono ?_)
  rintro e X1 ⟨rfl, rfl⟩
  refine ⟨hX, ?_⟩
  refine wpAnyH_take_at (i := 7) (v := .int .i64 ((at0 : Int) + 1)) 24 rfl rfl (by kernel_rfl) (by kernel_rfl) (by kernel_rfl) (fun _ _ _ h => h) (.inl ⟨rfl, fun X hX => by go_simp; exact i64_self (by omega) (by omega)⟩) hX ?_
  simp only [Act.put, List.setIfInBounds_toArray, List.set_cons_zero, List.set_cons_succ]
  refine wpAnyH_take_at (i := 9) (v := .pointer (some ⟨F.gw, at0 + 1, none⟩)) 26 rfl rfl (by kernel_rfl) (by kernel_rfl) (by kernel_rfl) (fun _ _ _ h => h) (.inl ⟨rfl, fun X hX => by go_simp⟩) hX ?_
  simp only [Act.put, List.setIfInBounds_toArray, List.set_cons_zero, List.set_cons_succ]
  refine wpAnyH_all (rs := [10]) (by kernel_rfl) (by decide) (fun i hi => ?_)
  rw [List.mem_singleton] at hi
  subst hi
  unfold wpOp
  go_simp
  replace hX := hX.setCell (a := ⟨F.gw, at0 + 1, none⟩) (by simp) (.int .u32 c)
  refine .inl ⟨hX, ?_⟩
  refine wpAnyH_done (by kernel_rfl) ?_ _
  go_wp2_with fail
  go_ret
  exact ⟨rfl, HS.out 1⟩
end
end Go.Proofs.YteiikhcadjdkcaaGreatDoor
namespace Go.Proofs.YteiikhcadjdkcaaGreatDoor
open Go Go.RowKit Limb
theorem info_oop : (Tryz.prog.info? 30).map (fun i => (i.zero, i.size, i.bytes)) = some (some (.int .u32 0), 1, 4) := by kernel_rfl
set_option maxHeartbeats 800000 in
set_option maxRecDepth 100000 in
theorem heap_new (w : World) (hs : Spares w) (n : Nat) (h1 : 64 ≤ n) (h2 : n ≤ 1048576) :
    Calls Tryz.prog 13 #[.int .i64 n] w fun e w' => ∃ F, e = .returned (.tuple #[.pointer (some ⟨F.p, 0, none⟩), .int .i64 0]) ∧ HeapAt w' F (emptyH n) ∧ Below w.heap.size w w' ∧ ∀ g ∈ F.l, w.heap.size ≤ g := by
  obtain ⟨W, hW, r0, hb0, hz0⟩ := alloc_row w 29 [.int .u32 0]
  obtain ⟨V, hV, r1, hb1, hz1⟩ := alloc_row W 4 [.bool false]
  rw [hz0] at r1
  have hB : Below w.heap.size w V := hb0.trans (hb1.mono (by omega))
  replace r0 := r0.below hb1 r0.lt
  have HV := Lib.hid (show V = (w.alloc (.cells #[.int .u32 0] 29)).alloc (.cells #[.bool false] 4) by rw [hV, hW])
  have hz : V.heap.size = w.heap.size + 2 := by omega
  have d1 : decide ((n : Int) < 64) = false := decide_eq_false (by omega)
  have d1' : decide (n < 64) = false := decide_eq_false (by omega)
  have d2 : decide ((1048576 : Int) < (n : Int)) = false := decide_eq_false (by omega)
  have d2' : decide (1048576 < n) = false := decide_eq_false (by omega)
  have Hs := Lib.hid (hs.below hB hs.1)
  have h5 := hs.1
  clear hV hW hz0 hz1 hb0 hb1 hs
  go_enter Tryz.func13, Tryz.ntmps13
  go_wp2_with (at_make; rw [← HV.out]; refine wpList_make_row rfl _ _ _ rfl 30 (.int .u32 0) 4 Tryz.underlying53 info_oop rfl _ _ _ _ 64 64 rfl rfl rfl rfl (by decide) (by decide) (by decide) ?_; intro w1 g hg1 hg2 hrow hbel)
  replace r0 := r0.below hbel r0.lt
  replace r1 := r1.below hbel r1.lt
  replace hB := hB.trans (hbel.mono hB.size)
  have hS := Hs.out.below hbel (by omega)
  obtain ⟨U, hU, r3, hb3, hz3⟩ := alloc_row w1 74 [.slice (some ⟨w.heap.size, 0, none⟩) 1 1, .slice (some ⟨w.heap.size + 1, 0, none⟩) 1 1, .slice (some ⟨g, 0, none⟩) 64 64, .int .i64 n, .int .u32 0]
  have HU := Lib.hid hU
  rw [hg2] at r3 hb3
  replace r0 := r0.below hb3 (by omega)
  replace r1 := r1.below hb3 (by omega)
  replace hrow := hrow.below hb3 (by omega)
  replace hS := hS.below hb3 (by omega)
  have hBU := hB.trans (hb3.mono (by omega))
  have HH : HeapAt U ⟨g + 1, w.heap.size, w.heap.size + 1, g⟩ (emptyH n) := by
    refine ⟨good_empty h1 h2, hS, ⟨1, 1, r3, ?_, ?_⟩, ?_, ?_⟩
    · exact r0.sl rfl (show 1 ≤ maxLen by decide)
    · exact r1.sl rfl (show 1 ≤ maxLen by decide)
    · show Row U g _ (nums .u32 (List.replicate 64 0))
      rw [nums_replicate]; exact hrow
    · show 5 ≤ g + 1 ∧ 5 ≤ w.heap.size ∧ 5 ≤ w.heap.size + 1 ∧ 5 ≤ g
      omega
  refine bodyPost_ret (v := .tuple #[.pointer (some ⟨g + 1, 0, none⟩), .int .i64 0]) (by simp [results, Tryz.results13, go_sem]) rfl ?_
  rw [show (w1.alloc (Obj.cells #[Value.slice (some ⟨w.heap.size, 0, none⟩) 1 1, Value.slice (some ⟨w.heap.size + 1, 0, none⟩) 1 1, Value.slice (some ⟨g, 0, none⟩) 64 64, Value.int IntKind.i64 n, Value.int IntKind.u32 0] 74)) = U from HU.out.symm]
  refine ⟨⟨g + 1, w.heap.size, w.heap.size + 1, g⟩, rfl, HH, hBU, fun x hx => ?_⟩
  unfold Foot.l at hx
  simp only [List.mem_cons, List.not_mem_nil, or_false] at hx
  rcases hx with rfl | rfl | rfl | rfl <;> omega
end Go.Proofs.YteiikhcadjdkcaaGreatDoor
namespace Go.Proofs.YteiikhcadjdkcaaGreatDoor
open Go Go.RowKit Limb
def Grew (w w' : World) (g : Nat) (e : TypeId) (n : Nat) (v : Value) (ys : List Value) : Prop :=
  ∃ g' c', v = .slice (some ⟨g', 0, none⟩) n c' ∧ Sl w' g' e n c' ys ∧ (g' = g ∨ g' = w.heap.size) ∧ Only [g] w w'
theorem only_of_grown {w w' : World} {g : Nat} (h : w.grownBy w' (some g)) : Only [g] w w' :=
  ⟨h.os, h.tape, h.output, h.size, fun k hk hn => h.block k hk (fun e => hn (by rw [Option.some.inj e]; simp))⟩
section
variable {P : Program} {w : World} {t tn ty e : TypeId} {i : TypeInfo} {z : Value} {bytes : Nat}
theorem run_sl_append (ht : P.underlying t = some (.slice e)) (hi : P.info? e = some i) (hz : i.zero = some z) (hsize : i.size = 1) (hby : i.bytes = bytes) (hzs : z.cells.size = 1)
    {g n c : Nat} {xs : List Value} (h : Sl w g e n c xs) (a : Addr) (m cc : Nat) (hn : 0 < n + m) (news : List Value) (hl : news.length = m) (hnews : ∀ j u, news[j]? = some u → w.cell? (a.add j) = some u) (h1 : ∀ u ∈ news, u.oneCell' = true)
    (h63 : n + m ≤ maxLen) (hbytes : (n + m) * bytes ≤ 140737488355328) :
    ∃ v' w', (Builtin.append_ #[t, t] ty #[.slice (some ⟨g, 0, none⟩) n c, .slice (some a) m cc]).run P w = .ok v' w' ∧ Grew w w' g e (n + m) v' (xs ++ news) := by
  obtain ⟨v', w', hr, h2, h3, _, h5⟩ := run_append_own_at (P := P) w 0 t ty e i z 1 bytes ht hi hz hsize hby hzs (by decide) _ n xs h.owns a m cc news (by rw [Nat.mul_one]; exact hl) hnews h1 h63 hbytes (Nat.zero_le _)
  obtain ⟨g', c', rfl, hb, hs⟩ := Sl.of_owns h2 (by omega)
  refine ⟨_, w', hr, g', c', rfl, hs, ?_, only_of_grown h3⟩
  rw [hb] at h5
  rcases h5 with h5 | h5
  · exact .inl (Option.some.inj h5)
  · exact .inr (Option.some.inj h5)
theorem zeroCells_one (z : Value) (k : Nat) (hz : z.cells = #[z]) : Builtin.zeroCells z.cells k = (List.replicate k z).toArray := by
  unfold Builtin.zeroCells
  rw [hz]
  apply Array.ext
  · simp
  · intro i h1 h2
    simp [Nat.mod_one]
theorem run_sl_zeros (ht : P.underlying t = some (.slice e)) {kn : IntKind} (htn : P.underlying tn = some (.int kn)) (hi : P.info? e = some i) (hz : i.zero = some z) (hsize : i.size = 1) (hby : i.bytes = bytes) (hzc : z.cells = #[z]) (hz1 : z.oneCell' = true)
    {g n c : Nat} {xs : List Value} (h : Sl w g e n c xs) (kq : IntKind) (k : Nat) (hk : 0 < k) (h63 : n + k ≤ maxLen) (hbytes : (n + k) * bytes ≤ 140737488355328) :
    ∃ v' w', (Builtin.append_ #[t, tn] ty #[.slice (some ⟨g, 0, none⟩) n c, .int kq k]).run P w = .ok v' w' ∧ Grew w w' g e (n + k) v' (xs ++ List.replicate k z) := by
  obtain ⟨cur, h1, h2, h3, h4, h5, h6⟩ := h
  have hm : n + k ≤ 9223372036854775807 := by simp only [maxLen] at h63; omega
  have hb1 : k * i.bytes ≤ 281474976710656 := by
    rw [hby]
    have : k * bytes ≤ (n + k) * bytes := Nat.mul_le_mul_right _ (by omega)
    omega
  by_cases hroom : n + k ≤ c
  · have hg : w.heap[g]? = some (.cells cur.toArray e (0, 0)) := h1
    have hst := run_storeCells_at P g n e (List.replicate k z) 0 cur.toArray w hg (by simp; omega) (by simp; intro _; exact hz1)
    simp only [Nat.add_zero] at hst
    have hw : IntKind.i64.wrap (k : Int) = k := by rw [IntKind.wrap_i64]; omega
    have hneg : ¬ ((k : Int) < 0) := by omega
    have h48i : ¬ (281474976710656 < (k : Int) * (i.bytes : Int)) := by rw [← Int.natCast_mul]; omega
    have hk0 : k ≠ 0 := by omega
    have hze := zeroCells_one z k hzc
    refine ⟨.slice (some ⟨g, 0, none⟩) (n + k) c, w.setRow g (cur.take n ++ List.replicate k z ++ cur.drop (n + k)).toArray, ?_, g, c, rfl, ⟨cur.take n ++ List.replicate k z ++ cur.drop (n + k), ?_, ?_, ?_, hroom, h5, ?_⟩, .inl rfl, ?_⟩
    · simp [Builtin.append_, run_underlying ht, run_underlying htn, sizeOf, typeInfo, zeroValue, hi, hz, asInt, asIntOf, hw, hk0, hneg, h48i, hroom, hsize, hze, Addr.add_lit, hst]
    · exact setRow_heap w g cur.toArray _ e _ hg
    · simp; omega
    · simp; omega
    · rw [h6, List.take_append_of_le_length (by simp; omega), List.take_of_length_le (by simp; omega)]
    · exact ⟨rfl, rfl, rfl, by simp, fun j _ hn => setRow_other w g j _ (fun e => hn (by rw [e]; simp))⟩
  · have holds : ∀ j u, xs[j]? = some u → w.drew.cell? ((⟨g, 0, none⟩ : Addr).add j) = some u := by
      intro j u hj
      have hjn : j < n := by
        have := (List.getElem?_eq_some_iff.1 hj).1; omega
      have hc := Sl.cell (w := w) (e := e) (c := c) ⟨cur, h1, h2, h3, h4, h5, h6⟩ hjn
      rw [hj] at hc
      have ha : (⟨g, 0, none⟩ : Addr).add j = ⟨g, j, none⟩ := by
        unfold Addr.add
        by_cases h0 : j = 0
        · subst h0; rfl
        · simp [h0]
      rw [ha]; exact hc
    have hf := run_firstCells_some (P := P) w.drew i.size n ⟨g, 0, none⟩ n c xs (by rw [hsize, Nat.mul_one]; exact h3) holds
    have hfit := growslice_fits (need := n + k) (old := c) (bytes := i.bytes) (by omega) (by rw [hby]; exact hbytes)
    have hr := Lib.run_append_grow_zeros (P := P) w t tn ty e i z kq kn ht htn hi hz (some ⟨g, 0, none⟩) n c xs hf k hk (by omega) (by omega) (by omega) hb1 hfit
    have hge := grownCap_ge w (n + k) c e
    have hcm : grownCap w (n + k) c e ≤ maxLen := grownCap_le_maxLen w (n + k) c e h63
    refine ⟨_, _, hr, w.heap.size, grownCap w (n + k) c e, rfl, ⟨xs ++ List.replicate k z ++ List.replicate (grownCap w (n + k) c e - (n + k)) z, ?_, ?_, ?_, hge, hcm, ?_⟩, .inr rfl, ?_⟩
    · unfold Row
      rw [show w.heap.size = w.drew.heap.size from rfl, heap_alloc_new, zeroCells_one z _ hzc, zeroCells_one z _ hzc]
      simp
    · simp; omega
    · simp; omega
    · rw [List.take_append_of_le_length (by simp; omega), List.take_of_length_le (by simp; omega)]
    · exact (Only.of_below (ps := [g]) ((Below.refl _ w).drew.alloc (Nat.le_refl _) _))
end
end Go.Proofs.YteiikhcadjdkcaaGreatDoor
