/- The walk of package heap's Make. The tables of package prim whose entries hold closures: the numbers. -/
import Derived.Test.YteiikhcadjdkcaaGreatDoorGX19
import Derived.Laws.CopyOwn
set_option linter.unusedVariables false
set_option linter.unusedSimpArgs false
namespace Go.Proofs.YteiikhcadjdkcaaGreatDoor
open Go Go.RowKit Limb
theorem wp_copy_run {P : Program} (w : World) {o : Oper} {a : Act} {K : Act → World → Prop} {Q : Exit → Act → World → Prop} (s x : Operand) (t tn : TypeId)
    (ho : o.op = .call { callee := .builtin .copy, args := #[s, x], argTypes := #[t, tn] }) (vs vx : Value) (hs : a.eval s = vs) (hx : a.eval x = vx)
    (v' : Value) (w' : World) (hr : (Builtin.copy_ #[t, tn] o.type #[vs, vx]).run P w = .ok v' w') (h : K (a.put o.dst v') w') : o.wp P a w K Q := by
  unfold Oper.wp execOp
  simp only [ho, resolve, invoke, builtin, Sem.run_bind, Sem.run_pure, Result.andThen_ok, List.map_toArray, List.map_cons, List.map_nil, hs, hx, hr]
  exact h
theorem only_setRow (w : World) (g : Nat) (cs : Array Value) : Only [g] w (w.setRow g cs) :=
  ⟨rfl, rfl, rfl, by simp, fun k _ hn => setRow_other w g k _ (fun e => hn (by rw [e]; simp))⟩
section
variable {w : World} {F : Foot} {h : Hp}
theorem HeapAt.copied {sp c m : Nat} {bs : List Nat} (H : HeapAt w F (addO h 2 sp c (List.replicate m 0))) (hl : bs.length = m) (hG : Limb.Good (addO h 2 sp c bs)) {cur : List Value} {cw : Nat} (hr : Row w F.gw 29 cur) (hc : cur.length = cw) (hn : h.ws.length + 3 + m ≤ cw)
    (ht : cur.take (h.ws.length + 3 + m) = nums .u32 (addO h 2 sp c (List.replicate m 0)).ws) (hcell : w.cell? ⟨F.p, 0, none⟩ = some (.slice (some ⟨F.gw, 0, none⟩) (h.ws.length + 3 + m) cw)) :
    Step w F (w.setRow F.gw (cur.take (h.ws.length + 3) ++ nums .u32 bs ++ cur.drop (h.ws.length + 3 + m)).toArray) F (addO h 2 sp c bs) := by
  obtain ⟨cw', cs, rp, sw, ss⟩ := H.row
  obtain ⟨a1, a2, a3, a4, a5, a6⟩ := H.apart
  have hlen : (addO h 2 sp c (List.replicate m 0)).ws.length = h.ws.length + 3 + m := by rw [addO_len]; simp
  have hlen2 : (addO h 2 sp c bs).ws.length = h.ws.length + 3 + m := by rw [addO_len, hl]
  obtain ⟨k0, -⟩ := rp.cells5
  rw [hcell, hlen] at k0
  simp only [Option.some.injEq, Value.slice.injEq, true_and] at k0
  subst k0
  have ho := only_setRow w F.gw (cur.take (h.ws.length + 3) ++ nums .u32 bs ++ cur.drop (h.ws.length + 3 + m)).toArray
  have hle := sw.le
  have e1 : (addO h 2 sp c bs).st = (addO h 2 sp c (List.replicate m 0)).st := by unfold addO; simp [hl]
  refine ⟨⟨hG, H.spares.only ho (by have := H.low; simp; omega), ⟨cw, cs, ?_, ?_, ?_⟩, ?_, H.low⟩, Foot.Next.refl _ _, ?_⟩
  · have := rp.only ho (by simp; omega)
    rw [hlen] at this; rw [hlen2]; exact this
  · rw [hlen2]
    refine ⟨cur.take (h.ws.length + 3) ++ nums .u32 bs ++ cur.drop (h.ws.length + 3 + m), setRow_heap w F.gw cur.toArray _ _ _ hr, ?_, by rw [nums_length, hlen2], hn, hle.2, ?_⟩
    · simp [nums_length, hl]; omega
    · rw [List.take_append_of_le_length (by simp [nums_length, hl]; omega), List.take_of_length_le (by simp [nums_length, hl]; omega)]
      have h3 : cur.take (h.ws.length + 3) = (nums .u32 (addO h 2 sp c (List.replicate m 0)).ws).take (h.ws.length + 3) := by
        rw [← ht, List.take_take, Nat.min_eq_left (by omega)]
      rw [h3, nums_take, ← nums_append]
      congr 1
      unfold addO
      simp only [List.length_replicate, hl]
      rw [List.take_append, List.take_of_length_le (by omega), show h.ws.length + 3 - h.ws.length = 3 by omega]
      simp
  · rw [hlen2]
    have := ss.only ho (by simp; omega)
    rw [hlen] at this
    rw [e1]; exact this
  · exact H.roots.only ho (by simp; omega)
  · exact ho.mono (fun q hq => by rw [List.mem_singleton] at hq; subst hq; exact mem_gw F)
theorem makeP_some {c : Nat} {t : List Nat} {o : Nat} {h' : Hp} (e : makeP h c t = some (o, h')) : clsO h c = true ∧ room h ((t.length + 3) / 4) = true ∧ o = newO h ∧ h' = addO h 2 (4 * ((t.length + 3) / 4) - t.length) c (packB t) := by
  unfold makeP at e
  split at e
  · rename_i hc
    rw [Bool.and_eq_true] at hc
    rw [Option.some.injEq, Prod.mk.injEq] at e
    exact ⟨hc.1, hc.2, e.1.symm, e.2.symm⟩
  · cases e
set_option maxHeartbeats 3200000 in
set_option maxRecDepth 100000 in
theorem heap_Make (H : HeapAt w F h) (c : Nat) (a : Option Addr) (t : List Nat) (n cap o : Nat) (h' : Hp) (hlay : Lay .u8 w a t) (ht : B8 t) (hn : n = t.length) (h0 : 0 < n) (hl : n ≤ 262140) (hp : makeP h c t = some (o, h')) :
    Calls Tryz.prog 22 #[.pointer (some ⟨F.p, 0, none⟩), .int .u32 c, .slice a n cap] w fun e w' => e = .returned (.tuple #[.int .u32 o, .int .i64 0]) ∧ Moved w F w' h' := by
  obtain ⟨hc, hr, ho, hh⟩ := makeP_some hp
  have hcl := clsO_lt H.good hc
  have HPk := Lib.hid (oop_packbytes w a t n cap hlay ht hn hl)
  obtain ⟨m, hm⟩ : ∃ m, m = (n + 3) / 4 := ⟨_, rfl⟩
  obtain ⟨sp, hsp⟩ : ∃ s, s = 4 * m - n := ⟨_, rfl⟩
  have hpk := HPk.out
  rw [← hm, ← hsp] at hpk
  have HPk := Lib.hid hpk
  rw [← hn, ← hm] at hr hh
  rw [← hsp] at hh
  have hbl : (packB t).length = m := by rw [packB_length, ← hn, hm]
  have hG : Limb.Good (addO h 2 sp c (packB t)) := by
    have := good_make H.good ht (by omega) hc (by rw [← hn, ← hm]; exact hr)
    rw [← hn, ← hm, ← hsp] at this; exact this
  have hG0 : Limb.Good (addO h 2 sp c (List.replicate m 0)) := by
    refine H.good.add (by rw [List.length_replicate]; exact hr) ⟨?_, ?_, ?_, ?_, ?_⟩ hcl (Lim.replicate _ (by decide)) ?_
    · show (List.replicate m 0).length ≤ 65535; simp; omega
    · show 1 ≤ 2; decide
    · show 2 ≤ 4; decide
    · show sp ≤ 3; omega
    · show sp = 0 ∨ (2 = 2 ∧ 0 < (List.replicate m 0).length); simp; omega
    · intro _ h3; rw [wd_replicate]; exact Nat.two_pow_pos _
  have hA := fun X (HX : HeapAt X F h) => heap_alloc HX ⟨m, 2, sp, c, 0⟩ hc hcl ⟨show m ≤ 65535 by omega, (by decide : 1 ≤ 2), (by decide : 2 ≤ 4), show sp ≤ 3 by omega, .inr ⟨rfl, show 0 < m by omega⟩⟩ hr 0 rfl hG0
  have ex : hdV ⟨m, 2, sp, c, 0⟩ = .agg #[.int .i64 m, .int .i64 (2 : Nat), .int .i64 sp, .int .u32 c, .int .u32 (0 : Nat)] := rfl
  have hA2 : ∀ X, HeapAt X F h → Calls Tryz.prog 48 #[.pointer (some ⟨F.p, 0, none⟩), .agg #[.int .i64 m, .int .i64 2, .int .i64 sp, .int .u32 c, .int .u32 0]] X fun e w' => ∃ F', e = .returned (.tuple #[.int .u32 o, .int .i64 0]) ∧ Step X F w' F' (addO h 2 sp c (List.replicate m 0)) := fun X HX =>
    (hA X HX).mono fun e w' ⟨F', a, b⟩ => ⟨F', by rw [ho]; exact a, b⟩
  have HA := Lib.hid hA2
  have HE := Lib.hid (fun X (hb : Below w.heap.size w X) => H.below hb)
  have hFl := H.lt
  have hsm := H.small
  have hpos := H.good.pos
  have hoi : o < 4294967296 ∧ kindN o = 2 ∧ o / 2 = h.ws.length := by
    have e : o = 2 * h.ws.length := ho
    exact ⟨by omega, kind_two.2 ⟨by omega, by omega⟩, by omega⟩
  have hat := fun X p => heap_at o hoi.1 X p
  have e5 : idxN o = h.ws.length := by unfold idxN; rw [if_pos hoi.2.1, hoi.2.2]
  rw [e5] at hat
  have HAt := Lib.hid hat
  have Hh := Lib.hid hh
  have hmn : 0 < m := by omega
  have hfit : h.ws.length + 3 + m ≤ h.size := by
    unfold room at hr; rw [Bool.and_eq_true, decide_eq_true_eq] at hr; exact hr.1
  have HBL := Lib.hid hbl
  clear hpk hA hA2 ex hp hc hr ho hh hoi hat e5 hlay hsp hm hG0 H hn ht hbl
  go_enter Tryz.func22, Tryz.ntmps22
  go_wp2_with fail
  refine (HPk.out).mono ?_
  rintro e W1 ⟨⟨g, rfl, hg, hrow⟩, hB⟩
  (try dsimp only)
  clear HPk
  have H1 := HE.out W1 hB
  go_wp2_with fail
  refine (HA.out W1 H1).mono ?_
  rintro e V ⟨F', rfl, hS⟩
  (try dsimp only)
  have hgl := hrow.lt
  have hrow2 : Row V g 29 (nums .u32 (packB t)) := hS.beside hrow (fun hm => by have := hFl _ hm; omega)
  have hne : g ≠ F'.gw := by
    rcases hS.2.1.gw with e | e
    · have := hFl _ (mem_gw F); omega
    · omega
  have HV := hS.1
  have hbl := HBL.out
  have HS := Lib.hid hS
  obtain ⟨cw, cs, c0, -, -, -, -, sw, -⟩ := HV.cells
  have hlen : (addO h 2 sp c (List.replicate m 0)).ws.length = h.ws.length + 3 + m := by rw [addO_len]; simp
  rw [hlen] at c0 sw
  obtain ⟨cur, q1, q2, q3, q4, q5, q6⟩ := sw
  have hFp : F'.p = F.p := hS.2.1.p
  have hap : F'.p ≠ F'.gw := HV.apart.1
  have hFpl : F'.p < V.heap.size := HV.lt _ (mem_p F')
  rw [hFp] at c0 hap hFpl
  have HK := Lib.hid (fun X (hX : Only [F'.gw] V X) => show X.cell? ⟨F.p, 0, none⟩ = some (.slice (some ⟨F'.gw, 0, none⟩) (h.ws.length + 3 + m) cw) from by rw [← c0]; exact World.cell?_of_block (hX.block _ hFpl (by simp; exact hap)))
  have hcp := run_copy_row (P := Tryz.prog) V.drew 71 71 3 29 F'.gw (h.ws.length + 3) m (cw - (h.ws.length + 3)) ⟨g, 0, none⟩ m m cur.toArray 29 (nums .u32 (packB t)) Tryz.underlying71 (by kernel_rfl) q1 (by rw [nums_length, hbl]; simp) (row_news (w := V.drew) hrow2) (by simp [nums_length, hbl]; omega) (by simp [nums, Value.oneCell'])
  have hbl2 : (nums IntKind.u32 (packB t)).length = m := by rw [nums_length, hbl]
  rw [hbl2] at hcp
  have HCP := Lib.hid hcp
  have hst := (HV.drew).copied hbl hG (w := V.drew) q1 q2 q4 q6 (by rw [hFp]; exact c0)
  rw [List.append_assoc] at hst
  have HST := Lib.hid (show Moved w F _ h' from ⟨F', by rw [Hh.out]; exact Step.of_below hB ((HS.out).trans (Step.of_below (w' := V.drew) (Below.refl _ _).drew hst))⟩)
  have hXc : Only [F'.gw] V (V.drew.setRow F'.gw (cur.toArray.toList.take (h.ws.length + 3) ++ nums .u32 (packB t) ++ cur.toArray.toList.drop (h.ws.length + 3 + m)).toArray) := ((Only.refl _ V).drew).trans (only_setRow _ _ _) (fun q hq => .inl hq)
  clear hcp hst hrow2 HS q1 q2 q5 q6 hS H1 hrow HA HE hbl hbl2 hlen
  go_wp2_with fail
  have hX : Only [F'.gw] V V.drew := (Only.refl _ _).drew
  refine wp_region_held (S := fun X => Only [F'.gw] V X) (by kernel_rfl) ?_
  refine wpAnyH_take_at (i := 0) (v := .pointer (some ⟨F.p, 0, none⟩)) 34 rfl rfl (by kernel_rfl) (by kernel_rfl) (by kernel_rfl) (fun _ _ _ h => h) (.inl ⟨rfl, fun X hX => by go_simp⟩) hX ?_
  simp only [Act.put, List.setIfInBounds_toArray, List.set_cons_zero, List.set_cons_succ]
  refine wpAnyH_take_at (i := 1) (v := .pointer (some ⟨F.p, 0, none⟩)) 35 rfl rfl (by kernel_rfl) (by kernel_rfl) (by kernel_rfl) (fun _ _ _ h => h) (.inl ⟨rfl, fun X hX => by go_simp⟩) hX ?_
  simp only [Act.put, List.setIfInBounds_toArray, List.set_cons_zero, List.set_cons_succ]
  refine wpAnyH_take_at (i := 2) (v := .pointer (some ⟨F.p, 0, none⟩)) 36 rfl rfl (by kernel_rfl) (by kernel_rfl) (by kernel_rfl) (fun _ _ _ h => h) (.inl ⟨rfl, fun X hX => by go_simp⟩) hX ?_
  simp only [Act.put, List.setIfInBounds_toArray, List.set_cons_zero, List.set_cons_succ]
  refine wpAnyH_take_at (i := 3) (v := .slice (some ⟨F'.gw, 0, none⟩) (h.ws.length + 3 + m) cw) 37 rfl rfl (by kernel_rfl) (by kernel_rfl) (by kernel_rfl) (fun _ _ _ h => h) (.inl ⟨rfl, fun X hX => by have c0 := HK.out X hX; go_simp⟩) hX ?_
  simp only [Act.put, List.setIfInBounds_toArray, List.set_cons_zero, List.set_cons_succ]
  refine wpAnyH_take_at (i := 4) (v := .pointer (some ⟨F.p, 0, none⟩)) 38 rfl rfl (by kernel_rfl) (by kernel_rfl) (by kernel_rfl) (fun _ _ _ h => h) (.inl ⟨rfl, fun X hX => by go_simp⟩) hX ?_
  simp only [Act.put, List.setIfInBounds_toArray, List.set_cons_zero, List.set_cons_succ]
  refine wpAnyH_take_at (i := 5) (v := .int .u32 o) 39 rfl rfl (by kernel_rfl) (by kernel_rfl) (by kernel_rfl) (fun _ _ _ h => h) (.inl ⟨rfl, fun X hX => by go_simp⟩) hX ?_
  simp only [Act.put, List.setIfInBounds_toArray, List.set_cons_zero, List.set_cons_succ]
  refine wpAnyH_take_at (i := 9) (v := .slice (some ⟨g, 0, none⟩) m m) 43 rfl rfl (by kernel_rfl) (by kernel_rfl) (by kernel_rfl) (fun _ _ _ h => h) (.inl ⟨rfl, fun X hX => by go_simp⟩) hX ?_
  simp only [Act.put, List.setIfInBounds_toArray, List.set_cons_zero, List.set_cons_succ]
  refine wpAnyH_all (rs := [6]) (by kernel_rfl) (by decide) (fun i hi => ?_)
  rw [List.mem_singleton] at hi
  subst hi
  unfold wpOp
  go_simp
  refine .inl ((HAt.out _ _).mono ?_)
  rintro e X1 ⟨rfl, rfl⟩
  refine ⟨hX, ?_⟩
  refine wpAnyH_take_at (i := 7) (v := .int .i64 ((h.ws.length + 3 : Nat) : Int)) 41 rfl rfl (by kernel_rfl) (by kernel_rfl) (by kernel_rfl) (fun _ _ _ h => h) (.inl ⟨rfl, fun X hX => by go_simp; all_goals (first | omega | exact i64_self (by omega) (by omega) | (rw [i64_self (by omega) (by omega)]; omega))⟩) hX ?_
  simp only [Act.put, List.setIfInBounds_toArray, List.set_cons_zero, List.set_cons_succ]
  refine wpAnyH_take_at (i := 8) (v := (.slice (some ⟨F'.gw, h.ws.length + 3, none⟩) m (cw - (h.ws.length + 3)))) 42 rfl rfl (by kernel_rfl) (by kernel_rfl) (by kernel_rfl) (fun _ _ _ h => h) (.inl ⟨rfl, fun X hX => by go_simp; rw [if_pos ⟨by omega, by omega⟩, show ((h.ws.length : Int) + 3).toNat = h.ws.length + 3 by omega, if_neg (by omega), Nat.add_sub_cancel_left]⟩) hX ?_
  simp only [Act.put, List.setIfInBounds_toArray, List.set_cons_zero, List.set_cons_succ]
  refine wpAnyH_all (rs := [10]) (by kernel_rfl) (by decide) (fun i hi => ?_)
  rw [List.mem_singleton] at hi
  subst hi
  refine wpOp_plain rfl rfl ?_
  refine wp_copy_run _ (.tmp 42) (.tmp 43) 71 71 rfl _ _ rfl rfl _ _ HCP.out ?_
  replace hX := hXc
  refine ⟨hX, ?_⟩
  simp only [Act.put, List.setIfInBounds_toArray, List.set_cons_zero, List.set_cons_succ]
  refine wpAnyH_done (by kernel_rfl) ?_ _
  have HF := HST
  clear HK HCP hXc hX HST
  go_wp2_with fail
  go_ret2
  exact ⟨rfl, HF.out⟩
end
end Go.Proofs.YteiikhcadjdkcaaGreatDoor
namespace Go.Proofs.YteiikhcadjdkcaaGreatDoor
open Go Go.RowKit Go.Maps Limb
def entT (c : Nat) : Value := entV (1, .func 203, #[], #[.pointer (some ⟨c, 0, none⟩)])
def entC (c : Nat) : Value := entV (1, .func 204, #[], #[.pointer (some ⟨c, 0, none⟩)])
def entO (c : Nat) : Value := entV (0, .func 205, #[], #[.pointer (some ⟨c, 0, none⟩)])
def numL (c : List Nat) : List (Int × Value) := [(1, entT (c.getD 0 0)), (2, entT (c.getD 1 0)), (3, entT (c.getD 2 0)), (4, entT (c.getD 3 0)), (5, entT (c.getD 4 0)), (6, entT (c.getD 5 0)), (7, entT (c.getD 6 0)), (8, entC (c.getD 7 0)), (9, entC (c.getD 8 0)), (10, entC (c.getD 9 0)), (11, entC (c.getD 10 0)), (12, entC (c.getD 11 0)), (13, entC (c.getD 12 0)), (14, entT (c.getD 13 0)), (15, entT (c.getD 14 0)), (16, entT (c.getD 15 0)), (17, entT (c.getD 16 0)), (18, entO (c.getD 17 0)), (19, entO (c.getD 18 0))]
def numE (a : Nat) (c : List Nat) : List (Nat × TypeId × Value) := [(a, 126, .func (.func 76) #[] #[]), (c.getD 0 0, 129, .func (.func 78) #[] #[.pointer (some ⟨a, 0, none⟩)]), (c.getD 1 0, 129, .func (.func 79) #[] #[.pointer (some ⟨a, 0, none⟩)]), (c.getD 2 0, 129, .func (.func 80) #[] #[.pointer (some ⟨a, 0, none⟩)]), (c.getD 3 0, 129, .func (.func 81) #[] #[.pointer (some ⟨a, 0, none⟩)]), (c.getD 4 0, 129, .func (.func 83) #[] #[.pointer (some ⟨a, 0, none⟩)]), (c.getD 5 0, 129, .func (.func 84) #[] #[.pointer (some ⟨a, 0, none⟩)]), (c.getD 6 0, 129, .func (.func 85) #[] #[.pointer (some ⟨a, 0, none⟩)]), (c.getD 7 0, 132, .func (.func 87) #[] #[]), (c.getD 8 0, 132, .func (.func 88) #[] #[]), (c.getD 9 0, 132, .func (.func 89) #[] #[]), (c.getD 10 0, 132, .func (.func 90) #[] #[]), (c.getD 11 0, 132, .func (.func 91) #[] #[]), (c.getD 12 0, 132, .func (.func 92) #[] #[]), (c.getD 13 0, 129, .func (.func 93) #[] #[.pointer (some ⟨a, 0, none⟩)]), (c.getD 14 0, 129, .func (.func 94) #[] #[.pointer (some ⟨a, 0, none⟩)]), (c.getD 15 0, 129, .func (.func 95) #[] #[.pointer (some ⟨a, 0, none⟩)]), (c.getD 16 0, 129, .func (.func 96) #[] #[]), (c.getD 17 0, 39, .func (.func 98) #[] #[]), (c.getD 18 0, 39, .func (.func 99) #[] #[])]
def RowsE (w W : World) (b : Nat) (E : List (Nat × TypeId × Value)) : Prop := ∀ x ∈ E, x.1 ≠ b ∧ w.heap.size ≤ x.1 ∧ Row W x.1 x.2.1 [x.2.2]
theorem RowsE.below {w W W' : World} {b : Nat} {E : List (Nat × TypeId × Value)} (h : RowsE w W b E) (hb : Below W.heap.size W W') : RowsE w W' b E := fun x hx => ⟨(h x hx).1, (h x hx).2.1, (h x hx).2.2.below hb (h x hx).2.2.lt⟩
theorem RowsE.only {w W W' : World} {b : Nat} {E : List (Nat × TypeId × Value)} (h : RowsE w W b E) (ho : Only [b] W W') : RowsE w W' b E := fun x hx => ⟨(h x hx).1, (h x hx).2.1, (h x hx).2.2.only ho (fun hm => (h x hx).1 (List.mem_singleton.1 hm))⟩
theorem RowsE.add {w W : World} {b g : Nat} {t : TypeId} {v : Value} {E : List (Nat × TypeId × Value)} (h : RowsE w W b E) (h1 : g ≠ b) (h2 : w.heap.size ≤ g) (h3 : Row W g t [v]) : RowsE w W b (E ++ [(g, t, v)]) := fun x hx => by
  rcases List.mem_append.1 hx with hx | hx
  · exact h x hx
  · rw [List.mem_singleton.1 hx]; exact ⟨h1, h2, h3⟩
def OwnE (w W : World) (b : Nat) (l : List (Int × Value)) (E : List (Nat × TypeId × Value)) : Prop := OwnM w W b l ∧ RowsE w W b E
theorem OwnE.call {w W W' : World} {b : Nat} {l : List (Int × Value)} {E : List (Nat × TypeId × Value)} {t : TypeId} {v : Value} (h : OwnE w W b l E) (hb : Below W.heap.size W W') (hr : Row W' W.heap.size t [v]) : OwnE w W' b l (E ++ [(W.heap.size, t, v)]) :=
  ⟨h.1.below hb, (h.2.below hb).add (by have := h.1.2.1.lt; omega) h.1.2.2.size hr⟩
theorem wpList_insert_nextE {w W : World} {ops : Array Oper} {rest : List Oper} {o : Oper} {a : Act} {Q : Exit → Act → World → Prop} {b : Nat} {l : List (Int × Value)} {E : List (Nat × TypeId × Value)} {n k : Int} {f : Fn} {x1 x2 : Array Value}
    (H : Hid (OwnE w W b l E)) (m x y : Operand) (hg : o.guard = none) (hop : o.op = Op.insert 66 m x y) (hm : a.eval m = .map (some b)) (hx : a.eval x = .int .i64 n) (hv : a.eval y = entV (k, f, x1, x2)) (hn : (Lit.int .i64 n).wf = true) (hl : l.length ≤ 1000)
    (hK : ∀ W', Hid (OwnE w W' b (l ++ [(n, entV (k, f, x1, x2))]) E) → wpList Tryz.prog ops Q rest (a.put o.dst undef) W') : wpList Tryz.prog ops Q (o :: rest) a W :=
  wpList_insert_map W n (entV (k, f, x1, x2)) H.out.1.2.1 (heldR_ent _) m x y hg hop hm hx hv hn hl fun W' h1 h2 => hK W' (Lib.hid ⟨H.out.1.step h1 h2, H.out.2.only h2⟩)
set_option maxHeartbeats 6400000 in
set_option maxRecDepth 100000 in
theorem tab_numbers (w : World) : Calls Tryz.prog 51 #[] w fun e w' => ∃ b a c, e = .returned (.map (some b)) ∧ OwnE w w' b (numL c) (numE a c) := by
  have hmk := make_map
  obtain ⟨W1, h1, r1, b1, z1⟩ := alloc_row w 126 [.nilFunc]
  have q0 := r1.cell_at 0
  have f0 := r1.free 0
  simp only [List.getElem?_cons_zero] at q0
  obtain ⟨W2, h2⟩ : ∃ W, W = W1.setCell ⟨w.heap.size, 0, none⟩ (.func (.func 76) #[] #[]) := ⟨_, rfl⟩
  have hst : (store ⟨w.heap.size, 0, none⟩ (.func (.func 76) #[] #[])).run Tryz.prog (w.alloc (.cells #[.nilFunc] 126)) = .ok () W2 := by rw [h2, ← h1]; simp [store, Sem.run, q0, f0]
  have r2 : Row W2 w.heap.size 126 [.func (.func 76) #[] #[]] := by rw [h2]; exact r1.store_any 0 _
  have hb : Below w.heap.size w W2 := by rw [h2]; exact b1.setCell (by simp) _
  have hE0 : RowsE w (W2.alloc (.map #[] 0)) W2.heap.size ([] ++ [(w.heap.size, 126, .func (.func 76) #[] #[])]) :=
    RowsE.add (fun x hx => by cases hx) (by have := r2.lt; omega) (Nat.le_refl _) (r2.alloc _)
  have HO := Lib.hid (show OwnE w (W2.alloc (.map #[] 0)) W2.heap.size [] _ from ⟨OwnM.start hb, hE0⟩)
  clear h1 h2 r1 r2 b1 z1 q0 f0 hb hE0
  go_enter Tryz.func51, Tryz.ntmps51
  go_wp2_with (first
    | (refine wpList_insert_nextE HO _ _ _ rfl rfl rfl rfl rfl (by decide) (by simp) ?_; clear HO; intro W HO)
    | (go_at_call 77; refine (prim_two _ _ _ _).mono ?_; rintro e W ⟨rfl, hb, hr⟩; replace HO := Lib.hid (HO.out.call hb hr); clear hb hr; (try dsimp only))
    | (go_at_call 86; refine (prim_compare _ _ _ _).mono ?_; rintro e W ⟨rfl, hb, hr⟩; replace HO := Lib.hid (HO.out.call hb hr); clear hb hr; (try dsimp only))
    | (go_at_call 97; refine (prim_one _ _ _ _).mono ?_; rintro e W ⟨rfl, hb, hr⟩; replace HO := Lib.hid (HO.out.call hb hr); clear hb hr; (try dsimp only)))
  go_ret
  have hO := HO.out
  simp only [List.nil_append, List.cons_append, List.append_assoc] at hO
  exact ⟨_, _, [_, _, _, _, _, _, _, _, _, _, _, _, _, _, _, _, _, _, _], rfl, hO⟩
theorem num_at {w W : World} {b a : Nat} {c : List Nat} (h : RowsE w W b (numE a c)) :
    (w.heap.size ≤ a ∧ Row W a 126 [.func (.func 76) #[] #[]]) ∧ ∀ (i : Nat) (g : Nat) (t : TypeId) (v : Value), (numE a c)[i]? = some (g, t, v) → w.heap.size ≤ g ∧ Row W g t [v] :=
  ⟨(h _ (List.mem_of_getElem? (i := 0) rfl)).2, fun i g t v hi => (h _ (List.mem_of_getElem? hi)).2⟩
end Go.Proofs.YteiikhcadjdkcaaGreatDoor
