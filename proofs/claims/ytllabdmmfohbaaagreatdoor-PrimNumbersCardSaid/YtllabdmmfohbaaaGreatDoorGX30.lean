/- The closures that two and compare make. The walks of package kernel: isGlobal, Symbol, Global. -/
import Derived.Test.YtllabdmmfohbaaaGreatDoorGX29
set_option linter.unusedVariables false
set_option linter.unusedSimpArgs false
namespace Go.Proofs.YtllabdmmfohbaaaGreatDoor
open Go Go.RowKit Limb
def resO (o : Option Int) : Option Nat := (resV o).map smallO
def RuleRes (R : Option Nat) (hp p r ga : Nat) (w w' : World) (e : Ending) : Prop :=
  match R with
  | some s => e = .returned (.int .i64 1) ∧ Row w' p 57 (callC hp r (some ⟨ga, 0, none⟩) 1 1 s) ∧ Only [p] w w'
  | none => e = .returned (.int .i64 0) ∧ Only [p] w w'
section
variable {w : World} {F : Foot} {h : Hp} {p r q ga b v : Nat} {f : FuncId} {caps : Array Value}
set_option maxHeartbeats 3200000 in
set_option maxRecDepth 100000 in
theorem two_fn {o : Option Int} (R : Row w p 57 (callC F.p r (some ⟨ga, 0, none⟩) 1 1 v)) (A : Row w ga 30 [.int .u32 (q : Nat)]) (B : Row w b 114 [.func (.func f) #[] caps])
    (hr : r % 2 = 1) (hr2 : r < 4294967296) (hq : q % 2 = 1) (hq2 : q < 4294967296) (eF : ∀ args w, (callFunc f args).run Tryz.prog w = .ok (.enter f args) w)
    (HF : ∀ X, Below w.heap.size w X → Calls Tryz.prog f (#[.int .i64 (valueO r), .int .i64 (valueO q)] ++ caps) X fun e X' => FnAns o e ∧ Below X.heap.size X X') :
    Calls Tryz.prog 200 #[.pointer (some ⟨p, 0, none⟩), .pointer (some ⟨b, 0, none⟩)] w fun e w' => RuleRes (resO o) F.p p r ga w w' e := by
  have HB := (Below.refl w.heap.size w)
  have SX := Lib.hid (fun X (hb : Below w.heap.size w X) => show X.cell? ⟨p, 2, none⟩ = some (.int .u32 (r : Nat)) ∧ X.cell? ⟨p, 3, none⟩ = some (.slice (some ⟨ga, 0, none⟩) 1 1) ∧ X.cell? ⟨ga, 0, none⟩ = some (.int .u32 (q : Nat)) from
    ⟨(R.below hb R.lt).cell_at 2, (R.below hb R.lt).cell_at 3, (A.below hb A.lt).cell_at 0⟩)
  have hX := SX.out _ HB.drew
  have HIx := Lib.hid (fun W => (A.sl (n := 1) rfl (by decide)).index 53 Tryz.underlying53 size_oop W .i64 0 (by decide))
  have HInts := Lib.hid (fun X g (rv : Row X g 30 [.int .u32 (r : Nat), .int .u32 (q : Nat)]) => prim_ints2 X g r q hr hr2 hq hq2 rv)
  have HF0 := Lib.hid HF
  have RB := Lib.hid B
  have RR := Lib.hid R
  clear HB R A B HF hr hr2 hq hq2
  go_enter Tryz.func200, Tryz.ntmps200
  go_wp2_with fail
  refine wp_region_held (S := fun X => X.cell? ⟨p, 2, none⟩ = some (.int .u32 (r : Nat)) ∧ X.cell? ⟨p, 3, none⟩ = some (.slice (some ⟨ga, 0, none⟩) 1 1) ∧ X.cell? ⟨ga, 0, none⟩ = some (.int .u32 (q : Nat))) (by kernel_rfl) ?_
  refine wpAnyH_take_at (i := 0) (v := .pointer (some ⟨p, 0, none⟩)) 8 rfl rfl (by kernel_rfl) (by kernel_rfl) (by kernel_rfl) (fun _ _ _ h => h) (.inl ⟨rfl, fun X hX => by go_simp⟩) hX ?_
  simp only [Act.put, List.setIfInBounds_toArray, List.set_cons_zero, List.set_cons_succ]
  refine wpAnyH_take_at (i := 1) (v := .pointer (some ⟨p, 0, none⟩)) 9 rfl rfl (by kernel_rfl) (by kernel_rfl) (by kernel_rfl) (fun _ _ _ h => h) (.inl ⟨rfl, fun X hX => by go_simp⟩) hX ?_
  simp only [Act.put, List.setIfInBounds_toArray, List.set_cons_zero, List.set_cons_succ]
  refine wpAnyH_take_at (i := 2) (v := .pointer (some ⟨p, 2, none⟩)) 10 rfl rfl (by kernel_rfl) (by kernel_rfl) (by kernel_rfl) (fun _ _ _ h => h) (.inl ⟨rfl, fun X hX => by go_simp⟩) hX ?_
  simp only [Act.put, List.setIfInBounds_toArray, List.set_cons_zero, List.set_cons_succ]
  refine wpAnyH_take_at (i := 3) (v := .int .u32 (r : Nat)) 11 rfl rfl (by kernel_rfl) (by kernel_rfl) (by kernel_rfl) (fun _ _ _ h => h) (.inl ⟨rfl, fun X hX => by obtain ⟨q2, q3, q4⟩ := hX; go_simp⟩) hX ?_
  simp only [Act.put, List.setIfInBounds_toArray, List.set_cons_zero, List.set_cons_succ]
  refine wpAnyH_take_at (i := 4) (v := .pointer (some ⟨p, 0, none⟩)) 12 rfl rfl (by kernel_rfl) (by kernel_rfl) (by kernel_rfl) (fun _ _ _ h => h) (.inl ⟨rfl, fun X hX => by go_simp⟩) hX ?_
  simp only [Act.put, List.setIfInBounds_toArray, List.set_cons_zero, List.set_cons_succ]
  refine wpAnyH_take_at (i := 5) (v := .pointer (some ⟨p, 0, none⟩)) 13 rfl rfl (by kernel_rfl) (by kernel_rfl) (by kernel_rfl) (fun _ _ _ h => h) (.inl ⟨rfl, fun X hX => by go_simp⟩) hX ?_
  simp only [Act.put, List.setIfInBounds_toArray, List.set_cons_zero, List.set_cons_succ]
  refine wpAnyH_take_at (i := 6) (v := .pointer (some ⟨p, 3, none⟩)) 14 rfl rfl (by kernel_rfl) (by kernel_rfl) (by kernel_rfl) (fun _ _ _ h => h) (.inl ⟨rfl, fun X hX => by go_simp⟩) hX ?_
  simp only [Act.put, List.setIfInBounds_toArray, List.set_cons_zero, List.set_cons_succ]
  refine wpAnyH_take_at (i := 7) (v := .slice (some ⟨ga, 0, none⟩) 1 1) 15 rfl rfl (by kernel_rfl) (by kernel_rfl) (by kernel_rfl) (fun _ _ _ h => h) (.inl ⟨rfl, fun X hX => by obtain ⟨q2, q3, q4⟩ := hX; go_simp⟩) hX ?_
  simp only [Act.put, List.setIfInBounds_toArray, List.set_cons_zero, List.set_cons_succ]
  refine wpAnyH_take_at (i := 8) (v := .pointer (some ⟨ga, 0, none⟩)) 16 rfl rfl (by kernel_rfl) (by kernel_rfl) (by kernel_rfl) (fun _ _ _ h => h) (.inl ⟨rfl, fun X hX => by have ix := HIx.out X; go_simp⟩) hX ?_
  simp only [Act.put, List.setIfInBounds_toArray, List.set_cons_zero, List.set_cons_succ]
  refine wpAnyH_take_at (i := 9) (v := .int .u32 (q : Nat)) 17 rfl rfl (by kernel_rfl) (by kernel_rfl) (by kernel_rfl) (fun _ _ _ h => h) (.inl ⟨rfl, fun X hX => by obtain ⟨q2, q3, q4⟩ := hX; go_simp⟩) hX ?_
  simp only [Act.put, List.setIfInBounds_toArray, List.set_cons_zero, List.set_cons_succ]
  refine wpAnyH_all (rs := [10]) (by kernel_rfl) (by decide) (fun i hi => ?_)
  rw [List.mem_singleton] at hi
  subst hi
  obtain ⟨V2, hV2, rv0, hbv, hzv⟩ := alloc_row w 30 [.int .u32 (r : Nat), .int .u32 (q : Nat)]
  have HV2 := Lib.hid hV2
  have rv := rv0.below (Below.refl _ _).drew rv0.lt
  have HI := Lib.hid (HInts.out _ _ rv)
  have HBV := Lib.hid (hbv.drew)
  clear hX hV2 hzv rv rv0 hbv
  unfold wpOp
  go_simp
  rw [← show V2 = _ from HV2.out]
  have hX := SX.out _ HBV.out
  refine .inl ⟨hX, ?_⟩
  (try simp only [Act.put, List.setIfInBounds_toArray, List.set_cons_zero, List.set_cons_succ])
  refine wpAnyH_all (rs := [11]) (by kernel_rfl) (by decide) (fun i hi => ?_)
  rw [List.mem_singleton] at hi
  subst hi
  unfold wpOp
  go_simp
  refine .inl ((HI.out).mono ?_)
  rintro e X2 ⟨g, c, rfl, hsl, hg, hb⟩
  have HB1 := Lib.hid (HBV.out.trans (hb.mono HBV.out.size))
  have HSl := Lib.hid hsl
  have HGe := Lib.hid (Nat.le_trans HBV.out.size hg)
  clear hX hsl hb hg HI HBV HV2
  have hX := SX.out _ HB1.out
  refine ⟨hX, ?_⟩
  (try simp only [Act.put, List.setIfInBounds_toArray, List.set_cons_zero, List.set_cons_succ])
  refine wpAnyH_take_at (i := 12) (v := .tuple #[.slice (some ⟨g, 0, none⟩) 2 c, .bool true]) 7 rfl rfl (by kernel_rfl) (by kernel_rfl) (by kernel_rfl) (fun _ _ _ h => h) (.inl ⟨rfl, fun X hX => by go_simp⟩) hX ?_
  simp only [Act.put, List.setIfInBounds_toArray, List.set_cons_zero, List.set_cons_succ]
  refine wpAnyH_take_at (i := 13) (v := .slice (some ⟨g, 0, none⟩) 2 c) 20 rfl rfl (by kernel_rfl) (by kernel_rfl) (by kernel_rfl) (fun _ _ _ h => h) (.inl ⟨rfl, fun X hX => by go_simp⟩) hX ?_
  simp only [Act.put, List.setIfInBounds_toArray, List.set_cons_zero, List.set_cons_succ]
  refine wpAnyH_take_at (i := 14) (v := .bool true) 21 rfl rfl (by kernel_rfl) (by kernel_rfl) (by kernel_rfl) (fun _ _ _ h => h) (.inl ⟨rfl, fun X hX => by go_simp⟩) hX ?_
  simp only [Act.put, List.setIfInBounds_toArray, List.set_cons_zero, List.set_cons_succ]
  refine wpAnyH_take_at (i := 15) (v := .slice (some ⟨g, 0, none⟩) 2 c) 4 rfl rfl (by kernel_rfl) (by kernel_rfl) (by kernel_rfl) (fun _ _ _ h => h) (.inl ⟨rfl, fun X hX => by go_simp⟩) hX ?_
  simp only [Act.put, List.setIfInBounds_toArray, List.set_cons_zero, List.set_cons_succ]
  refine wpAnyH_take_at (i := 16) (v := .bool true) 5 rfl rfl (by kernel_rfl) (by kernel_rfl) (by kernel_rfl) (fun _ _ _ h => h) (.inl ⟨rfl, fun X hX => by go_simp⟩) hX ?_
  simp only [Act.put, List.setIfInBounds_toArray, List.set_cons_zero, List.set_cons_succ]
  refine wpAnyH_done (by kernel_rfl) ?_ _
  have HJ0 := Lib.hid (fun W => HSl.out.index 50 Tryz.underlying50 size_int W .i64 0 (by decide))
  have HJ1 := Lib.hid (fun W => HSl.out.index 50 Tryz.underlying50 size_int W .i64 1 (by decide))
  obtain ⟨V, hV⟩ : ∃ V, V = X2 := ⟨_, rfl⟩
  have SY := Lib.hid (fun X (hb : Below X2.heap.size X2 X) => show X.cell? ⟨g, 0, none⟩ = some (.int .i64 (valueO r)) ∧ X.cell? ⟨g, 1, none⟩ = some (.int .i64 (valueO q)) ∧ X.cell? ⟨b, 0, none⟩ = some (.func (.func f) #[] caps) from
    ⟨(HSl.out.below hb).cell (i := 0) (by decide), (HSl.out.below hb).cell (i := 1) (by decide), ((RB.out.below HB1.out RB.out.lt).below hb (Nat.lt_of_lt_of_le RB.out.lt HB1.out.size)).cell_at 0⟩)
  have hY := SY.out _ (Below.refl _ _).drew
  clear hX hV
  have HBd := Lib.hid HB1.out.drew
  obtain ⟨z0, hz0⟩ : ∃ z, z = o.getD 0 := ⟨_, rfl⟩
  obtain ⟨k0, hk0⟩ : ∃ k, k = o.isSome := ⟨_, rfl⟩
  have HZ := Lib.hid (show o.getD 0 = z0 ∧ o.isSome = k0 from ⟨hz0.symm, hk0.symm⟩)
  clear hz0 hk0
  go_wp2_with fail
  refine wp_region_held (S := fun X => X.cell? ⟨g, 0, none⟩ = some (.int .i64 (valueO r)) ∧ X.cell? ⟨g, 1, none⟩ = some (.int .i64 (valueO q)) ∧ X.cell? ⟨b, 0, none⟩ = some (.func (.func f) #[] caps)) (by kernel_rfl) ?_
  have hX := hY
  clear hY
  refine wpAnyH_take_at (i := 0) (v := .func (.func f) #[] caps) 25 rfl rfl (by kernel_rfl) (by kernel_rfl) (by kernel_rfl) (fun _ _ _ h => h) (.inl ⟨rfl, fun X hX => by obtain ⟨q0, q1, qb⟩ := hX; go_simp⟩) hX ?_
  simp only [Act.put, List.setIfInBounds_toArray, List.set_cons_zero, List.set_cons_succ]
  refine wpAnyH_take_at (i := 1) (v := .slice (some ⟨g, 0, none⟩) 2 c) 26 rfl rfl (by kernel_rfl) (by kernel_rfl) (by kernel_rfl) (fun _ _ _ h => h) (.inl ⟨rfl, fun X hX => by go_simp⟩) hX ?_
  simp only [Act.put, List.setIfInBounds_toArray, List.set_cons_zero, List.set_cons_succ]
  refine wpAnyH_take_at (i := 2) (v := .pointer (some ⟨g, 0, none⟩)) 27 rfl rfl (by kernel_rfl) (by kernel_rfl) (by kernel_rfl) (fun _ _ _ h => h) (.inl ⟨rfl, fun X hX => by have ix := HJ0.out X; go_simp⟩) hX ?_
  simp only [Act.put, List.setIfInBounds_toArray, List.set_cons_zero, List.set_cons_succ]
  refine wpAnyH_take_at (i := 3) (v := .int .i64 (valueO r)) 28 rfl rfl (by kernel_rfl) (by kernel_rfl) (by kernel_rfl) (fun _ _ _ h => h) (.inl ⟨rfl, fun X hX => by obtain ⟨q0, q1, qb⟩ := hX; go_simp⟩) hX ?_
  simp only [Act.put, List.setIfInBounds_toArray, List.set_cons_zero, List.set_cons_succ]
  refine wpAnyH_take_at (i := 4) (v := .slice (some ⟨g, 0, none⟩) 2 c) 29 rfl rfl (by kernel_rfl) (by kernel_rfl) (by kernel_rfl) (fun _ _ _ h => h) (.inl ⟨rfl, fun X hX => by go_simp⟩) hX ?_
  simp only [Act.put, List.setIfInBounds_toArray, List.set_cons_zero, List.set_cons_succ]
  refine wpAnyH_take_at (i := 5) (v := .pointer (some ⟨g, 1, none⟩)) 30 rfl rfl (by kernel_rfl) (by kernel_rfl) (by kernel_rfl) (fun _ _ _ h => h) (.inl ⟨rfl, fun X hX => by have ix := HJ1.out X; go_simp⟩) hX ?_
  simp only [Act.put, List.setIfInBounds_toArray, List.set_cons_zero, List.set_cons_succ]
  refine wpAnyH_take_at (i := 6) (v := .int .i64 (valueO q)) 31 rfl rfl (by kernel_rfl) (by kernel_rfl) (by kernel_rfl) (fun _ _ _ h => h) (.inl ⟨rfl, fun X hX => by obtain ⟨q0, q1, qb⟩ := hX; go_simp⟩) hX ?_
  simp only [Act.put, List.setIfInBounds_toArray, List.set_cons_zero, List.set_cons_succ]
  refine wpAnyH_all (rs := [7]) (by kernel_rfl) (by decide) (fun i hi => ?_)
  rw [List.mem_singleton] at hi
  subst hi
  unfold wpOp
  go_simp
  refine .inl ((HF0.out _ HBd.out).mono ?_)
  rintro e X3 ⟨he, hb⟩
  unfold FnAns at he
  rw [HZ.out.1, HZ.out.2] at he
  subst he
  have HB2 := Lib.hid (HBd.out.trans (hb.mono HBd.out.size))
  have HBx := Lib.hid ((Below.refl X2.heap.size X2).drew.trans hb)
  clear hX hb
  have hX := SY.out _ HBx.out
  refine ⟨hX, ?_⟩
  (try simp only [Act.put, List.setIfInBounds_toArray, List.set_cons_zero, List.set_cons_succ])
  refine wpAnyH_take_at (i := 8) (v := .tuple #[.int .i64 z0, .bool k0]) 24 rfl rfl (by kernel_rfl) (by kernel_rfl) (by kernel_rfl) (fun _ _ _ h => h) (.inl ⟨rfl, fun X hX => by go_simp⟩) hX ?_
  simp only [Act.put, List.setIfInBounds_toArray, List.set_cons_zero, List.set_cons_succ]
  refine wpAnyH_take_at (i := 9) (v := .int .i64 z0) 33 rfl rfl (by kernel_rfl) (by kernel_rfl) (by kernel_rfl) (fun _ _ _ h => h) (.inl ⟨rfl, fun X hX => by go_simp⟩) hX ?_
  simp only [Act.put, List.setIfInBounds_toArray, List.set_cons_zero, List.set_cons_succ]
  refine wpAnyH_take_at (i := 10) (v := .bool k0) 34 rfl rfl (by kernel_rfl) (by kernel_rfl) (by kernel_rfl) (fun _ _ _ h => h) (.inl ⟨rfl, fun X hX => by go_simp⟩) hX ?_
  simp only [Act.put, List.setIfInBounds_toArray, List.set_cons_zero, List.set_cons_succ]
  refine wpAnyH_take_at (i := 11) (v := .int .i64 z0) 6 rfl rfl (by kernel_rfl) (by kernel_rfl) (by kernel_rfl) (fun _ _ _ h => h) (.inl ⟨rfl, fun X hX => by go_simp⟩) hX ?_
  simp only [Act.put, List.setIfInBounds_toArray, List.set_cons_zero, List.set_cons_succ]
  refine wpAnyH_take_at (i := 12) (v := .bool k0) 5 rfl rfl (by kernel_rfl) (by kernel_rfl) (by kernel_rfl) (fun _ _ _ h => h) (.inl ⟨rfl, fun X hX => by go_simp⟩) hX ?_
  simp only [Act.put, List.setIfInBounds_toArray, List.set_cons_zero, List.set_cons_succ]
  refine wpAnyH_done (by kernel_rfl) ?_ _
  (try clear HN)
  have RR3 := Lib.hid (RR.out.below HB2.out RR.out.lt)
  have HO2 := Lib.hid (Only.of_below (ps := [p]) HB2.out)
  have e1 := HZ.out.1
  have e2 := HZ.out.2
  clear hX HZ HF0 SY SX HBx HBd RB RR HIx HJ0 HJ1 HSl HB1 HInts
  cases o with
  | none =>
    have e1 : 0 = z0 := e1
    have e2 : false = k0 := e2
    subst e1 e2
    go_wp2_with fail
    go_ret
    exact ⟨rfl, HO2.out⟩
  | some z =>
    have e1 : z = z0 := e1
    have e2 : true = k0 := e2
    subst e1 e2
    cases hs : isSm z with
    | true =>
      have hr : resO (some z) = some (smallO z) := by unfold resO resV; simp [hs]
      have HRe := Lib.hid hr
      have HN := Lib.hid (prim_number X3 p F.p r (some ⟨ga, 0, none⟩) 1 1 v z hs RR3.out)
      clear hs hr
      go_wp2_with fail
      refine HN.out.mono ?_
      rintro e W ⟨rfl, hr, ho⟩
      (try dsimp only)
      have HR := Lib.hid hr
      have HO3 := Lib.hid (HO2.out.trans ho (fun q hq => .inl hq))
      clear hr ho HN
      go_wp2_with fail
      go_ret
      rw [HRe.out]
      exact ⟨rfl, HR.out, HO3.out⟩
    | false =>
      have hr : resO (some z) = none := by unfold resO resV; simp [hs]
      have HRe := Lib.hid hr
      have HN := Lib.hid (prim_number_no X3 p z hs)
      clear hs hr
      go_wp2_with fail
      refine HN.out.mono ?_
      rintro e W ⟨rfl, rfl⟩
      (try dsimp only)
      go_wp2_with fail
      go_ret
      rw [HRe.out]
      exact ⟨rfl, HO2.out⟩
set_option maxHeartbeats 3200000 in
set_option maxRecDepth 100000 in
theorem cmp_fn {o : Bool} (H : HeapAt w F h) (R : Row w p 57 (callC F.p r (some ⟨ga, 0, none⟩) 1 1 v)) (A : Row w ga 30 [.int .u32 (q : Nat)]) (B : Row w b 117 [.func (.func f) #[] caps])
    (hr : r % 2 = 1) (hr2 : r < 4294967296) (hq : q % 2 = 1) (hq2 : q < 4294967296) (eF : ∀ args w, (callFunc f args).run Tryz.prog w = .ok (.enter f args) w)
    (HF : ∀ X, Below w.heap.size w X → Calls Tryz.prog f (#[.int .i64 (valueO r), .int .i64 (valueO q)] ++ caps) X fun e X' => e = .returned (.bool o) ∧ Below X.heap.size X X') :
    Calls Tryz.prog 201 #[.pointer (some ⟨p, 0, none⟩), .pointer (some ⟨b, 0, none⟩)] w fun e w' => RuleRes (some (wd h.rt (if o = true then 1 else 2))) F.p p r ga w w' e := by
  have HTr := Lib.hid (fun X (hb : Below w.heap.size w X) => prim_truth (H.below hb) o p r (some ⟨ga, 0, none⟩) 1 1 v (R.below hb R.lt))
  generalize wd h.rt (if o = true then 1 else 2) = tv at *
  have HB := (Below.refl w.heap.size w)
  have SX := Lib.hid (fun X (hb : Below w.heap.size w X) => show X.cell? ⟨p, 2, none⟩ = some (.int .u32 (r : Nat)) ∧ X.cell? ⟨p, 3, none⟩ = some (.slice (some ⟨ga, 0, none⟩) 1 1) ∧ X.cell? ⟨ga, 0, none⟩ = some (.int .u32 (q : Nat)) from
    ⟨(R.below hb R.lt).cell_at 2, (R.below hb R.lt).cell_at 3, (A.below hb A.lt).cell_at 0⟩)
  have hX := SX.out _ HB.drew
  have HIx := Lib.hid (fun W => (A.sl (n := 1) rfl (by decide)).index 53 Tryz.underlying53 size_oop W .i64 0 (by decide))
  have HInts := Lib.hid (fun X g (rv : Row X g 30 [.int .u32 (r : Nat), .int .u32 (q : Nat)]) => prim_ints2 X g r q hr hr2 hq hq2 rv)
  have HF0 := Lib.hid HF
  have RB := Lib.hid B
  have RR := Lib.hid R
  clear HB R A B HF hr hr2 hq hq2
  clear H
  go_enter Tryz.func201, Tryz.ntmps201
  go_wp2_with fail
  refine wp_region_held (S := fun X => X.cell? ⟨p, 2, none⟩ = some (.int .u32 (r : Nat)) ∧ X.cell? ⟨p, 3, none⟩ = some (.slice (some ⟨ga, 0, none⟩) 1 1) ∧ X.cell? ⟨ga, 0, none⟩ = some (.int .u32 (q : Nat))) (by kernel_rfl) ?_
  refine wpAnyH_take_at (i := 0) (v := .pointer (some ⟨p, 0, none⟩)) 7 rfl rfl (by kernel_rfl) (by kernel_rfl) (by kernel_rfl) (fun _ _ _ h => h) (.inl ⟨rfl, fun X hX => by go_simp⟩) hX ?_
  simp only [Act.put, List.setIfInBounds_toArray, List.set_cons_zero, List.set_cons_succ]
  refine wpAnyH_take_at (i := 1) (v := .pointer (some ⟨p, 0, none⟩)) 8 rfl rfl (by kernel_rfl) (by kernel_rfl) (by kernel_rfl) (fun _ _ _ h => h) (.inl ⟨rfl, fun X hX => by go_simp⟩) hX ?_
  simp only [Act.put, List.setIfInBounds_toArray, List.set_cons_zero, List.set_cons_succ]
  refine wpAnyH_take_at (i := 2) (v := .pointer (some ⟨p, 2, none⟩)) 9 rfl rfl (by kernel_rfl) (by kernel_rfl) (by kernel_rfl) (fun _ _ _ h => h) (.inl ⟨rfl, fun X hX => by go_simp⟩) hX ?_
  simp only [Act.put, List.setIfInBounds_toArray, List.set_cons_zero, List.set_cons_succ]
  refine wpAnyH_take_at (i := 3) (v := .int .u32 (r : Nat)) 10 rfl rfl (by kernel_rfl) (by kernel_rfl) (by kernel_rfl) (fun _ _ _ h => h) (.inl ⟨rfl, fun X hX => by obtain ⟨q2, q3, q4⟩ := hX; go_simp⟩) hX ?_
  simp only [Act.put, List.setIfInBounds_toArray, List.set_cons_zero, List.set_cons_succ]
  refine wpAnyH_take_at (i := 4) (v := .pointer (some ⟨p, 0, none⟩)) 11 rfl rfl (by kernel_rfl) (by kernel_rfl) (by kernel_rfl) (fun _ _ _ h => h) (.inl ⟨rfl, fun X hX => by go_simp⟩) hX ?_
  simp only [Act.put, List.setIfInBounds_toArray, List.set_cons_zero, List.set_cons_succ]
  refine wpAnyH_take_at (i := 5) (v := .pointer (some ⟨p, 0, none⟩)) 12 rfl rfl (by kernel_rfl) (by kernel_rfl) (by kernel_rfl) (fun _ _ _ h => h) (.inl ⟨rfl, fun X hX => by go_simp⟩) hX ?_
  simp only [Act.put, List.setIfInBounds_toArray, List.set_cons_zero, List.set_cons_succ]
  refine wpAnyH_take_at (i := 6) (v := .pointer (some ⟨p, 3, none⟩)) 13 rfl rfl (by kernel_rfl) (by kernel_rfl) (by kernel_rfl) (fun _ _ _ h => h) (.inl ⟨rfl, fun X hX => by go_simp⟩) hX ?_
  simp only [Act.put, List.setIfInBounds_toArray, List.set_cons_zero, List.set_cons_succ]
  refine wpAnyH_take_at (i := 7) (v := .slice (some ⟨ga, 0, none⟩) 1 1) 14 rfl rfl (by kernel_rfl) (by kernel_rfl) (by kernel_rfl) (fun _ _ _ h => h) (.inl ⟨rfl, fun X hX => by obtain ⟨q2, q3, q4⟩ := hX; go_simp⟩) hX ?_
  simp only [Act.put, List.setIfInBounds_toArray, List.set_cons_zero, List.set_cons_succ]
  refine wpAnyH_take_at (i := 8) (v := .pointer (some ⟨ga, 0, none⟩)) 15 rfl rfl (by kernel_rfl) (by kernel_rfl) (by kernel_rfl) (fun _ _ _ h => h) (.inl ⟨rfl, fun X hX => by have ix := HIx.out X; go_simp⟩) hX ?_
  simp only [Act.put, List.setIfInBounds_toArray, List.set_cons_zero, List.set_cons_succ]
  refine wpAnyH_take_at (i := 9) (v := .int .u32 (q : Nat)) 16 rfl rfl (by kernel_rfl) (by kernel_rfl) (by kernel_rfl) (fun _ _ _ h => h) (.inl ⟨rfl, fun X hX => by obtain ⟨q2, q3, q4⟩ := hX; go_simp⟩) hX ?_
  simp only [Act.put, List.setIfInBounds_toArray, List.set_cons_zero, List.set_cons_succ]
  refine wpAnyH_all (rs := [10]) (by kernel_rfl) (by decide) (fun i hi => ?_)
  rw [List.mem_singleton] at hi
  subst hi
  obtain ⟨V2, hV2, rv0, hbv, hzv⟩ := alloc_row w 30 [.int .u32 (r : Nat), .int .u32 (q : Nat)]
  have HV2 := Lib.hid hV2
  have rv := rv0.below (Below.refl _ _).drew rv0.lt
  have HI := Lib.hid (HInts.out _ _ rv)
  have HBV := Lib.hid (hbv.drew)
  clear hX hV2 hzv rv rv0 hbv
  unfold wpOp
  go_simp
  rw [← show V2 = _ from HV2.out]
  have hX := SX.out _ HBV.out
  refine .inl ⟨hX, ?_⟩
  (try simp only [Act.put, List.setIfInBounds_toArray, List.set_cons_zero, List.set_cons_succ])
  refine wpAnyH_all (rs := [11]) (by kernel_rfl) (by decide) (fun i hi => ?_)
  rw [List.mem_singleton] at hi
  subst hi
  unfold wpOp
  go_simp
  refine .inl ((HI.out).mono ?_)
  rintro e X2 ⟨g, c, rfl, hsl, hg, hb⟩
  have HB1 := Lib.hid (HBV.out.trans (hb.mono HBV.out.size))
  have HSl := Lib.hid hsl
  have HGe := Lib.hid (Nat.le_trans HBV.out.size hg)
  clear hX hsl hb hg HI HBV HV2
  have hX := SX.out _ HB1.out
  refine ⟨hX, ?_⟩
  (try simp only [Act.put, List.setIfInBounds_toArray, List.set_cons_zero, List.set_cons_succ])
  refine wpAnyH_take_at (i := 12) (v := .tuple #[.slice (some ⟨g, 0, none⟩) 2 c, .bool true]) 6 rfl rfl (by kernel_rfl) (by kernel_rfl) (by kernel_rfl) (fun _ _ _ h => h) (.inl ⟨rfl, fun X hX => by go_simp⟩) hX ?_
  simp only [Act.put, List.setIfInBounds_toArray, List.set_cons_zero, List.set_cons_succ]
  refine wpAnyH_take_at (i := 13) (v := .slice (some ⟨g, 0, none⟩) 2 c) 19 rfl rfl (by kernel_rfl) (by kernel_rfl) (by kernel_rfl) (fun _ _ _ h => h) (.inl ⟨rfl, fun X hX => by go_simp⟩) hX ?_
  simp only [Act.put, List.setIfInBounds_toArray, List.set_cons_zero, List.set_cons_succ]
  refine wpAnyH_take_at (i := 14) (v := .bool true) 20 rfl rfl (by kernel_rfl) (by kernel_rfl) (by kernel_rfl) (fun _ _ _ h => h) (.inl ⟨rfl, fun X hX => by go_simp⟩) hX ?_
  simp only [Act.put, List.setIfInBounds_toArray, List.set_cons_zero, List.set_cons_succ]
  refine wpAnyH_take_at (i := 15) (v := .slice (some ⟨g, 0, none⟩) 2 c) 4 rfl rfl (by kernel_rfl) (by kernel_rfl) (by kernel_rfl) (fun _ _ _ h => h) (.inl ⟨rfl, fun X hX => by go_simp⟩) hX ?_
  simp only [Act.put, List.setIfInBounds_toArray, List.set_cons_zero, List.set_cons_succ]
  refine wpAnyH_take_at (i := 16) (v := .bool true) 5 rfl rfl (by kernel_rfl) (by kernel_rfl) (by kernel_rfl) (fun _ _ _ h => h) (.inl ⟨rfl, fun X hX => by go_simp⟩) hX ?_
  simp only [Act.put, List.setIfInBounds_toArray, List.set_cons_zero, List.set_cons_succ]
  refine wpAnyH_done (by kernel_rfl) ?_ _
  have HJ0 := Lib.hid (fun W => HSl.out.index 50 Tryz.underlying50 size_int W .i64 0 (by decide))
  have HJ1 := Lib.hid (fun W => HSl.out.index 50 Tryz.underlying50 size_int W .i64 1 (by decide))
  obtain ⟨V, hV⟩ : ∃ V, V = X2 := ⟨_, rfl⟩
  have SY := Lib.hid (fun X (hb : Below X2.heap.size X2 X) => show X.cell? ⟨g, 0, none⟩ = some (.int .i64 (valueO r)) ∧ X.cell? ⟨g, 1, none⟩ = some (.int .i64 (valueO q)) ∧ X.cell? ⟨b, 0, none⟩ = some (.func (.func f) #[] caps) from
    ⟨(HSl.out.below hb).cell (i := 0) (by decide), (HSl.out.below hb).cell (i := 1) (by decide), ((RB.out.below HB1.out RB.out.lt).below hb (Nat.lt_of_lt_of_le RB.out.lt HB1.out.size)).cell_at 0⟩)
  have hY := SY.out _ (Below.refl _ _).drew
  clear hX hV
  have HBd := Lib.hid HB1.out.drew
  have HNe := Lib.hid (show g ≠ p ∧ b ≠ p from ⟨fun e => by have := RR.out.lt; have := HGe.out; omega, RB.out.ne RR.out (by decide)⟩)
  go_wp2_with fail
  refine wp_region_held (S := fun X => X.cell? ⟨g, 0, none⟩ = some (.int .i64 (valueO r)) ∧ X.cell? ⟨g, 1, none⟩ = some (.int .i64 (valueO q)) ∧ X.cell? ⟨b, 0, none⟩ = some (.func (.func f) #[] caps)) (by kernel_rfl) ?_
  have hX := hY
  clear hY
  refine wpAnyH_take_at (i := 0) (v := .pointer (some ⟨p, 0, none⟩)) 23 rfl rfl (by kernel_rfl) (by kernel_rfl) (by kernel_rfl) (fun _ _ _ h => h) (.inl ⟨rfl, fun X hX => by go_simp⟩) hX ?_
  simp only [Act.put, List.setIfInBounds_toArray, List.set_cons_zero, List.set_cons_succ]
  refine wpAnyH_take_at (i := 1) (v := .func (.func f) #[] caps) 24 rfl rfl (by kernel_rfl) (by kernel_rfl) (by kernel_rfl) (fun _ _ _ h => h) (.inl ⟨rfl, fun X hX => by obtain ⟨q0, q1, qb⟩ := hX; go_simp⟩) hX ?_
  simp only [Act.put, List.setIfInBounds_toArray, List.set_cons_zero, List.set_cons_succ]
  refine wpAnyH_take_at (i := 2) (v := .slice (some ⟨g, 0, none⟩) 2 c) 25 rfl rfl (by kernel_rfl) (by kernel_rfl) (by kernel_rfl) (fun _ _ _ h => h) (.inl ⟨rfl, fun X hX => by go_simp⟩) hX ?_
  simp only [Act.put, List.setIfInBounds_toArray, List.set_cons_zero, List.set_cons_succ]
  refine wpAnyH_take_at (i := 3) (v := .pointer (some ⟨g, 0, none⟩)) 26 rfl rfl (by kernel_rfl) (by kernel_rfl) (by kernel_rfl) (fun _ _ _ h => h) (.inl ⟨rfl, fun X hX => by have ix := HJ0.out X; go_simp⟩) hX ?_
  simp only [Act.put, List.setIfInBounds_toArray, List.set_cons_zero, List.set_cons_succ]
  refine wpAnyH_take_at (i := 4) (v := .int .i64 (valueO r)) 27 rfl rfl (by kernel_rfl) (by kernel_rfl) (by kernel_rfl) (fun _ _ _ h => h) (.inl ⟨rfl, fun X hX => by obtain ⟨q0, q1, qb⟩ := hX; go_simp⟩) hX ?_
  simp only [Act.put, List.setIfInBounds_toArray, List.set_cons_zero, List.set_cons_succ]
  refine wpAnyH_take_at (i := 5) (v := .slice (some ⟨g, 0, none⟩) 2 c) 28 rfl rfl (by kernel_rfl) (by kernel_rfl) (by kernel_rfl) (fun _ _ _ h => h) (.inl ⟨rfl, fun X hX => by go_simp⟩) hX ?_
  simp only [Act.put, List.setIfInBounds_toArray, List.set_cons_zero, List.set_cons_succ]
  refine wpAnyH_take_at (i := 6) (v := .pointer (some ⟨g, 1, none⟩)) 29 rfl rfl (by kernel_rfl) (by kernel_rfl) (by kernel_rfl) (fun _ _ _ h => h) (.inl ⟨rfl, fun X hX => by have ix := HJ1.out X; go_simp⟩) hX ?_
  simp only [Act.put, List.setIfInBounds_toArray, List.set_cons_zero, List.set_cons_succ]
  refine wpAnyH_take_at (i := 7) (v := .int .i64 (valueO q)) 30 rfl rfl (by kernel_rfl) (by kernel_rfl) (by kernel_rfl) (fun _ _ _ h => h) (.inl ⟨rfl, fun X hX => by obtain ⟨q0, q1, qb⟩ := hX; go_simp⟩) hX ?_
  simp only [Act.put, List.setIfInBounds_toArray, List.set_cons_zero, List.set_cons_succ]
  refine wpAnyH_all (rs := [8]) (by kernel_rfl) (by decide) (fun i hi => ?_)
  rw [List.mem_singleton] at hi
  subst hi
  unfold wpOp
  go_simp
  refine .inl ((HF0.out _ HBd.out).mono ?_)
  rintro e X3 ⟨rfl, hb⟩
  have HB2 := Lib.hid (HBd.out.trans (hb.mono HBd.out.size))
  have HBx := Lib.hid ((Below.refl X2.heap.size X2).drew.trans hb)
  clear hX hb
  have hX := SY.out _ HBx.out
  have HT := Lib.hid (HTr.out X3 HB2.out)
  refine ⟨hX, ?_⟩
  (try simp only [Act.put, List.setIfInBounds_toArray, List.set_cons_zero, List.set_cons_succ])
  refine wpAnyH_all (rs := [9]) (by kernel_rfl) (by decide) (fun i hi => ?_)
  rw [List.mem_singleton] at hi
  subst hi
  unfold wpOp
  go_simp
  refine .inl ((HT.out).mono ?_)
  rintro e X4 ⟨rfl, hr4, ho4⟩
  have HR4 := Lib.hid hr4
  have HO4 := Lib.hid ((Only.of_below (ps := [p]) HB2.out).trans ho4 (fun q hq => .inl hq))
  replace hX : X4.cell? ⟨g, 0, none⟩ = some (.int .i64 (valueO r)) ∧ X4.cell? ⟨g, 1, none⟩ = some (.int .i64 (valueO q)) ∧ X4.cell? ⟨b, 0, none⟩ = some (.func (.func f) #[] caps) := by
        have hne := HNe.out
        refine ⟨?_, ?_, ?_⟩
        · rw [World.cell?_of_block (ho4.block g (Nat.lt_of_lt_of_le HSl.out.lt HBx.out.size) (fun hm => hne.1 (List.mem_singleton.1 hm)))]; exact hX.1
        · rw [World.cell?_of_block (ho4.block g (Nat.lt_of_lt_of_le HSl.out.lt HBx.out.size) (fun hm => hne.1 (List.mem_singleton.1 hm)))]; exact hX.2.1
        · rw [World.cell?_of_block (ho4.block b (Nat.lt_of_lt_of_le RB.out.lt HB2.out.size) (fun hm => hne.2 (List.mem_singleton.1 hm)))]; exact hX.2.2
  refine ⟨hX, ?_⟩
  (try simp only [Act.put, List.setIfInBounds_toArray, List.set_cons_zero, List.set_cons_succ])
  refine wpAnyH_take_at (i := 10) (v := .int .i64 1) 3 rfl rfl (by kernel_rfl) (by kernel_rfl) (by kernel_rfl) (fun _ _ _ h => h) (.inl ⟨rfl, fun X hX => by go_simp⟩) hX ?_
  simp only [Act.put, List.setIfInBounds_toArray, List.set_cons_zero, List.set_cons_succ]
  refine wpAnyH_done (by kernel_rfl) ?_ _
  clear hX SX SY HF0 HTr HBx HBd RB HIx HJ0 HJ1 HSl HB1 HInts HB2
  go_wp2_with fail
  go_ret
  exact ⟨rfl, HR4.out, HO4.out⟩
end
end Go.Proofs.YtllabdmmfohbaaaGreatDoor
namespace Go.Proofs.YtllabdmmfohbaaaGreatDoor
open Go Go.RowKit Limb
section
variable {w : World} {F : Foot} {h : Hp}
theorem getF_fld {o i n : Nat} (hp : isF h o 1 n = true) (hi : i < n) : getF h o i = fld h o i := by
  unfold getF
  rw [if_pos]
  unfold isF at hp ⊢
  simp only [Bool.and_eq_true, decide_eq_true_eq] at hp ⊢
  exact ⟨hp.1, by omega⟩
set_option maxHeartbeats 1600000 in
set_option maxRecDepth 100000 in
theorem kernel_isGlobal (H : HeapAt w F h) (o : Nat) (ho : o < 4294967296) (S : ByteArray) (hS : S.size ≤ 262140) :
    Calls Tryz.prog 188 #[.pointer (some ⟨F.p, 0, none⟩), .int .u32 o, .string S] w fun e w' => e = .returned (.bool (isGlob h (tx S) o)) ∧ Below w.heap.size w w' := by
  have HP := Lib.hid (kernel_pointers H o 2 ho)
  obtain ⟨r, hr⟩ : ∃ b, b = isGlob h (tx S) o := ⟨_, rfl⟩
  have hr2 := hr
  unfold isGlob at hr2
  rw [← hr]
  have HR := Lib.hid hr2
  clear hr hr2
  cases hp : isF h o 1 2 with
  | false =>
    have hP := HP.out
    rw [hp] at hP
    have HP := Lib.hid hP
    obtain rfl : r = false := by rw [HR.out, hp]; rfl
    clear hP hp H HR
    go_enter Tryz.func188, Tryz.ntmps188
    go_wp2_with fail
    refine (HP.out).mono ?_
    rintro e V ⟨rfl, hB⟩
    (try dsimp only)
    go_wp2_with fail
    go_ret
    exact ⟨rfl, hB⟩
  | true =>
    have hP := HP.out
    rw [hp] at hP
    have HP := Lib.hid hP
    have hf := fun X (hb : Below w.heap.size w X) => kernel_field (H.below hb) o 0 ho (by decide)
    rw [getF_fld hp (by decide)] at hf
    have HF := Lib.hid hf
    have hv := fld_lt32 H.good o 0
    have HRd := Lib.hid (fun X (hb : Below w.heap.size w X) => kernel_reads (H.below hb) (fld h o 0) hv S hS)
    have hrr := HR.out
    rw [hp, Bool.true_and] at hrr
    have HRR := Lib.hid hrr
    generalize fld h o 0 = v at *
    obtain ⟨b, hb0⟩ : ∃ b, b = readsO h (tx S) v := ⟨_, rfl⟩
    have hrd := HRd.out
    rw [← hb0] at hrd
    have HRd := Lib.hid hrd
    obtain rfl : r = b := by rw [HRR.out, hb0]
    clear hP hp H HR HRR hrr hf hrd hb0
    go_enter Tryz.func188, Tryz.ntmps188
    go_wp2_with fail
    refine (HP.out).mono ?_
    rintro e V ⟨rfl, hB⟩
    (try dsimp only)
    go_wp2_with fail
    refine (HF.out V hB).mono ?_
    rintro e V1 ⟨rfl, hb⟩
    (try dsimp only)
    replace hB := hB.trans (hb.mono hB.size)
    clear hb
    go_wp2_with fail
    refine (HRd.out _ hB).mono ?_
    rintro e V2 ⟨rfl, hb⟩
    (try dsimp only)
    replace hB := hB.trans (hb.mono hB.size)
    clear hb
    go_wp2_with fail
    go_ret
    exact ⟨rfl, hB⟩
theorem kernel_symbol_fn (S : ByteArray) (hS : S.size ≤ 262140) (a b : Nat) (X : World) (HX : HeapAt X F h) (ra : Row X a 22 [.pointer (some ⟨F.p, 0, none⟩)]) (rb : Row X b 9 [.string S]) (o : Nat) (ho : o < 4294967296) :
    Calls Tryz.prog 256 #[.int .u32 (o : Nat), .pointer (some ⟨a, 0, none⟩), .pointer (some ⟨b, 0, none⟩)] X fun e X' => e = .returned (.bool (readsO h (tx S) o)) ∧ Below X.heap.size X X' := by
  have HI := Lib.hid (kernel_reads HX o ho S hS)
  have c0 := ra.cell_at 0
  have c1 := rb.cell_at 0
  simp only [List.getElem?_cons_zero] at c0 c1
  generalize readsO h (tx S) o = v at *
  clear HX ra rb
  go_enter Tryz.func256, Tryz.ntmps256
  go_wp2_with fail
  refine (HI.out).mono ?_
  rintro e V ⟨rfl, hB⟩
  (try dsimp only)
  go_wp2_with fail
  go_ret
  exact ⟨rfl, hB⟩
set_option maxHeartbeats 1600000 in
set_option maxRecDepth 100000 in
theorem kernel_symbol (H : HeapAt w F h) (hL : Live h) (S : ByteArray) (hS : S.size ≤ 262140) :
    Calls Tryz.prog 183 #[.pointer (some ⟨F.p, 0, none⟩), .string S] w fun e w' => e = .returned (.int .u32 (symP h (tx S) : Nat)) ∧ Below w.heap.size w w' := by
  obtain ⟨W, hW, ra, hb1, hz1⟩ := alloc_row w 22 [.pointer (some ⟨F.p, 0, none⟩)]
  obtain ⟨V, hV, rb, hb2, hz2⟩ := alloc_row W 9 [.string S]
  rw [hz1] at rb
  have hB : Below w.heap.size w V := hb1.trans (hb2.mono (by omega))
  replace ra := ra.below hb2 ra.lt
  have HV := Lib.hid (show V = (w.alloc (.cells #[.pointer (some ⟨F.p, 0, none⟩)] 22)).alloc (.cells #[.string S] 9) by rw [hV, hW])
  have HH := H.below hB
  have hl := root_lt H.good 3
  have HR := Lib.hid (kernel_root HH 3 (by decide))
  have HFo := Lib.hid (found_symbol HH (wd h.rt 3) hl (readsO h (tx S)) (.pointer (some ⟨w.heap.size, 0, none⟩)) (.pointer (some ⟨w.heap.size + 1, 0, none⟩)) (fun X hx o ho => kernel_symbol_fn S hS _ _ X (HH.below hx) (ra.below hx ra.lt) (rb.below hx rb.lt) o ho))
  have HBa := Lib.hid (fun X (hb : Below w.heap.size w X) => kernel_bare (H.below hb) hL)
  have HFi := Lib.hid (fun X (hb : Below w.heap.size w X) k (hk : k ≤ 65535) => kernel_field (H.below hb) (wd h.rt 3) k hl hk)
  have HN := Lib.hid (show isF h (wd h.rt 3) 1 0 = false → symP h (tx S) = 0 from fun e => by unfold symP entries; rw [if_neg (by rw [e]; decide)]; rfl)
  have HN1 := Lib.hid (show isF h (wd h.rt 3) 1 0 = true → (Limb.ahead (wd h.rt 0) (flds h (wd h.rt 3))).find? (readsO h (tx S)) = none → symP h (tx S) = 0 from fun e e2 => by unfold symP entries; rw [if_pos e, e2]; rfl)
  have HS1 := Lib.hid (fun k (hk : k < (hdO h (wd h.rt 3)).size) (e : isF h (wd h.rt 3) 1 0 = true) (e2 : (Limb.ahead (wd h.rt 0) (flds h (wd h.rt 3))).find? (readsO h (tx S)) = some (fld h (wd h.rt 3) k)) => show symP h (tx S) = getF h (wd h.rt 3) k ∧ k ≤ 65535 from by
    have hs : (hdO h (wd h.rt 3)).size ≤ 65535 := by
      unfold isF at e; simp only [Bool.and_eq_true] at e
      exact (H.good.ok _ (isO_iff.1 e.1.1).2.2).1.size
    refine ⟨?_, by omega⟩
    unfold symP entries
    rw [if_pos e, e2]
    have : isF h (wd h.rt 3) 1 (k + 1) = true := by
      unfold isF at e ⊢
      simp only [Bool.and_eq_true, decide_eq_true_eq] at e ⊢
      exact ⟨e.1, by omega⟩
    rw [getF_fld this (by omega)]; rfl)
  have HPl := Lib.hid (show symP h (tx S) = symP h (tx S) from rfl)
  generalize hpl : symP h (tx S) = pl at *
  have Hpl := Lib.hid hpl
  generalize hroot : wd h.rt 3 = l at *
  have c0 := ra.cell_at 0
  simp only [List.getElem?_cons_zero] at c0
  clear hW hV hz1 hz2 hb1 hb2 HPl hpl hroot hL H
  go_enter Tryz.func183, Tryz.ntmps183
  go_wp2_with fail
  rw [← HV.out]
  go_wp2_with fail
  refine (HR.out).mono ?_
  rintro e V1 ⟨rfl, rfl⟩
  (try dsimp only)
  go_wp2_with fail
  refine (HFo.out).mono ?_
  rintro e V2 ⟨⟨z, rfl, hz⟩, hb⟩
  (try dsimp only)
  replace ra := ra.below hb ra.lt
  replace hB := hB.trans (hb.mono hB.size)
  clear hb c0 rb
  have c0 := ra.cell_at 0
  simp only [List.getElem?_cons_zero] at c0
  rcases hz with ⟨rfl, hz⟩ | ⟨k, rfl, hz1, hz2, hz3⟩
  · obtain rfl : pl = 0 := by
      cases e : isF h l 1 0 with
      | false => exact HN.out e
      | true => exact HN1.out e (hz e)
    clear hz HN HN1 HS1 Hpl HFo HR
    go_wp2_with fail
    go_ret
    exact ⟨rfl, hB⟩
  · obtain ⟨e1, e2⟩ := HS1.out k hz2 hz1 hz3
    have d1 : decide ((k : Int) < 0) = false := decide_eq_false (by omega)
    have hfi := fun X hb => HFi.out X hb k e2
    rw [← e1] at hfi
    have HFi1 := Lib.hid hfi
    clear hz1 hz2 hz3 HN HN1 HS1 Hpl HFo HR hfi e1
    go_wp2_with fail
    refine (HBa.out _ hB).mono ?_
    rintro e V3 ⟨rfl, hb⟩
    (try dsimp only)
    replace ra := ra.below hb ra.lt
    replace hB := hB.trans (hb.mono hB.size)
    clear hb c0
    have c0 := ra.cell_at 0
    simp only [List.getElem?_cons_zero] at c0
    go_wp2_with fail
    refine (HFi1.out _ hB).mono ?_
    rintro e V4 ⟨rfl, hb⟩
    (try dsimp only)
    replace hB := hB.trans (hb.mono hB.size)
    clear hb
    go_wp2_with fail
    go_ret
    exact ⟨rfl, hB⟩
theorem kernel_global_fn (S : ByteArray) (hS : S.size ≤ 262140) (a b : Nat) (X : World) (HX : HeapAt X F h) (ra : Row X a 22 [.pointer (some ⟨F.p, 0, none⟩)]) (rb : Row X b 9 [.string S]) (o : Nat) (ho : o < 4294967296) :
    Calls Tryz.prog 187 #[.int .u32 (o : Nat), .pointer (some ⟨a, 0, none⟩), .pointer (some ⟨b, 0, none⟩)] X fun e X' => e = .returned (.bool (isGlob h (tx S) o)) ∧ Below X.heap.size X X' := by
  have HI := Lib.hid (kernel_isGlobal HX o ho S hS)
  have c0 := ra.cell_at 0
  have c1 := rb.cell_at 0
  simp only [List.getElem?_cons_zero] at c0 c1
  generalize isGlob h (tx S) o = v at *
  clear HX ra rb
  go_enter Tryz.func187, Tryz.ntmps187
  go_wp2_with fail
  refine (HI.out).mono ?_
  rintro e V ⟨rfl, hB⟩
  (try dsimp only)
  go_wp2_with fail
  go_ret
  exact ⟨rfl, hB⟩
set_option maxHeartbeats 1600000 in
set_option maxRecDepth 100000 in
theorem kernel_global (H : HeapAt w F h) (hL : Live h) (S : ByteArray) (hS : S.size ≤ 262140) :
    Calls Tryz.prog 60 #[.pointer (some ⟨F.p, 0, none⟩), .string S] w fun e w' => e = .returned (.int .u32 (globP h (tx S) : Nat)) ∧ Below w.heap.size w w' := by
  obtain ⟨W, hW, ra, hb1, hz1⟩ := alloc_row w 22 [.pointer (some ⟨F.p, 0, none⟩)]
  obtain ⟨V, hV, rb, hb2, hz2⟩ := alloc_row W 9 [.string S]
  rw [hz1] at rb
  have hB : Below w.heap.size w V := hb1.trans (hb2.mono (by omega))
  replace ra := ra.below hb2 ra.lt
  have HV := Lib.hid (show V = (w.alloc (.cells #[.pointer (some ⟨F.p, 0, none⟩)] 22)).alloc (.cells #[.string S] 9) by rw [hV, hW])
  have HH := H.below hB
  have hl := root_lt H.good 4
  have HR := Lib.hid (kernel_root HH 4 (by decide))
  have HFo := Lib.hid (found_global HH (wd h.rt 4) hl (isGlob h (tx S)) (.pointer (some ⟨w.heap.size, 0, none⟩)) (.pointer (some ⟨w.heap.size + 1, 0, none⟩)) (fun X hx o ho => kernel_global_fn S hS _ _ X (HH.below hx) (ra.below hx ra.lt) (rb.below hx rb.lt) o ho))
  have HBa := Lib.hid (fun X (hb : Below w.heap.size w X) => kernel_bare (H.below hb) hL)
  have HFi := Lib.hid (fun X (hb : Below w.heap.size w X) k (hk : k ≤ 65535) => kernel_field (H.below hb) (wd h.rt 4) k hl hk)
  have HN := Lib.hid (show isF h (wd h.rt 4) 1 0 = false → globP h (tx S) = 0 from fun e => by unfold globP entries; rw [if_neg (by rw [e]; decide)]; rfl)
  have HN1 := Lib.hid (show isF h (wd h.rt 4) 1 0 = true → (Limb.ahead (wd h.rt 0) (flds h (wd h.rt 4))).find? (isGlob h (tx S)) = none → globP h (tx S) = 0 from fun e e2 => by unfold globP entries; rw [if_pos e, e2]; rfl)
  have HS1 := Lib.hid (fun k (hk : k < (hdO h (wd h.rt 4)).size) (e : isF h (wd h.rt 4) 1 0 = true) (e2 : (Limb.ahead (wd h.rt 0) (flds h (wd h.rt 4))).find? (isGlob h (tx S)) = some (fld h (wd h.rt 4) k)) => show globP h (tx S) = getF h (wd h.rt 4) k ∧ k ≤ 65535 from by
    have hs : (hdO h (wd h.rt 4)).size ≤ 65535 := by
      unfold isF at e; simp only [Bool.and_eq_true] at e
      exact (H.good.ok _ (isO_iff.1 e.1.1).2.2).1.size
    refine ⟨?_, by omega⟩
    unfold globP entries
    rw [if_pos e, e2]
    have : isF h (wd h.rt 4) 1 (k + 1) = true := by
      unfold isF at e ⊢
      simp only [Bool.and_eq_true, decide_eq_true_eq] at e ⊢
      exact ⟨e.1, by omega⟩
    rw [getF_fld this (by omega)]; rfl)
  have HPl := Lib.hid (show globP h (tx S) = globP h (tx S) from rfl)
  generalize hpl : globP h (tx S) = pl at *
  have Hpl := Lib.hid hpl
  generalize hroot : wd h.rt 4 = l at *
  have c0 := ra.cell_at 0
  simp only [List.getElem?_cons_zero] at c0
  clear hW hV hz1 hz2 hb1 hb2 HPl hpl hroot hL H
  go_enter Tryz.func60, Tryz.ntmps60
  go_wp2_with fail
  rw [← HV.out]
  go_wp2_with fail
  refine (HR.out).mono ?_
  rintro e V1 ⟨rfl, rfl⟩
  (try dsimp only)
  go_wp2_with fail
  refine (HFo.out).mono ?_
  rintro e V2 ⟨⟨z, rfl, hz⟩, hb⟩
  (try dsimp only)
  replace ra := ra.below hb ra.lt
  replace hB := hB.trans (hb.mono hB.size)
  clear hb c0 rb
  have c0 := ra.cell_at 0
  simp only [List.getElem?_cons_zero] at c0
  rcases hz with ⟨rfl, hz⟩ | ⟨k, rfl, hz1, hz2, hz3⟩
  · obtain rfl : pl = 0 := by
      cases e : isF h l 1 0 with
      | false => exact HN.out e
      | true => exact HN1.out e (hz e)
    clear hz HN HN1 HS1 Hpl HFo HR
    go_wp2_with fail
    go_ret
    exact ⟨rfl, hB⟩
  · obtain ⟨e1, e2⟩ := HS1.out k hz2 hz1 hz3
    have d1 : decide ((k : Int) < 0) = false := decide_eq_false (by omega)
    have hfi := fun X hb => HFi.out X hb k e2
    rw [← e1] at hfi
    have HFi1 := Lib.hid hfi
    clear hz1 hz2 hz3 HN HN1 HS1 Hpl HFo HR hfi e1
    go_wp2_with fail
    refine (HBa.out _ hB).mono ?_
    rintro e V3 ⟨rfl, hb⟩
    (try dsimp only)
    replace ra := ra.below hb ra.lt
    replace hB := hB.trans (hb.mono hB.size)
    clear hb c0
    have c0 := ra.cell_at 0
    simp only [List.getElem?_cons_zero] at c0
    go_wp2_with fail
    refine (HFi1.out _ hB).mono ?_
    rintro e V4 ⟨rfl, hb⟩
    (try dsimp only)
    replace hB := hB.trans (hb.mono hB.size)
    clear hb
    go_wp2_with fail
    go_ret
    exact ⟨rfl, hB⟩
end
end Go.Proofs.YtllabdmmfohbaaaGreatDoor
