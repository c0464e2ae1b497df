/- The walk of package heap's Length. The walk of package heap's Make, of no bytes too. The tables of package prim whose entries hold closures. -/
import Derived.Test.YteiikhcadjdkcaaGreatDoorGX20
set_option linter.unusedVariables false
set_option linter.unusedSimpArgs false
namespace Go.Proofs.YteiikhcadjdkcaaGreatDoor
open Go Go.RowKit Limb
section
variable {w : World} {F : Foot} {h : Hp}
set_option maxHeartbeats 1600000 in
set_option maxRecDepth 100000 in
theorem heap_Length (H : HeapAt w F h) (o : Nat) (ho : o < 4294967296) :
    Calls Tryz.prog 214 #[.pointer (some ⟨F.p, 0, none⟩), .int .u32 o] w fun e w' => e = .returned (.tuple #[.int .i64 (hdX h o).len, .int .i64 (erX h o)]) ∧ Below w.heap.size w w' := by
  have HD := Lib.hid (heap_Header H o ho)
  have hok : (hdX h o).Ok ∨ hdX h o = hdZ := by
    unfold hdX
    by_cases hi : isO h o = true
    · rw [if_pos hi]; exact .inl (H.good.ok _ (isO_iff.1 hi).2.2).1
    · rw [if_neg hi]; exact .inr rfl
  have HLn := Lib.hid (heap_length (hdX h o) hok)
  generalize hdX h o = x at *
  generalize erX h o = er at *
  have ex : hdV x = .agg #[.int .i64 x.size, .int .i64 x.fmt, .int .i64 x.spare, .int .u32 x.cls, .int .u32 x.ser] := rfl
  have hd := HD.out
  have hl := HLn.out
  rw [ex] at hd hl
  have HD := Lib.hid hd
  have HLn := Lib.hid hl
  generalize x.len = ln at *
  clear hd hl ex hok H
  go_enter Tryz.func214, Tryz.ntmps214
  go_wp2_with fail
  refine (HD.out).mono ?_
  rintro e V ⟨rfl, hB⟩
  (try dsimp only)
  obtain ⟨W, hW, r0, hb, hz⟩ := alloc_row V 102 [.int .i64 x.size, .int .i64 x.fmt, .int .i64 x.spare, .int .u32 x.cls, .int .u32 x.ser]
  have HW := Lib.hid hW; clear hW hz
  replace hB := hB.trans (hb.mono hB.size)
  clear hb r0
  go_wp2_with fail
  rw [← HW.out]
  refine (HLn.out W).mono ?_
  rintro e W2 ⟨rfl, hb⟩
  (try dsimp only)
  replace hB := hB.trans (hb.mono hB.size)
  clear hb
  go_wp2_with fail
  go_ret2
  exact ⟨rfl, hB⟩
end
end Go.Proofs.YteiikhcadjdkcaaGreatDoor
namespace Go.Proofs.YteiikhcadjdkcaaGreatDoor
open Go Go.RowKit Limb
section
variable {w : World} {F : Foot} {h : Hp}
set_option maxHeartbeats 3200000 in
set_option maxRecDepth 100000 in
theorem heap_MakeE (H : HeapAt w F h) (c : Nat) (a : Option Addr) (t : List Nat) (n cap o : Nat) (h' : Hp) (hlay : Lay .u8 w a t) (ht : B8 t) (hn : n = t.length) (hl : n ≤ 262140) (hp : makeP h c t = some (o, h')) :
    Calls Tryz.prog 22 #[.pointer (some ⟨F.p, 0, none⟩), .int .u32 c, .slice a n cap] w fun e w' => e = .returned (.tuple #[.int .u32 o, .int .i64 0]) ∧ Moved w F w' h' := by
  obtain ⟨hc, hr, ho, hh⟩ := makeP_some hp
  have hcl := clsO_lt H.good hc
  have HPk := Lib.hid (oop_packbytes w a t n cap hlay ht hn hl)
  obtain ⟨m, hm⟩ : ∃ m, m = (n + 3) / 4 := ⟨_, rfl⟩
  obtain ⟨sp, hsp⟩ : ∃ s, s = 4 * m - n := ⟨_, rfl⟩
  have hpk := HPk.out
  rw [← hm, ← hsp] at hpk
  have HPk := Lib.hid hpk
  rw [← hn, ← hm] at hr hh
  rw [← hsp] at hh
  have hbl : (packB t).length = m := by rw [packB_length, ← hn, hm]
  have hG : Limb.Good (addO h 2 sp c (packB t)) := by
    have := good_make H.good ht (by omega) hc (by rw [← hn, ← hm]; exact hr)
    rw [← hn, ← hm, ← hsp] at this; exact this
  have hG0 : Limb.Good (addO h 2 sp c (List.replicate m 0)) := by
    refine H.good.add (by rw [List.length_replicate]; exact hr) ⟨?_, ?_, ?_, ?_, ?_⟩ hcl (Lim.replicate _ (by decide)) ?_
    · show (List.replicate m 0).length ≤ 65535; simp; omega
    · show 1 ≤ 2; decide
    · show 2 ≤ 4; decide
    · show sp ≤ 3; omega
    · show sp = 0 ∨ (2 = 2 ∧ 0 < (List.replicate m 0).length); simp; omega
    · intro _ h3; rw [wd_replicate]; exact Nat.two_pow_pos _
  have hA := fun X (HX : HeapAt X F h) => heap_alloc HX ⟨m, 2, sp, c, 0⟩ hc hcl ⟨show m ≤ 65535 by omega, (by decide : 1 ≤ 2), (by decide : 2 ≤ 4), show sp ≤ 3 by omega, (by by_cases hm0 : m = 0; exact .inl (show sp = 0 by omega); exact .inr ⟨rfl, show 0 < m by omega⟩)⟩ hr 0 rfl hG0
  have ex : hdV ⟨m, 2, sp, c, 0⟩ = .agg #[.int .i64 m, .int .i64 (2 : Nat), .int .i64 sp, .int .u32 c, .int .u32 (0 : Nat)] := rfl
  have hA2 : ∀ X, HeapAt X F h → Calls Tryz.prog 48 #[.pointer (some ⟨F.p, 0, none⟩), .agg #[.int .i64 m, .int .i64 2, .int .i64 sp, .int .u32 c, .int .u32 0]] X fun e w' => ∃ F', e = .returned (.tuple #[.int .u32 o, .int .i64 0]) ∧ Step X F w' F' (addO h 2 sp c (List.replicate m 0)) := fun X HX =>
    (hA X HX).mono fun e w' ⟨F', a, b⟩ => ⟨F', by rw [ho]; exact a, b⟩
  have HA := Lib.hid hA2
  have HE := Lib.hid (fun X (hb : Below w.heap.size w X) => H.below hb)
  have hFl := H.lt
  have hsm := H.small
  have hpos := H.good.pos
  have hoi : o < 4294967296 ∧ kindN o = 2 ∧ o / 2 = h.ws.length := by
    have e : o = 2 * h.ws.length := ho
    exact ⟨by omega, kind_two.2 ⟨by omega, by omega⟩, by omega⟩
  have hat := fun X p => heap_at o hoi.1 X p
  have e5 : idxN o = h.ws.length := by unfold idxN; rw [if_pos hoi.2.1, hoi.2.2]
  rw [e5] at hat
  have HAt := Lib.hid hat
  have Hh := Lib.hid hh
  have hfit : h.ws.length + 3 + m ≤ h.size := by
    unfold room at hr; rw [Bool.and_eq_true, decide_eq_true_eq] at hr; exact hr.1
  have HBL := Lib.hid hbl
  clear hpk hA hA2 ex hp hc hr ho hh hoi hat e5 hlay hsp hm hG0 H hn ht hbl
  go_enter Tryz.func22, Tryz.ntmps22
  go_wp2_with fail
  refine (HPk.out).mono ?_
  rintro e W1 ⟨⟨g, rfl, hg, hrow⟩, hB⟩
  (try dsimp only)
  clear HPk
  have H1 := HE.out W1 hB
  go_wp2_with fail
  refine (HA.out W1 H1).mono ?_
  rintro e V ⟨F', rfl, hS⟩
  (try dsimp only)
  have hgl := hrow.lt
  have hrow2 : Row V g 29 (nums .u32 (packB t)) := hS.beside hrow (fun hm => by have := hFl _ hm; omega)
  have hne : g ≠ F'.gw := by
    rcases hS.2.1.gw with e | e
    · have := hFl _ (mem_gw F); omega
    · omega
  have HV := hS.1
  have hbl := HBL.out
  have HS := Lib.hid hS
  obtain ⟨cw, cs, c0, -, -, -, -, sw, -⟩ := HV.cells
  have hlen : (addO h 2 sp c (List.replicate m 0)).ws.length = h.ws.length + 3 + m := by rw [addO_len]; simp
  rw [hlen] at c0 sw
  obtain ⟨cur, q1, q2, q3, q4, q5, q6⟩ := sw
  have hFp : F'.p = F.p := hS.2.1.p
  have hap : F'.p ≠ F'.gw := HV.apart.1
  have hFpl : F'.p < V.heap.size := HV.lt _ (mem_p F')
  rw [hFp] at c0 hap hFpl
  have HK := Lib.hid (fun X (hX : Only [F'.gw] V X) => show X.cell? ⟨F.p, 0, none⟩ = some (.slice (some ⟨F'.gw, 0, none⟩) (h.ws.length + 3 + m) cw) from by rw [← c0]; exact World.cell?_of_block (hX.block _ hFpl (by simp; exact hap)))
  have hcurl : cur.length = cw := q2
  have hnl : (nums IntKind.u32 (packB t)).length = m := by rw [nums_length, hbl]
  obtain ⟨Da, hDa, hcp⟩ : ∃ Da : Addr, (if cw = h.ws.length + 3 then (some ⟨F'.gw, 0, none⟩ : Option Addr) else some ⟨F'.gw, h.ws.length + 3, none⟩) = some Da ∧ (Builtin.copy_ #[71, 71] 3 #[.slice (some Da) m (cw - (h.ws.length + 3)), .slice (some ⟨g, 0, none⟩) m m]).run Tryz.prog V.drew = .ok (goInt m) (V.drew.setRow F'.gw (cur.toArray.toList.take (h.ws.length + 3) ++ nums .u32 (packB t) ++ cur.toArray.toList.drop (h.ws.length + 3 + m)).toArray) := by
    by_cases hcw : cw = h.ws.length + 3
    · obtain rfl : m = 0 := by omega
      refine ⟨⟨F'.gw, 0, none⟩, if_pos hcw, ?_⟩
      have hcp := run_copy_row (P := Tryz.prog) V.drew 71 71 3 29 F'.gw 0 0 (cw - (h.ws.length + 3)) ⟨g, 0, none⟩ 0 0 cur.toArray 29 (nums .u32 (packB t)) Tryz.underlying71 (by kernel_rfl) q1 (by rw [hnl]; rfl) (row_news (w := V.drew) hrow2) (by simp [hnl]) (by simp [nums, Value.oneCell'])
      have hnil : nums IntKind.u32 (packB t) = [] := List.eq_nil_of_length_eq_zero hnl
      rw [hnil] at hcp ⊢
      simpa using hcp
    · refine ⟨⟨F'.gw, h.ws.length + 3, none⟩, if_neg hcw, ?_⟩
      have hcp := run_copy_row (P := Tryz.prog) V.drew 71 71 3 29 F'.gw (h.ws.length + 3) m (cw - (h.ws.length + 3)) ⟨g, 0, none⟩ m m cur.toArray 29 (nums .u32 (packB t)) Tryz.underlying71 (by kernel_rfl) q1 (by rw [nums_length, hbl]; simp) (row_news (w := V.drew) hrow2) (by simp [nums_length, hbl]; omega) (by simp [nums, Value.oneCell'])
      rw [hnl] at hcp
      exact hcp
  have HDa := Lib.hid hDa
  have HCP := Lib.hid hcp
  have hst := (HV.drew).copied hbl hG (w := V.drew) q1 q2 q4 q6 (by rw [hFp]; exact c0)
  rw [List.append_assoc] at hst
  have HST := Lib.hid (show Moved w F _ h' from ⟨F', by rw [Hh.out]; exact Step.of_below hB ((HS.out).trans (Step.of_below (w' := V.drew) (Below.refl _ _).drew hst))⟩)
  have hXc : Only [F'.gw] V (V.drew.setRow F'.gw (cur.toArray.toList.take (h.ws.length + 3) ++ nums .u32 (packB t) ++ cur.toArray.toList.drop (h.ws.length + 3 + m)).toArray) := ((Only.refl _ V).drew).trans (only_setRow _ _ _) (fun q hq => .inl hq)
  clear hcp hst hrow2 HS q1 q2 q5 q6 hS H1 hrow HA HE hbl hnl hlen hDa hcurl
  go_wp2_with fail
  have hX : Only [F'.gw] V V.drew := (Only.refl _ _).drew
  refine wp_region_held (S := fun X => Only [F'.gw] V X) (by kernel_rfl) ?_
  refine wpAnyH_take_at (i := 0) (v := .pointer (some ⟨F.p, 0, none⟩)) 34 rfl rfl (by kernel_rfl) (by kernel_rfl) (by kernel_rfl) (fun _ _ _ h => h) (.inl ⟨rfl, fun X hX => by go_simp⟩) hX ?_
  simp only [Act.put, List.setIfInBounds_toArray, List.set_cons_zero, List.set_cons_succ]
  refine wpAnyH_take_at (i := 1) (v := .pointer (some ⟨F.p, 0, none⟩)) 35 rfl rfl (by kernel_rfl) (by kernel_rfl) (by kernel_rfl) (fun _ _ _ h => h) (.inl ⟨rfl, fun X hX => by go_simp⟩) hX ?_
  simp only [Act.put, List.setIfInBounds_toArray, List.set_cons_zero, List.set_cons_succ]
  refine wpAnyH_take_at (i := 2) (v := .pointer (some ⟨F.p, 0, none⟩)) 36 rfl rfl (by kernel_rfl) (by kernel_rfl) (by kernel_rfl) (fun _ _ _ h => h) (.inl ⟨rfl, fun X hX => by go_simp⟩) hX ?_
  simp only [Act.put, List.setIfInBounds_toArray, List.set_cons_zero, List.set_cons_succ]
  refine wpAnyH_take_at (i := 3) (v := .slice (some ⟨F'.gw, 0, none⟩) (h.ws.length + 3 + m) cw) 37 rfl rfl (by kernel_rfl) (by kernel_rfl) (by kernel_rfl) (fun _ _ _ h => h) (.inl ⟨rfl, fun X hX => by have c0 := HK.out X hX; go_simp⟩) hX ?_
  simp only [Act.put, List.setIfInBounds_toArray, List.set_cons_zero, List.set_cons_succ]
  refine wpAnyH_take_at (i := 4) (v := .pointer (some ⟨F.p, 0, none⟩)) 38 rfl rfl (by kernel_rfl) (by kernel_rfl) (by kernel_rfl) (fun _ _ _ h => h) (.inl ⟨rfl, fun X hX => by go_simp⟩) hX ?_
  simp only [Act.put, List.setIfInBounds_toArray, List.set_cons_zero, List.set_cons_succ]
  refine wpAnyH_take_at (i := 5) (v := .int .u32 o) 39 rfl rfl (by kernel_rfl) (by kernel_rfl) (by kernel_rfl) (fun _ _ _ h => h) (.inl ⟨rfl, fun X hX => by go_simp⟩) hX ?_
  simp only [Act.put, List.setIfInBounds_toArray, List.set_cons_zero, List.set_cons_succ]
  refine wpAnyH_take_at (i := 9) (v := .slice (some ⟨g, 0, none⟩) m m) 43 rfl rfl (by kernel_rfl) (by kernel_rfl) (by kernel_rfl) (fun _ _ _ h => h) (.inl ⟨rfl, fun X hX => by go_simp⟩) hX ?_
  simp only [Act.put, List.setIfInBounds_toArray, List.set_cons_zero, List.set_cons_succ]
  refine wpAnyH_all (rs := [6]) (by kernel_rfl) (by decide) (fun i hi => ?_)
  rw [List.mem_singleton] at hi
  subst hi
  unfold wpOp
  go_simp
  refine .inl ((HAt.out _ _).mono ?_)
  rintro e X1 ⟨rfl, rfl⟩
  refine ⟨hX, ?_⟩
  refine wpAnyH_take_at (i := 7) (v := .int .i64 ((h.ws.length + 3 : Nat) : Int)) 41 rfl rfl (by kernel_rfl) (by kernel_rfl) (by kernel_rfl) (fun _ _ _ h => h) (.inl ⟨rfl, fun X hX => by go_simp; all_goals (first | omega | exact i64_self (by omega) (by omega) | (rw [i64_self (by omega) (by omega)]; omega))⟩) hX ?_
  simp only [Act.put, List.setIfInBounds_toArray, List.set_cons_zero, List.set_cons_succ]
  refine wpAnyH_take_at (i := 8) (v := (.slice (some Da) m (cw - (h.ws.length + 3)))) 42 rfl rfl (by kernel_rfl) (by kernel_rfl) (by kernel_rfl) (fun _ _ _ h => h) (.inl ⟨rfl, fun X hX => by go_simp; rw [if_pos ⟨by omega, by omega⟩, show ((h.ws.length : Int) + 3).toNat = h.ws.length + 3 by omega, Nat.add_sub_cancel_left, HDa.out]⟩) hX ?_
  simp only [Act.put, List.setIfInBounds_toArray, List.set_cons_zero, List.set_cons_succ]
  refine wpAnyH_all (rs := [10]) (by kernel_rfl) (by decide) (fun i hi => ?_)
  rw [List.mem_singleton] at hi
  subst hi
  refine wpOp_plain rfl rfl ?_
  refine wp_copy_run _ (.tmp 42) (.tmp 43) 71 71 rfl _ _ rfl rfl _ _ HCP.out ?_
  replace hX := hXc
  refine ⟨hX, ?_⟩
  simp only [Act.put, List.setIfInBounds_toArray, List.set_cons_zero, List.set_cons_succ]
  refine wpAnyH_done (by kernel_rfl) ?_ _
  have HF := HST
  clear HK HCP hXc hX HST
  go_wp2_with fail
  go_ret2
  exact ⟨rfl, HF.out⟩
end
end Go.Proofs.YteiikhcadjdkcaaGreatDoor
namespace Go.Proofs.YteiikhcadjdkcaaGreatDoor
open Go Go.RowKit Go.Maps Limb
set_option maxRecDepth 100000 in
theorem prim_rename (w : World) (f : Fn) (x y : Array Value) : Calls Tryz.prog 150 #[.func f x y] w fun e w' => e = .returned (.func (.func 236) #[] #[.pointer (some ⟨w.heap.size, 0, none⟩)]) ∧ Below w.heap.size w w' := by
  have HB := Lib.hid ((Below.refl w.heap.size w).alloc (Nat.le_refl _) (.cells #[.func f x y] 162))
  go_enter Tryz.func150, Tryz.ntmps150
  go_wp2_with fail
  go_ret
  exact ⟨rfl, HB.out⟩
def msgK (i j : Nat) : List Int := [74, 75, 83, 84, 85, 86, 87, 88] ++ (List.range i).map (fun k : Nat => (70 : Int) + k) ++ (List.range j).map (fun k : Nat => (80 : Int) + k)
def MsgL (w W : World) (b i j : Nat) : Prop := ∃ l, OwnM w W b l ∧ l.map (·.1) = msgK i j
theorem wf64 {n : Int} (h1 : 0 ≤ n) (h2 : n ≤ 1000) : (Lit.int .i64 n).wf = true := by
  simp [Lit.wf, IntKind.min, IntKind.max, IntKind.signed, IntKind.bits]; omega
theorem msg_len {i j : Nat} {l : List (Int × Value)} (h : l.map (·.1) = msgK i j) (hi : i ≤ 4) (hj : j ≤ 3) : l.length ≤ 1000 := by
  have := congrArg List.length h
  unfold msgK at this
  simp at this
  omega
theorem msgK_i (k : Nat) : msgK k 0 ++ [70 + (k : Int)] = msgK (k + 1) 0 := by
  unfold msgK
  rw [List.range_succ, List.map_append]
  simp
theorem msgK_j (i k : Nat) : msgK i k ++ [80 + (k : Int)] = msgK i (k + 1) := by
  unfold msgK
  rw [List.range_succ, List.map_append]
  simp
set_option maxHeartbeats 3200000 in
set_option maxRecDepth 100000 in
theorem tab_messages (w : World) : Calls Tryz.prog 54 #[] w fun e w' => ∃ b l, e = .returned (.map (some b)) ∧ OwnM w w' b l ∧ l.map (·.1) = msgK 4 3 := by
  have hmk := make_map
  have HO := Lib.hid (OwnM.start (Below.refl w.heap.size w))
  go_enter Tryz.func54, Tryz.ntmps54
  go_wp2_with (first
    | (refine wpList_insert_next HO _ _ _ rfl rfl rfl rfl rfl (by decide) (by simp) ?_; clear HO; intro W HO)
    | (go_at_call 150; refine (prim_rename _ _ _ _).mono ?_; rintro e W ⟨rfl, hb⟩; replace HO := Lib.hid (HO.out.below hb); clear hb; (try dsimp only)))
  have HM : Hid (MsgL w W w.heap.size 0 0) := Lib.hid ⟨_, HO.out, rfl⟩
  clear HO hmk
  go_loopw [16] (fun i wr => ∃ k : Nat, k ≤ 4 ∧ i = .int .i64 k ∧ Hid (MsgL w wr w.heap.size k 0)) (fun i _ => 4 - (RowKit.intOf i).toNat)
  case atStart => exact ⟨0, Nat.zero_le _, rfl, HM⟩
  case round =>
    clear HM
    obtain ⟨k, hk, rfl, HM⟩ := hrel
    by_cases h0 : k < 4
    · obtain ⟨l, hO, hl⟩ := HM.out
      have hlen := msg_len hl hk (Nat.zero_le _)
      have hwf : (Lit.int .i64 (70 + (k : Int))).wf = true := wf64 (by omega) (by omega)
      have HO := Lib.hid hO
      have HL := Lib.hid hl
      clear hO hl HM
      go_wp2_with (refine wpList_update_next HO _ _ _ rfl rfl rfl rfl rfl hwf hlen ?_; clear HO; intro W HO)
      have HM : Hid (MsgL w W w.heap.size (k + 1) 0) := Lib.hid ⟨_, HO.out, by rw [List.map_append, HL.out]; exact msgK_i k⟩
      clear HO HL
      refine ⟨⟨k + 1, h0, by simp, HM⟩, ?_⟩
      simp [RowKit.intOf]; omega
    · obtain rfl : k = 4 := by omega
      rw [show ((4 : Nat) : Int) = 4 from rfl]
      go_wp2_with fail
      go_loopw [25] (fun i wr => ∃ k : Nat, k ≤ 3 ∧ i = .int .i64 k ∧ Hid (MsgL w wr w.heap.size 4 k)) (fun i _ => 3 - (RowKit.intOf i).toNat)
      case atStart => exact ⟨0, Nat.zero_le _, rfl, HM⟩
      case round =>
        clear HM
        obtain ⟨j, hj, rfl, HM⟩ := hrel
        by_cases h1 : j < 3
        · obtain ⟨l, hO, hl⟩ := HM.out
          have hlen := msg_len hl (Nat.le_refl _) hj
          have hwf : (Lit.int .i64 (80 + (j : Int))).wf = true := wf64 (by omega) (by omega)
          have HO := Lib.hid hO
          have HL := Lib.hid hl
          clear hO hl HM
          go_wp2_with (refine wpList_update_next HO _ _ _ rfl rfl rfl rfl rfl hwf hlen ?_; clear HO; intro W HO)
          have HM : Hid (MsgL w W w.heap.size 4 (j + 1)) := Lib.hid ⟨_, HO.out, by rw [List.map_append, HL.out]; exact msgK_j 4 j⟩
          clear HO HL
          refine ⟨⟨j + 1, h1, by simp, HM⟩, ?_⟩
          simp [RowKit.intOf]; omega
        · obtain rfl : j = 3 := by omega
          rw [show ((3 : Nat) : Int) = 3 from rfl]
          go_wp2_with fail
          go_ret
          obtain ⟨l, h2, h3⟩ := HM.out
          exact ⟨_, l, rfl, h2, h3⟩
end Go.Proofs.YteiikhcadjdkcaaGreatDoor
