/- The walks of the closures that join two words, and of joined of package large. -/
import Derived.Test.YtbffpkmfhkphdaaGreatDoorGPlain
import Derived.Test.YtbffpkmfhkphdaaGreatDoorGNat
import Derived.Test.YtbffpkmfhkphdaaGreatDoorGEach
import Derived.Test.YtbffpkmfhkphdaaGreatDoorGTree
import Derived.Laws.AppendOwn
import Derived.Maps.AppendAt
namespace Go.Proofs.YtbffpkmfhkphdaaGreatDoor
open Go Go.RowKit Limb

theorem wpOp_call_val {P : Program} {ops : Array Oper} {Q : Exit → Act → World → Prop} {K : Act → World → Prop} {i : Nat} {o : Oper} {a : Act} {w : World} {x : Operand} {xs : Array Operand} {ts : Array TypeId} {k : FuncId} {cap : Array Value} (hi : ops[i]? = some o) (hg : o.guard = none)
    (ho : o.op = .call { callee := .value x, args := xs, argTypes := ts }) (hx : a.eval x = .func (.func k) #[] cap) (hk : entersB P k = true) (h : Calls P k (xs.map a.eval ++ cap) w fun e w' => ∃ v, e = .returned v ∧ K (a.put o.dst v) w') : wpOp P ops Q i K a w := by
  refine wpOp_plain hi hg ?_
  unfold Oper.wp
  simp only [exec_call ho hx hk, Oper.upon]
  refine h.mono ?_
  rintro e w' ⟨v, rfl, h1⟩
  exact h1

theorem nums_one (K : IntKind) (x : Nat) : nums K [x] = [.int K (x : Nat)] := rfl
theorem ownsRow_drew {w : World} {B e s n : Nat} {v : Value} {xs : List Value} (h : w.ownsRow B e s v n xs) : w.drew.ownsRow B e s v n xs := h

theorem bits_and (w : World) (x y : Nat) (hx : x < 4294967296) (hy : y < 4294967296) : Calls Tryz.prog 66 #[.int .u32 (x : Nat), .int .u32 (y : Nat)] w fun e w' => e = .returned (.int .u32 (bop 1 x y : Nat)) ∧ w' = w := by
  have e1 := u32_and_nat x y hx hy
  go_enter Tryz.func66, Tryz.ntmps66
  go_wp2
  go_ret
  exact ⟨rfl, rfl⟩
theorem bits_or (w : World) (x y : Nat) (hx : x < 4294967296) (hy : y < 4294967296) : Calls Tryz.prog 67 #[.int .u32 (x : Nat), .int .u32 (y : Nat)] w fun e w' => e = .returned (.int .u32 (bop 2 x y : Nat)) ∧ w' = w := by
  have e1 := u32_or_nat x y hx hy
  go_enter Tryz.func67, Tryz.ntmps67
  go_wp2
  go_ret
  exact ⟨rfl, rfl⟩
theorem bits_xor (w : World) (x y : Nat) (hx : x < 4294967296) (hy : y < 4294967296) : Calls Tryz.prog 68 #[.int .u32 (x : Nat), .int .u32 (y : Nat)] w fun e w' => e = .returned (.int .u32 (bop 3 x y : Nat)) ∧ w' = w := by
  have e1 := u32_xor_nat x y hx hy
  go_enter Tryz.func68, Tryz.ntmps68
  go_wp2
  go_ret
  exact ⟨rfl, rfl⟩

theorem bjoin_take {op : Nat} {xs ys : List Nat} {j : Nat} (h1 : j < xs.length) (h2 : j < ys.length) : (bjoin op xs ys).take (j + 1) = (bjoin op xs ys).take j ++ [bop op (wd xs j) (wd ys j)] := by
  rw [take_wd (by unfold bjoin; rw [List.length_zipWith]; omega), wd_bjoin h1 h2]

set_option maxHeartbeats 3200000 in
set_option maxRecDepth 100000 in
theorem large_joined (w : World) (op : Nat) (g : FuncId) (hen : entersB Tryz.prog g = true) (hf : ∀ (X : World) (x y : Nat), x < 4294967296 → y < 4294967296 → Calls Tryz.prog g #[.int .u32 (x : Nat), .int .u32 (y : Nat)] X fun e X' => e = .returned (.int .u32 (bop op x y : Nat)) ∧ X' = X)
    (a b : Option Addr) (xs ys : List Nat) (n ca cb : Nat) (ha : Lay .u32 w a xs) (hb : Lay .u32 w b ys) (hx : Lim xs) (hy : Lim ys) (hn : n = xs.length) (hm : n = ys.length) (ln : n ≤ 1099511627776) :
    Calls Tryz.prog 69 #[.slice a n ca, .slice b n cb, .func (.func g) #[] #[]] w fun e w' => ∃ v, e = .returned v ∧ w'.ownsRow w.heap.size 60 1 v n (nums .u32 (bjoin op xs ys)) ∧ Below w.heap.size w w' := by
  obtain ⟨i0, hi, hz0, hz1, hz2⟩ := info_parts info32
  obtain ⟨b1, off1, hix, hcx, _⟩ := ha.use 22 60 Tryz.underlying22 size32 ca
  obtain ⟨b2, off2, hiy, hcy, _⟩ := hb.use 22 60 Tryz.underlying22 size32 cb
  rw [← hn] at hix hcx
  rw [← hm] at hiy hcy
  have Hn := Lib.hid hn; clear hn
  have Hm := Lib.hid hm; clear hm
  have HIX := Lib.hid hix; clear hix
  have HCX := Lib.hid hcx; clear hcx
  have HIY := Lib.hid hiy; clear hiy
  have HCY := Lib.hid hcy; clear hcy
  have hall : Hid ((bjoin op xs ys).take n = bjoin op xs ys) := Lib.hid (List.take_of_length_le (by rw [bjoin_length (by rw [← Hn.out, ← Hm.out]), ← Hn.out]; exact Nat.le_refl _))
  clear ha hb
  go_enter Tryz.func69, Tryz.ntmps69
  go_wp2
  go_loopw [7, 11] (fun lv i wr => ∃ j : Nat, j ≤ n ∧ i = .int .i64 j ∧ wr.ownsRow w.heap.size 60 1 lv j (nums .u32 ((bjoin op xs ys).take j)) ∧ Below w.heap.size w wr) (fun _ i _ => n - (intOf i).toNat)
  case atStart => exact ⟨0, by omega, rfl, World.ownsRow_nil _ _ _ _, Below.refl _ _⟩
  case round =>
    obtain ⟨j, hj, rfl, hown, hB⟩ := hrel
    by_cases hj1 : j < n
    · have Hst := Lib.hid (bjoin_take (op := op) (xs := xs) (ys := ys) (j := j) (by rw [← Hn.out]; exact hj1) (by rw [← Hm.out]; exact hj1))
      go_upto_region 5 with fail
      have hX : Below w.heap.size w wr.drew := hB.drew
      have hown' := ownsRow_drew hown
      refine wp_region_held (S := fun X => Below w.heap.size w X) (by kernel_rfl) ?_
      refine wpAnyH_take_at (i := 0) (v := u7) 14 rfl rfl (by kernel_rfl) (by kernel_rfl) (by kernel_rfl) (fun _ _ _ h => h) (.inl ⟨rfl, fun X hX => by go_simp⟩) hX ?_
      simp only [Act.put, List.setIfInBounds_toArray, List.set_cons_zero, List.set_cons_succ]
      refine wpAnyH_take_at (i := 1) (v := .func (.func g) #[] #[]) 15 rfl rfl (by kernel_rfl) (by kernel_rfl) (by kernel_rfl) (fun _ _ _ h => h) (.inl ⟨rfl, fun X hX => by go_simp⟩) hX ?_
      simp only [Act.put, List.setIfInBounds_toArray, List.set_cons_zero, List.set_cons_succ]
      refine wpAnyH_take_at (i := 2) (v := .slice a n ca) 16 rfl rfl (by kernel_rfl) (by kernel_rfl) (by kernel_rfl) (fun _ _ _ h => h) (.inl ⟨rfl, fun X hX => by go_simp⟩) hX ?_
      simp only [Act.put, List.setIfInBounds_toArray, List.set_cons_zero, List.set_cons_succ]
      refine wpAnyH_take_at (i := 3) (v := .int .i64 (j : Nat)) 17 rfl rfl (by kernel_rfl) (by kernel_rfl) (by kernel_rfl) (fun _ _ _ h => h) (.inl ⟨rfl, fun X hX => by go_simp⟩) hX ?_
      simp only [Act.put, List.setIfInBounds_toArray, List.set_cons_zero, List.set_cons_succ]
      refine wpAnyH_take_at (i := 4) (v := .pointer (some ⟨b1, off1 + j, none⟩)) 18 rfl rfl (by kernel_rfl) (by kernel_rfl) (by kernel_rfl) (fun _ _ _ h => h) (.inl ⟨rfl, fun X hX => by have i1 := HIX.out X .i64 j (by omega) (by omega); rw [Int.toNat_natCast] at i1; go_simp⟩) hX ?_
      simp only [Act.put, List.setIfInBounds_toArray, List.set_cons_zero, List.set_cons_succ]
      refine wpAnyH_take_at (i := 5) (v := .int .u32 (wd xs j : Nat)) 19 rfl rfl (by kernel_rfl) (by kernel_rfl) (by kernel_rfl) (fun _ _ _ h => h) (.inl ⟨rfl, fun X hX => by have i1 := HCX.out X hX j hj1; go_simp⟩) hX ?_
      simp only [Act.put, List.setIfInBounds_toArray, List.set_cons_zero, List.set_cons_succ]
      refine wpAnyH_take_at (i := 6) (v := .slice b n cb) 20 rfl rfl (by kernel_rfl) (by kernel_rfl) (by kernel_rfl) (fun _ _ _ h => h) (.inl ⟨rfl, fun X hX => by go_simp⟩) hX ?_
      simp only [Act.put, List.setIfInBounds_toArray, List.set_cons_zero, List.set_cons_succ]
      refine wpAnyH_take_at (i := 7) (v := .int .i64 (j : Nat)) 21 rfl rfl (by kernel_rfl) (by kernel_rfl) (by kernel_rfl) (fun _ _ _ h => h) (.inl ⟨rfl, fun X hX => by go_simp⟩) hX ?_
      simp only [Act.put, List.setIfInBounds_toArray, List.set_cons_zero, List.set_cons_succ]
      refine wpAnyH_take_at (i := 8) (v := .pointer (some ⟨b2, off2 + j, none⟩)) 22 rfl rfl (by kernel_rfl) (by kernel_rfl) (by kernel_rfl) (fun _ _ _ h => h) (.inl ⟨rfl, fun X hX => by have i1 := HIY.out X .i64 j (by omega) (by omega); rw [Int.toNat_natCast] at i1; go_simp⟩) hX ?_
      simp only [Act.put, List.setIfInBounds_toArray, List.set_cons_zero, List.set_cons_succ]
      refine wpAnyH_take_at (i := 9) (v := .int .u32 (wd ys j : Nat)) 23 rfl rfl (by kernel_rfl) (by kernel_rfl) (by kernel_rfl) (fun _ _ _ h => h) (.inl ⟨rfl, fun X hX => by have i1 := HCY.out X hX j hj1; go_simp⟩) hX ?_
      simp only [Act.put, List.setIfInBounds_toArray, List.set_cons_zero, List.set_cons_succ]
      refine wpAnyH_all (rs := [10]) (by kernel_rfl) (by decide) (fun i hi => ?_)
      rw [List.mem_singleton] at hi
      subst hi
      refine wpOp_call_val (k := g) (cap := #[]) rfl rfl rfl (by rfl) hen ?_
      simp only [List.map_toArray, List.map_cons, List.map_nil, Array.append_empty]
      refine (hf _ (wd xs j) (wd ys j) (hx.wd j) (hy.wd j)).mono ?_
      rintro e X1 ⟨rfl, rfl⟩
      refine ⟨_, rfl, hX, ?_⟩
      simp only [Act.put, List.setIfInBounds_toArray, List.set_cons_zero, List.set_cons_succ]
      refine wpAnyH_all (rs := [11]) (by kernel_rfl) (by decide) (fun i hi => ?_)
      rw [List.mem_singleton] at hi
      subst hi
      have hs := hX.size
      replace hX := hX.alloc hs (.cells #[.int .u32 (bop op (wd xs j) (wd ys j) : Nat)] 60)
      replace hown' := hown'.alloc (.cells #[.int .u32 (bop op (wd xs j) (wd ys j) : Nat)] 60)
      unfold wpOp
      go_simp
      refine .inl ⟨hX, ?_⟩
      refine wpAnyH_all (rs := [12]) (by kernel_rfl) (by decide) (fun i hi => ?_)
      rw [List.mem_singleton] at hi
      subst hi
      refine wpOp_plain rfl rfl ?_
      refine wp_append_own _ (.tmp 14) (.tmp 25) 22 rfl w.heap.size 60 i0 (.int .u32 0) 1 4 Tryz.underlying22 hi hz0 hz1 hz2 rfl (by decide) u7 j _ rfl hown' ⟨wr.heap.size, 0, none⟩ 1 1 [.int .u32 (bop op (wd xs j) (wd ys j) : Nat)] rfl rfl (cell_one_new _ _ _) (by simp [Value.oneCell']) (Nat.le_trans (show j + 1 ≤ 1099511627777 by omega) (by decide)) (by omega) hX.size ?_
      intro v' X3 hown2 hgr _
      have hb2 := below_grown hown' hgr hX.size
      replace hX := hX.trans hb2
      rw [← nums_one, ← nums_append] at hown2
      refine ⟨hX, ?_⟩
      simp only [Act.put, List.setIfInBounds_toArray, List.set_cons_zero, List.set_cons_succ]
      refine wpAnyH_take_at (i := 13) (v := v') 7 rfl rfl (by kernel_rfl) (by kernel_rfl) (by kernel_rfl) (fun _ _ _ h => h) (.inl ⟨rfl, fun X hX => by go_simp⟩) hX ?_
      simp only [Act.put, List.setIfInBounds_toArray, List.set_cons_zero, List.set_cons_succ]
      refine wpAnyH_done (by kernel_rfl) ?_ _
      go_wp2
      go_roundw
      case rel => exact ⟨j + 1, by omega, by go_num, by rw [Hst.out]; exact hown2, hX⟩
      case measure => simp [intOf]; omega
    · obtain rfl : j = n := by omega
      rw [hall.out] at hown
      go_wp2
      go_ret
      exact ⟨_, rfl, hown, hB⟩

end Go.Proofs.YtbffpkmfhkphdaaGreatDoor
