/- The walks of package kernel: selectors, written, fixed. The walk of package kernel's Array. The walk of package kernel's selectors. -/
import Derived.Test.YteiikhcadjdkcaaGreatDoorGX39
set_option linter.unusedVariables false
set_option linter.unusedSimpArgs false
namespace Go.Proofs.YteiikhcadjdkcaaGreatDoor
open Go Go.RowKit Limb
theorem size_plan (W : World) : (sizeOf 81).run Tryz.prog W = .ok 5 W := by kernel_rfl
theorem size_str (W : World) : (sizeOf 9).run Tryz.prog W = .ok 1 W := by kernel_rfl
theorem index_by {P : Program} (m : Nat) (hm : 0 < m) (t e : TypeId) (ht : P.underlying t = some (.slice e)) (hs : ∀ W, (sizeOf e).run P W = .ok m W) (g n c : Nat) (W : World) (k : IntKind) (i : Nat) (hi : i < n) :
    (Instr.indexAt t (.slice (some ⟨g, 0, none⟩) n c) (.int k i)).run P W = .ok (.pointer (some ⟨g, m * i, none⟩)) W := by
  have h1 : (0 : Int) ≤ (i : Int) := by omega
  have h2 : (i : Int) < (n : Int) := by omega
  simp [Instr.indexAt, run_underlying ht, asIntOf, h1, h2, hs, Result.andThen, Addr.add]
  rw [if_pos hi]
  by_cases h0 : i = 0
  · subst h0; simp
  · simp [h0, Nat.ne_of_gt hm, Nat.mul_comm]
    exact fun e => e.symm
theorem flatP_get : ∀ (ps : List Plan) (vs : List Value) (i k : Nat), i < ps.length → ps.length = vs.length → k < 5 → (flatP ps vs)[5 * i + k]? = (planCells (ps.getD i ⟨[], 0, 0, false, []⟩) (vs.getD i undef))[k]?
  | [], _, _, _, h, _, _ => by simp at h
  | p :: t, [], _, _, _, h, _ => by simp at h
  | p :: t, v :: s, 0, k, _, _, hk => by
    show (planCells p v ++ flatP t s)[5 * 0 + k]? = (planCells p v)[k]?
    rw [Nat.mul_zero, Nat.zero_add, List.getElem?_append_left (by exact hk)]
  | p :: t, v :: s, i + 1, k, h1, h2, hk => by
    show (planCells p v ++ flatP t s)[5 * (i + 1) + k]? = _
    rw [List.getElem?_append_right (by show 5 ≤ _; omega)]
    show (flatP t s)[5 * (i + 1) + k - 5]? = (planCells (t.getD i _) (s.getD i undef))[k]?
    rw [show 5 * (i + 1) + k - 5 = 5 * i + k by omega]
    exact flatP_get t s i k (by simpa using h1) (by simpa using h2) hk
section
variable {w : World} {g : Nat} {vs : List Value}
theorem PlansAt.cells (h : PlansAt w g vs) {i : Nat} (hi : i < 22) : w.cell? ⟨g, 5 * i, none⟩ = some (sv (plans.getD i ⟨[], 0, 0, false, []⟩).name) ∧ w.cell? ⟨g, 5 * i + 1, none⟩ = some (.int .i64 (supV (plans.getD i ⟨[], 0, 0, false, []⟩).sup)) ∧
    w.cell? ⟨g, 5 * i + 2, none⟩ = some (.int .i64 (plans.getD i ⟨[], 0, 0, false, []⟩).fmt) ∧ w.cell? ⟨g, 5 * i + 3, none⟩ = some (.bool (plans.getD i ⟨[], 0, 0, false, []⟩).idx) ∧ w.cell? ⟨g, 5 * i + 4, none⟩ = some (vs.getD i undef) := by
  have key : ∀ k, k < 5 → w.cell? ⟨g, 5 * i + k, none⟩ = (planCells (plans.getD i ⟨[], 0, 0, false, []⟩) (vs.getD i undef))[k]? := fun k hk => by
    rw [h.2.1.cell_at, flatP_get plans vs i k (by exact hi) h.1.symm hk]
  exact ⟨key 0 (by decide), key 1 (by decide), key 2 (by decide), key 3 (by decide), key 4 (by decide)⟩
theorem FieldsAt.slice {v : Value} {fs : List (List Nat)} (h : FieldsAt w v fs) : ∃ a, v = .slice a fs.length fs.length := by
  rcases h with ⟨rfl, rfl⟩ | ⟨_, g, rfl, _⟩
  · exact ⟨none, rfl⟩
  · exact ⟨_, rfl⟩
def deep : Nat → Nat → Bool
  | 0, _ => false
  | k + 1, r => decide (10 ≤ r) && decide (r < 32) && (decide ((plans.getD (r - 10) ⟨[], 0, 0, false, []⟩).sup = 0) || deep k (plans.getD (r - 10) ⟨[], 0, 0, false, []⟩).sup)
theorem deep_all : ∀ i, i < 22 → deep 6 (10 + i) = true := by decide
theorem fixedN_zero (k : Nat) : fixedN k 0 = 0 := by cases k <;> rfl
theorem plans_get {i : Nat} (hi : i < 22) : plans[i]? = some (plans.getD i ⟨[], 0, 0, false, []⟩) := by
  have : i < plans.length := hi
  simp [List.getD_eq_getElem?_getD, this]
theorem fixedN_le : ∀ k r, fixedN k r ≤ 7 * k
  | 0, _ => Nat.le_refl _
  | k + 1, r => by
    unfold fixedN
    split
    · omega
    · split
      · omega
      · rename_i p hp
        have h1 := fixedN_le k p.sup
        have h2 : p.fields.length ≤ 7 := by
          have h3 : p ∈ plans := List.mem_of_getElem? hp
          have h4 : ∀ q ∈ plans, q.fields.length ≤ 7 := by decide
          exact h4 p h3
        omega
set_option maxHeartbeats 1600000 in
set_option maxRecDepth 1000000 in
theorem kernel_fixed (h : PlansAt w g vs) : ∀ (k i : Nat), k ≤ 10 → i < 22 → deep k (10 + i) = true →
    Calls Tryz.prog 36 #[.slice (some ⟨g, 0, none⟩) 22 22, .int .i64 i] w fun e w' => e = .returned (.int .i64 (fixedN k (10 + i))) ∧ w = w'
  | 0, i, _, _, hd => by cases hd
  | k + 1, i, hk10, hi, hd => by
    obtain ⟨c0, c1, c2, c3, c4⟩ := h.cells hi
    obtain ⟨a, hv⟩ := (h.2.2 i hi).slice
    rw [hv] at c4
    have hle := fixedN_le (k + 1) (10 + i)
    have hfx : fixedN (k + 1) (10 + i) = (plans.getD i ⟨[], 0, 0, false, []⟩).fields.length + fixedN k (plans.getD i ⟨[], 0, 0, false, []⟩).sup := by
      show (if 10 + i = 0 then 0 else match plans[10 + i - 10]? with | none => 0 | some p => p.fields.length + fixedN k p.sup) = _
      rw [if_neg (by omega), show 10 + i - 10 = i by omega, plans_get hi]
    unfold deep at hd
    simp only [Bool.and_eq_true, Bool.or_eq_true, decide_eq_true_eq] at hd
    rw [show 10 + i - 10 = i by omega] at hd
    have ix := fun W => index_by (P := Tryz.prog) 5 (by decide) 77 81 Tryz.underlying77 size_plan g 22 22 W .i64 i hi
    generalize plans.getD i ⟨[], 0, 0, false, []⟩ = p at *
    have hd2 := hd.2
    rw [hfx]
    by_cases h0 : p.sup = 0
    · have es : supV p.sup = -1 := by unfold supV; rw [if_pos h0]
      rw [h0, fixedN_zero, Nat.add_zero]
      rw [es] at c1
      clear hv hfx hd hd2 h0 es h hle
      generalize p.fields.length = m at *
      go_enter Tryz.func36, Tryz.ntmps36
      go_wp2_with fail
      go_ret
      exact ⟨rfl, rfl⟩
    · have es : supV p.sup = p.sup := by unfold supV; rw [if_neg h0]
      rw [es] at c1
      have hd3 : deep k p.sup = true := by rcases hd2 with e | e; exact absurd e h0; exact e
      have hb : 10 ≤ p.sup ∧ p.sup < 32 := by
        cases k with
        | zero => cases hd3
        | succ k =>
          unfold deep at hd3
          simp only [Bool.and_eq_true, decide_eq_true_eq] at hd3
          exact hd3.1
      obtain ⟨j, hj⟩ : ∃ j, p.sup = 10 + j := ⟨p.sup - 10, by omega⟩
      rw [hj] at c1 hd3 ⊢
      have IH := Lib.hid (kernel_fixed h k j (by omega) (by omega) hd3)
      have d1 : decide ((0 : Int) ≤ ((10 + j : Nat) : Int)) = true := decide_eq_true (by omega)
      have ej : (((10 + j : Nat) : Int) - 10) = (j : Int) := by omega
      have hm2 : p.fields.length + fixedN k (10 + j) ≤ 7 * (k + 1) := by rw [← hj, ← hfx]; exact hle
      generalize fixedN k (10 + j) = fk at *
      generalize p.fields.length = m at *
      have jlt : j < 22 := by omega
      replace hm2 : m + fk ≤ 77 := by omega
      clear hv hfx hd hd2 h0 es h hle hd3 hj hb
      go_enter Tryz.func36, Tryz.ntmps36
      go_wp2_with fail
      rw [show ((10 : Int) + (j : Int) - 10) = (j : Int) from by omega]
      refine (IH.out).mono ?_
      rintro e W1 ⟨rfl, rfl⟩
      (try dsimp only)
      go_wp2_with fail
      go_ret
      exact ⟨rfl, rfl⟩
set_option maxRecDepth 100000 in
theorem kernel_written (w : World) (f fx : Nat) (b : Bool) (h1 : f ≤ 1000) (h2 : fx ≤ 1000) :
    Calls Tryz.prog 35 #[.agg #[.int .i64 f, .int .i64 fx, .bool b]] w fun e w' => e = .returned (.int .i64 (writtenN f fx b)) ∧ Below w.heap.size w w' := by
  have hE := (Below.refl w.heap.size w).alloc (Nat.le_refl _) (.cells #[.int .i64 f, .int .i64 fx, .bool b] 85)
  have HE := Lib.hid hE
  clear hE
  cases b with
  | false =>
    have e1 : (writtenN f fx false) = f + 8 * fx := rfl
    rw [e1]
    go_enter Tryz.func35, Tryz.ntmps35
    go_wp2_with fail
    go_ret
    exact ⟨rfl, HE.out⟩
  | true =>
    have e1 : (writtenN f fx true) = f + 8 * fx + 65536 := rfl
    rw [e1]
    go_enter Tryz.func35, Tryz.ntmps35
    go_wp2_with fail
    go_ret
    exact ⟨rfl, HE.out⟩
end
end Go.Proofs.YteiikhcadjdkcaaGreatDoor
namespace Go.Proofs.YteiikhcadjdkcaaGreatDoor
open Go Go.RowKit Limb
theorem drop_cons {l : List Nat} {k : Nat} (hk : k < l.length) : l.drop k = wd l k :: l.drop (k + 1) := by
  rw [wd_lt hk]; exact List.drop_eq_getElem_cons hk
section
variable {w : World} {F : Foot} {h : Hp}
set_option maxHeartbeats 1600000 in
set_option maxRecDepth 100000 in
theorem kernel_array (H : HeapAt w F h) (K : Limb.Ker h) (l : List Nat) (n c ge : Nat) (hn : n = l.length) (hn1 : n ≤ 65535) (sl : Sl w ge 30 n c (nums .u32 l)) (hge : ge ∉ F.l) (hl : ∀ x ∈ l, isO h x = true) (o : Nat) (h1 : Hp) (hp : allocP h (wd h.rt 20) 1 n = some (o, h1)) :
    Calls Tryz.prog 68 #[.pointer (some ⟨F.p, 0, none⟩), .slice (some ⟨ge, 0, none⟩) n c] w fun e w' => e = .returned (.tuple #[.int .u32 o, .int .i64 0]) ∧ Moved w F w' (putAll o 0 l h1) := by
  have HBa := Lib.hid (kernel_bare H (Ker.bare K))
  obtain ⟨g1, i1⟩ := grow_alloc H.good (by decide) (by decide) hn1 hp
  have hlw : ∀ k, k < n → isO h (wd l k) = true := fun k hk => by
    have hk' : k < l.length := by omega
    rw [wd_lt hk']; exact hl _ (List.getElem_mem hk')
  have HKd := Lib.hid (fun X k (hk : k < n) => show Calls Tryz.prog 23 #[.int .u32 (wd l k : Nat)] X fun e w' => e = .returned (.int .i64 2) ∧ X = w' from by
    have h4 := isO_iff.1 (hlw k hk)
    have h3 := oop_kind X (wd l k) (isO_lt H.good (hlw k hk))
    rw [kind_two.2 ⟨h4.1, h4.2.1⟩] at h3; exact h3)
  have HIs := Lib.hid (fun X (hb : Below w.heap.size w X) k (hk : k < n) => show Calls Tryz.prog 24 #[.pointer (some ⟨F.p, 0, none⟩), .int .u32 (wd l k : Nat)] X fun e w' => e = .returned (.bool true) ∧ X = w' from by
    have := heap_is (H.below hb) (wd l k) (isO_lt H.good (hlw k hk))
    rw [hlw k hk] at this; exact this)
  have HR := Lib.hid (fun X (hb : Below w.heap.size w X) => kernel_root (H.below hb) 20 (by decide))
  have HAl := Lib.hid (fun X (hb : Below w.heap.size w X) => show Calls Tryz.prog 31 #[.pointer (some ⟨F.p, 0, none⟩), .int .u32 (wd h.rt 20 : Nat), .int .i64 1, .int .i64 n] X fun e w' => e = .returned (.tuple #[.int .u32 o, .int .i64 0]) ∧ Moved w F w' h1 from
    (heap_Alloc (H.below hb) (wd h.rt 20) 1 n o h1 (by decide) (by decide) hn1 hp).mono fun e w' ⟨x, F', y⟩ => ⟨x, F', Step.of_below hb y⟩)
  have HIx := Lib.hid (fun W k (hk : k < n) => sl.index 53 Tryz.underlying53 size_oop W .i64 k hk)
  have HCx := Lib.hid (fun X (ho : Only F.l w X) k (hk : k < n) => show X.cell? ⟨ge, k, none⟩ = some (.int .u32 (wd l k : Nat)) from by
    rw [(sl.only ho hge).cell hk, nums_get (by omega)])
  have HPut := Lib.hid (fun X F' hk (HX : HeapAt X F' hk) (hF : F'.p = F.p) (gr : Limb.Grow h1 hk) k (hkn : k < n) => show Calls Tryz.prog 37 #[.pointer (some ⟨F.p, 0, none⟩), .int .u32 o, .int .i64 k, .int .u32 (wd l k : Nat)] X fun e w' => e = .returned (.int .i64 0) ∧ Step X F' w' F' (Limb.putF hk o k (wd l k)) ∧ Limb.Grow h1 (Limb.putF hk o k (wd l k)) from by
    have q1 := isF_le (gr.isF _ _ _ i1) (show k + 1 ≤ n by omega)
    have q2 := gr.isO (g1.isO (hlw k hkn))
    rw [← hF]
    exact (heap_putF HX q1 (by omega) (isO_val q2) (isO_lt HX.good q2)).mono fun e w' ⟨x, y⟩ => ⟨x, y, gr.trans (grow_put HX.good q1 (isO_lt HX.good q2))⟩)
  have HDr := Lib.hid (fun k (hk : k < n) => show l.drop k = wd l k :: l.drop (k + 1) from drop_cons (by omega))
  have HDn := Lib.hid (show l.drop n = [] from by rw [hn]; exact List.drop_length)
  have d9 : decide ((65535 : Int) < (n : Int)) = false := decide_eq_false (by omega)
  have d9' : decide (65535 < n) = false := decide_eq_false (by omega)
  have hG1 := g1.good
  obtain ⟨hE, hhE⟩ : ∃ hE, hE = putAll o 0 l h1 := ⟨_, rfl⟩
  rw [← hhE]
  have HE := Lib.hid hhE
  clear hhE hn hl hlw sl hp i1 g1 H K hge
  go_enter Tryz.func68, Tryz.ntmps68
  go_wp2_with fail
  refine (HBa.out).mono ?_
  rintro e V1 ⟨rfl, hB⟩
  (try dsimp only)
  clear HBa
  go_wp2_with fail
  go_loopw [16] (fun i wr => ∃ k : Nat, k ≤ n ∧ i = .int .i64 k ∧ Below w.heap.size w wr) (fun i _ => n - (RowKit.intOf i).toNat)
  case atStart => exact ⟨0, Nat.zero_le _, rfl, hB⟩
  case round =>
    clear hB
    obtain ⟨k, hk, rfl, hB⟩ := hrel
    by_cases h0 : k < n
    · have d1 : decide ((k : Int) < (n : Int)) = true := decide_eq_true (by omega)
      have d2 : decide (k < n) = true := decide_eq_true h0
      have ix := fun W => HIx.out W k h0
      have cx := HCx.out wr (Only.of_below hB) k h0
      have HK1 := Lib.hid (fun X => HKd.out X k h0)
      have HI1 := Lib.hid (HIs.out wr hB k h0)
      generalize wd l k = v at *
      go_wp2_with fail
      refine (HK1.out _).mono ?_
      rintro e V2 ⟨rfl, rfl⟩
      (try dsimp only)
      go_wp2_with fail
      refine (HI1.out).mono ?_
      rintro e V2 ⟨rfl, rfl⟩
      (try dsimp only)
      go_wp2_with fail
      go_roundw
      case rel => exact ⟨k + 1, h0, by simp, hB⟩
      case measure => simp [RowKit.intOf]; omega
    · obtain rfl : k = n := by omega
      have d1 : decide ((k : Int) < (k : Int)) = false := decide_eq_false (by omega)
      have d2 : decide (k < k) = false := decide_eq_false (by omega)
      have HR1 := Lib.hid (HR.out wr hB)
      have HA1 := Lib.hid (HAl.out wr hB)
      go_wp2_with fail
      refine (HR1.out).mono ?_
      rintro e V2 ⟨rfl, rfl⟩
      (try dsimp only)
      go_wp2_with fail
      refine (HA1.out).mono ?_
      rintro e V3 ⟨rfl, F1, hS⟩
      (try dsimp only)
      have HS := Lib.hid hS
      clear hS HR1 HA1 hB HR HAl HKd HIs
      go_wp2_with fail
      go_loopw [47] (fun i wr => ∃ (j : Nat) (F' : Foot) (hj : Hp), j ≤ k ∧ i = .int .i64 j ∧ Hid (Step w F wr F' hj) ∧ Hid (Limb.Grow h1 hj) ∧ Hid (putAll o j (l.drop j) hj = hE)) (fun i _ => k - (RowKit.intOf i).toNat)
      case atStart => exact ⟨0, F1, h1, Nat.zero_le _, rfl, HS, Lib.hid (Limb.Grow.refl hG1), Lib.hid HE.out.symm⟩
      case round =>
        clear HS HE
        obtain ⟨j, F', hj, hjn, rfl, HS, HG, HE⟩ := hrel
        by_cases h0 : j < k
        · have d3 : decide ((j : Int) < (k : Int)) = true := decide_eq_true (by omega)
          have d4 : decide (j < k) = true := decide_eq_true h0
          have ix := fun W => HIx.out W j h0
          have cx := HCx.out wr HS.out.2.2 j h0
          have HP1 := Lib.hid (HPut.out wr F' hj HS.out.1 HS.out.2.1.p HG.out j h0)
          have he := HE.out
          rw [HDr.out j h0] at he
          have HE2 := Lib.hid (show putAll o (j + 1) (l.drop (j + 1)) (Limb.putF hj o j (wd l j)) = hE from he)
          clear he HE
          generalize wd l j = v at *
          go_wp2_with fail
          refine (HP1.out).mono ?_
          rintro e V4 ⟨rfl, hS2, hG2⟩
          (try dsimp only)
          have HS2 := Lib.hid (HS.out.trans hS2)
          have HG2 := Lib.hid hG2
          clear hS2 hG2
          go_wp2_with fail
          go_roundw
          case rel => exact ⟨j + 1, F', _, h0, by simp, HS2, HG2, HE2⟩
          case measure => simp [RowKit.intOf]; omega
        · obtain rfl : j = k := by omega
          have he := HE.out
          rw [HDn.out] at he
          obtain rfl : hj = hE := he
          have HM := Lib.hid (show Moved w F wr hj from ⟨F', HS.out⟩)
          clear HE
          go_wp2_with fail
          go_ret2
          exact ⟨rfl, HM.out⟩
end
end Go.Proofs.YteiikhcadjdkcaaGreatDoor
namespace Go.Proofs.YteiikhcadjdkcaaGreatDoor
open Go Go.RowKit Limb
set_option maxHeartbeats 1600000 in
set_option maxRecDepth 1000000 in
theorem kernel_selectors (w : World) :
    Calls Tryz.prog 42 #[] w fun e w' => (∃ g, e = .returned (.slice (some ⟨g, 0, none⟩) 11 11) ∧ Row w' g 9 (sels.map sv)) ∧ Below w.heap.size w w' := by
  obtain ⟨W, hW, r0, hB, hz⟩ := alloc_row w 9 [.string ⟨#[100, 111, 101, 115, 78, 111, 116, 85, 110, 100, 101, 114, 115, 116, 97, 110, 100, 58]⟩, .string ⟨#[109, 117, 115, 116, 66, 101, 66, 111, 111, 108, 101, 97, 110]⟩, .string ⟨#[99, 97, 110, 110, 111, 116, 82, 101, 116, 117, 114, 110, 58]⟩, .string ⟨#[97, 98, 111, 117, 116, 84, 111, 82, 101, 116, 117, 114, 110, 58, 116, 104, 114, 111, 117, 103, 104, 58]⟩, .string ⟨#[118, 97, 108, 117, 101]⟩, .string ⟨#[118, 97, 108, 117, 101, 58]⟩, .string ⟨#[118, 97, 108, 117, 101, 58, 118, 97, 108, 117, 101, 58]⟩, .string ⟨#[118, 97, 108, 117, 101, 58, 118, 97, 108, 117, 101, 58, 118, 97, 108, 117, 101, 58]⟩, .string ⟨#[100, 111, 73, 116]⟩, .string ⟨#[115, 105, 103, 110, 97, 108]⟩, .string ⟨#[117, 110, 119, 105, 110, 100]⟩]
  have HP := Lib.hid (show Row W w.heap.size 9 (sels.map sv) from r0)
  have HB := Lib.hid hB
  clear r0 hB hz
  subst hW
  go_enter Tryz.func42, Tryz.ntmps42
  go_wp2_with fail
  go_ret
  exact ⟨⟨_, rfl, HP.out⟩, HB.out⟩
end Go.Proofs.YteiikhcadjdkcaaGreatDoor
