/- The walk of the law LargeTexts: it answers true. -/
import Derived.Test.YtbffpkmfhkphdaaGreatDoorTextsAidC
import Derived.Test.YtbffpkmfhkphdaaGreatDoorGX30
import Derived.Deep.DeepCutAuto
set_option linter.unusedVariables false
set_option linter.unusedSimpArgs false
namespace Go.Proofs.YtbffpkmfhkphdaaGreatDoor
open Go Go.RowKit Limb

theorem Ans.long {X : World} {b : Bool} {a : Option Addr} {n c : Nat} {k z : Int} (h : Ans X b a n c k z) (hl : 1024 < (rep z.natAbs).length) : b = false ∧ a = none ∧ n = 0 ∧ c = 0 ∧ k = 2 := by
  rcases h with ⟨h1, _⟩ | ⟨_, h⟩
  · omega
  · exact h
theorem Ans.short {X : World} {b : Bool} {a : Option Addr} {n c : Nat} {k z : Int} (h : Ans X b a n c k z) (hl : (rep z.natAbs).length ≤ 1024) : k = 0 ∧ ApiV X (.agg #[.bool b, .slice a n c]) z := by
  rcases h with ⟨_, h⟩ | ⟨h1, _⟩
  · exact h
  · omega

set_option maxHeartbeats 16000000 in
set_option maxRecDepth 1000000 in
theorem law_texts_lo_n (w : World) (b1 : Bool) (a1 : Option Addr) (l1 : List Nat) (nx c1 : Nat) (base n : Int) (s : ByteArray) (h1 : Came w b1 a1 nx l1) (hc1 : nx ≤ c1) (hs : s.size ≤ 140737488355328)
    (hn1 : -9223372036854775808 ≤ n) (hn2 : n ≤ 9223372036854775807) (hbase : base < 2) (hma : mayB b1 l1 = false) :
    Calls Tryz.prog 5 #[.agg #[.bool b1, .slice a1 nx c1], .int .i64 base, .string s, .int .i64 n] w fun e w' => e = .returned (.bool true) ∧ Below w.heap.size w w' := by
  obtain ⟨W, hWe, r4, hB, hszW⟩ := rows1 w 24 (.bool b1) (.slice a1 nx c1)
  have HWe := Lib.hid hWe; clear hWe
  obtain ⟨z, hz⟩ : ∃ z, z = signed b1 (val l1) := ⟨_, rfl⟩
  obtain ⟨S, hS⟩ : ∃ S : ByteArray, S = ⟨(utxt base.toNat z).toArray⟩ := ⟨_, rfl⟩
  have hob : okBase base = false := by rw [Bool.eq_false_iff, Ne, okBase_iff]; omega
  have d1 : decide (base < 2) = true := decide_eq_true hbase
  have hpr := fun X (h : Below w.heap.size w X) => since_print (c := c1) (base := base) (S := S) (W := w) h1 (by rw [hS, hz]) h
  rw [hob, hma] at hpr
  have hpr2 := fun X (h : Below w.heap.size w X) => (hpr X h).mono fun e X' he => show e = .returned (.tuple #[.string ⟨#[]⟩, .int .i64 1]) ∧ Below X.heap.size X X' from he
  have HPr := Lib.hid hpr2; clear hpr hpr2
  have HPa := Lib.hid (fun X => since_parse X s base hs)
  have hin := fun X (h : Below w.heap.size w X) => since_lint (c := c1) (W := w) h1 hz h
  rw [hma] at hin
  have hin2 := fun X (h : Below w.heap.size w X) => (hin X h).mono fun e X' he => show e = .returned (.tuple #[.int .i64 0, .int .i64 1]) ∧ Below X.heap.size X X' from he
  have HIn := Lib.hid hin2; clear hin hin2
  have hri := fun X (h : Below w.heap.size w X) => since_rint (c := c1) (W := w) h1 hz h
  rw [hma] at hri
  have HRi := Lib.hid hri; clear hri
  have hm1 := fun X (h : Below w.heap.size w X) => since_may' (c := c1) (W := w) h1 h
  rw [hma] at hm1
  have Hm1 := Lib.hid hm1; clear hm1
  have HS := Lib.hid hS
  have HOb := Lib.hid hob
  have hsc : ∀ X, Calls Tryz.prog 32 #[.int .i64 n] X fun e X' => ∃ b a m c, e = .returned (.agg #[.bool b, .slice a m c]) ∧ Hid (ApiV X' (.agg #[.bool b, .slice a m c]) n) ∧ Below X.heap.size X X' := fun X => (large_of X n hn1 hn2).mono fun e X' he => by
    obtain ⟨u, rfl, hu, hb⟩ := he
    obtain ⟨b, a, m, c, rfl, -⟩ := id hu.open
    exact ⟨b, a, m, c, rfl, Lib.hid hu, hb⟩
  have hsr : ∀ X, Calls Tryz.prog 23 #[.int .i64 n] X fun e X' => ∃ b a m c, e = .returned (.agg #[.bool b, .slice a m c]) ∧ Hid (ApiV X' (.agg #[.bool b, .slice a m c]) n) ∧ Below X.heap.size X X' := fun X => (ref_of X n hn1 hn2).mono fun e X' he => by
    obtain ⟨u, rfl, hu, hb⟩ := he
    obtain ⟨b, a, m, c, rfl, -⟩ := id hu.open
    exact ⟨b, a, m, c, rfl, Lib.hid hu, hb⟩
  have HOf := Lib.hid hsc
  have HRf := Lib.hid hsr
  have HLn := Lib.hid (Nat.le_trans (len_i64 hn1 hn2) (by decide) : (rep n.natAbs).length ≤ 9223372036854775807)
  clear hsc hsr h1 hc1 hz hS hob hma hszW hbase
  go_enter Tryz.func5, Tryz.ntmps5
  obtain ⟨kr40, kr41⟩ := r4.cells
  go_wp2_with fail
  rw [← HWe.out]
  refine (HPr.out W hB).mono ?_
  rintro e V0 ⟨rfl, hb⟩
  (try dsimp only)
  replace r4 := r4.below hb r4.lt
  replace hB := hB.trans (hb.mono hB.size)
  clear kr40 kr41
  obtain ⟨kr40, kr41⟩ := r4.cells
  clear hb
  go_wp2_with fail
  refine (HPa.out V0).mono ?_
  rintro e V ⟨pb, pa, pm, pc, pk, rfl, hp, hb⟩
  (try dsimp only)
  replace r4 := r4.below hb r4.lt
  replace hB := hB.trans (hb.mono hB.size)
  clear kr40 kr41
  obtain ⟨kr40, kr41⟩ := r4.cells
  clear hb
  obtain ⟨V1, hV1, r11, hbV1, hzV1⟩ := rows1 V 24 (.bool pb) (.slice pa pm pc)
  replace r4 := r4.below hbV1 r4.lt
  replace hB := hB.trans (hbV1.mono hB.size)
  clear kr40 kr41
  obtain ⟨kr40, kr41⟩ := r4.cells
  obtain ⟨kr110, kr111⟩ := r11.cells
  rw [hV1] at kr40 kr41 kr110 kr111
  have HV1 := Lib.hid hV1; clear hV1
  replace hp := Lib.hid (hp.out.below hbV1)
  clear hbV1 hzV1
  go_wp2_with fail
  rw [← HV1.out]
  refine (HIn.out V1 hB).mono ?_
  rintro e V2 ⟨rfl, hb⟩
  (try dsimp only)
  replace r4 := r4.below hb r4.lt
  replace r11 := r11.below hb r11.lt
  replace hB := hB.trans (hb.mono hB.size)
  clear kr40 kr41 kr110 kr111
  obtain ⟨kr40, kr41⟩ := r4.cells
  obtain ⟨kr110, kr111⟩ := r11.cells
  replace hp := Lib.hid (hp.out.below hb)
  clear hb
  go_wp2_with fail
  refine (law_awake V2).mono ?_
  rintro e V3 ⟨rfl, hb⟩
  (try dsimp only)
  replace r4 := r4.below hb r4.lt
  replace r11 := r11.below hb r11.lt
  replace hB := hB.trans (hb.mono hB.size)
  clear kr40 kr41 kr110 kr111
  obtain ⟨kr40, kr41⟩ := r4.cells
  obtain ⟨kr110, kr111⟩ := r11.cells
  replace hp := Lib.hid (hp.out.below hb)
  clear hb
  go_wp2_with fail
  refine (HOf.out V3).mono ?_
  rintro e V4 ⟨o1, o2, o3, o4, rfl, ho, hb⟩
  (try dsimp only)
  replace r4 := r4.below hb r4.lt
  replace r11 := r11.below hb r11.lt
  replace hB := hB.trans (hb.mono hB.size)
  clear kr40 kr41 kr110 kr111
  obtain ⟨kr40, kr41⟩ := r4.cells
  obtain ⟨kr110, kr111⟩ := r11.cells
  replace hp := Lib.hid (hp.out.below hb)
  clear hb
  go_wp2_with fail
  refine (HRf.out V4).mono ?_
  rintro e V5 ⟨q1, q2, q3, q4, rfl, hq, hb⟩
  (try dsimp only)
  replace r4 := r4.below hb r4.lt
  replace r11 := r11.below hb r11.lt
  replace hB := hB.trans (hb.mono hB.size)
  clear kr40 kr41 kr110 kr111
  obtain ⟨kr40, kr41⟩ := r4.cells
  obtain ⟨kr110, kr111⟩ := r11.cells
  replace hp := Lib.hid (hp.out.below hb)
  replace ho := Lib.hid (ho.out.below hb)
  clear hb
  go_wp2_with fail
  refine (same_api V5 o1 q1 o2 q2 o3 q3 o4 q4 n ho.out hq.out HLn.out).mono ?_
  rintro e V6 ⟨rfl, hb⟩
  (try dsimp only)
  replace r4 := r4.below hb r4.lt
  replace r11 := r11.below hb r11.lt
  replace hB := hB.trans (hb.mono hB.size)
  clear kr40 kr41 kr110 kr111
  obtain ⟨kr40, kr41⟩ := r4.cells
  obtain ⟨kr110, kr111⟩ := r11.cells
  replace hp := Lib.hid (hp.out.below hb)
  clear hb ho hq
  go_wp2_with fail
  refine (HRi.out V6 hB).mono ?_
  rintro e V7 ⟨rv, ok, rfl, hrv, hb⟩
  (try dsimp only)
  replace r4 := r4.below hb r4.lt
  replace r11 := r11.below hb r11.lt
  replace hB := hB.trans (hb.mono hB.size)
  clear kr40 kr41 kr110 kr111
  obtain ⟨kr40, kr41⟩ := r4.cells
  obtain ⟨kr110, kr111⟩ := r11.cells
  replace hp := Lib.hid (hp.out.below hb)
  clear hb
  clear hrv
  go_wp2_with fail
  refine (Hm1.out V7 hB).mono ?_
  rintro e V8 ⟨rfl, hb⟩
  (try dsimp only)
  replace r4 := r4.below hb r4.lt
  replace r11 := r11.below hb r11.lt
  replace hB := hB.trans (hb.mono hB.size)
  clear kr40 kr41 kr110 kr111
  obtain ⟨kr40, kr41⟩ := r4.cells
  obtain ⟨kr110, kr111⟩ := r11.cells
  replace hp := Lib.hid (hp.out.below hb)
  clear hb
  obtain ⟨rfl, rfl, rfl, rfl, rfl⟩ := hp.out.no (d := 1) (by unfold parseCode; rw [if_pos HOb.out]) (by decide)
  clear hp
  go_wp2_with fail
  refine (same_nil V8).mono ?_
  rintro e V9 ⟨rfl, hb⟩
  (try dsimp only)
  replace r4 := r4.below hb r4.lt
  replace r11 := r11.below hb r11.lt
  replace hB := hB.trans (hb.mono hB.size)
  clear kr40 kr41 kr110 kr111
  obtain ⟨kr40, kr41⟩ := r4.cells
  obtain ⟨kr110, kr111⟩ := r11.cells
  clear hb
  go_wp2_with fail
  go_ret
  exact ⟨rfl, hB⟩

set_option maxHeartbeats 16000000 in
set_option maxRecDepth 1000000 in
theorem law_texts_lo_mj (w : World) (b1 : Bool) (a1 : Option Addr) (l1 : List Nat) (nx c1 : Nat) (base n : Int) (s : ByteArray) (h1 : Came w b1 a1 nx l1) (hc1 : nx ≤ c1) (hs : s.size ≤ 140737488355328)
    (hn1 : -9223372036854775808 ≤ n) (hn2 : n ≤ 9223372036854775807) (hbase : base < 2) (hma : mayB b1 l1 = true) (hiz : inI64 (signed b1 (val l1)) = false) :
    Calls Tryz.prog 5 #[.agg #[.bool b1, .slice a1 nx c1], .int .i64 base, .string s, .int .i64 n] w fun e w' => e = .returned (.bool true) ∧ Below w.heap.size w w' := by
  obtain ⟨W, hWe, r4, hB, hszW⟩ := rows1 w 24 (.bool b1) (.slice a1 nx c1)
  have HWe := Lib.hid hWe; clear hWe
  obtain ⟨z, hz⟩ : ∃ z, z = signed b1 (val l1) := ⟨_, rfl⟩
  obtain ⟨S, hS⟩ : ∃ S : ByteArray, S = ⟨(utxt base.toNat z).toArray⟩ := ⟨_, rfl⟩
  have hob : okBase base = false := by rw [Bool.eq_false_iff, Ne, okBase_iff]; omega
  have d1 : decide (base < 2) = true := decide_eq_true hbase
  have hpr := fun X (h : Below w.heap.size w X) => since_print (c := c1) (base := base) (S := S) (W := w) h1 (by rw [hS, hz]) h
  rw [hob, hma] at hpr
  have hpr2 := fun X (h : Below w.heap.size w X) => (hpr X h).mono fun e X' he => show e = .returned (.tuple #[.string ⟨#[]⟩, .int .i64 1]) ∧ Below X.heap.size X X' from he
  have HPr := Lib.hid hpr2; clear hpr hpr2
  have HPa := Lib.hid (fun X => since_parse X s base hs)
  have hin := fun X (h : Below w.heap.size w X) => since_lint (c := c1) (W := w) h1 hz h
  rw [hma] at hin
  rw [show inI64 z = false from by rw [hz]; exact hiz] at hin
  have hin2 := fun X (h : Below w.heap.size w X) => (hin X h).mono fun e X' he => show e = .returned (.tuple #[.int .i64 0, .int .i64 1]) ∧ Below X.heap.size X X' from he
  have HIn := Lib.hid hin2; clear hin hin2
  have hri := fun X (h : Below w.heap.size w X) => since_rint (c := c1) (W := w) h1 hz h
  rw [hma] at hri
  have HRi := Lib.hid hri; clear hri
  have hm1 := fun X (h : Below w.heap.size w X) => since_may' (c := c1) (W := w) h1 h
  rw [hma] at hm1
  have Hm1 := Lib.hid hm1; clear hm1
  have HA := Lib.hid (fun X (h : Below w.heap.size w X) => show ApiV X (.agg #[.bool b1, .slice a1 nx c1]) z from by rw [hz]; exact (h1.api hma hc1).below h)
  have HLz := Lib.hid (show (rep z.natAbs).length ≤ 1024 from by rw [hz]; exact h1.len hma)
  have HS := Lib.hid hS
  have HOb := Lib.hid hob
  have Hiz := Lib.hid (show inI64 z = false from by rw [hz]; exact hiz)
  have hsc : ∀ X, Calls Tryz.prog 32 #[.int .i64 n] X fun e X' => ∃ b a m c, e = .returned (.agg #[.bool b, .slice a m c]) ∧ Hid (ApiV X' (.agg #[.bool b, .slice a m c]) n) ∧ Below X.heap.size X X' := fun X => (large_of X n hn1 hn2).mono fun e X' he => by
    obtain ⟨u, rfl, hu, hb⟩ := he
    obtain ⟨b, a, m, c, rfl, -⟩ := id hu.open
    exact ⟨b, a, m, c, rfl, Lib.hid hu, hb⟩
  have hsr : ∀ X, Calls Tryz.prog 23 #[.int .i64 n] X fun e X' => ∃ b a m c, e = .returned (.agg #[.bool b, .slice a m c]) ∧ Hid (ApiV X' (.agg #[.bool b, .slice a m c]) n) ∧ Below X.heap.size X X' := fun X => (ref_of X n hn1 hn2).mono fun e X' he => by
    obtain ⟨u, rfl, hu, hb⟩ := he
    obtain ⟨b, a, m, c, rfl, -⟩ := id hu.open
    exact ⟨b, a, m, c, rfl, Lib.hid hu, hb⟩
  have HOf := Lib.hid hsc
  have HRf := Lib.hid hsr
  have HLn := Lib.hid (Nat.le_trans (len_i64 hn1 hn2) (by decide) : (rep n.natAbs).length ≤ 9223372036854775807)
  clear hsc hsr h1 hc1 hz hS hob hma hszW hiz hbase
  go_enter Tryz.func5, Tryz.ntmps5
  obtain ⟨kr40, kr41⟩ := r4.cells
  go_wp2_with fail
  rw [← HWe.out]
  refine (HPr.out W hB).mono ?_
  rintro e V0 ⟨rfl, hb⟩
  (try dsimp only)
  replace r4 := r4.below hb r4.lt
  replace hB := hB.trans (hb.mono hB.size)
  clear kr40 kr41
  obtain ⟨kr40, kr41⟩ := r4.cells
  clear hb
  go_wp2_with fail
  refine (HPa.out V0).mono ?_
  rintro e V ⟨pb, pa, pm, pc, pk, rfl, hp, hb⟩
  (try dsimp only)
  replace r4 := r4.below hb r4.lt
  replace hB := hB.trans (hb.mono hB.size)
  clear kr40 kr41
  obtain ⟨kr40, kr41⟩ := r4.cells
  clear hb
  obtain ⟨V1, hV1, r11, hbV1, hzV1⟩ := rows1 V 24 (.bool pb) (.slice pa pm pc)
  replace r4 := r4.below hbV1 r4.lt
  replace hB := hB.trans (hbV1.mono hB.size)
  clear kr40 kr41
  obtain ⟨kr40, kr41⟩ := r4.cells
  obtain ⟨kr110, kr111⟩ := r11.cells
  rw [hV1] at kr40 kr41 kr110 kr111
  have HV1 := Lib.hid hV1; clear hV1
  replace hp := Lib.hid (hp.out.below hbV1)
  clear hbV1 hzV1
  go_wp2_with fail
  rw [← HV1.out]
  refine (HIn.out V1 hB).mono ?_
  rintro e V2 ⟨rfl, hb⟩
  (try dsimp only)
  replace r4 := r4.below hb r4.lt
  replace r11 := r11.below hb r11.lt
  replace hB := hB.trans (hb.mono hB.size)
  clear kr40 kr41 kr110 kr111
  obtain ⟨kr40, kr41⟩ := r4.cells
  obtain ⟨kr110, kr111⟩ := r11.cells
  replace hp := Lib.hid (hp.out.below hb)
  clear hb
  go_wp2_with fail
  refine (law_awake V2).mono ?_
  rintro e V3 ⟨rfl, hb⟩
  (try dsimp only)
  replace r4 := r4.below hb r4.lt
  replace r11 := r11.below hb r11.lt
  replace hB := hB.trans (hb.mono hB.size)
  clear kr40 kr41 kr110 kr111
  obtain ⟨kr40, kr41⟩ := r4.cells
  obtain ⟨kr110, kr111⟩ := r11.cells
  replace hp := Lib.hid (hp.out.below hb)
  clear hb
  go_wp2_with fail
  refine (HOf.out V3).mono ?_
  rintro e V4 ⟨o1, o2, o3, o4, rfl, ho, hb⟩
  (try dsimp only)
  replace r4 := r4.below hb r4.lt
  replace r11 := r11.below hb r11.lt
  replace hB := hB.trans (hb.mono hB.size)
  clear kr40 kr41 kr110 kr111
  obtain ⟨kr40, kr41⟩ := r4.cells
  obtain ⟨kr110, kr111⟩ := r11.cells
  replace hp := Lib.hid (hp.out.below hb)
  clear hb
  go_wp2_with fail
  refine (HRf.out V4).mono ?_
  rintro e V5 ⟨q1, q2, q3, q4, rfl, hq, hb⟩
  (try dsimp only)
  replace r4 := r4.below hb r4.lt
  replace r11 := r11.below hb r11.lt
  replace hB := hB.trans (hb.mono hB.size)
  clear kr40 kr41 kr110 kr111
  obtain ⟨kr40, kr41⟩ := r4.cells
  obtain ⟨kr110, kr111⟩ := r11.cells
  replace hp := Lib.hid (hp.out.below hb)
  replace ho := Lib.hid (ho.out.below hb)
  clear hb
  go_wp2_with fail
  refine (same_api V5 o1 q1 o2 q2 o3 q3 o4 q4 n ho.out hq.out HLn.out).mono ?_
  rintro e V6 ⟨rfl, hb⟩
  (try dsimp only)
  replace r4 := r4.below hb r4.lt
  replace r11 := r11.below hb r11.lt
  replace hB := hB.trans (hb.mono hB.size)
  clear kr40 kr41 kr110 kr111
  obtain ⟨kr40, kr41⟩ := r4.cells
  obtain ⟨kr110, kr111⟩ := r11.cells
  replace hp := Lib.hid (hp.out.below hb)
  clear hb ho hq
  go_wp2_with fail
  refine (HRi.out V6 hB).mono ?_
  rintro e V7 ⟨rv, ok, rfl, hrv, hb⟩
  (try dsimp only)
  replace r4 := r4.below hb r4.lt
  replace r11 := r11.below hb r11.lt
  replace hB := hB.trans (hb.mono hB.size)
  clear kr40 kr41 kr110 kr111
  obtain ⟨kr40, kr41⟩ := r4.cells
  obtain ⟨kr110, kr111⟩ := r11.cells
  replace hp := Lib.hid (hp.out.below hb)
  clear hb
  obtain rfl : ok = false := (hrv.out.1 (by trivial)).trans Hiz.out
  clear hrv
  go_wp2_with fail
  refine (Hm1.out V7 hB).mono ?_
  rintro e V8 ⟨rfl, hb⟩
  (try dsimp only)
  replace r4 := r4.below hb r4.lt
  replace r11 := r11.below hb r11.lt
  replace hB := hB.trans (hb.mono hB.size)
  clear kr40 kr41 kr110 kr111
  obtain ⟨kr40, kr41⟩ := r4.cells
  obtain ⟨kr110, kr111⟩ := r11.cells
  replace hp := Lib.hid (hp.out.below hb)
  clear hb
  obtain ⟨rfl, rfl, rfl, rfl, rfl⟩ := hp.out.no (d := 1) (by unfold parseCode; rw [if_pos HOb.out]) (by decide)
  clear hp
  go_wp2_with fail
  refine (same_nil V8).mono ?_
  rintro e V9 ⟨rfl, hb⟩
  (try dsimp only)
  replace r4 := r4.below hb r4.lt
  replace r11 := r11.below hb r11.lt
  replace hB := hB.trans (hb.mono hB.size)
  clear kr40 kr41 kr110 kr111
  obtain ⟨kr40, kr41⟩ := r4.cells
  obtain ⟨kr110, kr111⟩ := r11.cells
  clear hb
  go_wp2_with fail
  go_ret
  exact ⟨rfl, hB⟩

set_option maxHeartbeats 16000000 in
set_option maxRecDepth 1000000 in
theorem law_texts_lo_mi (w : World) (b1 : Bool) (a1 : Option Addr) (l1 : List Nat) (nx c1 : Nat) (base n : Int) (s : ByteArray) (h1 : Came w b1 a1 nx l1) (hc1 : nx ≤ c1) (hs : s.size ≤ 140737488355328)
    (hn1 : -9223372036854775808 ≤ n) (hn2 : n ≤ 9223372036854775807) (hbase : base < 2) (hma : mayB b1 l1 = true) (hiz : inI64 (signed b1 (val l1)) = true) :
    Calls Tryz.prog 5 #[.agg #[.bool b1, .slice a1 nx c1], .int .i64 base, .string s, .int .i64 n] w fun e w' => e = .returned (.bool true) ∧ Below w.heap.size w w' := by
  obtain ⟨W, hWe, r4, hB, hszW⟩ := rows1 w 24 (.bool b1) (.slice a1 nx c1)
  have HWe := Lib.hid hWe; clear hWe
  obtain ⟨z, hz⟩ : ∃ z, z = signed b1 (val l1) := ⟨_, rfl⟩
  obtain ⟨S, hS⟩ : ∃ S : ByteArray, S = ⟨(utxt base.toNat z).toArray⟩ := ⟨_, rfl⟩
  have hob : okBase base = false := by rw [Bool.eq_false_iff, Ne, okBase_iff]; omega
  have d1 : decide (base < 2) = true := decide_eq_true hbase
  have hpr := fun X (h : Below w.heap.size w X) => since_print (c := c1) (base := base) (S := S) (W := w) h1 (by rw [hS, hz]) h
  rw [hob, hma] at hpr
  have hpr2 := fun X (h : Below w.heap.size w X) => (hpr X h).mono fun e X' he => show e = .returned (.tuple #[.string ⟨#[]⟩, .int .i64 1]) ∧ Below X.heap.size X X' from he
  have HPr := Lib.hid hpr2; clear hpr hpr2
  have HPa := Lib.hid (fun X => since_parse X s base hs)
  have hin := fun X (h : Below w.heap.size w X) => since_lint (c := c1) (W := w) h1 hz h
  rw [hma] at hin
  rw [show inI64 z = true from by rw [hz]; exact hiz] at hin
  have hin2 := fun X (h : Below w.heap.size w X) => (hin X h).mono fun e X' he => show e = .returned (.tuple #[.int .i64 z, .int .i64 0]) ∧ Below X.heap.size X X' from he
  have HIn := Lib.hid hin2; clear hin hin2
  have hri := fun X (h : Below w.heap.size w X) => since_rint (c := c1) (W := w) h1 hz h
  rw [hma] at hri
  have HRi := Lib.hid hri; clear hri
  have hm1 := fun X (h : Below w.heap.size w X) => since_may' (c := c1) (W := w) h1 h
  rw [hma] at hm1
  have Hm1 := Lib.hid hm1; clear hm1
  have HA := Lib.hid (fun X (h : Below w.heap.size w X) => show ApiV X (.agg #[.bool b1, .slice a1 nx c1]) z from by rw [hz]; exact (h1.api hma hc1).below h)
  have HLz := Lib.hid (show (rep z.natAbs).length ≤ 1024 from by rw [hz]; exact h1.len hma)
  have HS := Lib.hid hS
  have HOb := Lib.hid hob
  have Hiz := Lib.hid (show inI64 z = true from by rw [hz]; exact hiz)
  have hsc : ∀ X, Calls Tryz.prog 32 #[.int .i64 n] X fun e X' => ∃ b a m c, e = .returned (.agg #[.bool b, .slice a m c]) ∧ Hid (ApiV X' (.agg #[.bool b, .slice a m c]) n) ∧ Below X.heap.size X X' := fun X => (large_of X n hn1 hn2).mono fun e X' he => by
    obtain ⟨u, rfl, hu, hb⟩ := he
    obtain ⟨b, a, m, c, rfl, -⟩ := id hu.open
    exact ⟨b, a, m, c, rfl, Lib.hid hu, hb⟩
  have hsr : ∀ X, Calls Tryz.prog 23 #[.int .i64 n] X fun e X' => ∃ b a m c, e = .returned (.agg #[.bool b, .slice a m c]) ∧ Hid (ApiV X' (.agg #[.bool b, .slice a m c]) n) ∧ Below X.heap.size X X' := fun X => (ref_of X n hn1 hn2).mono fun e X' he => by
    obtain ⟨u, rfl, hu, hb⟩ := he
    obtain ⟨b, a, m, c, rfl, -⟩ := id hu.open
    exact ⟨b, a, m, c, rfl, Lib.hid hu, hb⟩
  have HOf := Lib.hid hsc
  have HRf := Lib.hid hsr
  have HLn := Lib.hid (Nat.le_trans (len_i64 hn1 hn2) (by decide) : (rep n.natAbs).length ≤ 9223372036854775807)
  clear hsc hsr h1 hc1 hz hS hob hma hszW hiz hbase
  go_enter Tryz.func5, Tryz.ntmps5
  obtain ⟨kr40, kr41⟩ := r4.cells
  go_wp2_with fail
  rw [← HWe.out]
  refine (HPr.out W hB).mono ?_
  rintro e V0 ⟨rfl, hb⟩
  (try dsimp only)
  replace r4 := r4.below hb r4.lt
  replace hB := hB.trans (hb.mono hB.size)
  clear kr40 kr41
  obtain ⟨kr40, kr41⟩ := r4.cells
  clear hb
  go_wp2_with fail
  refine (HPa.out V0).mono ?_
  rintro e V ⟨pb, pa, pm, pc, pk, rfl, hp, hb⟩
  (try dsimp only)
  replace r4 := r4.below hb r4.lt
  replace hB := hB.trans (hb.mono hB.size)
  clear kr40 kr41
  obtain ⟨kr40, kr41⟩ := r4.cells
  clear hb
  obtain ⟨V1, hV1, r11, hbV1, hzV1⟩ := rows1 V 24 (.bool pb) (.slice pa pm pc)
  replace r4 := r4.below hbV1 r4.lt
  replace hB := hB.trans (hbV1.mono hB.size)
  clear kr40 kr41
  obtain ⟨kr40, kr41⟩ := r4.cells
  obtain ⟨kr110, kr111⟩ := r11.cells
  rw [hV1] at kr40 kr41 kr110 kr111
  have HV1 := Lib.hid hV1; clear hV1
  replace hp := Lib.hid (hp.out.below hbV1)
  clear hbV1 hzV1
  go_wp2_with fail
  rw [← HV1.out]
  refine (HIn.out V1 hB).mono ?_
  rintro e V2 ⟨rfl, hb⟩
  (try dsimp only)
  replace r4 := r4.below hb r4.lt
  replace r11 := r11.below hb r11.lt
  replace hB := hB.trans (hb.mono hB.size)
  clear kr40 kr41 kr110 kr111
  obtain ⟨kr40, kr41⟩ := r4.cells
  obtain ⟨kr110, kr111⟩ := r11.cells
  replace hp := Lib.hid (hp.out.below hb)
  clear hb
  go_wp2_with fail
  refine (law_awake V2).mono ?_
  rintro e V3 ⟨rfl, hb⟩
  (try dsimp only)
  replace r4 := r4.below hb r4.lt
  replace r11 := r11.below hb r11.lt
  replace hB := hB.trans (hb.mono hB.size)
  clear kr40 kr41 kr110 kr111
  obtain ⟨kr40, kr41⟩ := r4.cells
  obtain ⟨kr110, kr111⟩ := r11.cells
  replace hp := Lib.hid (hp.out.below hb)
  clear hb
  go_wp2_with fail
  refine (HOf.out V3).mono ?_
  rintro e V4 ⟨o1, o2, o3, o4, rfl, ho, hb⟩
  (try dsimp only)
  replace r4 := r4.below hb r4.lt
  replace r11 := r11.below hb r11.lt
  replace hB := hB.trans (hb.mono hB.size)
  clear kr40 kr41 kr110 kr111
  obtain ⟨kr40, kr41⟩ := r4.cells
  obtain ⟨kr110, kr111⟩ := r11.cells
  replace hp := Lib.hid (hp.out.below hb)
  clear hb
  go_wp2_with fail
  refine (HRf.out V4).mono ?_
  rintro e V5 ⟨q1, q2, q3, q4, rfl, hq, hb⟩
  (try dsimp only)
  replace r4 := r4.below hb r4.lt
  replace r11 := r11.below hb r11.lt
  replace hB := hB.trans (hb.mono hB.size)
  clear kr40 kr41 kr110 kr111
  obtain ⟨kr40, kr41⟩ := r4.cells
  obtain ⟨kr110, kr111⟩ := r11.cells
  replace hp := Lib.hid (hp.out.below hb)
  replace ho := Lib.hid (ho.out.below hb)
  clear hb
  go_wp2_with fail
  refine (same_api V5 o1 q1 o2 q2 o3 q3 o4 q4 n ho.out hq.out HLn.out).mono ?_
  rintro e V6 ⟨rfl, hb⟩
  (try dsimp only)
  replace r4 := r4.below hb r4.lt
  replace r11 := r11.below hb r11.lt
  replace hB := hB.trans (hb.mono hB.size)
  clear kr40 kr41 kr110 kr111
  obtain ⟨kr40, kr41⟩ := r4.cells
  obtain ⟨kr110, kr111⟩ := r11.cells
  replace hp := Lib.hid (hp.out.below hb)
  clear hb ho hq
  go_wp2_with fail
  refine (HRi.out V6 hB).mono ?_
  rintro e V7 ⟨rv, ok, rfl, hrv, hb⟩
  (try dsimp only)
  replace r4 := r4.below hb r4.lt
  replace r11 := r11.below hb r11.lt
  replace hB := hB.trans (hb.mono hB.size)
  clear kr40 kr41 kr110 kr111
  obtain ⟨kr40, kr41⟩ := r4.cells
  obtain ⟨kr110, kr111⟩ := r11.cells
  replace hp := Lib.hid (hp.out.below hb)
  clear hb
  obtain rfl : ok = true := (hrv.out.1 (by trivial)).trans Hiz.out
  obtain rfl : z = rv := (hrv.out.2 (by trivial)).symm
  clear hrv
  go_wp2_with fail
  refine (Hm1.out V7 hB).mono ?_
  rintro e V8 ⟨rfl, hb⟩
  (try dsimp only)
  replace r4 := r4.below hb r4.lt
  replace r11 := r11.below hb r11.lt
  replace hB := hB.trans (hb.mono hB.size)
  clear kr40 kr41 kr110 kr111
  obtain ⟨kr40, kr41⟩ := r4.cells
  obtain ⟨kr110, kr111⟩ := r11.cells
  replace hp := Lib.hid (hp.out.below hb)
  clear hb
  obtain ⟨rfl, rfl, rfl, rfl, rfl⟩ := hp.out.no (d := 1) (by unfold parseCode; rw [if_pos HOb.out]) (by decide)
  clear hp
  go_wp2_with fail
  refine (same_nil V8).mono ?_
  rintro e V9 ⟨rfl, hb⟩
  (try dsimp only)
  replace r4 := r4.below hb r4.lt
  replace r11 := r11.below hb r11.lt
  replace hB := hB.trans (hb.mono hB.size)
  clear kr40 kr41 kr110 kr111
  obtain ⟨kr40, kr41⟩ := r4.cells
  obtain ⟨kr110, kr111⟩ := r11.cells
  clear hb
  go_wp2_with fail
  go_ret
  exact ⟨rfl, hB⟩

set_option maxHeartbeats 16000000 in
set_option maxRecDepth 1000000 in
theorem law_texts_hi_n (w : World) (b1 : Bool) (a1 : Option Addr) (l1 : List Nat) (nx c1 : Nat) (base n : Int) (s : ByteArray) (h1 : Came w b1 a1 nx l1) (hc1 : nx ≤ c1) (hs : s.size ≤ 140737488355328)
    (hn1 : -9223372036854775808 ≤ n) (hn2 : n ≤ 9223372036854775807) (hbase : 36 < base) (hma : mayB b1 l1 = false) :
    Calls Tryz.prog 5 #[.agg #[.bool b1, .slice a1 nx c1], .int .i64 base, .string s, .int .i64 n] w fun e w' => e = .returned (.bool true) ∧ Below w.heap.size w w' := by
  obtain ⟨W, hWe, r4, hB, hszW⟩ := rows1 w 24 (.bool b1) (.slice a1 nx c1)
  have HWe := Lib.hid hWe; clear hWe
  obtain ⟨z, hz⟩ : ∃ z, z = signed b1 (val l1) := ⟨_, rfl⟩
  obtain ⟨S, hS⟩ : ∃ S : ByteArray, S = ⟨(utxt base.toNat z).toArray⟩ := ⟨_, rfl⟩
  have hob : okBase base = false := by rw [Bool.eq_false_iff, Ne, okBase_iff]; omega
  have d1 : decide (base < 2) = false := decide_eq_false (by omega)
  have d2 : decide (36 < base) = true := decide_eq_true hbase
  have hpr := fun X (h : Below w.heap.size w X) => since_print (c := c1) (base := base) (S := S) (W := w) h1 (by rw [hS, hz]) h
  rw [hob, hma] at hpr
  have hpr2 := fun X (h : Below w.heap.size w X) => (hpr X h).mono fun e X' he => show e = .returned (.tuple #[.string ⟨#[]⟩, .int .i64 1]) ∧ Below X.heap.size X X' from he
  have HPr := Lib.hid hpr2; clear hpr hpr2
  have HPa := Lib.hid (fun X => since_parse X s base hs)
  have hin := fun X (h : Below w.heap.size w X) => since_lint (c := c1) (W := w) h1 hz h
  rw [hma] at hin
  have hin2 := fun X (h : Below w.heap.size w X) => (hin X h).mono fun e X' he => show e = .returned (.tuple #[.int .i64 0, .int .i64 1]) ∧ Below X.heap.size X X' from he
  have HIn := Lib.hid hin2; clear hin hin2
  have hri := fun X (h : Below w.heap.size w X) => since_rint (c := c1) (W := w) h1 hz h
  rw [hma] at hri
  have HRi := Lib.hid hri; clear hri
  have hm1 := fun X (h : Below w.heap.size w X) => since_may' (c := c1) (W := w) h1 h
  rw [hma] at hm1
  have Hm1 := Lib.hid hm1; clear hm1
  have HS := Lib.hid hS
  have HOb := Lib.hid hob
  have hsc : ∀ X, Calls Tryz.prog 32 #[.int .i64 n] X fun e X' => ∃ b a m c, e = .returned (.agg #[.bool b, .slice a m c]) ∧ Hid (ApiV X' (.agg #[.bool b, .slice a m c]) n) ∧ Below X.heap.size X X' := fun X => (large_of X n hn1 hn2).mono fun e X' he => by
    obtain ⟨u, rfl, hu, hb⟩ := he
    obtain ⟨b, a, m, c, rfl, -⟩ := id hu.open
    exact ⟨b, a, m, c, rfl, Lib.hid hu, hb⟩
  have hsr : ∀ X, Calls Tryz.prog 23 #[.int .i64 n] X fun e X' => ∃ b a m c, e = .returned (.agg #[.bool b, .slice a m c]) ∧ Hid (ApiV X' (.agg #[.bool b, .slice a m c]) n) ∧ Below X.heap.size X X' := fun X => (ref_of X n hn1 hn2).mono fun e X' he => by
    obtain ⟨u, rfl, hu, hb⟩ := he
    obtain ⟨b, a, m, c, rfl, -⟩ := id hu.open
    exact ⟨b, a, m, c, rfl, Lib.hid hu, hb⟩
  have HOf := Lib.hid hsc
  have HRf := Lib.hid hsr
  have HLn := Lib.hid (Nat.le_trans (len_i64 hn1 hn2) (by decide) : (rep n.natAbs).length ≤ 9223372036854775807)
  clear hsc hsr h1 hc1 hz hS hob hma hszW hbase
  go_enter Tryz.func5, Tryz.ntmps5
  obtain ⟨kr40, kr41⟩ := r4.cells
  go_wp2_with fail
  rw [← HWe.out]
  refine (HPr.out W hB).mono ?_
  rintro e V0 ⟨rfl, hb⟩
  (try dsimp only)
  replace r4 := r4.below hb r4.lt
  replace hB := hB.trans (hb.mono hB.size)
  clear kr40 kr41
  obtain ⟨kr40, kr41⟩ := r4.cells
  clear hb
  go_wp2_with fail
  refine (HPa.out V0).mono ?_
  rintro e V ⟨pb, pa, pm, pc, pk, rfl, hp, hb⟩
  (try dsimp only)
  replace r4 := r4.below hb r4.lt
  replace hB := hB.trans (hb.mono hB.size)
  clear kr40 kr41
  obtain ⟨kr40, kr41⟩ := r4.cells
  clear hb
  obtain ⟨V1, hV1, r11, hbV1, hzV1⟩ := rows1 V 24 (.bool pb) (.slice pa pm pc)
  replace r4 := r4.below hbV1 r4.lt
  replace hB := hB.trans (hbV1.mono hB.size)
  clear kr40 kr41
  obtain ⟨kr40, kr41⟩ := r4.cells
  obtain ⟨kr110, kr111⟩ := r11.cells
  rw [hV1] at kr40 kr41 kr110 kr111
  have HV1 := Lib.hid hV1; clear hV1
  replace hp := Lib.hid (hp.out.below hbV1)
  clear hbV1 hzV1
  go_wp2_with fail
  rw [← HV1.out]
  refine (HIn.out V1 hB).mono ?_
  rintro e V2 ⟨rfl, hb⟩
  (try dsimp only)
  replace r4 := r4.below hb r4.lt
  replace r11 := r11.below hb r11.lt
  replace hB := hB.trans (hb.mono hB.size)
  clear kr40 kr41 kr110 kr111
  obtain ⟨kr40, kr41⟩ := r4.cells
  obtain ⟨kr110, kr111⟩ := r11.cells
  replace hp := Lib.hid (hp.out.below hb)
  clear hb
  go_wp2_with fail
  refine (law_awake V2).mono ?_
  rintro e V3 ⟨rfl, hb⟩
  (try dsimp only)
  replace r4 := r4.below hb r4.lt
  replace r11 := r11.below hb r11.lt
  replace hB := hB.trans (hb.mono hB.size)
  clear kr40 kr41 kr110 kr111
  obtain ⟨kr40, kr41⟩ := r4.cells
  obtain ⟨kr110, kr111⟩ := r11.cells
  replace hp := Lib.hid (hp.out.below hb)
  clear hb
  go_wp2_with fail
  refine (HOf.out V3).mono ?_
  rintro e V4 ⟨o1, o2, o3, o4, rfl, ho, hb⟩
  (try dsimp only)
  replace r4 := r4.below hb r4.lt
  replace r11 := r11.below hb r11.lt
  replace hB := hB.trans (hb.mono hB.size)
  clear kr40 kr41 kr110 kr111
  obtain ⟨kr40, kr41⟩ := r4.cells
  obtain ⟨kr110, kr111⟩ := r11.cells
  replace hp := Lib.hid (hp.out.below hb)
  clear hb
  go_wp2_with fail
  refine (HRf.out V4).mono ?_
  rintro e V5 ⟨q1, q2, q3, q4, rfl, hq, hb⟩
  (try dsimp only)
  replace r4 := r4.below hb r4.lt
  replace r11 := r11.below hb r11.lt
  replace hB := hB.trans (hb.mono hB.size)
  clear kr40 kr41 kr110 kr111
  obtain ⟨kr40, kr41⟩ := r4.cells
  obtain ⟨kr110, kr111⟩ := r11.cells
  replace hp := Lib.hid (hp.out.below hb)
  replace ho := Lib.hid (ho.out.below hb)
  clear hb
  go_wp2_with fail
  refine (same_api V5 o1 q1 o2 q2 o3 q3 o4 q4 n ho.out hq.out HLn.out).mono ?_
  rintro e V6 ⟨rfl, hb⟩
  (try dsimp only)
  replace r4 := r4.below hb r4.lt
  replace r11 := r11.below hb r11.lt
  replace hB := hB.trans (hb.mono hB.size)
  clear kr40 kr41 kr110 kr111
  obtain ⟨kr40, kr41⟩ := r4.cells
  obtain ⟨kr110, kr111⟩ := r11.cells
  replace hp := Lib.hid (hp.out.below hb)
  clear hb ho hq
  go_wp2_with fail
  refine (HRi.out V6 hB).mono ?_
  rintro e V7 ⟨rv, ok, rfl, hrv, hb⟩
  (try dsimp only)
  replace r4 := r4.below hb r4.lt
  replace r11 := r11.below hb r11.lt
  replace hB := hB.trans (hb.mono hB.size)
  clear kr40 kr41 kr110 kr111
  obtain ⟨kr40, kr41⟩ := r4.cells
  obtain ⟨kr110, kr111⟩ := r11.cells
  replace hp := Lib.hid (hp.out.below hb)
  clear hb
  clear hrv
  go_wp2_with fail
  refine (Hm1.out V7 hB).mono ?_
  rintro e V8 ⟨rfl, hb⟩
  (try dsimp only)
  replace r4 := r4.below hb r4.lt
  replace r11 := r11.below hb r11.lt
  replace hB := hB.trans (hb.mono hB.size)
  clear kr40 kr41 kr110 kr111
  obtain ⟨kr40, kr41⟩ := r4.cells
  obtain ⟨kr110, kr111⟩ := r11.cells
  replace hp := Lib.hid (hp.out.below hb)
  clear hb
  obtain ⟨rfl, rfl, rfl, rfl, rfl⟩ := hp.out.no (d := 1) (by unfold parseCode; rw [if_pos HOb.out]) (by decide)
  clear hp
  go_wp2_with fail
  refine (same_nil V8).mono ?_
  rintro e V9 ⟨rfl, hb⟩
  (try dsimp only)
  replace r4 := r4.below hb r4.lt
  replace r11 := r11.below hb r11.lt
  replace hB := hB.trans (hb.mono hB.size)
  clear kr40 kr41 kr110 kr111
  obtain ⟨kr40, kr41⟩ := r4.cells
  obtain ⟨kr110, kr111⟩ := r11.cells
  clear hb
  go_wp2_with fail
  go_ret
  exact ⟨rfl, hB⟩

set_option maxHeartbeats 16000000 in
set_option maxRecDepth 1000000 in
theorem law_texts_hi_mj (w : World) (b1 : Bool) (a1 : Option Addr) (l1 : List Nat) (nx c1 : Nat) (base n : Int) (s : ByteArray) (h1 : Came w b1 a1 nx l1) (hc1 : nx ≤ c1) (hs : s.size ≤ 140737488355328)
    (hn1 : -9223372036854775808 ≤ n) (hn2 : n ≤ 9223372036854775807) (hbase : 36 < base) (hma : mayB b1 l1 = true) (hiz : inI64 (signed b1 (val l1)) = false) :
    Calls Tryz.prog 5 #[.agg #[.bool b1, .slice a1 nx c1], .int .i64 base, .string s, .int .i64 n] w fun e w' => e = .returned (.bool true) ∧ Below w.heap.size w w' := by
  obtain ⟨W, hWe, r4, hB, hszW⟩ := rows1 w 24 (.bool b1) (.slice a1 nx c1)
  have HWe := Lib.hid hWe; clear hWe
  obtain ⟨z, hz⟩ : ∃ z, z = signed b1 (val l1) := ⟨_, rfl⟩
  obtain ⟨S, hS⟩ : ∃ S : ByteArray, S = ⟨(utxt base.toNat z).toArray⟩ := ⟨_, rfl⟩
  have hob : okBase base = false := by rw [Bool.eq_false_iff, Ne, okBase_iff]; omega
  have d1 : decide (base < 2) = false := decide_eq_false (by omega)
  have d2 : decide (36 < base) = true := decide_eq_true hbase
  have hpr := fun X (h : Below w.heap.size w X) => since_print (c := c1) (base := base) (S := S) (W := w) h1 (by rw [hS, hz]) h
  rw [hob, hma] at hpr
  have hpr2 := fun X (h : Below w.heap.size w X) => (hpr X h).mono fun e X' he => show e = .returned (.tuple #[.string ⟨#[]⟩, .int .i64 1]) ∧ Below X.heap.size X X' from he
  have HPr := Lib.hid hpr2; clear hpr hpr2
  have HPa := Lib.hid (fun X => since_parse X s base hs)
  have hin := fun X (h : Below w.heap.size w X) => since_lint (c := c1) (W := w) h1 hz h
  rw [hma] at hin
  rw [show inI64 z = false from by rw [hz]; exact hiz] at hin
  have hin2 := fun X (h : Below w.heap.size w X) => (hin X h).mono fun e X' he => show e = .returned (.tuple #[.int .i64 0, .int .i64 1]) ∧ Below X.heap.size X X' from he
  have HIn := Lib.hid hin2; clear hin hin2
  have hri := fun X (h : Below w.heap.size w X) => since_rint (c := c1) (W := w) h1 hz h
  rw [hma] at hri
  have HRi := Lib.hid hri; clear hri
  have hm1 := fun X (h : Below w.heap.size w X) => since_may' (c := c1) (W := w) h1 h
  rw [hma] at hm1
  have Hm1 := Lib.hid hm1; clear hm1
  have HA := Lib.hid (fun X (h : Below w.heap.size w X) => show ApiV X (.agg #[.bool b1, .slice a1 nx c1]) z from by rw [hz]; exact (h1.api hma hc1).below h)
  have HLz := Lib.hid (show (rep z.natAbs).length ≤ 1024 from by rw [hz]; exact h1.len hma)
  have HS := Lib.hid hS
  have HOb := Lib.hid hob
  have Hiz := Lib.hid (show inI64 z = false from by rw [hz]; exact hiz)
  have hsc : ∀ X, Calls Tryz.prog 32 #[.int .i64 n] X fun e X' => ∃ b a m c, e = .returned (.agg #[.bool b, .slice a m c]) ∧ Hid (ApiV X' (.agg #[.bool b, .slice a m c]) n) ∧ Below X.heap.size X X' := fun X => (large_of X n hn1 hn2).mono fun e X' he => by
    obtain ⟨u, rfl, hu, hb⟩ := he
    obtain ⟨b, a, m, c, rfl, -⟩ := id hu.open
    exact ⟨b, a, m, c, rfl, Lib.hid hu, hb⟩
  have hsr : ∀ X, Calls Tryz.prog 23 #[.int .i64 n] X fun e X' => ∃ b a m c, e = .returned (.agg #[.bool b, .slice a m c]) ∧ Hid (ApiV X' (.agg #[.bool b, .slice a m c]) n) ∧ Below X.heap.size X X' := fun X => (ref_of X n hn1 hn2).mono fun e X' he => by
    obtain ⟨u, rfl, hu, hb⟩ := he
    obtain ⟨b, a, m, c, rfl, -⟩ := id hu.open
    exact ⟨b, a, m, c, rfl, Lib.hid hu, hb⟩
  have HOf := Lib.hid hsc
  have HRf := Lib.hid hsr
  have HLn := Lib.hid (Nat.le_trans (len_i64 hn1 hn2) (by decide) : (rep n.natAbs).length ≤ 9223372036854775807)
  clear hsc hsr h1 hc1 hz hS hob hma hszW hiz hbase
  go_enter Tryz.func5, Tryz.ntmps5
  obtain ⟨kr40, kr41⟩ := r4.cells
  go_wp2_with fail
  rw [← HWe.out]
  refine (HPr.out W hB).mono ?_
  rintro e V0 ⟨rfl, hb⟩
  (try dsimp only)
  replace r4 := r4.below hb r4.lt
  replace hB := hB.trans (hb.mono hB.size)
  clear kr40 kr41
  obtain ⟨kr40, kr41⟩ := r4.cells
  clear hb
  go_wp2_with fail
  refine (HPa.out V0).mono ?_
  rintro e V ⟨pb, pa, pm, pc, pk, rfl, hp, hb⟩
  (try dsimp only)
  replace r4 := r4.below hb r4.lt
  replace hB := hB.trans (hb.mono hB.size)
  clear kr40 kr41
  obtain ⟨kr40, kr41⟩ := r4.cells
  clear hb
  obtain ⟨V1, hV1, r11, hbV1, hzV1⟩ := rows1 V 24 (.bool pb) (.slice pa pm pc)
  replace r4 := r4.below hbV1 r4.lt
  replace hB := hB.trans (hbV1.mono hB.size)
  clear kr40 kr41
  obtain ⟨kr40, kr41⟩ := r4.cells
  obtain ⟨kr110, kr111⟩ := r11.cells
  rw [hV1] at kr40 kr41 kr110 kr111
  have HV1 := Lib.hid hV1; clear hV1
  replace hp := Lib.hid (hp.out.below hbV1)
  clear hbV1 hzV1
  go_wp2_with fail
  rw [← HV1.out]
  refine (HIn.out V1 hB).mono ?_
  rintro e V2 ⟨rfl, hb⟩
  (try dsimp only)
  replace r4 := r4.below hb r4.lt
  replace r11 := r11.below hb r11.lt
  replace hB := hB.trans (hb.mono hB.size)
  clear kr40 kr41 kr110 kr111
  obtain ⟨kr40, kr41⟩ := r4.cells
  obtain ⟨kr110, kr111⟩ := r11.cells
  replace hp := Lib.hid (hp.out.below hb)
  clear hb
  go_wp2_with fail
  refine (law_awake V2).mono ?_
  rintro e V3 ⟨rfl, hb⟩
  (try dsimp only)
  replace r4 := r4.below hb r4.lt
  replace r11 := r11.below hb r11.lt
  replace hB := hB.trans (hb.mono hB.size)
  clear kr40 kr41 kr110 kr111
  obtain ⟨kr40, kr41⟩ := r4.cells
  obtain ⟨kr110, kr111⟩ := r11.cells
  replace hp := Lib.hid (hp.out.below hb)
  clear hb
  go_wp2_with fail
  refine (HOf.out V3).mono ?_
  rintro e V4 ⟨o1, o2, o3, o4, rfl, ho, hb⟩
  (try dsimp only)
  replace r4 := r4.below hb r4.lt
  replace r11 := r11.below hb r11.lt
  replace hB := hB.trans (hb.mono hB.size)
  clear kr40 kr41 kr110 kr111
  obtain ⟨kr40, kr41⟩ := r4.cells
  obtain ⟨kr110, kr111⟩ := r11.cells
  replace hp := Lib.hid (hp.out.below hb)
  clear hb
  go_wp2_with fail
  refine (HRf.out V4).mono ?_
  rintro e V5 ⟨q1, q2, q3, q4, rfl, hq, hb⟩
  (try dsimp only)
  replace r4 := r4.below hb r4.lt
  replace r11 := r11.below hb r11.lt
  replace hB := hB.trans (hb.mono hB.size)
  clear kr40 kr41 kr110 kr111
  obtain ⟨kr40, kr41⟩ := r4.cells
  obtain ⟨kr110, kr111⟩ := r11.cells
  replace hp := Lib.hid (hp.out.below hb)
  replace ho := Lib.hid (ho.out.below hb)
  clear hb
  go_wp2_with fail
  refine (same_api V5 o1 q1 o2 q2 o3 q3 o4 q4 n ho.out hq.out HLn.out).mono ?_
  rintro e V6 ⟨rfl, hb⟩
  (try dsimp only)
  replace r4 := r4.below hb r4.lt
  replace r11 := r11.below hb r11.lt
  replace hB := hB.trans (hb.mono hB.size)
  clear kr40 kr41 kr110 kr111
  obtain ⟨kr40, kr41⟩ := r4.cells
  obtain ⟨kr110, kr111⟩ := r11.cells
  replace hp := Lib.hid (hp.out.below hb)
  clear hb ho hq
  go_wp2_with fail
  refine (HRi.out V6 hB).mono ?_
  rintro e V7 ⟨rv, ok, rfl, hrv, hb⟩
  (try dsimp only)
  replace r4 := r4.below hb r4.lt
  replace r11 := r11.below hb r11.lt
  replace hB := hB.trans (hb.mono hB.size)
  clear kr40 kr41 kr110 kr111
  obtain ⟨kr40, kr41⟩ := r4.cells
  obtain ⟨kr110, kr111⟩ := r11.cells
  replace hp := Lib.hid (hp.out.below hb)
  clear hb
  obtain rfl : ok = false := (hrv.out.1 (by trivial)).trans Hiz.out
  clear hrv
  go_wp2_with fail
  refine (Hm1.out V7 hB).mono ?_
  rintro e V8 ⟨rfl, hb⟩
  (try dsimp only)
  replace r4 := r4.below hb r4.lt
  replace r11 := r11.below hb r11.lt
  replace hB := hB.trans (hb.mono hB.size)
  clear kr40 kr41 kr110 kr111
  obtain ⟨kr40, kr41⟩ := r4.cells
  obtain ⟨kr110, kr111⟩ := r11.cells
  replace hp := Lib.hid (hp.out.below hb)
  clear hb
  obtain ⟨rfl, rfl, rfl, rfl, rfl⟩ := hp.out.no (d := 1) (by unfold parseCode; rw [if_pos HOb.out]) (by decide)
  clear hp
  go_wp2_with fail
  refine (same_nil V8).mono ?_
  rintro e V9 ⟨rfl, hb⟩
  (try dsimp only)
  replace r4 := r4.below hb r4.lt
  replace r11 := r11.below hb r11.lt
  replace hB := hB.trans (hb.mono hB.size)
  clear kr40 kr41 kr110 kr111
  obtain ⟨kr40, kr41⟩ := r4.cells
  obtain ⟨kr110, kr111⟩ := r11.cells
  clear hb
  go_wp2_with fail
  go_ret
  exact ⟨rfl, hB⟩

set_option maxHeartbeats 16000000 in
set_option maxRecDepth 1000000 in
theorem law_texts_hi_mi (w : World) (b1 : Bool) (a1 : Option Addr) (l1 : List Nat) (nx c1 : Nat) (base n : Int) (s : ByteArray) (h1 : Came w b1 a1 nx l1) (hc1 : nx ≤ c1) (hs : s.size ≤ 140737488355328)
    (hn1 : -9223372036854775808 ≤ n) (hn2 : n ≤ 9223372036854775807) (hbase : 36 < base) (hma : mayB b1 l1 = true) (hiz : inI64 (signed b1 (val l1)) = true) :
    Calls Tryz.prog 5 #[.agg #[.bool b1, .slice a1 nx c1], .int .i64 base, .string s, .int .i64 n] w fun e w' => e = .returned (.bool true) ∧ Below w.heap.size w w' := by
  obtain ⟨W, hWe, r4, hB, hszW⟩ := rows1 w 24 (.bool b1) (.slice a1 nx c1)
  have HWe := Lib.hid hWe; clear hWe
  obtain ⟨z, hz⟩ : ∃ z, z = signed b1 (val l1) := ⟨_, rfl⟩
  obtain ⟨S, hS⟩ : ∃ S : ByteArray, S = ⟨(utxt base.toNat z).toArray⟩ := ⟨_, rfl⟩
  have hob : okBase base = false := by rw [Bool.eq_false_iff, Ne, okBase_iff]; omega
  have d1 : decide (base < 2) = false := decide_eq_false (by omega)
  have d2 : decide (36 < base) = true := decide_eq_true hbase
  have hpr := fun X (h : Below w.heap.size w X) => since_print (c := c1) (base := base) (S := S) (W := w) h1 (by rw [hS, hz]) h
  rw [hob, hma] at hpr
  have hpr2 := fun X (h : Below w.heap.size w X) => (hpr X h).mono fun e X' he => show e = .returned (.tuple #[.string ⟨#[]⟩, .int .i64 1]) ∧ Below X.heap.size X X' from he
  have HPr := Lib.hid hpr2; clear hpr hpr2
  have HPa := Lib.hid (fun X => since_parse X s base hs)
  have hin := fun X (h : Below w.heap.size w X) => since_lint (c := c1) (W := w) h1 hz h
  rw [hma] at hin
  rw [show inI64 z = true from by rw [hz]; exact hiz] at hin
  have hin2 := fun X (h : Below w.heap.size w X) => (hin X h).mono fun e X' he => show e = .returned (.tuple #[.int .i64 z, .int .i64 0]) ∧ Below X.heap.size X X' from he
  have HIn := Lib.hid hin2; clear hin hin2
  have hri := fun X (h : Below w.heap.size w X) => since_rint (c := c1) (W := w) h1 hz h
  rw [hma] at hri
  have HRi := Lib.hid hri; clear hri
  have hm1 := fun X (h : Below w.heap.size w X) => since_may' (c := c1) (W := w) h1 h
  rw [hma] at hm1
  have Hm1 := Lib.hid hm1; clear hm1
  have HA := Lib.hid (fun X (h : Below w.heap.size w X) => show ApiV X (.agg #[.bool b1, .slice a1 nx c1]) z from by rw [hz]; exact (h1.api hma hc1).below h)
  have HLz := Lib.hid (show (rep z.natAbs).length ≤ 1024 from by rw [hz]; exact h1.len hma)
  have HS := Lib.hid hS
  have HOb := Lib.hid hob
  have Hiz := Lib.hid (show inI64 z = true from by rw [hz]; exact hiz)
  have hsc : ∀ X, Calls Tryz.prog 32 #[.int .i64 n] X fun e X' => ∃ b a m c, e = .returned (.agg #[.bool b, .slice a m c]) ∧ Hid (ApiV X' (.agg #[.bool b, .slice a m c]) n) ∧ Below X.heap.size X X' := fun X => (large_of X n hn1 hn2).mono fun e X' he => by
    obtain ⟨u, rfl, hu, hb⟩ := he
    obtain ⟨b, a, m, c, rfl, -⟩ := id hu.open
    exact ⟨b, a, m, c, rfl, Lib.hid hu, hb⟩
  have hsr : ∀ X, Calls Tryz.prog 23 #[.int .i64 n] X fun e X' => ∃ b a m c, e = .returned (.agg #[.bool b, .slice a m c]) ∧ Hid (ApiV X' (.agg #[.bool b, .slice a m c]) n) ∧ Below X.heap.size X X' := fun X => (ref_of X n hn1 hn2).mono fun e X' he => by
    obtain ⟨u, rfl, hu, hb⟩ := he
    obtain ⟨b, a, m, c, rfl, -⟩ := id hu.open
    exact ⟨b, a, m, c, rfl, Lib.hid hu, hb⟩
  have HOf := Lib.hid hsc
  have HRf := Lib.hid hsr
  have HLn := Lib.hid (Nat.le_trans (len_i64 hn1 hn2) (by decide) : (rep n.natAbs).length ≤ 9223372036854775807)
  clear hsc hsr h1 hc1 hz hS hob hma hszW hiz hbase
  go_enter Tryz.func5, Tryz.ntmps5
  obtain ⟨kr40, kr41⟩ := r4.cells
  go_wp2_with fail
  rw [← HWe.out]
  refine (HPr.out W hB).mono ?_
  rintro e V0 ⟨rfl, hb⟩
  (try dsimp only)
  replace r4 := r4.below hb r4.lt
  replace hB := hB.trans (hb.mono hB.size)
  clear kr40 kr41
  obtain ⟨kr40, kr41⟩ := r4.cells
  clear hb
  go_wp2_with fail
  refine (HPa.out V0).mono ?_
  rintro e V ⟨pb, pa, pm, pc, pk, rfl, hp, hb⟩
  (try dsimp only)
  replace r4 := r4.below hb r4.lt
  replace hB := hB.trans (hb.mono hB.size)
  clear kr40 kr41
  obtain ⟨kr40, kr41⟩ := r4.cells
  clear hb
  obtain ⟨V1, hV1, r11, hbV1, hzV1⟩ := rows1 V 24 (.bool pb) (.slice pa pm pc)
  replace r4 := r4.below hbV1 r4.lt
  replace hB := hB.trans (hbV1.mono hB.size)
  clear kr40 kr41
  obtain ⟨kr40, kr41⟩ := r4.cells
  obtain ⟨kr110, kr111⟩ := r11.cells
  rw [hV1] at kr40 kr41 kr110 kr111
  have HV1 := Lib.hid hV1; clear hV1
  replace hp := Lib.hid (hp.out.below hbV1)
  clear hbV1 hzV1
  go_wp2_with fail
  rw [← HV1.out]
  refine (HIn.out V1 hB).mono ?_
  rintro e V2 ⟨rfl, hb⟩
  (try dsimp only)
  replace r4 := r4.below hb r4.lt
  replace r11 := r11.below hb r11.lt
  replace hB := hB.trans (hb.mono hB.size)
  clear kr40 kr41 kr110 kr111
  obtain ⟨kr40, kr41⟩ := r4.cells
  obtain ⟨kr110, kr111⟩ := r11.cells
  replace hp := Lib.hid (hp.out.below hb)
  clear hb
  go_wp2_with fail
  refine (law_awake V2).mono ?_
  rintro e V3 ⟨rfl, hb⟩
  (try dsimp only)
  replace r4 := r4.below hb r4.lt
  replace r11 := r11.below hb r11.lt
  replace hB := hB.trans (hb.mono hB.size)
  clear kr40 kr41 kr110 kr111
  obtain ⟨kr40, kr41⟩ := r4.cells
  obtain ⟨kr110, kr111⟩ := r11.cells
  replace hp := Lib.hid (hp.out.below hb)
  clear hb
  go_wp2_with fail
  refine (HOf.out V3).mono ?_
  rintro e V4 ⟨o1, o2, o3, o4, rfl, ho, hb⟩
  (try dsimp only)
  replace r4 := r4.below hb r4.lt
  replace r11 := r11.below hb r11.lt
  replace hB := hB.trans (hb.mono hB.size)
  clear kr40 kr41 kr110 kr111
  obtain ⟨kr40, kr41⟩ := r4.cells
  obtain ⟨kr110, kr111⟩ := r11.cells
  replace hp := Lib.hid (hp.out.below hb)
  clear hb
  go_wp2_with fail
  refine (HRf.out V4).mono ?_
  rintro e V5 ⟨q1, q2, q3, q4, rfl, hq, hb⟩
  (try dsimp only)
  replace r4 := r4.below hb r4.lt
  replace r11 := r11.below hb r11.lt
  replace hB := hB.trans (hb.mono hB.size)
  clear kr40 kr41 kr110 kr111
  obtain ⟨kr40, kr41⟩ := r4.cells
  obtain ⟨kr110, kr111⟩ := r11.cells
  replace hp := Lib.hid (hp.out.below hb)
  replace ho := Lib.hid (ho.out.below hb)
  clear hb
  go_wp2_with fail
  refine (same_api V5 o1 q1 o2 q2 o3 q3 o4 q4 n ho.out hq.out HLn.out).mono ?_
  rintro e V6 ⟨rfl, hb⟩
  (try dsimp only)
  replace r4 := r4.below hb r4.lt
  replace r11 := r11.below hb r11.lt
  replace hB := hB.trans (hb.mono hB.size)
  clear kr40 kr41 kr110 kr111
  obtain ⟨kr40, kr41⟩ := r4.cells
  obtain ⟨kr110, kr111⟩ := r11.cells
  replace hp := Lib.hid (hp.out.below hb)
  clear hb ho hq
  go_wp2_with fail
  refine (HRi.out V6 hB).mono ?_
  rintro e V7 ⟨rv, ok, rfl, hrv, hb⟩
  (try dsimp only)
  replace r4 := r4.below hb r4.lt
  replace r11 := r11.below hb r11.lt
  replace hB := hB.trans (hb.mono hB.size)
  clear kr40 kr41 kr110 kr111
  obtain ⟨kr40, kr41⟩ := r4.cells
  obtain ⟨kr110, kr111⟩ := r11.cells
  replace hp := Lib.hid (hp.out.below hb)
  clear hb
  obtain rfl : ok = true := (hrv.out.1 (by trivial)).trans Hiz.out
  obtain rfl : z = rv := (hrv.out.2 (by trivial)).symm
  clear hrv
  go_wp2_with fail
  refine (Hm1.out V7 hB).mono ?_
  rintro e V8 ⟨rfl, hb⟩
  (try dsimp only)
  replace r4 := r4.below hb r4.lt
  replace r11 := r11.below hb r11.lt
  replace hB := hB.trans (hb.mono hB.size)
  clear kr40 kr41 kr110 kr111
  obtain ⟨kr40, kr41⟩ := r4.cells
  obtain ⟨kr110, kr111⟩ := r11.cells
  replace hp := Lib.hid (hp.out.below hb)
  clear hb
  obtain ⟨rfl, rfl, rfl, rfl, rfl⟩ := hp.out.no (d := 1) (by unfold parseCode; rw [if_pos HOb.out]) (by decide)
  clear hp
  go_wp2_with fail
  refine (same_nil V8).mono ?_
  rintro e V9 ⟨rfl, hb⟩
  (try dsimp only)
  replace r4 := r4.below hb r4.lt
  replace r11 := r11.below hb r11.lt
  replace hB := hB.trans (hb.mono hB.size)
  clear kr40 kr41 kr110 kr111
  obtain ⟨kr40, kr41⟩ := r4.cells
  obtain ⟨kr110, kr111⟩ := r11.cells
  clear hb
  go_wp2_with fail
  go_ret
  exact ⟨rfl, hB⟩

set_option maxHeartbeats 16000000 in
set_option maxRecDepth 1000000 in
theorem law_texts_ok_n (w : World) (b1 : Bool) (a1 : Option Addr) (l1 : List Nat) (nx c1 : Nat) (base n : Int) (s : ByteArray) (h1 : Came w b1 a1 nx l1) (hc1 : nx ≤ c1) (hs : s.size ≤ 140737488355328)
    (hn1 : -9223372036854775808 ≤ n) (hn2 : n ≤ 9223372036854775807) (hob : okBase base = true) (hma : mayB b1 l1 = false) :
    Calls Tryz.prog 5 #[.agg #[.bool b1, .slice a1 nx c1], .int .i64 base, .string s, .int .i64 n] w fun e w' => e = .returned (.bool true) ∧ Below w.heap.size w w' := by
  obtain ⟨W, hWe, r4, hB, hszW⟩ := rows1 w 24 (.bool b1) (.slice a1 nx c1)
  have HWe := Lib.hid hWe; clear hWe
  obtain ⟨z, hz⟩ : ∃ z, z = signed b1 (val l1) := ⟨_, rfl⟩
  obtain ⟨S, hS⟩ : ∃ S : ByteArray, S = ⟨(utxt base.toNat z).toArray⟩ := ⟨_, rfl⟩
  have hb' := okBase_iff.1 hob
  have d1 : decide (base < 2) = false := decide_eq_false (by omega)
  have d2 : decide (36 < base) = false := decide_eq_false (by omega)
  have hpr := fun X (h : Below w.heap.size w X) => since_print (c := c1) (base := base) (S := S) (W := w) h1 (by rw [hS, hz]) h
  rw [hob, hma] at hpr
  have hpr2 := fun X (h : Below w.heap.size w X) => (hpr X h).mono fun e X' he => show e = .returned (.tuple #[.string ⟨#[]⟩, .int .i64 1]) ∧ Below X.heap.size X X' from he
  have HPr := Lib.hid hpr2; clear hpr hpr2
  have HPa := Lib.hid (fun X => since_parse X s base hs)
  have hin := fun X (h : Below w.heap.size w X) => since_lint (c := c1) (W := w) h1 hz h
  rw [hma] at hin
  have hin2 := fun X (h : Below w.heap.size w X) => (hin X h).mono fun e X' he => show e = .returned (.tuple #[.int .i64 0, .int .i64 1]) ∧ Below X.heap.size X X' from he
  have HIn := Lib.hid hin2; clear hin hin2
  have hri := fun X (h : Below w.heap.size w X) => since_rint (c := c1) (W := w) h1 hz h
  rw [hma] at hri
  have HRi := Lib.hid hri; clear hri
  have hm1 := fun X (h : Below w.heap.size w X) => since_may' (c := c1) (W := w) h1 h
  rw [hma] at hm1
  have Hm1 := Lib.hid hm1; clear hm1
  have HS := Lib.hid hS
  have HOb := Lib.hid hob
  obtain ⟨k, hk⟩ : ∃ k : Nat, base = (k : Int) := ⟨base.toNat, by omega⟩
  have Hk := Lib.hid hk
  have hk2 : 2 ≤ k := by omega
  have hk36 : k ≤ 36 := by omega
  clear hk hb'
  have hsc : ∀ X, Calls Tryz.prog 32 #[.int .i64 n] X fun e X' => ∃ b a m c, e = .returned (.agg #[.bool b, .slice a m c]) ∧ Hid (ApiV X' (.agg #[.bool b, .slice a m c]) n) ∧ Below X.heap.size X X' := fun X => (large_of X n hn1 hn2).mono fun e X' he => by
    obtain ⟨u, rfl, hu, hb⟩ := he
    obtain ⟨b, a, m, c, rfl, -⟩ := id hu.open
    exact ⟨b, a, m, c, rfl, Lib.hid hu, hb⟩
  have hsr : ∀ X, Calls Tryz.prog 23 #[.int .i64 n] X fun e X' => ∃ b a m c, e = .returned (.agg #[.bool b, .slice a m c]) ∧ Hid (ApiV X' (.agg #[.bool b, .slice a m c]) n) ∧ Below X.heap.size X X' := fun X => (ref_of X n hn1 hn2).mono fun e X' he => by
    obtain ⟨u, rfl, hu, hb⟩ := he
    obtain ⟨b, a, m, c, rfl, -⟩ := id hu.open
    exact ⟨b, a, m, c, rfl, Lib.hid hu, hb⟩
  have HOf := Lib.hid hsc
  have HRf := Lib.hid hsr
  have HLn := Lib.hid (Nat.le_trans (len_i64 hn1 hn2) (by decide) : (rep n.natAbs).length ≤ 9223372036854775807)
  clear hsc hsr h1 hc1 hz hS hob hma hszW
  go_enter Tryz.func5, Tryz.ntmps5
  obtain ⟨kr40, kr41⟩ := r4.cells
  go_wp2_with fail
  rw [← HWe.out]
  refine (HPr.out W hB).mono ?_
  rintro e V0 ⟨rfl, hb⟩
  (try dsimp only)
  replace r4 := r4.below hb r4.lt
  replace hB := hB.trans (hb.mono hB.size)
  clear kr40 kr41
  obtain ⟨kr40, kr41⟩ := r4.cells
  clear hb
  go_wp2_with fail
  refine (HPa.out V0).mono ?_
  rintro e V ⟨pb, pa, pm, pc, pk, rfl, hp, hb⟩
  (try dsimp only)
  replace r4 := r4.below hb r4.lt
  replace hB := hB.trans (hb.mono hB.size)
  clear kr40 kr41
  obtain ⟨kr40, kr41⟩ := r4.cells
  clear hb
  obtain ⟨V1, hV1, r11, hbV1, hzV1⟩ := rows1 V 24 (.bool pb) (.slice pa pm pc)
  replace r4 := r4.below hbV1 r4.lt
  replace hB := hB.trans (hbV1.mono hB.size)
  clear kr40 kr41
  obtain ⟨kr40, kr41⟩ := r4.cells
  obtain ⟨kr110, kr111⟩ := r11.cells
  rw [hV1] at kr40 kr41 kr110 kr111
  have HV1 := Lib.hid hV1; clear hV1
  replace hp := Lib.hid (hp.out.below hbV1)
  clear hbV1 hzV1
  go_wp2_with fail
  rw [← HV1.out]
  refine (HIn.out V1 hB).mono ?_
  rintro e V2 ⟨rfl, hb⟩
  (try dsimp only)
  replace r4 := r4.below hb r4.lt
  replace r11 := r11.below hb r11.lt
  replace hB := hB.trans (hb.mono hB.size)
  clear kr40 kr41 kr110 kr111
  obtain ⟨kr40, kr41⟩ := r4.cells
  obtain ⟨kr110, kr111⟩ := r11.cells
  replace hp := Lib.hid (hp.out.below hb)
  clear hb
  go_wp2_with fail
  refine (law_awake V2).mono ?_
  rintro e V3 ⟨rfl, hb⟩
  (try dsimp only)
  replace r4 := r4.below hb r4.lt
  replace r11 := r11.below hb r11.lt
  replace hB := hB.trans (hb.mono hB.size)
  clear kr40 kr41 kr110 kr111
  obtain ⟨kr40, kr41⟩ := r4.cells
  obtain ⟨kr110, kr111⟩ := r11.cells
  replace hp := Lib.hid (hp.out.below hb)
  clear hb
  go_wp2_with fail
  refine (HOf.out V3).mono ?_
  rintro e V4 ⟨o1, o2, o3, o4, rfl, ho, hb⟩
  (try dsimp only)
  replace r4 := r4.below hb r4.lt
  replace r11 := r11.below hb r11.lt
  replace hB := hB.trans (hb.mono hB.size)
  clear kr40 kr41 kr110 kr111
  obtain ⟨kr40, kr41⟩ := r4.cells
  obtain ⟨kr110, kr111⟩ := r11.cells
  replace hp := Lib.hid (hp.out.below hb)
  clear hb
  go_wp2_with fail
  refine (HRf.out V4).mono ?_
  rintro e V5 ⟨q1, q2, q3, q4, rfl, hq, hb⟩
  (try dsimp only)
  replace r4 := r4.below hb r4.lt
  replace r11 := r11.below hb r11.lt
  replace hB := hB.trans (hb.mono hB.size)
  clear kr40 kr41 kr110 kr111
  obtain ⟨kr40, kr41⟩ := r4.cells
  obtain ⟨kr110, kr111⟩ := r11.cells
  replace hp := Lib.hid (hp.out.below hb)
  replace ho := Lib.hid (ho.out.below hb)
  clear hb
  go_wp2_with fail
  refine (same_api V5 o1 q1 o2 q2 o3 q3 o4 q4 n ho.out hq.out HLn.out).mono ?_
  rintro e V6 ⟨rfl, hb⟩
  (try dsimp only)
  replace r4 := r4.below hb r4.lt
  replace r11 := r11.below hb r11.lt
  replace hB := hB.trans (hb.mono hB.size)
  clear kr40 kr41 kr110 kr111
  obtain ⟨kr40, kr41⟩ := r4.cells
  obtain ⟨kr110, kr111⟩ := r11.cells
  replace hp := Lib.hid (hp.out.below hb)
  clear hb ho hq
  go_wp2_with fail
  refine (HRi.out V6 hB).mono ?_
  rintro e V7 ⟨rv, ok, rfl, hrv, hb⟩
  (try dsimp only)
  replace r4 := r4.below hb r4.lt
  replace r11 := r11.below hb r11.lt
  replace hB := hB.trans (hb.mono hB.size)
  clear kr40 kr41 kr110 kr111
  obtain ⟨kr40, kr41⟩ := r4.cells
  obtain ⟨kr110, kr111⟩ := r11.cells
  replace hp := Lib.hid (hp.out.below hb)
  clear hb
  clear hrv
  go_wp2_with fail
  refine (Hm1.out V7 hB).mono ?_
  rintro e V8 ⟨rfl, hb⟩
  (try dsimp only)
  replace r4 := r4.below hb r4.lt
  replace r11 := r11.below hb r11.lt
  replace hB := hB.trans (hb.mono hB.size)
  clear kr40 kr41 kr110 kr111
  obtain ⟨kr40, kr41⟩ := r4.cells
  obtain ⟨kr110, kr111⟩ := r11.cells
  replace hp := Lib.hid (hp.out.below hb)
  clear hb
  obtain ⟨bad, hbad⟩ : ∃ bad, bad = badT k (parseT (bytesN s)) := ⟨_, rfl⟩
  have hcode : parseCode base s = if bad = true then 91 else 0 := by unfold parseCode; rw [if_neg (by rw [HOb.out]; decide), hbad, Hk.out, Int.toNat_natCast]
  have Hcode := Lib.hid hcode; clear hcode
  have Hbad := Lib.hid hbad; clear hbad
  cases bad with
  | true =>
    as_aux_lemma =>
      obtain ⟨rfl, rfl, rfl, rfl, rfl⟩ := hp.out.no (d := 91) Hcode.out (by decide)
      clear hp
      have HRb := Lib.hid (fun X => ref_parse_bad X s k hk2 hk36 hs Hbad.out.symm)
      rw [← Hk.out] at HRb
      go_wp2_with fail
      refine (HRb.out V8).mono ?_
      rintro e Y ⟨rfl, hb⟩
      (try dsimp only)
      replace r4 := r4.below hb r4.lt
      replace r11 := r11.below hb r11.lt
      replace hB := hB.trans (hb.mono hB.size)
      clear kr40 kr41 kr110 kr111
      obtain ⟨kr40, kr41⟩ := r4.cells
      obtain ⟨kr110, kr111⟩ := r11.cells
      clear hb
      obtain ⟨Y1, hY1, r17, hbY1, hzY1⟩ := rows1 Y 24 (.bool false) (.slice none 0 0)
      replace r4 := r4.below hbY1 r4.lt
      replace r11 := r11.below hbY1 r11.lt
      replace hB := hB.trans (hbY1.mono hB.size)
      clear kr40 kr41 kr110 kr111
      obtain ⟨kr40, kr41⟩ := r4.cells
      obtain ⟨kr110, kr111⟩ := r11.cells
      obtain ⟨kr170, kr171⟩ := r17.cells
      rw [hY1] at kr40 kr41 kr110 kr111 kr170 kr171
      have HY1 := Lib.hid hY1; clear hY1
      clear hbY1 hzY1
      go_wp2_with fail
      rw [← HY1.out]
      refine (same_nil Y1).mono ?_
      rintro e Y2 ⟨rfl, hb⟩
      (try dsimp only)
      replace r4 := r4.below hb r4.lt
      replace r11 := r11.below hb r11.lt
      replace r17 := r17.below hb r17.lt
      replace hB := hB.trans (hb.mono hB.size)
      clear kr40 kr41 kr110 kr111 kr170 kr171
      obtain ⟨kr40, kr41⟩ := r4.cells
      obtain ⟨kr110, kr111⟩ := r11.cells
      obtain ⟨kr170, kr171⟩ := r17.cells
      clear hb
      go_wp2_with fail
      refine (Hm1.out Y2 hB).mono ?_
      rintro e Y3 ⟨rfl, hb⟩
      (try dsimp only)
      replace r4 := r4.below hb r4.lt
      replace r11 := r11.below hb r11.lt
      replace r17 := r17.below hb r17.lt
      replace hB := hB.trans (hb.mono hB.size)
      clear kr40 kr41 kr110 kr111 kr170 kr171
      obtain ⟨kr40, kr41⟩ := r4.cells
      obtain ⟨kr110, kr111⟩ := r11.cells
      obtain ⟨kr170, kr171⟩ := r17.cells
      clear hb
      go_wp2_with fail
      go_ret
      exact ⟨rfl, hB⟩
  | false =>
    as_aux_lemma =>
      have hA := hp.out.yes Hcode.out
      rw [Hk.out, Int.toNat_natCast] at hA
      obtain ⟨zp, hzp⟩ : ∃ zp, zp = parseZ k (bytesN s) := ⟨_, rfl⟩
      rw [← hzp] at hA
      have Hzp := Lib.hid hzp; clear hzp
      have HRo := Lib.hid (fun X => (ref_parse_ok X s k hk2 hk36 hs Hbad.out.symm))
      rw [← Hk.out, ← Hzp.out] at HRo
      by_cases hl : (rep zp.natAbs).length ≤ 1024
      · as_aux_lemma =>
          obtain ⟨rfl, hA2⟩ := hA.short hl
          have HAp := Lib.hid hA2
          have HLp := Lib.hid (Nat.le_trans hl (by decide) : (rep zp.natAbs).length ≤ 9223372036854775807)
          have HRq := Lib.hid (fun X => (HRo.out X).mono fun e X' he => show ∃ b a m c, e = .returned (.tuple #[.agg #[.bool b, .slice a m c], .int .i64 0]) ∧ Hid (ApiV X' (.agg #[.bool b, .slice a m c]) zp) ∧ Below X.heap.size X X' from by
            obtain ⟨⟨k1, _⟩ | ⟨_, b, a, m, c, k2, k3⟩, k4⟩ := he
            · omega
            · exact ⟨b, a, m, c, k2, Lib.hid k3, k4⟩)
          clear hA hA2 hp HRo hl
          go_wp2_with fail
          refine (HRq.out V8).mono ?_
          rintro e Y ⟨wb, wa, wn, wc', rfl, hw, hb⟩
          (try dsimp only)
          replace r4 := r4.below hb r4.lt
          replace r11 := r11.below hb r11.lt
          replace hB := hB.trans (hb.mono hB.size)
          clear kr40 kr41 kr110 kr111
          obtain ⟨kr40, kr41⟩ := r4.cells
          obtain ⟨kr110, kr111⟩ := r11.cells
          replace HAp := Lib.hid (HAp.out.below hb)
          clear hb
          obtain ⟨Y1, hY1, r17, hbY1, hzY1⟩ := rows1 Y 24 (.bool wb) (.slice wa wn wc')
          replace r4 := r4.below hbY1 r4.lt
          replace r11 := r11.below hbY1 r11.lt
          replace hB := hB.trans (hbY1.mono hB.size)
          clear kr40 kr41 kr110 kr111
          obtain ⟨kr40, kr41⟩ := r4.cells
          obtain ⟨kr110, kr111⟩ := r11.cells
          obtain ⟨kr170, kr171⟩ := r17.cells
          rw [hY1] at kr40 kr41 kr110 kr111 kr170 kr171
          have HY1 := Lib.hid hY1; clear hY1
          replace HAp := Lib.hid (HAp.out.below hbY1)
          replace hw := Lib.hid (hw.out.below hbY1)
          clear hbY1 hzY1
          go_wp2_with fail
          rw [← HY1.out]
          refine (same_api Y1 pb wb pa wa pm wn pc wc' zp HAp.out hw.out HLp.out).mono ?_
          rintro e Y2 ⟨rfl, hb⟩
          (try dsimp only)
          replace r4 := r4.below hb r4.lt
          replace r11 := r11.below hb r11.lt
          replace r17 := r17.below hb r17.lt
          replace hB := hB.trans (hb.mono hB.size)
          clear kr40 kr41 kr110 kr111 kr170 kr171
          obtain ⟨kr40, kr41⟩ := r4.cells
          obtain ⟨kr110, kr111⟩ := r11.cells
          obtain ⟨kr170, kr171⟩ := r17.cells
          clear hb HAp hw
          go_wp2_with fail
          refine (Hm1.out Y2 hB).mono ?_
          rintro e Y3 ⟨rfl, hb⟩
          (try dsimp only)
          replace r4 := r4.below hb r4.lt
          replace r11 := r11.below hb r11.lt
          replace r17 := r17.below hb r17.lt
          replace hB := hB.trans (hb.mono hB.size)
          clear kr40 kr41 kr110 kr111 kr170 kr171
          obtain ⟨kr40, kr41⟩ := r4.cells
          obtain ⟨kr110, kr111⟩ := r11.cells
          obtain ⟨kr170, kr171⟩ := r17.cells
          clear hb
          go_wp2_with fail
          go_ret
          exact ⟨rfl, hB⟩
      · as_aux_lemma =>
          obtain ⟨rfl, rfl, rfl, rfl, rfl⟩ := hA.long (by omega)
          have HRq := Lib.hid (fun X => (HRo.out X).mono fun e X' he => show e = .returned (.tuple #[.agg #[.bool false, .slice none 0 0], .int .i64 2]) ∧ Below X.heap.size X X' from by
            obtain ⟨⟨_, k1⟩ | ⟨k1, _⟩, k4⟩ := he
            · exact ⟨k1, k4⟩
            · exact absurd k1 hl)
          clear hA hp HRo hl
          go_wp2_with fail
          refine (HRq.out V8).mono ?_
          rintro e Y ⟨rfl, hb⟩
          (try dsimp only)
          replace r4 := r4.below hb r4.lt
          replace r11 := r11.below hb r11.lt
          replace hB := hB.trans (hb.mono hB.size)
          clear kr40 kr41 kr110 kr111
          obtain ⟨kr40, kr41⟩ := r4.cells
          obtain ⟨kr110, kr111⟩ := r11.cells
          clear hb
          obtain ⟨Y1, hY1, r17, hbY1, hzY1⟩ := rows1 Y 24 (.bool false) (.slice none 0 0)
          replace r4 := r4.below hbY1 r4.lt
          replace r11 := r11.below hbY1 r11.lt
          replace hB := hB.trans (hbY1.mono hB.size)
          clear kr40 kr41 kr110 kr111
          obtain ⟨kr40, kr41⟩ := r4.cells
          obtain ⟨kr110, kr111⟩ := r11.cells
          obtain ⟨kr170, kr171⟩ := r17.cells
          rw [hY1] at kr40 kr41 kr110 kr111 kr170 kr171
          have HY1 := Lib.hid hY1; clear hY1
          clear hbY1 hzY1
          go_wp2_with fail
          rw [← HY1.out]
          refine (same_nil Y1).mono ?_
          rintro e Y2 ⟨rfl, hb⟩
          (try dsimp only)
          replace r4 := r4.below hb r4.lt
          replace r11 := r11.below hb r11.lt
          replace r17 := r17.below hb r17.lt
          replace hB := hB.trans (hb.mono hB.size)
          clear kr40 kr41 kr110 kr111 kr170 kr171
          obtain ⟨kr40, kr41⟩ := r4.cells
          obtain ⟨kr110, kr111⟩ := r11.cells
          obtain ⟨kr170, kr171⟩ := r17.cells
          clear hb
          go_wp2_with fail
          refine (Hm1.out Y2 hB).mono ?_
          rintro e Y3 ⟨rfl, hb⟩
          (try dsimp only)
          replace r4 := r4.below hb r4.lt
          replace r11 := r11.below hb r11.lt
          replace r17 := r17.below hb r17.lt
          replace hB := hB.trans (hb.mono hB.size)
          clear kr40 kr41 kr110 kr111 kr170 kr171
          obtain ⟨kr40, kr41⟩ := r4.cells
          obtain ⟨kr110, kr111⟩ := r11.cells
          obtain ⟨kr170, kr171⟩ := r17.cells
          clear hb
          go_wp2_with fail
          go_ret
          exact ⟨rfl, hB⟩

set_option maxHeartbeats 16000000 in
set_option maxRecDepth 1000000 in
theorem law_texts_ok_mj (w : World) (b1 : Bool) (a1 : Option Addr) (l1 : List Nat) (nx c1 : Nat) (base n : Int) (s : ByteArray) (h1 : Came w b1 a1 nx l1) (hc1 : nx ≤ c1) (hs : s.size ≤ 140737488355328)
    (hn1 : -9223372036854775808 ≤ n) (hn2 : n ≤ 9223372036854775807) (hob : okBase base = true) (hma : mayB b1 l1 = true) (hiz : inI64 (signed b1 (val l1)) = false) :
    Calls Tryz.prog 5 #[.agg #[.bool b1, .slice a1 nx c1], .int .i64 base, .string s, .int .i64 n] w fun e w' => e = .returned (.bool true) ∧ Below w.heap.size w w' := by
  obtain ⟨W, hWe, r4, hB, hszW⟩ := rows1 w 24 (.bool b1) (.slice a1 nx c1)
  have HWe := Lib.hid hWe; clear hWe
  obtain ⟨z, hz⟩ : ∃ z, z = signed b1 (val l1) := ⟨_, rfl⟩
  obtain ⟨S, hS⟩ : ∃ S : ByteArray, S = ⟨(utxt base.toNat z).toArray⟩ := ⟨_, rfl⟩
  have hb' := okBase_iff.1 hob
  have d1 : decide (base < 2) = false := decide_eq_false (by omega)
  have d2 : decide (36 < base) = false := decide_eq_false (by omega)
  have hpr := fun X (h : Below w.heap.size w X) => since_print (c := c1) (base := base) (S := S) (W := w) h1 (by rw [hS, hz]) h
  rw [hob, hma] at hpr
  have hpr2 := fun X (h : Below w.heap.size w X) => (hpr X h).mono fun e X' he => show e = .returned (.tuple #[.string S, .int .i64 0]) ∧ Below X.heap.size X X' from he
  have HPr := Lib.hid hpr2; clear hpr hpr2
  have HPa := Lib.hid (fun X => since_parse X s base hs)
  have hin := fun X (h : Below w.heap.size w X) => since_lint (c := c1) (W := w) h1 hz h
  rw [hma] at hin
  rw [show inI64 z = false from by rw [hz]; exact hiz] at hin
  have hin2 := fun X (h : Below w.heap.size w X) => (hin X h).mono fun e X' he => show e = .returned (.tuple #[.int .i64 0, .int .i64 1]) ∧ Below X.heap.size X X' from he
  have HIn := Lib.hid hin2; clear hin hin2
  have hri := fun X (h : Below w.heap.size w X) => since_rint (c := c1) (W := w) h1 hz h
  rw [hma] at hri
  have HRi := Lib.hid hri; clear hri
  have hm1 := fun X (h : Below w.heap.size w X) => since_may' (c := c1) (W := w) h1 h
  rw [hma] at hm1
  have Hm1 := Lib.hid hm1; clear hm1
  have HA := Lib.hid (fun X (h : Below w.heap.size w X) => show ApiV X (.agg #[.bool b1, .slice a1 nx c1]) z from by rw [hz]; exact (h1.api hma hc1).below h)
  have HLz := Lib.hid (show (rep z.natAbs).length ≤ 1024 from by rw [hz]; exact h1.len hma)
  have HS := Lib.hid hS
  have HOb := Lib.hid hob
  obtain ⟨k, hk⟩ : ∃ k : Nat, base = (k : Int) := ⟨base.toNat, by omega⟩
  have Hk := Lib.hid hk
  have hk2 : 2 ≤ k := by omega
  have hk36 : k ≤ 36 := by omega
  clear hk hb'
  have Hiz := Lib.hid (show inI64 z = false from by rw [hz]; exact hiz)
  have hsc : ∀ X, Calls Tryz.prog 32 #[.int .i64 n] X fun e X' => ∃ b a m c, e = .returned (.agg #[.bool b, .slice a m c]) ∧ Hid (ApiV X' (.agg #[.bool b, .slice a m c]) n) ∧ Below X.heap.size X X' := fun X => (large_of X n hn1 hn2).mono fun e X' he => by
    obtain ⟨u, rfl, hu, hb⟩ := he
    obtain ⟨b, a, m, c, rfl, -⟩ := id hu.open
    exact ⟨b, a, m, c, rfl, Lib.hid hu, hb⟩
  have hsr : ∀ X, Calls Tryz.prog 23 #[.int .i64 n] X fun e X' => ∃ b a m c, e = .returned (.agg #[.bool b, .slice a m c]) ∧ Hid (ApiV X' (.agg #[.bool b, .slice a m c]) n) ∧ Below X.heap.size X X' := fun X => (ref_of X n hn1 hn2).mono fun e X' he => by
    obtain ⟨u, rfl, hu, hb⟩ := he
    obtain ⟨b, a, m, c, rfl, -⟩ := id hu.open
    exact ⟨b, a, m, c, rfl, Lib.hid hu, hb⟩
  have HOf := Lib.hid hsc
  have HRf := Lib.hid hsr
  have HLn := Lib.hid (Nat.le_trans (len_i64 hn1 hn2) (by decide) : (rep n.natAbs).length ≤ 9223372036854775807)
  clear hsc hsr h1 hc1 hz hS hob hma hszW hiz
  go_enter Tryz.func5, Tryz.ntmps5
  obtain ⟨kr40, kr41⟩ := r4.cells
  go_wp2_with fail
  rw [← HWe.out]
  refine (HPr.out W hB).mono ?_
  rintro e V0 ⟨rfl, hb⟩
  (try dsimp only)
  replace r4 := r4.below hb r4.lt
  replace hB := hB.trans (hb.mono hB.size)
  clear kr40 kr41
  obtain ⟨kr40, kr41⟩ := r4.cells
  clear hb
  go_wp2_with fail
  refine (HPa.out V0).mono ?_
  rintro e V ⟨pb, pa, pm, pc, pk, rfl, hp, hb⟩
  (try dsimp only)
  replace r4 := r4.below hb r4.lt
  replace hB := hB.trans (hb.mono hB.size)
  clear kr40 kr41
  obtain ⟨kr40, kr41⟩ := r4.cells
  clear hb
  obtain ⟨V1, hV1, r11, hbV1, hzV1⟩ := rows1 V 24 (.bool pb) (.slice pa pm pc)
  replace r4 := r4.below hbV1 r4.lt
  replace hB := hB.trans (hbV1.mono hB.size)
  clear kr40 kr41
  obtain ⟨kr40, kr41⟩ := r4.cells
  obtain ⟨kr110, kr111⟩ := r11.cells
  rw [hV1] at kr40 kr41 kr110 kr111
  have HV1 := Lib.hid hV1; clear hV1
  replace hp := Lib.hid (hp.out.below hbV1)
  clear hbV1 hzV1
  go_wp2_with fail
  rw [← HV1.out]
  refine (HIn.out V1 hB).mono ?_
  rintro e V2 ⟨rfl, hb⟩
  (try dsimp only)
  replace r4 := r4.below hb r4.lt
  replace r11 := r11.below hb r11.lt
  replace hB := hB.trans (hb.mono hB.size)
  clear kr40 kr41 kr110 kr111
  obtain ⟨kr40, kr41⟩ := r4.cells
  obtain ⟨kr110, kr111⟩ := r11.cells
  replace hp := Lib.hid (hp.out.below hb)
  clear hb
  go_wp2_with fail
  refine (law_awake V2).mono ?_
  rintro e V3 ⟨rfl, hb⟩
  (try dsimp only)
  replace r4 := r4.below hb r4.lt
  replace r11 := r11.below hb r11.lt
  replace hB := hB.trans (hb.mono hB.size)
  clear kr40 kr41 kr110 kr111
  obtain ⟨kr40, kr41⟩ := r4.cells
  obtain ⟨kr110, kr111⟩ := r11.cells
  replace hp := Lib.hid (hp.out.below hb)
  clear hb
  go_wp2_with fail
  refine (HOf.out V3).mono ?_
  rintro e V4 ⟨o1, o2, o3, o4, rfl, ho, hb⟩
  (try dsimp only)
  replace r4 := r4.below hb r4.lt
  replace r11 := r11.below hb r11.lt
  replace hB := hB.trans (hb.mono hB.size)
  clear kr40 kr41 kr110 kr111
  obtain ⟨kr40, kr41⟩ := r4.cells
  obtain ⟨kr110, kr111⟩ := r11.cells
  replace hp := Lib.hid (hp.out.below hb)
  clear hb
  go_wp2_with fail
  refine (HRf.out V4).mono ?_
  rintro e V5 ⟨q1, q2, q3, q4, rfl, hq, hb⟩
  (try dsimp only)
  replace r4 := r4.below hb r4.lt
  replace r11 := r11.below hb r11.lt
  replace hB := hB.trans (hb.mono hB.size)
  clear kr40 kr41 kr110 kr111
  obtain ⟨kr40, kr41⟩ := r4.cells
  obtain ⟨kr110, kr111⟩ := r11.cells
  replace hp := Lib.hid (hp.out.below hb)
  replace ho := Lib.hid (ho.out.below hb)
  clear hb
  go_wp2_with fail
  refine (same_api V5 o1 q1 o2 q2 o3 q3 o4 q4 n ho.out hq.out HLn.out).mono ?_
  rintro e V6 ⟨rfl, hb⟩
  (try dsimp only)
  replace r4 := r4.below hb r4.lt
  replace r11 := r11.below hb r11.lt
  replace hB := hB.trans (hb.mono hB.size)
  clear kr40 kr41 kr110 kr111
  obtain ⟨kr40, kr41⟩ := r4.cells
  obtain ⟨kr110, kr111⟩ := r11.cells
  replace hp := Lib.hid (hp.out.below hb)
  clear hb ho hq
  go_wp2_with fail
  refine (HRi.out V6 hB).mono ?_
  rintro e V7 ⟨rv, ok, rfl, hrv, hb⟩
  (try dsimp only)
  replace r4 := r4.below hb r4.lt
  replace r11 := r11.below hb r11.lt
  replace hB := hB.trans (hb.mono hB.size)
  clear kr40 kr41 kr110 kr111
  obtain ⟨kr40, kr41⟩ := r4.cells
  obtain ⟨kr110, kr111⟩ := r11.cells
  replace hp := Lib.hid (hp.out.below hb)
  clear hb
  obtain rfl : ok = false := (hrv.out.1 (by trivial)).trans Hiz.out
  clear hrv
  go_wp2_with fail
  refine (Hm1.out V7 hB).mono ?_
  rintro e V8 ⟨rfl, hb⟩
  (try dsimp only)
  replace r4 := r4.below hb r4.lt
  replace r11 := r11.below hb r11.lt
  replace hB := hB.trans (hb.mono hB.size)
  clear kr40 kr41 kr110 kr111
  obtain ⟨kr40, kr41⟩ := r4.cells
  obtain ⟨kr110, kr111⟩ := r11.cells
  replace hp := Lib.hid (hp.out.below hb)
  clear hb
  obtain ⟨bad, hbad⟩ : ∃ bad, bad = badT k (parseT (bytesN s)) := ⟨_, rfl⟩
  have hcode : parseCode base s = if bad = true then 91 else 0 := by unfold parseCode; rw [if_neg (by rw [HOb.out]; decide), hbad, Hk.out, Int.toNat_natCast]
  have Hcode := Lib.hid hcode; clear hcode
  have Hbad := Lib.hid hbad; clear hbad
  cases bad with
  | true =>
    as_aux_lemma =>
      obtain ⟨rfl, rfl, rfl, rfl, rfl⟩ := hp.out.no (d := 91) Hcode.out (by decide)
      clear hp
      have HRb := Lib.hid (fun X => ref_parse_bad X s k hk2 hk36 hs Hbad.out.symm)
      rw [← Hk.out] at HRb
      go_wp2_with fail
      refine (HRb.out V8).mono ?_
      rintro e Y ⟨rfl, hb⟩
      (try dsimp only)
      replace r4 := r4.below hb r4.lt
      replace r11 := r11.below hb r11.lt
      replace hB := hB.trans (hb.mono hB.size)
      clear kr40 kr41 kr110 kr111
      obtain ⟨kr40, kr41⟩ := r4.cells
      obtain ⟨kr110, kr111⟩ := r11.cells
      clear hb
      obtain ⟨Y1, hY1, r17, hbY1, hzY1⟩ := rows1 Y 24 (.bool false) (.slice none 0 0)
      replace r4 := r4.below hbY1 r4.lt
      replace r11 := r11.below hbY1 r11.lt
      replace hB := hB.trans (hbY1.mono hB.size)
      clear kr40 kr41 kr110 kr111
      obtain ⟨kr40, kr41⟩ := r4.cells
      obtain ⟨kr110, kr111⟩ := r11.cells
      obtain ⟨kr170, kr171⟩ := r17.cells
      rw [hY1] at kr40 kr41 kr110 kr111 kr170 kr171
      have HY1 := Lib.hid hY1; clear hY1
      clear hbY1 hzY1
      go_wp2_with fail
      rw [← HY1.out]
      refine (same_nil Y1).mono ?_
      rintro e Y2 ⟨rfl, hb⟩
      (try dsimp only)
      replace r4 := r4.below hb r4.lt
      replace r11 := r11.below hb r11.lt
      replace r17 := r17.below hb r17.lt
      replace hB := hB.trans (hb.mono hB.size)
      clear kr40 kr41 kr110 kr111 kr170 kr171
      obtain ⟨kr40, kr41⟩ := r4.cells
      obtain ⟨kr110, kr111⟩ := r11.cells
      obtain ⟨kr170, kr171⟩ := r17.cells
      clear hb
      go_wp2_with fail
      refine (Hm1.out Y2 hB).mono ?_
      rintro e Y3 ⟨rfl, hb⟩
      (try dsimp only)
      replace r4 := r4.below hb r4.lt
      replace r11 := r11.below hb r11.lt
      replace r17 := r17.below hb r17.lt
      replace hB := hB.trans (hb.mono hB.size)
      clear kr40 kr41 kr110 kr111 kr170 kr171
      obtain ⟨kr40, kr41⟩ := r4.cells
      obtain ⟨kr110, kr111⟩ := r11.cells
      obtain ⟨kr170, kr171⟩ := r17.cells
      clear hb
      have HRp := Lib.hid (fun X (h : Below w.heap.size w X) => (ref_print X _ z k (HA.out X h) HLz.out hk2 hk36).mono fun e X' he => show e = .returned (.string S) ∧ Below X.heap.size X X' from by obtain ⟨⟨t, k1, k3⟩, k4⟩ := he; refine ⟨?_, k4⟩; rw [k1, HS.out, Hk.out, Int.toNat_natCast, str_eq k3])
      rw [← Hk.out] at HRp
      go_wp2_with fail
      refine (HRp.out Y3 hB).mono ?_
      rintro e Y4 ⟨rfl, hb⟩
      (try dsimp only)
      replace r4 := r4.below hb r4.lt
      replace r11 := r11.below hb r11.lt
      replace r17 := r17.below hb r17.lt
      replace hB := hB.trans (hb.mono hB.size)
      clear kr40 kr41 kr110 kr111 kr170 kr171
      obtain ⟨kr40, kr41⟩ := r4.cells
      obtain ⟨kr110, kr111⟩ := r11.cells
      obtain ⟨kr170, kr171⟩ := r17.cells
      clear hb
      go_wp2_with fail
      go_ret
      exact ⟨rfl, hB⟩
  | false =>
    as_aux_lemma =>
      have hA := hp.out.yes Hcode.out
      rw [Hk.out, Int.toNat_natCast] at hA
      obtain ⟨zp, hzp⟩ : ∃ zp, zp = parseZ k (bytesN s) := ⟨_, rfl⟩
      rw [← hzp] at hA
      have Hzp := Lib.hid hzp; clear hzp
      have HRo := Lib.hid (fun X => (ref_parse_ok X s k hk2 hk36 hs Hbad.out.symm))
      rw [← Hk.out, ← Hzp.out] at HRo
      by_cases hl : (rep zp.natAbs).length ≤ 1024
      · as_aux_lemma =>
          obtain ⟨rfl, hA2⟩ := hA.short hl
          have HAp := Lib.hid hA2
          have HLp := Lib.hid (Nat.le_trans hl (by decide) : (rep zp.natAbs).length ≤ 9223372036854775807)
          have HRq := Lib.hid (fun X => (HRo.out X).mono fun e X' he => show ∃ b a m c, e = .returned (.tuple #[.agg #[.bool b, .slice a m c], .int .i64 0]) ∧ Hid (ApiV X' (.agg #[.bool b, .slice a m c]) zp) ∧ Below X.heap.size X X' from by
            obtain ⟨⟨k1, _⟩ | ⟨_, b, a, m, c, k2, k3⟩, k4⟩ := he
            · omega
            · exact ⟨b, a, m, c, k2, Lib.hid k3, k4⟩)
          clear hA hA2 hp HRo hl
          go_wp2_with fail
          refine (HRq.out V8).mono ?_
          rintro e Y ⟨wb, wa, wn, wc', rfl, hw, hb⟩
          (try dsimp only)
          replace r4 := r4.below hb r4.lt
          replace r11 := r11.below hb r11.lt
          replace hB := hB.trans (hb.mono hB.size)
          clear kr40 kr41 kr110 kr111
          obtain ⟨kr40, kr41⟩ := r4.cells
          obtain ⟨kr110, kr111⟩ := r11.cells
          replace HAp := Lib.hid (HAp.out.below hb)
          clear hb
          obtain ⟨Y1, hY1, r17, hbY1, hzY1⟩ := rows1 Y 24 (.bool wb) (.slice wa wn wc')
          replace r4 := r4.below hbY1 r4.lt
          replace r11 := r11.below hbY1 r11.lt
          replace hB := hB.trans (hbY1.mono hB.size)
          clear kr40 kr41 kr110 kr111
          obtain ⟨kr40, kr41⟩ := r4.cells
          obtain ⟨kr110, kr111⟩ := r11.cells
          obtain ⟨kr170, kr171⟩ := r17.cells
          rw [hY1] at kr40 kr41 kr110 kr111 kr170 kr171
          have HY1 := Lib.hid hY1; clear hY1
          replace HAp := Lib.hid (HAp.out.below hbY1)
          replace hw := Lib.hid (hw.out.below hbY1)
          clear hbY1 hzY1
          go_wp2_with fail
          rw [← HY1.out]
          refine (same_api Y1 pb wb pa wa pm wn pc wc' zp HAp.out hw.out HLp.out).mono ?_
          rintro e Y2 ⟨rfl, hb⟩
          (try dsimp only)
          replace r4 := r4.below hb r4.lt
          replace r11 := r11.below hb r11.lt
          replace r17 := r17.below hb r17.lt
          replace hB := hB.trans (hb.mono hB.size)
          clear kr40 kr41 kr110 kr111 kr170 kr171
          obtain ⟨kr40, kr41⟩ := r4.cells
          obtain ⟨kr110, kr111⟩ := r11.cells
          obtain ⟨kr170, kr171⟩ := r17.cells
          clear hb HAp hw
          go_wp2_with fail
          refine (Hm1.out Y2 hB).mono ?_
          rintro e Y3 ⟨rfl, hb⟩
          (try dsimp only)
          replace r4 := r4.below hb r4.lt
          replace r11 := r11.below hb r11.lt
          replace r17 := r17.below hb r17.lt
          replace hB := hB.trans (hb.mono hB.size)
          clear kr40 kr41 kr110 kr111 kr170 kr171
          obtain ⟨kr40, kr41⟩ := r4.cells
          obtain ⟨kr110, kr111⟩ := r11.cells
          obtain ⟨kr170, kr171⟩ := r17.cells
          clear hb
          have HRp := Lib.hid (fun X (h : Below w.heap.size w X) => (ref_print X _ z k (HA.out X h) HLz.out hk2 hk36).mono fun e X' he => show e = .returned (.string S) ∧ Below X.heap.size X X' from by obtain ⟨⟨t, k1, k3⟩, k4⟩ := he; refine ⟨?_, k4⟩; rw [k1, HS.out, Hk.out, Int.toNat_natCast, str_eq k3])
          rw [← Hk.out] at HRp
          go_wp2_with fail
          refine (HRp.out Y3 hB).mono ?_
          rintro e Y4 ⟨rfl, hb⟩
          (try dsimp only)
          replace r4 := r4.below hb r4.lt
          replace r11 := r11.below hb r11.lt
          replace r17 := r17.below hb r17.lt
          replace hB := hB.trans (hb.mono hB.size)
          clear kr40 kr41 kr110 kr111 kr170 kr171
          obtain ⟨kr40, kr41⟩ := r4.cells
          obtain ⟨kr110, kr111⟩ := r11.cells
          obtain ⟨kr170, kr171⟩ := r17.cells
          clear hb
          go_wp2_with fail
          go_ret
          exact ⟨rfl, hB⟩
      · as_aux_lemma =>
          obtain ⟨rfl, rfl, rfl, rfl, rfl⟩ := hA.long (by omega)
          have HRq := Lib.hid (fun X => (HRo.out X).mono fun e X' he => show e = .returned (.tuple #[.agg #[.bool false, .slice none 0 0], .int .i64 2]) ∧ Below X.heap.size X X' from by
            obtain ⟨⟨_, k1⟩ | ⟨k1, _⟩, k4⟩ := he
            · exact ⟨k1, k4⟩
            · exact absurd k1 hl)
          clear hA hp HRo hl
          go_wp2_with fail
          refine (HRq.out V8).mono ?_
          rintro e Y ⟨rfl, hb⟩
          (try dsimp only)
          replace r4 := r4.below hb r4.lt
          replace r11 := r11.below hb r11.lt
          replace hB := hB.trans (hb.mono hB.size)
          clear kr40 kr41 kr110 kr111
          obtain ⟨kr40, kr41⟩ := r4.cells
          obtain ⟨kr110, kr111⟩ := r11.cells
          clear hb
          obtain ⟨Y1, hY1, r17, hbY1, hzY1⟩ := rows1 Y 24 (.bool false) (.slice none 0 0)
          replace r4 := r4.below hbY1 r4.lt
          replace r11 := r11.below hbY1 r11.lt
          replace hB := hB.trans (hbY1.mono hB.size)
          clear kr40 kr41 kr110 kr111
          obtain ⟨kr40, kr41⟩ := r4.cells
          obtain ⟨kr110, kr111⟩ := r11.cells
          obtain ⟨kr170, kr171⟩ := r17.cells
          rw [hY1] at kr40 kr41 kr110 kr111 kr170 kr171
          have HY1 := Lib.hid hY1; clear hY1
          clear hbY1 hzY1
          go_wp2_with fail
          rw [← HY1.out]
          refine (same_nil Y1).mono ?_
          rintro e Y2 ⟨rfl, hb⟩
          (try dsimp only)
          replace r4 := r4.below hb r4.lt
          replace r11 := r11.below hb r11.lt
          replace r17 := r17.below hb r17.lt
          replace hB := hB.trans (hb.mono hB.size)
          clear kr40 kr41 kr110 kr111 kr170 kr171
          obtain ⟨kr40, kr41⟩ := r4.cells
          obtain ⟨kr110, kr111⟩ := r11.cells
          obtain ⟨kr170, kr171⟩ := r17.cells
          clear hb
          go_wp2_with fail
          refine (Hm1.out Y2 hB).mono ?_
          rintro e Y3 ⟨rfl, hb⟩
          (try dsimp only)
          replace r4 := r4.below hb r4.lt
          replace r11 := r11.below hb r11.lt
          replace r17 := r17.below hb r17.lt
          replace hB := hB.trans (hb.mono hB.size)
          clear kr40 kr41 kr110 kr111 kr170 kr171
          obtain ⟨kr40, kr41⟩ := r4.cells
          obtain ⟨kr110, kr111⟩ := r11.cells
          obtain ⟨kr170, kr171⟩ := r17.cells
          clear hb
          have HRp := Lib.hid (fun X (h : Below w.heap.size w X) => (ref_print X _ z k (HA.out X h) HLz.out hk2 hk36).mono fun e X' he => show e = .returned (.string S) ∧ Below X.heap.size X X' from by obtain ⟨⟨t, k1, k3⟩, k4⟩ := he; refine ⟨?_, k4⟩; rw [k1, HS.out, Hk.out, Int.toNat_natCast, str_eq k3])
          rw [← Hk.out] at HRp
          go_wp2_with fail
          refine (HRp.out Y3 hB).mono ?_
          rintro e Y4 ⟨rfl, hb⟩
          (try dsimp only)
          replace r4 := r4.below hb r4.lt
          replace r11 := r11.below hb r11.lt
          replace r17 := r17.below hb r17.lt
          replace hB := hB.trans (hb.mono hB.size)
          clear kr40 kr41 kr110 kr111 kr170 kr171
          obtain ⟨kr40, kr41⟩ := r4.cells
          obtain ⟨kr110, kr111⟩ := r11.cells
          obtain ⟨kr170, kr171⟩ := r17.cells
          clear hb
          go_wp2_with fail
          go_ret
          exact ⟨rfl, hB⟩

set_option maxHeartbeats 16000000 in
set_option maxRecDepth 1000000 in
theorem law_texts_ok_mi (w : World) (b1 : Bool) (a1 : Option Addr) (l1 : List Nat) (nx c1 : Nat) (base n : Int) (s : ByteArray) (h1 : Came w b1 a1 nx l1) (hc1 : nx ≤ c1) (hs : s.size ≤ 140737488355328)
    (hn1 : -9223372036854775808 ≤ n) (hn2 : n ≤ 9223372036854775807) (hob : okBase base = true) (hma : mayB b1 l1 = true) (hiz : inI64 (signed b1 (val l1)) = true) :
    Calls Tryz.prog 5 #[.agg #[.bool b1, .slice a1 nx c1], .int .i64 base, .string s, .int .i64 n] w fun e w' => e = .returned (.bool true) ∧ Below w.heap.size w w' := by
  obtain ⟨W, hWe, r4, hB, hszW⟩ := rows1 w 24 (.bool b1) (.slice a1 nx c1)
  have HWe := Lib.hid hWe; clear hWe
  obtain ⟨z, hz⟩ : ∃ z, z = signed b1 (val l1) := ⟨_, rfl⟩
  obtain ⟨S, hS⟩ : ∃ S : ByteArray, S = ⟨(utxt base.toNat z).toArray⟩ := ⟨_, rfl⟩
  have hb' := okBase_iff.1 hob
  have d1 : decide (base < 2) = false := decide_eq_false (by omega)
  have d2 : decide (36 < base) = false := decide_eq_false (by omega)
  have hpr := fun X (h : Below w.heap.size w X) => since_print (c := c1) (base := base) (S := S) (W := w) h1 (by rw [hS, hz]) h
  rw [hob, hma] at hpr
  have hpr2 := fun X (h : Below w.heap.size w X) => (hpr X h).mono fun e X' he => show e = .returned (.tuple #[.string S, .int .i64 0]) ∧ Below X.heap.size X X' from he
  have HPr := Lib.hid hpr2; clear hpr hpr2
  have HPa := Lib.hid (fun X => since_parse X s base hs)
  have hin := fun X (h : Below w.heap.size w X) => since_lint (c := c1) (W := w) h1 hz h
  rw [hma] at hin
  rw [show inI64 z = true from by rw [hz]; exact hiz] at hin
  have hin2 := fun X (h : Below w.heap.size w X) => (hin X h).mono fun e X' he => show e = .returned (.tuple #[.int .i64 z, .int .i64 0]) ∧ Below X.heap.size X X' from he
  have HIn := Lib.hid hin2; clear hin hin2
  have hri := fun X (h : Below w.heap.size w X) => since_rint (c := c1) (W := w) h1 hz h
  rw [hma] at hri
  have HRi := Lib.hid hri; clear hri
  have hm1 := fun X (h : Below w.heap.size w X) => since_may' (c := c1) (W := w) h1 h
  rw [hma] at hm1
  have Hm1 := Lib.hid hm1; clear hm1
  have HA := Lib.hid (fun X (h : Below w.heap.size w X) => show ApiV X (.agg #[.bool b1, .slice a1 nx c1]) z from by rw [hz]; exact (h1.api hma hc1).below h)
  have HLz := Lib.hid (show (rep z.natAbs).length ≤ 1024 from by rw [hz]; exact h1.len hma)
  have HS := Lib.hid hS
  have HOb := Lib.hid hob
  obtain ⟨k, hk⟩ : ∃ k : Nat, base = (k : Int) := ⟨base.toNat, by omega⟩
  have Hk := Lib.hid hk
  have hk2 : 2 ≤ k := by omega
  have hk36 : k ≤ 36 := by omega
  clear hk hb'
  have Hiz := Lib.hid (show inI64 z = true from by rw [hz]; exact hiz)
  have hsc : ∀ X, Calls Tryz.prog 32 #[.int .i64 n] X fun e X' => ∃ b a m c, e = .returned (.agg #[.bool b, .slice a m c]) ∧ Hid (ApiV X' (.agg #[.bool b, .slice a m c]) n) ∧ Below X.heap.size X X' := fun X => (large_of X n hn1 hn2).mono fun e X' he => by
    obtain ⟨u, rfl, hu, hb⟩ := he
    obtain ⟨b, a, m, c, rfl, -⟩ := id hu.open
    exact ⟨b, a, m, c, rfl, Lib.hid hu, hb⟩
  have hsr : ∀ X, Calls Tryz.prog 23 #[.int .i64 n] X fun e X' => ∃ b a m c, e = .returned (.agg #[.bool b, .slice a m c]) ∧ Hid (ApiV X' (.agg #[.bool b, .slice a m c]) n) ∧ Below X.heap.size X X' := fun X => (ref_of X n hn1 hn2).mono fun e X' he => by
    obtain ⟨u, rfl, hu, hb⟩ := he
    obtain ⟨b, a, m, c, rfl, -⟩ := id hu.open
    exact ⟨b, a, m, c, rfl, Lib.hid hu, hb⟩
  have HOf := Lib.hid hsc
  have HRf := Lib.hid hsr
  have HLn := Lib.hid (Nat.le_trans (len_i64 hn1 hn2) (by decide) : (rep n.natAbs).length ≤ 9223372036854775807)
  clear hsc hsr h1 hc1 hz hS hob hma hszW hiz
  go_enter Tryz.func5, Tryz.ntmps5
  obtain ⟨kr40, kr41⟩ := r4.cells
  go_wp2_with fail
  rw [← HWe.out]
  refine (HPr.out W hB).mono ?_
  rintro e V0 ⟨rfl, hb⟩
  (try dsimp only)
  replace r4 := r4.below hb r4.lt
  replace hB := hB.trans (hb.mono hB.size)
  clear kr40 kr41
  obtain ⟨kr40, kr41⟩ := r4.cells
  clear hb
  go_wp2_with fail
  refine (HPa.out V0).mono ?_
  rintro e V ⟨pb, pa, pm, pc, pk, rfl, hp, hb⟩
  (try dsimp only)
  replace r4 := r4.below hb r4.lt
  replace hB := hB.trans (hb.mono hB.size)
  clear kr40 kr41
  obtain ⟨kr40, kr41⟩ := r4.cells
  clear hb
  obtain ⟨V1, hV1, r11, hbV1, hzV1⟩ := rows1 V 24 (.bool pb) (.slice pa pm pc)
  replace r4 := r4.below hbV1 r4.lt
  replace hB := hB.trans (hbV1.mono hB.size)
  clear kr40 kr41
  obtain ⟨kr40, kr41⟩ := r4.cells
  obtain ⟨kr110, kr111⟩ := r11.cells
  rw [hV1] at kr40 kr41 kr110 kr111
  have HV1 := Lib.hid hV1; clear hV1
  replace hp := Lib.hid (hp.out.below hbV1)
  clear hbV1 hzV1
  go_wp2_with fail
  rw [← HV1.out]
  refine (HIn.out V1 hB).mono ?_
  rintro e V2 ⟨rfl, hb⟩
  (try dsimp only)
  replace r4 := r4.below hb r4.lt
  replace r11 := r11.below hb r11.lt
  replace hB := hB.trans (hb.mono hB.size)
  clear kr40 kr41 kr110 kr111
  obtain ⟨kr40, kr41⟩ := r4.cells
  obtain ⟨kr110, kr111⟩ := r11.cells
  replace hp := Lib.hid (hp.out.below hb)
  clear hb
  go_wp2_with fail
  refine (law_awake V2).mono ?_
  rintro e V3 ⟨rfl, hb⟩
  (try dsimp only)
  replace r4 := r4.below hb r4.lt
  replace r11 := r11.below hb r11.lt
  replace hB := hB.trans (hb.mono hB.size)
  clear kr40 kr41 kr110 kr111
  obtain ⟨kr40, kr41⟩ := r4.cells
  obtain ⟨kr110, kr111⟩ := r11.cells
  replace hp := Lib.hid (hp.out.below hb)
  clear hb
  go_wp2_with fail
  refine (HOf.out V3).mono ?_
  rintro e V4 ⟨o1, o2, o3, o4, rfl, ho, hb⟩
  (try dsimp only)
  replace r4 := r4.below hb r4.lt
  replace r11 := r11.below hb r11.lt
  replace hB := hB.trans (hb.mono hB.size)
  clear kr40 kr41 kr110 kr111
  obtain ⟨kr40, kr41⟩ := r4.cells
  obtain ⟨kr110, kr111⟩ := r11.cells
  replace hp := Lib.hid (hp.out.below hb)
  clear hb
  go_wp2_with fail
  refine (HRf.out V4).mono ?_
  rintro e V5 ⟨q1, q2, q3, q4, rfl, hq, hb⟩
  (try dsimp only)
  replace r4 := r4.below hb r4.lt
  replace r11 := r11.below hb r11.lt
  replace hB := hB.trans (hb.mono hB.size)
  clear kr40 kr41 kr110 kr111
  obtain ⟨kr40, kr41⟩ := r4.cells
  obtain ⟨kr110, kr111⟩ := r11.cells
  replace hp := Lib.hid (hp.out.below hb)
  replace ho := Lib.hid (ho.out.below hb)
  clear hb
  go_wp2_with fail
  refine (same_api V5 o1 q1 o2 q2 o3 q3 o4 q4 n ho.out hq.out HLn.out).mono ?_
  rintro e V6 ⟨rfl, hb⟩
  (try dsimp only)
  replace r4 := r4.below hb r4.lt
  replace r11 := r11.below hb r11.lt
  replace hB := hB.trans (hb.mono hB.size)
  clear kr40 kr41 kr110 kr111
  obtain ⟨kr40, kr41⟩ := r4.cells
  obtain ⟨kr110, kr111⟩ := r11.cells
  replace hp := Lib.hid (hp.out.below hb)
  clear hb ho hq
  go_wp2_with fail
  refine (HRi.out V6 hB).mono ?_
  rintro e V7 ⟨rv, ok, rfl, hrv, hb⟩
  (try dsimp only)
  replace r4 := r4.below hb r4.lt
  replace r11 := r11.below hb r11.lt
  replace hB := hB.trans (hb.mono hB.size)
  clear kr40 kr41 kr110 kr111
  obtain ⟨kr40, kr41⟩ := r4.cells
  obtain ⟨kr110, kr111⟩ := r11.cells
  replace hp := Lib.hid (hp.out.below hb)
  clear hb
  obtain rfl : ok = true := (hrv.out.1 (by trivial)).trans Hiz.out
  obtain rfl : z = rv := (hrv.out.2 (by trivial)).symm
  clear hrv
  go_wp2_with fail
  refine (Hm1.out V7 hB).mono ?_
  rintro e V8 ⟨rfl, hb⟩
  (try dsimp only)
  replace r4 := r4.below hb r4.lt
  replace r11 := r11.below hb r11.lt
  replace hB := hB.trans (hb.mono hB.size)
  clear kr40 kr41 kr110 kr111
  obtain ⟨kr40, kr41⟩ := r4.cells
  obtain ⟨kr110, kr111⟩ := r11.cells
  replace hp := Lib.hid (hp.out.below hb)
  clear hb
  obtain ⟨bad, hbad⟩ : ∃ bad, bad = badT k (parseT (bytesN s)) := ⟨_, rfl⟩
  have hcode : parseCode base s = if bad = true then 91 else 0 := by unfold parseCode; rw [if_neg (by rw [HOb.out]; decide), hbad, Hk.out, Int.toNat_natCast]
  have Hcode := Lib.hid hcode; clear hcode
  have Hbad := Lib.hid hbad; clear hbad
  cases bad with
  | true =>
    as_aux_lemma =>
      obtain ⟨rfl, rfl, rfl, rfl, rfl⟩ := hp.out.no (d := 91) Hcode.out (by decide)
      clear hp
      have HRb := Lib.hid (fun X => ref_parse_bad X s k hk2 hk36 hs Hbad.out.symm)
      rw [← Hk.out] at HRb
      go_wp2_with fail
      refine (HRb.out V8).mono ?_
      rintro e Y ⟨rfl, hb⟩
      (try dsimp only)
      replace r4 := r4.below hb r4.lt
      replace r11 := r11.below hb r11.lt
      replace hB := hB.trans (hb.mono hB.size)
      clear kr40 kr41 kr110 kr111
      obtain ⟨kr40, kr41⟩ := r4.cells
      obtain ⟨kr110, kr111⟩ := r11.cells
      clear hb
      obtain ⟨Y1, hY1, r17, hbY1, hzY1⟩ := rows1 Y 24 (.bool false) (.slice none 0 0)
      replace r4 := r4.below hbY1 r4.lt
      replace r11 := r11.below hbY1 r11.lt
      replace hB := hB.trans (hbY1.mono hB.size)
      clear kr40 kr41 kr110 kr111
      obtain ⟨kr40, kr41⟩ := r4.cells
      obtain ⟨kr110, kr111⟩ := r11.cells
      obtain ⟨kr170, kr171⟩ := r17.cells
      rw [hY1] at kr40 kr41 kr110 kr111 kr170 kr171
      have HY1 := Lib.hid hY1; clear hY1
      clear hbY1 hzY1
      go_wp2_with fail
      rw [← HY1.out]
      refine (same_nil Y1).mono ?_
      rintro e Y2 ⟨rfl, hb⟩
      (try dsimp only)
      replace r4 := r4.below hb r4.lt
      replace r11 := r11.below hb r11.lt
      replace r17 := r17.below hb r17.lt
      replace hB := hB.trans (hb.mono hB.size)
      clear kr40 kr41 kr110 kr111 kr170 kr171
      obtain ⟨kr40, kr41⟩ := r4.cells
      obtain ⟨kr110, kr111⟩ := r11.cells
      obtain ⟨kr170, kr171⟩ := r17.cells
      clear hb
      go_wp2_with fail
      refine (Hm1.out Y2 hB).mono ?_
      rintro e Y3 ⟨rfl, hb⟩
      (try dsimp only)
      replace r4 := r4.below hb r4.lt
      replace r11 := r11.below hb r11.lt
      replace r17 := r17.below hb r17.lt
      replace hB := hB.trans (hb.mono hB.size)
      clear kr40 kr41 kr110 kr111 kr170 kr171
      obtain ⟨kr40, kr41⟩ := r4.cells
      obtain ⟨kr110, kr111⟩ := r11.cells
      obtain ⟨kr170, kr171⟩ := r17.cells
      clear hb
      have HRp := Lib.hid (fun X (h : Below w.heap.size w X) => (ref_print X _ z k (HA.out X h) HLz.out hk2 hk36).mono fun e X' he => show e = .returned (.string S) ∧ Below X.heap.size X X' from by obtain ⟨⟨t, k1, k3⟩, k4⟩ := he; refine ⟨?_, k4⟩; rw [k1, HS.out, Hk.out, Int.toNat_natCast, str_eq k3])
      rw [← Hk.out] at HRp
      go_wp2_with fail
      refine (HRp.out Y3 hB).mono ?_
      rintro e Y4 ⟨rfl, hb⟩
      (try dsimp only)
      replace r4 := r4.below hb r4.lt
      replace r11 := r11.below hb r11.lt
      replace r17 := r17.below hb r17.lt
      replace hB := hB.trans (hb.mono hB.size)
      clear kr40 kr41 kr110 kr111 kr170 kr171
      obtain ⟨kr40, kr41⟩ := r4.cells
      obtain ⟨kr110, kr111⟩ := r11.cells
      obtain ⟨kr170, kr171⟩ := r17.cells
      clear hb
      go_wp2_with fail
      go_ret
      exact ⟨rfl, hB⟩
  | false =>
    as_aux_lemma =>
      have hA := hp.out.yes Hcode.out
      rw [Hk.out, Int.toNat_natCast] at hA
      obtain ⟨zp, hzp⟩ : ∃ zp, zp = parseZ k (bytesN s) := ⟨_, rfl⟩
      rw [← hzp] at hA
      have Hzp := Lib.hid hzp; clear hzp
      have HRo := Lib.hid (fun X => (ref_parse_ok X s k hk2 hk36 hs Hbad.out.symm))
      rw [← Hk.out, ← Hzp.out] at HRo
      by_cases hl : (rep zp.natAbs).length ≤ 1024
      · as_aux_lemma =>
          obtain ⟨rfl, hA2⟩ := hA.short hl
          have HAp := Lib.hid hA2
          have HLp := Lib.hid (Nat.le_trans hl (by decide) : (rep zp.natAbs).length ≤ 9223372036854775807)
          have HRq := Lib.hid (fun X => (HRo.out X).mono fun e X' he => show ∃ b a m c, e = .returned (.tuple #[.agg #[.bool b, .slice a m c], .int .i64 0]) ∧ Hid (ApiV X' (.agg #[.bool b, .slice a m c]) zp) ∧ Below X.heap.size X X' from by
            obtain ⟨⟨k1, _⟩ | ⟨_, b, a, m, c, k2, k3⟩, k4⟩ := he
            · omega
            · exact ⟨b, a, m, c, k2, Lib.hid k3, k4⟩)
          clear hA hA2 hp HRo hl
          go_wp2_with fail
          refine (HRq.out V8).mono ?_
          rintro e Y ⟨wb, wa, wn, wc', rfl, hw, hb⟩
          (try dsimp only)
          replace r4 := r4.below hb r4.lt
          replace r11 := r11.below hb r11.lt
          replace hB := hB.trans (hb.mono hB.size)
          clear kr40 kr41 kr110 kr111
          obtain ⟨kr40, kr41⟩ := r4.cells
          obtain ⟨kr110, kr111⟩ := r11.cells
          replace HAp := Lib.hid (HAp.out.below hb)
          clear hb
          obtain ⟨Y1, hY1, r17, hbY1, hzY1⟩ := rows1 Y 24 (.bool wb) (.slice wa wn wc')
          replace r4 := r4.below hbY1 r4.lt
          replace r11 := r11.below hbY1 r11.lt
          replace hB := hB.trans (hbY1.mono hB.size)
          clear kr40 kr41 kr110 kr111
          obtain ⟨kr40, kr41⟩ := r4.cells
          obtain ⟨kr110, kr111⟩ := r11.cells
          obtain ⟨kr170, kr171⟩ := r17.cells
          rw [hY1] at kr40 kr41 kr110 kr111 kr170 kr171
          have HY1 := Lib.hid hY1; clear hY1
          replace HAp := Lib.hid (HAp.out.below hbY1)
          replace hw := Lib.hid (hw.out.below hbY1)
          clear hbY1 hzY1
          go_wp2_with fail
          rw [← HY1.out]
          refine (same_api Y1 pb wb pa wa pm wn pc wc' zp HAp.out hw.out HLp.out).mono ?_
          rintro e Y2 ⟨rfl, hb⟩
          (try dsimp only)
          replace r4 := r4.below hb r4.lt
          replace r11 := r11.below hb r11.lt
          replace r17 := r17.below hb r17.lt
          replace hB := hB.trans (hb.mono hB.size)
          clear kr40 kr41 kr110 kr111 kr170 kr171
          obtain ⟨kr40, kr41⟩ := r4.cells
          obtain ⟨kr110, kr111⟩ := r11.cells
          obtain ⟨kr170, kr171⟩ := r17.cells
          clear hb HAp hw
          go_wp2_with fail
          refine (Hm1.out Y2 hB).mono ?_
          rintro e Y3 ⟨rfl, hb⟩
          (try dsimp only)
          replace r4 := r4.below hb r4.lt
          replace r11 := r11.below hb r11.lt
          replace r17 := r17.below hb r17.lt
          replace hB := hB.trans (hb.mono hB.size)
          clear kr40 kr41 kr110 kr111 kr170 kr171
          obtain ⟨kr40, kr41⟩ := r4.cells
          obtain ⟨kr110, kr111⟩ := r11.cells
          obtain ⟨kr170, kr171⟩ := r17.cells
          clear hb
          have HRp := Lib.hid (fun X (h : Below w.heap.size w X) => (ref_print X _ z k (HA.out X h) HLz.out hk2 hk36).mono fun e X' he => show e = .returned (.string S) ∧ Below X.heap.size X X' from by obtain ⟨⟨t, k1, k3⟩, k4⟩ := he; refine ⟨?_, k4⟩; rw [k1, HS.out, Hk.out, Int.toNat_natCast, str_eq k3])
          rw [← Hk.out] at HRp
          go_wp2_with fail
          refine (HRp.out Y3 hB).mono ?_
          rintro e Y4 ⟨rfl, hb⟩
          (try dsimp only)
          replace r4 := r4.below hb r4.lt
          replace r11 := r11.below hb r11.lt
          replace r17 := r17.below hb r17.lt
          replace hB := hB.trans (hb.mono hB.size)
          clear kr40 kr41 kr110 kr111 kr170 kr171
          obtain ⟨kr40, kr41⟩ := r4.cells
          obtain ⟨kr110, kr111⟩ := r11.cells
          obtain ⟨kr170, kr171⟩ := r17.cells
          clear hb
          go_wp2_with fail
          go_ret
          exact ⟨rfl, hB⟩
      · as_aux_lemma =>
          obtain ⟨rfl, rfl, rfl, rfl, rfl⟩ := hA.long (by omega)
          have HRq := Lib.hid (fun X => (HRo.out X).mono fun e X' he => show e = .returned (.tuple #[.agg #[.bool false, .slice none 0 0], .int .i64 2]) ∧ Below X.heap.size X X' from by
            obtain ⟨⟨_, k1⟩ | ⟨k1, _⟩, k4⟩ := he
            · exact ⟨k1, k4⟩
            · exact absurd k1 hl)
          clear hA hp HRo hl
          go_wp2_with fail
          refine (HRq.out V8).mono ?_
          rintro e Y ⟨rfl, hb⟩
          (try dsimp only)
          replace r4 := r4.below hb r4.lt
          replace r11 := r11.below hb r11.lt
          replace hB := hB.trans (hb.mono hB.size)
          clear kr40 kr41 kr110 kr111
          obtain ⟨kr40, kr41⟩ := r4.cells
          obtain ⟨kr110, kr111⟩ := r11.cells
          clear hb
          obtain ⟨Y1, hY1, r17, hbY1, hzY1⟩ := rows1 Y 24 (.bool false) (.slice none 0 0)
          replace r4 := r4.below hbY1 r4.lt
          replace r11 := r11.below hbY1 r11.lt
          replace hB := hB.trans (hbY1.mono hB.size)
          clear kr40 kr41 kr110 kr111
          obtain ⟨kr40, kr41⟩ := r4.cells
          obtain ⟨kr110, kr111⟩ := r11.cells
          obtain ⟨kr170, kr171⟩ := r17.cells
          rw [hY1] at kr40 kr41 kr110 kr111 kr170 kr171
          have HY1 := Lib.hid hY1; clear hY1
          clear hbY1 hzY1
          go_wp2_with fail
          rw [← HY1.out]
          refine (same_nil Y1).mono ?_
          rintro e Y2 ⟨rfl, hb⟩
          (try dsimp only)
          replace r4 := r4.below hb r4.lt
          replace r11 := r11.below hb r11.lt
          replace r17 := r17.below hb r17.lt
          replace hB := hB.trans (hb.mono hB.size)
          clear kr40 kr41 kr110 kr111 kr170 kr171
          obtain ⟨kr40, kr41⟩ := r4.cells
          obtain ⟨kr110, kr111⟩ := r11.cells
          obtain ⟨kr170, kr171⟩ := r17.cells
          clear hb
          go_wp2_with fail
          refine (Hm1.out Y2 hB).mono ?_
          rintro e Y3 ⟨rfl, hb⟩
          (try dsimp only)
          replace r4 := r4.below hb r4.lt
          replace r11 := r11.below hb r11.lt
          replace r17 := r17.below hb r17.lt
          replace hB := hB.trans (hb.mono hB.size)
          clear kr40 kr41 kr110 kr111 kr170 kr171
          obtain ⟨kr40, kr41⟩ := r4.cells
          obtain ⟨kr110, kr111⟩ := r11.cells
          obtain ⟨kr170, kr171⟩ := r17.cells
          clear hb
          have HRp := Lib.hid (fun X (h : Below w.heap.size w X) => (ref_print X _ z k (HA.out X h) HLz.out hk2 hk36).mono fun e X' he => show e = .returned (.string S) ∧ Below X.heap.size X X' from by obtain ⟨⟨t, k1, k3⟩, k4⟩ := he; refine ⟨?_, k4⟩; rw [k1, HS.out, Hk.out, Int.toNat_natCast, str_eq k3])
          rw [← Hk.out] at HRp
          go_wp2_with fail
          refine (HRp.out Y3 hB).mono ?_
          rintro e Y4 ⟨rfl, hb⟩
          (try dsimp only)
          replace r4 := r4.below hb r4.lt
          replace r11 := r11.below hb r11.lt
          replace r17 := r17.below hb r17.lt
          replace hB := hB.trans (hb.mono hB.size)
          clear kr40 kr41 kr110 kr111 kr170 kr171
          obtain ⟨kr40, kr41⟩ := r4.cells
          obtain ⟨kr110, kr111⟩ := r11.cells
          obtain ⟨kr170, kr171⟩ := r17.cells
          clear hb
          go_wp2_with fail
          go_ret
          exact ⟨rfl, hB⟩

end Go.Proofs.YtbffpkmfhkphdaaGreatDoor
