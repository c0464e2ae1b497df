/- The law PrimCopies. -/
import Derived.Test.YteiikhcadjdkcaaGreatDoorGX45
set_option linter.unusedVariables false
set_option linter.unusedSimpArgs false
namespace Go.Proofs.YteiikhcadjdkcaaGreatDoor
open Go Go.RowKit Go.Maps Limb
theorem subL_one (t : List Nat) (lo : Nat) : subL t 1 (lo : Int) = t.take lo := by
  unfold subL
  rw [show ((1 : Int) - 1).toNat = 0 by omega, show ((lo : Int) - (1 - 1)).toNat = lo by omega, List.drop_zero]
theorem cut3 (t : List Nat) {lo hi : Nat} (h : lo ≤ hi) : t.take lo ++ (t.drop lo).take (hi - lo) ++ t.drop hi = t := by
  have h1 : (t.drop lo).drop (hi - lo) = t.drop hi := by rw [List.drop_drop, show lo + (hi - lo) = hi by omega]
  rw [List.append_assoc, ← h1, List.take_append_drop, List.take_append_drop]
theorem subL_nat (t : List Nat) (lo hi : Nat) : subL t ((lo : Int) + 1) (hi : Int) = (t.drop lo).take (hi - lo) := by
  unfold subL
  rw [show ((lo : Int) + 1 - 1).toNat = lo by omega, show ((hi : Int) - ((lo : Int) + 1 - 1)).toNat = hi - lo by omega]
set_option maxHeartbeats 6400000 in
set_option maxRecDepth 1000000 in
theorem law_copies (w : World) (hs : Spares w) (a : Option Addr) (n c : Nat) (l : List Nat) (hb : CameB w a n c l) (from_ to_ : Int) (hf1 : -9223372036854775808 ≤ from_) (hf2 : from_ ≤ 9223372036854775807) :
    Calls Tryz.prog 3 #[.slice a n c, .int .i64 from_, .int .i64 to_] w fun e w' => e = .returned (.bool true) ∧ Below w.heap.size w w' := by
  obtain ⟨sb, rfl⟩ : ∃ sb, tx sb = l := ⟨strOf l, tx_strOf hb.2.1⟩
  obtain ⟨hE, hS, hBt⟩ := boot_16384 w hs
  have HBt := Lib.hid (hBt w (Below.refl _ _))
  have HAw := Lib.hid (fun X (hb : Below w.heap.size w X) => law_awake X (hs.below hb hs.1))
  have HSt := Lib.hid hS
  have HCb := Lib.hid hb
  have HNu := Lib.hid law_num
  have HFi := Lib.hid law_fits
  have HSm := Lib.hid (fun X x (hx : Sm x) => law_small X hx)
  have HCv := Lib.hid (fun X (h : Below w.heap.size w X) => conv_any (c := c) (hb.1.below h) hb.2.2.1 hb.2.1 rfl)
  have Hf := Lib.hid (And.intro hf1 hf2)
  clear hs hBt hS hb hf1 hf2
  go_enter Tryz.func3, Tryz.ntmps3
  go_wp2_with fail
  refine (HBt.out).mono ?_
  rintro e X0 ⟨F, rfl, H, hb, hnew⟩
  (try dsimp only)
  have HS0 := Lib.hid (show St w F.p X0 F hE 0 from ⟨H, rfl, hnew, hb, HSt.out.sc, HSt.out.size, by rw [HSt.out.len]; omega, by rw [HSt.out.last]; omega⟩)
  generalize F.p = P at *
  clear H hb hnew HBt HSt
  go_wp2_with fail
  refine (HNu.out _ _).mono ?_
  rintro e X ⟨rfl, rfl⟩
  (try dsimp only)
  go_wp2_with fail
  refine (HAw.out _ HS0.out.old).mono ?_
  rintro e X1 ⟨rfl, hb⟩
  (try dsimp only)
  replace HS0 := Lib.hid (HS0.out.below hb)
  clear hb HAw
  by_cases hn : 2000 < n
  · have d1 : decide ((2000 : Int) < (n : Int)) = true := decide_eq_true (by omega)
    have d2 : decide (2000 < n) = true := decide_eq_true hn
    have HF := Lib.hid HS0.out.old
    clear hn
    go_wp2_with fail
    go_ret
    exact ⟨rfl, HF.out⟩
  have d1 : decide ((2000 : Int) < (n : Int)) = false := decide_eq_false (by omega)
  have d2 : decide (2000 < n) = false := decide_eq_false hn
  have HN := Lib.hid (show n ≤ 2000 by omega)
  have HLn := Lib.hid (show (tx sb).length ≤ 2000 by have := HCb.out.2.2.1; omega)
  have cv := HCv.out _ HS0.out.old
  clear hn
  have HD := Lib.hid (d_string HS0.out (by decide) sb HLn.out)
  go_wp2_with fail
  refine (HD.out).mono ?_
  rintro e X2 ⟨F2, h2, o2, rfl, st2, xt2, bs2, eo2⟩
  (try dsimp only)
  have HS2 := Lib.hid st2
  have HX2 := Lib.hid xt2
  have HB2 := Lib.hid bs2
  have HO2 := Lib.hid eo2
  clear st2 xt2 bs2 eo2 HD
  clear cv d1 d2
  obtain ⟨os, hos⟩ : ∃ os, os = o2 := ⟨_, rfl⟩
  rw [← hos] at HB2 HO2 ⊢
  have HSs := HB2
  clear hos HB2 HO2
  go_wp2_with fail
  refine (HNu.out _ _).mono ?_
  rintro e X ⟨rfl, rfl⟩
  (try dsimp only)
  have HD := Lib.hid (d_52 HS2.out (by decide) HSs.out HLn.out)
  go_wp2_with fail
  refine (HD.out).mono ?_
  rintro e X3 ⟨F3, h3, o3, rfl, st3, xt3, bs3, eo3⟩
  (try dsimp only)
  have HS3 := Lib.hid st3
  have HX3 := Lib.hid xt3
  have HB3 := Lib.hid bs3
  have HO3 := Lib.hid eo3
  clear st3 xt3 bs3 eo3 HD
  obtain ⟨oc, hoc⟩ : ∃ oc, oc = o3 := ⟨_, rfl⟩
  rw [← hoc] at HB3 HO3 ⊢
  have HCc := HB3
  have Hne := Lib.hid (show oc ≠ os from by rw [HO3.out]; exact ne_new HS2.out.at_.good HSs.out)
  replace HSs := Lib.hid (bs_ext HX3.out HS2.out.at_.good HSs.out)
  clear hoc HB3 HO3 HS2
  have dne : ((oc : Int) == (os : Int)) = false := by rw [beq_eq_false_iff_ne]; have := Hne.out; omega
  have dne2 : (oc == os) = false := by rw [beq_eq_false_iff_ne]; exact Hne.out
  have HD := Lib.hid (d_text HS3.out HCc.out)
  go_wp2_with fail
  refine (HD.out).mono ?_
  rintro e X4 ⟨rfl, hb⟩
  (try dsimp only)
  replace HS3 := Lib.hid (HS3.out.below hb)
  clear hb HD dne dne2 HX3
  have cv := HCv.out _ HS3.out.old
  go_wp2_with fail
  refine (HNu.out _ _).mono ?_
  rintro e X ⟨rfl, rfl⟩
  (try dsimp only)
  clear cv
  by_cases hm : 1 ≤ from_ ∧ from_ - 1 ≤ to_ ∧ to_ ≤ n
  · as_aux_lemma =>
    obtain ⟨lo, hi, rfl, rfl, l1, l2⟩ : ∃ lo hi : Nat, from_ = (lo : Int) + 1 ∧ to_ = (hi : Int) ∧ lo ≤ hi ∧ hi ≤ n := ⟨(from_ - 1).toNat, to_.toNat, by omega, by omega, by omega, by omega⟩
    have hlo : lo ≤ 2000 := by have := HN.out; omega
    have hhi : hi ≤ 2000 := by have := HN.out; omega
    have HLh := Lib.hid (And.intro l1 l2)
    have HFa := Lib.hid (fun X => show Calls Tryz.prog 11 #[.int .i64 ((lo : Int) + 1)] X fun e w' => e = .returned (.int .i64 ((lo : Int) + 1)) ∧ X = w' from by
      have := HFi.out X ((lo : Int) + 1)
      rwa [show clamp ((lo : Int) + 1) = (lo : Int) + 1 by unfold clamp; omega] at this)
    have HFb := Lib.hid (fun X => show Calls Tryz.prog 11 #[.int .i64 (hi : Int)] X fun e w' => e = .returned (.int .i64 (hi : Int)) ∧ X = w' from by
      have := HFi.out X (hi : Int)
      rwa [show clamp (hi : Int) = (hi : Int) by unfold clamp; omega] at this)
    have hs1 : Sm ((lo : Int) + 1) := by unfold Sm; omega
    have hs2 : Sm (hi : Int) := by unfold Sm; omega
    have hs3 : Sm (lo : Int) := by unfold Sm; omega
    have hs4 : Sm ((hi : Int) + 1) := by unfold Sm; omega
    have hs5 : Sm (n : Int) := by have := HN.out; unfold Sm; omega
    have HQ1 := Lib.hid (fun X => HSm.out X _ hs1)
    have HQ2 := Lib.hid (fun X => HSm.out X _ hs2)
    have HQ3 := Lib.hid (fun X => HSm.out X _ hs3)
    have HQ4 := Lib.hid (fun X => HSm.out X _ hs4)
    have HQ5 := Lib.hid (fun X => HSm.out X _ hs5)
    have hln : n = (tx sb).length := HCb.out.2.2.1
    obtain ⟨T2, hT2⟩ : ∃ T2, tx T2 = ((tx sb).drop lo).take (hi - lo) := ⟨strOf _, tx_strOf (fun x hx => HCb.out.2.1 x (List.mem_of_mem_drop (List.mem_of_mem_take hx)))⟩
    have HT2 := Lib.hid hT2
    have HD54 := Lib.hid (show Calls Tryz.prog 8 #[.pointer (some ⟨P, 0, none⟩), .int .i64 54, .int .u32 os, .slice (some ⟨X4.heap.size, 0, none⟩) 2 2] (X4.alloc (.cells #[.int .u32 (smallO ((lo : Int) + 1) : Nat), .int .u32 (smallO (hi : Int) : Nat)] 30)) (MkRes w P h3 (0 + 1 + 1) (tx T2)) from by
      have := d_54 HS3.out (by decide) HSs.out HLn.out (q1 := smallO ((lo : Int) + 1)) (q2 := smallO (hi : Int)) ⟨small_odd _, small_lt _⟩ ⟨small_odd _, small_lt _⟩ (by rw [value_small hs1, value_small hs2]; unfold withinB; rw [decide_eq_true (by omega), decide_eq_true (by omega), decide_eq_true (by omega)]; rfl)
      rwa [value_small hs1, value_small hs2, subL_nat, ← hT2] at this)
    clear hm HFi hs1 hs2 hs3 hs4 hs5 hT2 l1 l2 hln
    go_wp2_with fail
    refine (HFa.out _).mono ?_
    rintro e X ⟨rfl, rfl⟩
    (try dsimp only)
    go_wp2_with fail
    refine (HQ1.out _).mono ?_
    rintro e X ⟨rfl, rfl⟩
    (try dsimp only)
    go_wp2_with fail
    refine (HFb.out _).mono ?_
    rintro e X ⟨rfl, rfl⟩
    (try dsimp only)
    go_wp2_with fail
    refine (HQ2.out _).mono ?_
    rintro e X ⟨rfl, rfl⟩
    (try dsimp only)
    go_wp2_with fail
    refine (HD54.out).mono ?_
    rintro e X5 ⟨F5, h5, o5, rfl, st5, xt5, bs5, eo5⟩
    (try dsimp only)
    have HS5 := Lib.hid st5
    have HX5 := Lib.hid xt5
    have HB5 := Lib.hid bs5
    have HO5 := Lib.hid eo5
    clear st5 xt5 bs5 eo5 HD54
    obtain ⟨op, hop⟩ : ∃ op, op = o5 := ⟨_, rfl⟩
    rw [← hop] at HB5 HO5 ⊢
    have HPt := HB5
    replace HSs := Lib.hid (bs_ext HX5.out HS3.out.at_.good HSs.out)
    replace HCc := Lib.hid (bs_ext HX5.out HS3.out.at_.good HCc.out)
    clear hop HB5 HO5 HS3 HX5 HFa HFb HQ1 HQ2
    have e1 : decide ((1 : Int) ≤ (lo : Int) + 1) = true := decide_eq_true (by omega)
    have e2 : decide ((lo : Int) ≤ (hi : Int)) = true := decide_eq_true (by have := HLh.out; omega)
    have e3 : decide (lo ≤ hi) = true := decide_eq_true HLh.out.1
    have e4 : decide ((hi : Int) ≤ (n : Int)) = true := decide_eq_true (by have := HLh.out; omega)
    have e5 : decide (hi ≤ n) = true := decide_eq_true HLh.out.2
    have HD := Lib.hid (d_text HS5.out HPt.out)
    go_wp2_with fail
    refine (HD.out).mono ?_
    rintro e X6 ⟨rfl, hb⟩
    (try dsimp only)
    replace HS5 := Lib.hid (HS5.out.below hb)
    clear hb HD
    go_upto_region 19 with fail
    have hz1 : (0 : Int) ≤ (lo : Int) := by omega
    have hz2 : (lo : Int) ≤ (hi : Int) := by have := HLh.out; omega
    have hz3 : (hi : Int) ≤ (c : Int) := by have := HLh.out; have := HCb.out.2.2.2; omega
    have HCp := Lib.hid (show (convert 22 9 (.slice (if c = lo then a else a.map (·.add lo)) (hi - lo) (c - lo))).run Tryz.prog X6 = .ok (.string T2) X6 from by
      have h1 := lay_subA (HCb.out.1.below HS5.out.old) HLh.out.1 (hi := hi) (by have := HLh.out; have := HCb.out.2.2.1; omega) (c := c) (by have := HCb.out.2.2; omega)
      rw [Nat.mul_one] at h1
      exact conv_any h1 (by rw [List.length_take, List.length_drop]; have := HLh.out; have := HCb.out.2.2.1; omega) (fun x hx => HCb.out.2.1 x (List.mem_of_mem_drop (List.mem_of_mem_take hx))) HT2.out)
    go_cut [134] from 127 to 134 (fun s wx => s = .bool false ∧ X6 = wx)
    case first =>
      by_cases hcl : c = lo
      · have cp := HCp.out
        rw [if_pos hcl, show c - lo = 0 by omega] at cp
        go_wp2_with fail
        go_meet
        exact ⟨rfl, rfl⟩
      · have cp := HCp.out
        rw [if_neg hcl] at cp
        go_wp2_with fail
        go_meet
        exact ⟨rfl, rfl⟩
    case rest =>
    obtain ⟨rfl, rfl⟩ := hcut
    clear HCp hz1 hz2 hz3 e1 e2 e3 e4 e5
    have HDx := Lib.hid (show Calls Tryz.prog 8 #[.pointer (some ⟨P, 0, none⟩), .int .i64 54, .int .u32 os, .slice (some ⟨X6.heap.size, 0, none⟩) 2 2] (X6.alloc (.cells #[.int .u32 3, .int .u32 (smallO (lo : Int) : Nat)] 30)) (MkRes w P h5 (0 + 1 + 1 + 1) ((tx sb).take lo)) from by
      have hs3 : Sm (lo : Int) := by unfold Sm; omega
      have := d_54 HS5.out (by decide) HSs.out HLn.out (q1 := 3) (q2 := smallO (lo : Int)) ⟨by decide, by decide⟩ ⟨small_odd _, small_lt _⟩ (by rw [show valueO 3 = 1 by decide, value_small hs3]; unfold withinB; have := HLh.out; have := HCb.out.2.2.1; rw [decide_eq_true (by omega), decide_eq_true (by omega), decide_eq_true (by omega)]; rfl)
      rwa [show valueO 3 = 1 by decide, value_small hs3, subL_one] at this)
    go_wp2_with fail
    refine (HQ3.out _).mono ?_
    rintro e X ⟨rfl, rfl⟩
    (try dsimp only)
    go_wp2_with fail
    refine (HDx.out).mono ?_
    rintro e X7 ⟨F7, h7, o7, rfl, st7, xt7, bs7, eo7⟩
    (try dsimp only)
    have HS7 := Lib.hid st7
    have HX7 := Lib.hid xt7
    have HB7 := Lib.hid bs7
    have HO7 := Lib.hid eo7
    clear st7 xt7 bs7 eo7 HDx
    replace HSs := Lib.hid (bs_ext HX7.out HS5.out.at_.good HSs.out)
    replace HCc := Lib.hid (bs_ext HX7.out HS5.out.at_.good HCc.out)
    replace HPt := Lib.hid (bs_ext HX7.out HS5.out.at_.good HPt.out)
    have HLx := HB7
    clear HS5 HX7 HB7 HO7 HQ3
    have HDy := Lib.hid (show Calls Tryz.prog 8 #[.pointer (some ⟨P, 0, none⟩), .int .i64 54, .int .u32 os, .slice (some ⟨X7.heap.size, 0, none⟩) 2 2] (X7.alloc (.cells #[.int .u32 (smallO ((hi : Int) + 1) : Nat), .int .u32 (smallO (n : Int) : Nat)] 30)) (MkRes w P h7 (0 + 1 + 1 + 1 + 1) ((tx sb).drop hi)) from by
      have hs3 : Sm ((hi : Int) + 1) := by unfold Sm; omega
      have hs4 : Sm (n : Int) := by have := HN.out; unfold Sm; omega
      have hln : n = (tx sb).length := HCb.out.2.2.1
      have := d_54 HS7.out (by decide) HSs.out HLn.out (q1 := smallO ((hi : Int) + 1)) (q2 := smallO (n : Int)) ⟨small_odd _, small_lt _⟩ ⟨small_odd _, small_lt _⟩ (by rw [value_small hs3, value_small hs4]; unfold withinB; have := HLh.out; rw [decide_eq_true (by omega), decide_eq_true (by omega), decide_eq_true (by omega)]; rfl)
      rwa [value_small hs3, value_small hs4, subL_nat, List.take_of_length_le (by rw [List.length_drop]; omega)] at this)
    go_wp2_with fail
    refine (HQ4.out _).mono ?_
    rintro e X ⟨rfl, rfl⟩
    (try dsimp only)
    go_wp2_with fail
    refine (HQ5.out _).mono ?_
    rintro e X ⟨rfl, rfl⟩
    (try dsimp only)
    go_wp2_with fail
    refine (HDy.out).mono ?_
    rintro e X8 ⟨F8, h8, o8, rfl, st8, xt8, bs8, eo8⟩
    (try dsimp only)
    have HS8 := Lib.hid st8
    have HX8 := Lib.hid xt8
    have HB8 := Lib.hid bs8
    have HO8 := Lib.hid eo8
    clear st8 xt8 bs8 eo8 HDy
    replace HSs := Lib.hid (bs_ext HX8.out HS7.out.at_.good HSs.out)
    replace HCc := Lib.hid (bs_ext HX8.out HS7.out.at_.good HCc.out)
    replace HPt := Lib.hid (bs_ext HX8.out HS7.out.at_.good HPt.out)
    replace HLx := Lib.hid (bs_ext HX8.out HS7.out.at_.good HLx.out)
    have HLy := HB8
    clear HS7 HX8 HB8 HO8 HQ4 HQ5
    have HD := Lib.hid (d_53 HS8.out (by decide) HLx.out HPt.out (by have := HLh.out; have := HCb.out.2.2.1; have := HN.out; rw [HT2.out, List.length_take, List.length_take, List.length_drop]; omega))
    go_wp2_with fail
    refine (HD.out).mono ?_
    rintro e X9 ⟨F9, h9, o9, rfl, st9, xt9, bs9, eo9⟩
    (try dsimp only)
    have HS9 := Lib.hid st9
    have HX9 := Lib.hid xt9
    have HB9 := Lib.hid bs9
    have HO9 := Lib.hid eo9
    clear st9 xt9 bs9 eo9 HD
    replace HSs := Lib.hid (bs_ext HX9.out HS8.out.at_.good HSs.out)
    replace HCc := Lib.hid (bs_ext HX9.out HS8.out.at_.good HCc.out)
    replace HLy := Lib.hid (bs_ext HX9.out HS8.out.at_.good HLy.out)
    have HLz := HB9
    clear HS8 HX9 HB9 HO9 HLx HPt
    have HDz := Lib.hid (show Calls Tryz.prog 8 #[.pointer (some ⟨P, 0, none⟩), .int .i64 53, .int .u32 o9, .slice (some ⟨X9.heap.size, 0, none⟩) 1 1] (X9.alloc (.cells #[.int .u32 (o8 : Nat)] 30)) (MkRes w P h9 (0 + 1 + 1 + 1 + 1 + 1 + 1) (tx sb)) from by
      have hln : n = (tx sb).length := HCb.out.2.2.1
      have := d_53 HS9.out (by decide) HLz.out HLy.out (by have := HLh.out; have := HN.out; rw [List.length_append, HT2.out, List.length_take, List.length_take, List.length_drop, List.length_drop]; omega)
      rwa [HT2.out, cut3 (tx sb) HLh.out.1] at this)
    go_wp2_with fail
    refine (HDz.out).mono ?_
    rintro e X10 ⟨F10, h10, o10, rfl, st10, xt10, bs10, eo10⟩
    (try dsimp only)
    have HS10 := Lib.hid st10
    have HX10 := Lib.hid xt10
    have HB10 := Lib.hid bs10
    have HO10 := Lib.hid eo10
    clear st10 xt10 bs10 eo10 HDz
    replace HSs := Lib.hid (bs_ext HX10.out HS9.out.at_.good HSs.out)
    replace HCc := Lib.hid (bs_ext HX10.out HS9.out.at_.good HCc.out)
    have HLw := HB10
    clear HS9 HX10 HB10 HO10 HLz HLy
    have HD := Lib.hid (d_55 HS10.out HLw.out HSs.out)
    go_wp2_with fail
    refine (HD.out).mono ?_
    rintro e X11 ⟨rfl, F11, st11⟩
    (try dsimp only)
    have HS11 := Lib.hid st11
    clear HS10 HD st11
    have HD := Lib.hid (d_root HS11.out)
    go_wp2_with fail
    refine (HD.out).mono ?_
    rintro e X ⟨rfl, rfl⟩
    (try dsimp only)
    clear HD
    go_upto_region 29 with fail
    rcases Nat.eq_zero_or_pos n with h0 | h0
    · have e0 : decide (0 < (n : Int)) = false := decide_eq_false (by omega)
      have e1 : decide (0 < n) = false := decide_eq_false (by omega)
      have HF := Lib.hid HS11.out.old
      clear HN HCc h0
      go_wp2_with fail
      go_ret
      exact ⟨rfl, HF.out⟩
    · have e0 : decide (0 < (n : Int)) = true := decide_eq_true (by omega)
      have e1 : decide (0 < n) = true := decide_eq_true h0
      obtain ⟨blk, off, ha, ⟨x0, hx0, hx1⟩⟩ : ∃ blk off, a = some ⟨blk, off, none⟩ ∧ ∃ x0 : Nat, x0 < 256 ∧ ∀ X, Below w.heap.size w X → X.cell? ⟨blk, off, none⟩ = some (.int .u8 (x0 : Nat)) := by
        obtain ⟨blk, off, q1, q2⟩ := HCb.out.1
        have hl0 : 0 < (tx sb).length := by have := HCb.out.2.2.1; omega
        obtain ⟨q3, q4⟩ := q1 hl0
        have q5 := q2 0 hl0
        rw [Nat.add_zero] at q5
        refine ⟨blk, off, q3, wd (tx sb) 0, HCb.out.2.1 _ ?_, fun X hb => by rw [hb.cell q4]; exact q5⟩
        rw [wd_lt hl0]
        exact List.getElem_mem hl0
      subst ha
      obtain ⟨vb, hvb, hvb2⟩ := xor_one hx0
      have HVs := Lib.hid (show Sm (vb : Nat) from by unfold Sm; omega)
      have cx := hx1 _ HS11.out.old
      have HD := Lib.hid (d_43 HS11.out HCc.out (by have := HN.out; have := HCb.out.2.2.1; omega) (by have := HCb.out.2.2.1; omega) (q := smallO (vb : Nat)) ⟨small_odd _, small_lt _⟩ (value_small HVs.out) hvb2)
      have HH := Lib.hid (show Bs (setB h10 oc 0 vb) os (wd h10.rt 19) (tx sb) from setB_other HS11.out.at_.good HCc.out.is HCc.out.fmt (by rw [HCc.out.len]; have := HCb.out.2.2.1; omega) hvb2 HSs.out (fun e => Hne.out e.symm))
      have HLv := Lib.hid (show Live (setB h10 oc 0 vb) from live_of HS11.out.sc.live)
      have hsm := hvb2
      have h1 : (0 : Int) < (n : Int) := by omega
      clear hx0 hx1 hvb2 HN HCc
      go_wp2_with fail
      refine (HSm.out _ _ HVs.out).mono ?_
      rintro e X ⟨rfl, rfl⟩
      (try dsimp only)
      clear cx h1 h0 hvb hsm
      go_wp2_with fail
      refine HD.out.mono ?_
      rintro e Y ⟨rfl, Fy, hy, hp, ho⟩
      (try dsimp only)
      have HTx := Lib.hid (show Calls Tryz.prog 9 #[.pointer (some ⟨P, 0, none⟩), .int .u32 os] Y fun e w' => e = .returned (.tuple #[.string sb, .int .i64 0]) ∧ Below Y.heap.size Y w' from by
        have := kernel_text hy HLv.out HH.out
        rwa [hp] at this)
      have HOy := Lib.hid ho
      clear hy hp ho HD HH HLv
      go_wp2_with fail
      refine HTx.out.mono ?_
      rintro e Z ⟨rfl, hb⟩
      (try dsimp only)
      have HZ := Lib.hid (HOy.out.trans (hb.mono HOy.out.size))
      have cv := HCv.out _ HZ.out
      clear hb HTx HOy
      go_wp2_with fail
      go_ret
      exact ⟨rfl, HZ.out⟩
  · as_aux_lemma =>
    have HD := Lib.hid (d_54no HS3.out HSs.out HLn.out (q1 := smallO (clamp from_)) (q2 := smallO (clamp to_)) ⟨small_odd _, small_lt _⟩ ⟨small_odd _, small_lt _⟩ (by
      rw [value_small (clamp_sm _), value_small (clamp_sm _), ← HCb.out.2.2.1, within_clamp HN.out, Bool.eq_false_iff]
      intro e
      simp only [Bool.and_eq_true, decide_eq_true_eq] at e
      exact hm e))
    have Hm := Lib.hid hm
    clear hm
    go_wp2_with fail
    refine (HFi.out _ _).mono ?_
    rintro e X ⟨rfl, rfl⟩
    (try dsimp only)
    go_wp2_with fail
    refine (HSm.out _ _ (clamp_sm _)).mono ?_
    rintro e X ⟨rfl, rfl⟩
    (try dsimp only)
    go_wp2_with fail
    refine (HFi.out _ _).mono ?_
    rintro e X ⟨rfl, rfl⟩
    (try dsimp only)
    go_wp2_with fail
    refine (HSm.out _ _ (clamp_sm _)).mono ?_
    rintro e X ⟨rfl, rfl⟩
    (try dsimp only)
    go_wp2_with fail
    refine (HD.out).mono ?_
    rintro e X5 ⟨rfl, hb⟩
    (try dsimp only)
    replace HS3 := Lib.hid ((HS3.out.below ((Below.refl X4.heap.size X4))).below hb)
    clear hb HD HFi
    go_upto_region 14 with fail
    go_cut [15] from 15 to 115 (fun s wx => s = .bool false ∧ X5 = wx)
    case first =>
      have hw : 1 ≤ from_ → wrap64 (from_ - 1) = from_ - 1 := fun h => by have := Hf.out; simp only [wrap64]; omega
      by_cases k1 : 1 ≤ from_
      · have d1 : decide (1 ≤ from_) = true := decide_eq_true k1
        have hw1 := hw k1
        by_cases k2 : from_ - 1 ≤ to_
        · have d2 : decide (from_ - 1 ≤ to_) = true := decide_eq_true k2
          have d3 : decide (from_ ≤ to_ + 1) = true := decide_eq_true (by omega)
          have d4 : decide (to_ ≤ (n : Int)) = false := decide_eq_false (fun e => Hm.out ⟨k1, k2, e⟩)
          clear hw k1 k2
          go_wp2_with fail
          go_meet
          exact ⟨rfl, rfl⟩
        · have d2 : decide (from_ - 1 ≤ to_) = false := decide_eq_false k2
          have d3 : decide (from_ ≤ to_ + 1) = false := decide_eq_false (by omega)
          clear hw k1 k2
          go_wp2_with fail
          go_meet
          exact ⟨rfl, rfl⟩
      · have d1 : decide (1 ≤ from_) = false := decide_eq_false k1
        clear hw k1
        go_wp2_with fail
        go_meet
        exact ⟨rfl, rfl⟩
    case rest =>
    obtain ⟨rfl, rfl⟩ := hcut
    clear Hm Hf
    go_upto_region 29 with fail
    rcases Nat.eq_zero_or_pos n with h0 | h0
    · have e0 : decide (0 < (n : Int)) = false := decide_eq_false (by omega)
      have e1 : decide (0 < n) = false := decide_eq_false (by omega)
      have HF := Lib.hid HS3.out.old
      clear HN HCc h0
      go_wp2_with fail
      go_ret
      exact ⟨rfl, HF.out⟩
    · have e0 : decide (0 < (n : Int)) = true := decide_eq_true (by omega)
      have e1 : decide (0 < n) = true := decide_eq_true h0
      obtain ⟨blk, off, ha, ⟨x0, hx0, hx1⟩⟩ : ∃ blk off, a = some ⟨blk, off, none⟩ ∧ ∃ x0 : Nat, x0 < 256 ∧ ∀ X, Below w.heap.size w X → X.cell? ⟨blk, off, none⟩ = some (.int .u8 (x0 : Nat)) := by
        obtain ⟨blk, off, q1, q2⟩ := HCb.out.1
        have hl0 : 0 < (tx sb).length := by have := HCb.out.2.2.1; omega
        obtain ⟨q3, q4⟩ := q1 hl0
        have q5 := q2 0 hl0
        rw [Nat.add_zero] at q5
        refine ⟨blk, off, q3, wd (tx sb) 0, HCb.out.2.1 _ ?_, fun X hb => by rw [hb.cell q4]; exact q5⟩
        rw [wd_lt hl0]
        exact List.getElem_mem hl0
      subst ha
      obtain ⟨vb, hvb, hvb2⟩ := xor_one hx0
      have HVs := Lib.hid (show Sm (vb : Nat) from by unfold Sm; omega)
      have cx := hx1 _ HS3.out.old
      have HD := Lib.hid (d_43 HS3.out HCc.out (by have := HN.out; have := HCb.out.2.2.1; omega) (by have := HCb.out.2.2.1; omega) (q := smallO (vb : Nat)) ⟨small_odd _, small_lt _⟩ (value_small HVs.out) hvb2)
      have HH := Lib.hid (show Bs (setB h3 oc 0 vb) os (wd h3.rt 19) (tx sb) from setB_other HS3.out.at_.good HCc.out.is HCc.out.fmt (by rw [HCc.out.len]; have := HCb.out.2.2.1; omega) hvb2 HSs.out (fun e => Hne.out e.symm))
      have HLv := Lib.hid (show Live (setB h3 oc 0 vb) from live_of HS3.out.sc.live)
      have hsm := hvb2
      have h1 : (0 : Int) < (n : Int) := by omega
      clear hx0 hx1 hvb2 HN HCc
      go_wp2_with fail
      refine (HSm.out _ _ HVs.out).mono ?_
      rintro e X ⟨rfl, rfl⟩
      (try dsimp only)
      clear cx h1 h0 hvb hsm
      go_wp2_with fail
      refine HD.out.mono ?_
      rintro e Y ⟨rfl, Fy, hy, hp, ho⟩
      (try dsimp only)
      have HTx := Lib.hid (show Calls Tryz.prog 9 #[.pointer (some ⟨P, 0, none⟩), .int .u32 os] Y fun e w' => e = .returned (.tuple #[.string sb, .int .i64 0]) ∧ Below Y.heap.size Y w' from by
        have := kernel_text hy HLv.out HH.out
        rwa [hp] at this)
      have HOy := Lib.hid ho
      clear hy hp ho HD HH HLv
      go_wp2_with fail
      refine HTx.out.mono ?_
      rintro e Z ⟨rfl, hb⟩
      (try dsimp only)
      have HZ := Lib.hid (HOy.out.trans (hb.mono HOy.out.size))
      have cv := HCv.out _ HZ.out
      clear hb HTx HOy
      go_wp2_with fail
      go_ret
      exact ⟨rfl, HZ.out⟩
end Go.Proofs.YteiikhcadjdkcaaGreatDoor
