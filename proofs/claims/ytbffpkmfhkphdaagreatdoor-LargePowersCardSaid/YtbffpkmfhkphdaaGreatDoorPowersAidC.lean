/- What LargePowers' walk asks besides: its calls' contracts, of integers that may be, or not. -/
import Derived.Test.YtbffpkmfhkphdaaGreatDoorLPowC
import Derived.Test.YtbffpkmfhkphdaaGreatDoorGX32
import Derived.Test.YtbffpkmfhkphdaaGreatDoorRefModPowC
import Derived.Test.YtbffpkmfhkphdaaGreatDoorGX38
import Derived.Test.YtbffpkmfhkphdaaGreatDoorGX27
import Derived.Test.YtbffpkmfhkphdaaGreatDoorGX42
set_option linter.unusedVariables false
set_option linter.unusedSimpArgs false
namespace Go.Proofs.YtbffpkmfhkphdaaGreatDoor
open Go Go.RowKit Limb

/-- An answer's parts: why there is none (a number of an error), or 0 and the number. -/
def AnsC (code : Int) (X : World) (b : Bool) (a : Option Addr) (n c : Nat) (k z : Int) : Prop :=
  (code = 0 ∧ Ans X b a n c k z) ∨ (code ≠ 0 ∧ b = false ∧ a = none ∧ n = 0 ∧ c = 0 ∧ k = code)
theorem AnsC.below {code : Int} {X X' : World} {b : Bool} {a : Option Addr} {n c : Nat} {k z : Int} (h : AnsC code X b a n c k z) (hb : Below X.heap.size X X') : AnsC code X' b a n c k z := by
  rcases h with ⟨h1, h2⟩ | h
  · exact .inl ⟨h1, h2.below hb⟩
  · exact .inr h
theorem AnsC.yes {code : Int} {X : World} {b : Bool} {a : Option Addr} {n c : Nat} {k z : Int} (h : AnsC code X b a n c k z) (hc : code = 0) : Ans X b a n c k z := by
  rcases h with ⟨_, h⟩ | ⟨h, _⟩
  · exact h
  · exact absurd hc h
theorem AnsC.no {code : Int} {X : World} {b : Bool} {a : Option Addr} {n c : Nat} {k z d : Int} (h : AnsC code X b a n c k z) (hc : code = d) (hd : d ≠ 0) : b = false ∧ a = none ∧ n = 0 ∧ c = 0 ∧ k = d := by
  subst hc
  rcases h with ⟨h, _⟩ | ⟨_, h⟩
  · exact absurd h hd
  · exact h
theorem AnsC.kept {code : Int} {X X' : World} {b : Bool} {a : Option Addr} {n c : Nat} {k z : Int} (h : AnsC code X b a n c k z) (hl : ∀ x l, Lay .u32 X x l → Lay .u32 X' x l) : AnsC code X' b a n c k z := by
  rcases h with ⟨h1, h2⟩ | h
  · refine .inl ⟨h1, ?_⟩
    rcases h2 with ⟨h3, h4, h5⟩ | h2
    · exact .inl ⟨h3, h4, ApiV.to h5 hl⟩
    · exact .inr h2
  · exact .inr h
/-- What a call answers. -/
def AnsR (code z : Int) (X X' : World) (e : Ending) : Prop := ∃ b a n c k, e = .returned (.tuple #[.agg #[.bool b, .slice a n c], .int .i64 k]) ∧ Hid (AnsC code X' b a n c k z) ∧ Below X.heap.size X X'
theorem AnsR.ok {z : Int} {X X' : World} {e : Ending} (h : Answer true X X' e z) : AnsR 0 z X X' e := by
  obtain ⟨b, a, n, c, k, h1, h2, h3⟩ := h.any
  exact ⟨b, a, n, c, k, h1, Lib.hid (.inl ⟨rfl, h2⟩), h3⟩
theorem AnsR.bad {z d : Int} {X X' : World} {e : Ending} (hd : d ≠ 0) (h : e = .returned (.tuple #[.agg #[.bool false, .slice none 0 0], .int .i64 d]) ∧ Below X.heap.size X X') : AnsR d z X X' e :=
  ⟨_, _, _, _, _, h.1, Lib.hid (.inr ⟨hd, rfl, rfl, rfl, rfl, rfl⟩), h.2⟩
theorem AnsR.long {z : Int} {X X' : World} {e : Ending} (hl : 1024 < (rep z.natAbs).length) (h : e = .returned (.tuple #[.agg #[.bool false, .slice none 0 0], .int .i64 2]) ∧ Below X.heap.size X X') : AnsR 0 z X X' e :=
  ⟨_, _, _, _, _, h.1, Lib.hid (.inl ⟨rfl, .inr ⟨hl, rfl, rfl, rfl, rfl, rfl⟩⟩), h.2⟩

def powCode (ok : Bool) (n : Int) : Int := if ok = false then 1 else if n < 0 then 92 else 0
theorem since_pow {W X : World} {b : Bool} {a : Option Addr} {l : List Nat} {m c : Nat} {n x : Int} (h1 : Came W b a m l) (hx : x = signed b (val l)) (hn1 : -9223372036854775808 ≤ n) (hn2 : n ≤ 9223372036854775807) (h : Below W.heap.size W X) :
    Calls Tryz.prog 17 #[.agg #[.bool b, .slice a m c], .int .i64 n] X fun e X' => AnsR (powCode (mayB b l) n) (x ^ n.toNat) X X' e := by
  have hl := h1.1.below h
  cases hm : mayB b l with
  | false => exact (pow_no X b a l m c n hl h1.2.1 h1.2.2.1 h1.2.2.2 hm hn1 hn2).mono fun e X' he => AnsR.bad (d := 1) (by decide) he
  | true =>
    by_cases hneg : n < 0
    · rw [show powCode true n = 92 by unfold powCode; rw [if_neg (by decide), if_pos hneg]]
      exact (pow_neg X b a l m c n hl h1.2.1 h1.2.2.1 h1.2.2.2 hm hn1 hn2 hneg).mono fun e X' he => AnsR.bad (d := 92) (by decide) he
    · rw [show powCode true n = 0 by unfold powCode; rw [if_neg (by decide), if_neg hneg]]
      by_cases h0 : n = 0
      · exact (pow_zero X b a l m c n x hl h1.2.1 h1.2.2.1 h1.2.2.2 hm hx hn1 hn2 h0).mono fun e X' he => AnsR.ok he
      · by_cases hx0 : x = 0
        · exact (pow_nought X b a l m c n x hl h1.2.1 h1.2.2.1 h1.2.2.2 hm hx hn1 hn2 (by omega) hx0).mono fun e X' he => AnsR.ok he
        · by_cases hx1 : x.natAbs = 1
          · by_cases hp : 0 < x
            · exact (pow_unit_pos X b a l m c n x hl h1.2.1 h1.2.2.1 h1.2.2.2 hm hx hn1 hn2 (by omega) hx1 hp).mono fun e X' he => AnsR.ok he
            · by_cases hev : n % 2 = 0
              · exact (pow_unit_even X b a l m c n x hl h1.2.1 h1.2.2.1 h1.2.2.2 hm hx hn1 hn2 (by omega) hx1 (by omega) hev).mono fun e X' he => AnsR.ok he
              · exact (pow_unit_odd X b a l m c n x hl h1.2.1 h1.2.2.1 h1.2.2.2 hm hx hn1 hn2 (by omega) hx1 (by omega) (by omega)).mono fun e X' he => AnsR.ok he
          · have hx2 : 2 ≤ x.natAbs := by omega
            by_cases hf : 32768 < n
            · exact (pow_far X b a l m c n x hl h1.2.1 h1.2.2.1 h1.2.2.2 hm hx hn1 hn2 (by omega) hx2 hf).mono fun e X' he => AnsR.long (by have := long_pow hx2 (show 32768 < n.toNat by omega); omega) he
            · by_cases ht : 32768 < ((bitsN x.natAbs - 1 : Nat) : Int) * n
              · refine (pow_wide X b a l m c n x hl h1.2.1 h1.2.2.1 h1.2.2.2 hm hx hn1 hn2 (by omega) hx2 (by omega) ht).mono fun e X' he => AnsR.long (pow_long rfl ?_) he
                rw [← Int.toNat_of_nonneg (show 0 ≤ n by omega), ← Int.natCast_mul] at ht
                omega
              · obtain ⟨k, rfl⟩ : ∃ k : Nat, n = (k : Int) := ⟨n.toNat, by omega⟩
                refine (large_pow_big X b a l m c k x hl h1.2.1 h1.2.2.1 hm hx hx2 (by omega) (by omega) ?_).mono fun e X' he => AnsR.ok (by rw [Int.toNat_natCast]; exact he)
                rw [← Int.natCast_mul] at ht
                omega

def sqrtCode (ok b : Bool) : Int := if ok = false then 1 else if b = true then 92 else 0
theorem since_sqrt {W X : World} {b : Bool} {a : Option Addr} {l : List Nat} {m c : Nat} (h1 : Came W b a m l) (h : Below W.heap.size W X) :
    Calls Tryz.prog 18 #[.agg #[.bool b, .slice a m c]] X fun e X' => AnsR (sqrtCode (mayB b l) b) (rootN (val l) : Nat) X X' e := by
  have hl := h1.1.below h
  cases hm : mayB b l with
  | false => exact (sqrt_no X b a l m c hl h1.2.1 h1.2.2.1 h1.2.2.2 hm).mono fun e X' he => AnsR.bad (d := 1) (by decide) he
  | true =>
    cases b with
    | true => exact (sqrt_neg X true a l m c hl h1.2.1 h1.2.2.1 h1.2.2.2 hm rfl).mono fun e X' he => AnsR.bad (d := 92) (by decide) he
    | false => exact (sqrt_yes X false a l m c hl h1.2.1 h1.2.2.1 h1.2.2.2 hm rfl).mono fun e X' he => AnsR.ok he

def gcdCode (ok : Bool) : Int := if ok = true then 0 else 1
theorem since_gcd {W X : World} {b1 b2 : Bool} {a1 a2 : Option Addr} {l1 l2 : List Nat} {m1 m2 c1 c2 : Nat} (h1 : Came W b1 a1 m1 l1) (h2 : Came W b2 a2 m2 l2) (h : Below W.heap.size W X) :
    Calls Tryz.prog 19 #[.agg #[.bool b1, .slice a1 m1 c1], .agg #[.bool b2, .slice a2 m2 c2]] X fun e X' => AnsR (gcdCode (mayB b1 l1 && mayB b2 l2)) (Nat.gcd (val l1) (val l2) : Nat) X X' e := by
  have hl1 := h1.1.below h
  have hl2 := h2.1.below h
  cases hok : mayB b1 l1 && mayB b2 l2 with
  | false => exact (gcd_no X b1 b2 a1 a2 l1 l2 m1 m2 c1 c2 hl1 hl2 h1.2.1 h2.2.1 h1.2.2.1 h2.2.2.1 h1.2.2.2 h2.2.2.2 hok).mono fun e X' he => AnsR.bad (d := 1) (by decide) he
  | true => exact (gcd_yes X b1 b2 a1 a2 l1 l2 m1 m2 c1 c2 hl1 hl2 h1.2.1 h2.2.1 h1.2.2.1 h2.2.2.1 h1.2.2.2 h2.2.2.2 hok).mono fun e X' he => AnsR.ok he

def modpowCode (ok b : Bool) (n : Nat) : Int := if ok = false then 1 else if b = true then 92 else if n = 0 then 90 else 0
theorem signed_zero {b : Bool} {l : List Nat} (hl : Lim l) (hm : mayB b l = true) : signed b (val l) = 0 ↔ l.length = 0 := by
  obtain ⟨e1, _, _⟩ := mayB_int hl hm
  constructor
  · intro h; rw [h] at e1; rw [e1]; rfl
  · intro h
    rw [List.eq_nil_of_length_eq_zero h]
    unfold signed; cases b <;> rfl
theorem since_modpow {W X : World} {b1 b2 b3 : Bool} {a1 a2 a3 : Option Addr} {l1 l2 l3 : List Nat} {m1 m2 m3 c1 c2 c3 : Nat} {x y z : Int} (h1 : Came W b1 a1 m1 l1) (h2 : Came W b2 a2 m2 l2) (h3 : Came W b3 a3 m3 l3)
    (hx : x = signed b1 (val l1)) (hy : y = signed b2 (val l2)) (hz : z = signed b3 (val l3)) (h : Below W.heap.size W X) :
    Calls Tryz.prog 20 #[.agg #[.bool b1, .slice a1 m1 c1], .agg #[.bool b2, .slice a2 m2 c2], .agg #[.bool b3, .slice a3 m3 c3]] X fun e X' => AnsR (modpowCode (mayB b1 l1 && (mayB b2 l2 && mayB b3 l3)) b2 m3) (pmod x z y.natAbs) X X' e := by
  have hl1 := h1.1.below h
  have hl2 := h2.1.below h
  have hl3 := h3.1.below h
  cases hok : mayB b1 l1 && (mayB b2 l2 && mayB b3 l3) with
  | false => exact (modpow_no X b1 b2 b3 a1 a2 a3 l1 l2 l3 m1 m2 m3 c1 c2 c3 hl1 hl2 hl3 h1.2.1 h2.2.1 h3.2.1 h1.2.2.1 h2.2.2.1 h3.2.2.1 h1.2.2.2 h2.2.2.2 h3.2.2.2 hok).mono fun e X' he => AnsR.bad (d := 1) (by decide) he
  | true =>
    cases b2 with
    | true => exact (modpow_neg X b1 b3 a1 a2 a3 l1 l2 l3 m1 m2 m3 c1 c2 c3 hl1 hl2 hl3 h1.2.1 h2.2.1 h3.2.1 h1.2.2.1 h2.2.2.1 h3.2.2.1 h1.2.2.2 h2.2.2.2 h3.2.2.2 hok).mono fun e X' he => AnsR.bad (d := 92) (by decide) he
    | false =>
      by_cases h0 : m3 = 0
      · rw [show modpowCode true false m3 = 90 by unfold modpowCode; rw [if_neg (by decide), if_neg (by decide), if_pos h0]]
        exact (modpow_zero X b1 b3 a1 a2 a3 l1 l2 l3 m1 m2 m3 c1 c2 c3 hl1 hl2 hl3 h1.2.1 h2.2.1 h3.2.1 h1.2.2.1 h2.2.2.1 h3.2.2.1 h1.2.2.2 h2.2.2.2 h3.2.2.2 hok h0).mono fun e X' he => AnsR.bad (d := 90) (by decide) he
      · rw [show modpowCode true false m3 = 0 by unfold modpowCode; rw [if_neg (by decide), if_neg (by decide), if_neg h0]]
        obtain ⟨k1, k23⟩ := Bool.and_eq_true_iff.1 hok
        obtain ⟨k2, k3⟩ := Bool.and_eq_true_iff.1 k23
        have hz0 : z ≠ 0 := by rw [hz, Ne, signed_zero h3.2.1 k3, ← h3.2.2.1]; exact h0
        exact (large_modpow X b1 b3 a1 a2 a3 l1 l2 l3 m1 m2 m3 c1 c2 c3 x y z hl1 hl2 hl3 h1.2.1 h2.2.1 h3.2.1 h1.2.2.1 h2.2.2.1 h3.2.2.1 k1 k2 k3 hx hy hz hz0).mono fun e X' he => AnsR.ok (by rw [← modpow_pmod x y z hz0]; exact he)

/-- The reference's Pow, of every integer. -/
theorem since_rpow (X : World) (v : Value) (x : Int) (k : Nat) (hv : ApiV X v x) (lx : (rep x.natAbs).length ≤ 1024) (hk : k ≤ 9223372036854775807) :
    Calls Tryz.prog 21 #[v, .int .i64 k] X fun e X' => PowRes X X' e (x ^ k) := by
  by_cases hx0 : x = 0
  · subst hx0
    by_cases hk0 : k = 0
    · subst hk0
      exact (ref_pow_zero X v hv).mono fun e X' he => by rw [Int.pow_zero]; exact he
    · exact ref_pow_nought X v hv k (by omega) hk
  · by_cases hx1 : x.natAbs = 1
    · exact (ref_pow_unit X v x hv hx1 k hk).mono fun e X' he => by rw [← unit_pow hx1]; exact he
    · by_cases hf : 32768 < k
      · exact ref_pow_long X v x hv (by omega) lx k hf hk
      · exact ref_pow_main X v x hv (by omega) lx k (by omega)

theorem is_no2 (w : World) : Calls Tryz.prog 13 #[.bool false, .agg #[.bool false, .slice none 0 0], .int .i64 1, .agg #[.bool false, .slice none 0 0]] w fun e w' => e = .returned (.bool true) ∧ Below w.heap.size w w' := is_no w false none 0 0
theorem since_may {W X : World} {b : Bool} {a : Option Addr} {l : List Nat} {n c : Nat} (h1 : Came W b a n l) (h : Below W.heap.size W X) :
    Calls Tryz.prog 12 #[.agg #[.bool b, .slice a n c]] X fun e X' => e = .returned (.bool (mayB b l)) ∧ Below X.heap.size X X' :=
  ref_May X b a l n c (h1.1.below h) h1.2.1 h1.2.2.1 h1.2.2.2
/-- May, of an answer. -/
theorem api_may {X : World} {b : Bool} {a : Option Addr} {n c : Nat} {z : Int} (h : ApiV X (.agg #[.bool b, .slice a n c]) z) (hl : (rep z.natAbs).length ≤ 1024) :
    Calls Tryz.prog 12 #[.agg #[.bool b, .slice a n c]] X fun e X' => e = .returned (.bool true) ∧ Below X.heap.size X X' := by
  obtain ⟨e1, e2, e3, e4⟩ := h.parts
  have h1 := ref_May X b a (rep z.natAbs) n c e4 (rep_lim _) e2 (by omega)
  rw [e1, mayB_small hl, ← e1] at h1
  exact h1

end Go.Proofs.YtbffpkmfhkphdaaGreatDoor
