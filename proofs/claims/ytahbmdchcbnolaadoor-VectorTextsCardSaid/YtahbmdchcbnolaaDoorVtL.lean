/- The plain law of texts: what Text makes is read back; what the document takes off a text is what Read takes off it. -/
import Derived.Test.YtahbmdchcbnolaaDoorVtC
import Derived.Test.YtahbmdchcbnolaaDoorMz
namespace Go.Proofs.YtahbmdchcbnolaaDoor
open Go Go.Sx

def isDig (b : UInt8) : Prop := 48 ≤ b.toNat ∧ b.toNat ≤ 57
theorem ofNat_toNat {d : Nat} (h : d < 10) : (UInt8.ofNat (48 + d)).toNat = 48 + d := by
  rw [UInt8.toNat_ofNat']
  omega
theorem ofNat_dig {b : UInt8} (h : isDig b) : UInt8.ofNat (48 + (b.toNat - 48)) = b := by
  have h2 : 48 + (b.toNat - 48) = b.toNat := by have := h.1; omega
  rw [h2]
  exact UInt8.ofNat_toNat
theorem dec_dig (m : Nat) : ∀ b ∈ Lib.decDigits m, isDig b := by
  induction m using Nat.strongRecOn with
  | _ m ih =>
    intro b hb
    by_cases h : m < 10
    · rw [Lib.decDigits_one h, List.mem_singleton] at hb
      subst hb
      rw [isDig, ofNat_toNat h]
      omega
    · rw [decDigits_step h, List.mem_append, List.mem_singleton] at hb
      rcases hb with hb | rfl
      · exact ih _ (by omega) b hb
      · rw [isDig, ofNat_toNat (by omega)]
        omega
theorem dec_ne (m : Nat) : Lib.decDigits m ≠ [] := by
  intro h
  have h1 := Lib.decDigits_length m
  have h2 := Lib.nDigits_pos m
  rw [h] at h1
  simp at h1
  omega
theorem dec_head (m : Nat) : (Lib.decDigits m).head? = some 48 → m = 0 := by
  induction m using Nat.strongRecOn with
  | _ m ih =>
    intro hb
    by_cases h : m < 10
    · rw [Lib.decDigits_one h] at hb
      simp only [List.head?_cons, Option.some.injEq] at hb
      have := congrArg UInt8.toNat hb
      rw [ofNat_toNat h] at this
      have h48 : (48 : UInt8).toNat = 48 := rfl
      omega
    · rw [decDigits_step h] at hb
      obtain ⟨c, r, e⟩ := List.exists_cons_of_ne_nil (dec_ne (m / 10))
      rw [e, List.cons_append, List.head?_cons] at hb
      have := ih (m / 10) (by omega) (by rw [e, List.head?_cons]; exact hb)
      omega
theorem dec_short {m : Nat} (h : m ≤ 1099511627776) : (Lib.decDigits m).length ≤ 13 := by
  rw [Lib.decDigits_length]
  refine Nat.le_of_not_lt fun h2 => ?_
  have key : ∀ (k m : Nat), k < Lib.nDigits m → 10 ^ k ≤ m ∨ k = 0 := by
    intro k
    induction k with
    | zero => intro m _; exact .inr rfl
    | succ k ih =>
      intro m hm
      left
      by_cases h10 : m < 10
      · rw [Lib.nDigits_small h10] at hm
        omega
      · rw [Lib.nDigits_big h10] at hm
        rcases ih (m / 10) (by omega) with h3 | rfl
        · rw [Nat.pow_succ]
          omega
        · simp
          omega
  rcases key 13 m h2 with h3 | h3
  · have : (10 : Nat) ^ 13 = 10000000000000 := by decide
    omega
  · omega

theorem parse_snoc (c : UInt8) : ∀ (l : List UInt8) (a u : Nat), Lib.parseUint10 a l = .ok u → Lib.parseUint10 a (l ++ [c]) = Lib.parseUint10 u [c]
  | [], a, u, h => by
    simp only [Lib.parseUint10, Lib.NumEnd.ok.injEq] at h
    subst h
    rfl
  | b :: l, a, u, h => by
    rw [List.cons_append, Lib.parseUint10] at *
    split
    · rename_i h1
      rw [if_pos h1] at h
      split
      · rename_i h2
        rw [if_pos h2] at h
        cases h
      · rename_i h2
        rw [if_neg h2] at h
        split
        · rename_i h3
          rw [if_pos h3] at h
          cases h
        · rename_i h3
          rw [if_neg h3] at h
          exact parse_snoc c l _ u h
    · rename_i h1
      rw [if_neg h1] at h
      cases h
theorem parse_dec (m : Nat) : m < 1000000000000000 → Lib.parseUint10 0 (Lib.decDigits m) = .ok m := by
  induction m using Nat.strongRecOn with
  | _ m ih =>
    intro hm
    by_cases h : m < 10
    · rw [Lib.decDigits_one h, Lib.parseUint10, ofNat_toNat h, if_pos (by omega), if_neg (by omega), if_neg (by omega), Lib.parseUint10]
      congr 1
      omega
    · rw [decDigits_step h, parse_snoc _ _ _ _ (ih (m / 10) (by omega) (by omega)), Lib.parseUint10, ofNat_toNat (by omega), if_pos (by omega), if_neg (by omega), if_neg (by omega), Lib.parseUint10]
      congr 1
      omega
theorem atoi_dec {m : Nat} (hm : m < 1000000000000000) : Lib.atoiAll (Lib.decDigits m) = .ok (m : Int) := by
  have hp := parse_dec m hm
  have hd := dec_dig m
  cases hl : Lib.decDigits m with
  | nil => exact absurd hl (dec_ne m)
  | cons c r =>
    rw [hl] at hp hd
    have hc := hd c (List.mem_cons_self ..)
    unfold isDig at hc
    rw [Lib.atoiAll_plain c r (by omega) (by omega), Lib.parseMag, if_neg (by simp), hp]
    simp [Lib.signless]
    omega
theorem numOf_dec {m : Nat} (hm : m < 1000000000000000) : numOf (toB (Lib.decDigits m)) = some (m : Int) := by
  have h1 : Lib.atoiAll (toB (Lib.decDigits m)).data.toList = .ok (m : Int) := atoi_dec hm
  rw [numOf, h1]
  exact if_pos (by rw [Lib.itoa_nonneg])
theorem numOf_some {p : List UInt8} {n : Int} (h : numOf (toB p) = some n) (h0 : 0 ≤ n) : p = Lib.decDigits n.toNat := by
  rw [numOf] at h
  split at h
  · rename_i m _
    split at h
    · rename_i he
      cases h
      obtain ⟨k, rfl⟩ : ∃ k : Nat, n = k := ⟨n.toNat, by omega⟩
      rw [Lib.itoa_nonneg] at he
      have := congrArg (fun x : ByteArray => x.data.toList) he
      simpa [toB] using this.symm
    · cases h
  · cases h
end Go.Proofs.YtahbmdchcbnolaaDoor
