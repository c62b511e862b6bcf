/- The document's VectorOf: the numbers that a text spells. -/
import Derived.Test.YtahbmdchcbnolaaDoorVtY
import Derived.Test.YtahbmdchcbnolaaDoorMz
namespace Go.Proofs.YtahbmdchcbnolaaDoor
open Go Go.Sx Go.RowKit

/-- What the loop makes of the rest of a text, a number of d digits begun. -/
def vofL : List UInt8 → Int → Int → List Int → Option (List Int)
  | [], n, d, out => if d = 0 then none else some (out ++ [n])
  | b :: l, n, d, out => if 48 ≤ b.toNat ∧ b.toNat ≤ 57 then (if (0 < d ∧ n = 0) ∨ 13 < d then none else vofL l (10 * n + ((b.toNat : Int) - 48)) (d + 1) out) else if b.toNat ≠ 46 ∨ d = 0 then none else vofL l 0 0 (out ++ [n])
structure AccV where
  i : Int
  n : Int
  d : Int
  a : Option Addr
  k : Nat
  c : Nat
  l : List Int
theorem drop_at {l : List UInt8} {i : Int} {b : UInt8} (hi : 0 ≤ i) (hb : l[i.toNat]? = some b) : l.drop i.toNat = b :: l.drop (i + 1).toNat := by
  have e : (i + 1).toNat = i.toNat + 1 := by omega
  rw [e]
  obtain ⟨hl, hx⟩ := List.getElem?_eq_some_iff.1 hb
  rw [List.drop_eq_getElem_cons hl, hx]
structure VofI (s : ByteArray) (x : AccV) : Prop where
  i0 : 0 ≤ x.i
  i1 : x.i ≤ s.size + 1
  n0 : 0 ≤ x.n
  d0 : 0 ≤ x.d
  d1 : x.d ≤ 14
  n1 : x.n < 10 ^ x.d.toNat
  len : x.l.length ≤ x.i
  rest : (x.i ≤ s.size ∧ vofL (s.data.toList.drop x.i.toNat) x.n x.d x.l = vofL s.data.toList 0 0 []) ∨ (x.i = s.size + 1 ∧ vofL s.data.toList 0 0 [] = some x.l)
theorem pow_le13 {n : Int} {d : Int} (h : n < 10 ^ d.toNat) (h0 : 0 ≤ d) (h1 : d ≤ 13) : n < 10000000000000 := by
  refine Int.lt_of_lt_of_le h ?_
  have : (10 : Int) ^ d.toNat ≤ 10 ^ 13 := by exact_mod_cast Nat.pow_le_pow_right (by decide : 0 < 10) (by omega : d.toNat ≤ 13)
  exact this
theorem digit_wrap {n b : Int} (h0 : 0 ≤ n) (h1 : n < 10000000000000) (h2 : 48 ≤ b) (h3 : b ≤ 57) : IntKind.i64.wrap (10 * n + IntKind.i64.wrap (IntKind.u8.wrap (b - 48))) = 10 * n + (b - 48) := by
  simp [IntKind.wrap, IntKind.signed, IntKind.bits]
  omega
set_option maxHeartbeats 4000000 in
theorem vecOfR {w : World} {S : Nat → Prop} {s0 : ByteArray} (h9 : s0.size ≤ 1000) : Calls Tryd.prog 12 #[.string s0] w fun e w' =>
    (vofL s0.data.toList 0 0 [] = none ∧ Ret [] w S w' e (.tuple #[.slice none 0 0, .bool false]) [] []) ∨ (∃ xs a n c, vofL s0.data.toList 0 0 [] = some xs ∧ xs.length ≤ 1001 ∧ Ret [] w S w' e (.tuple #[.slice a n c, .bool (decide ((vecErr xs : Int) = 0))]) [] [(.slice a n c, dInts xs)]) := by
  refine ep12 (args := [.string s0]) (G := []) (by kernel_rfl) (AllG.nil w S) ?_
  have hz : s0.data.toList.length = s0.size := by simp
  refine J_stp (stp_accm eI 3 1) ?_
  try simp only [aQ]
  refine J_seq ?_
  refine Za [.rd 0 [] 0 0, .rd 1 [] 0 0] [] [(2, .val (.slice none 0 0)), (3, .val (.bool false))] ?_
  refine J_seq ?_
  refine Za [.rd 0 [] 0 0] [] [(4, .val (.slice none 0 0))] ?_
  refine J_seq ?_
  refine Za [.rd 0 [] 0 0] [] [(5, .val (.int .i64 0))] ?_
  refine J_seq ?_
  refine Za [.rd 0 [] 0 0] [] [(6, .val (.int .i64 0))] ?_
  refine J_seq ?_
  refine J_seq ?_
  refine Za [.rd 0 [] 0 0] [] [(7, .val (.int .i64 0))] ?_
  refine J_block ?_
  refine J_loopx (fun x : AccV => [(0, .val (.string s0)), (2, .val (.slice none 0 0)), (3, .val (.bool false)), (4, .val (.slice x.a x.k x.c)), (5, .val (.int .i64 x.n)), (6, .val (.int .i64 x.d)), (7, .val (.int .i64 x.i))]) (fun x : AccV => []) (fun x : AccV => [cAcc (.slice x.a x.k x.c) 3 1 (x.l.map eI)]) (fun x : AccV => []) (fun x : AccV => (s0.size + 1 - x.i).toNat) (fun x : AccV => (VofI s0 x)) ⟨0, 0, 0, none, 0, 0, []⟩ [0, 2, 3, 4, 5, 6, 7] [] [0] [] ?_ (by kernel_rfl) rfl rfl rfl ?_
  · exact ⟨by simp, by simp; omega, by simp, by simp, by simp, by simp, by simp, .inl ⟨by simp, by simp⟩⟩
  rintro ⟨i, n, d, av, k, cv, l⟩ ⟨hi0, hi1, hn0, hd0, hd1, hn1, hl, hrest⟩
  dsimp only at hi0 hi1 hn0 hd0 hd1 hn1 hl hrest ⊢
  have hk2 : l.length ≤ 1001 := by omega
  refine J_stpx (stp_acclen 0 rfl) fun _ hk => ?_
  have hk3 : k ≤ 1001 := by simp at hk; omega
  refine J_seq ?_
  refine J_seq ?_
  refine Za (Rds 0 4) [] [(11, .val (.bool (decide (i ≤ (↑s0.size : Int)))))] ?_
  refine J_cond (t := decide (i ≤ (↑s0.size : Int))) (by kernel_rfl) (by kernel_rfl) (fun hlt => ?_) (fun hlt => ?_)
  · have hlt2 : i ≤ s0.size := by simpa using hlt
    have hrest2 : vofL (s0.data.toList.drop i.toNat) n d l = vofL s0.data.toList 0 0 [] := by
      rcases hrest with h | h
      · exact h.2
      · omega
    by_cases hin : i < s0.size
    · obtain ⟨b, hb⟩ : ∃ x, s0.data.toList[i.toNat]? = some x := ⟨_, List.getElem?_eq_getElem (by omega)⟩
      rw [drop_at hi0 hb] at hrest2
      rw [vofL] at hrest2
      obtain ⟨h48, h57⟩ | ⟨hnd, h46⟩ | ⟨hnd, h46⟩ : ((48 : Int) ≤ (b.toNat : Int) ∧ (b.toNat : Int) ≤ 57) ∨ (¬ (48 ≤ b.toNat ∧ b.toNat ≤ 57) ∧ (b.toNat : Int) = 46) ∨ (¬ (48 ≤ b.toNat ∧ b.toNat ≤ 57) ∧ ¬ (b.toNat : Int) = 46) := by omega
      · rw [if_pos (by omega)] at hrest2
        refine J_skip ?_
        refine J_seq ?_
        refine J_block ?_
        refine J_seq ?_
        refine J_seq ?_
        refine jT [(0, true), (1, true), (2, true), (3, true), (4, true), (5, true), (6, true), (7, false), (8, true), (9, true), (10, true), (11, true), (12, true), (13, false), (14, true), (15, true)] [] ?_
        refine Yp (Rds 0 3 ++ [.rd 3 [] 0 6] ++ Rds 4 7) [11] [(18, .val (.bool true)), (19, .val (.string s0)), (20, .val (.int .i64 i))] (oC (show decide (i < (↑s0.size : Int)) = true from by simp; omega) oN) ?_
        refine JR_idx 9 s0 i _ (some 21) (by kernel_rfl) (by kernel_rfl) hi0 hb ?_
        refine Yp ([.rd 8 [] 0 6] ++ Rds 9 13) [21, 18, 19, 20] [(24, .val (.bool true)), (25, .val (.string s0)), (26, .val (.int .i64 i))] (oC (show decide ((↑b.toNat : Int) ≥ (48 : Int)) = true from by simp; omega) oN) ?_
        refine JR_idx 9 s0 i _ (some 27) (by kernel_rfl) (by kernel_rfl) hi0 hb ?_
        refine Yp [.rd 14 [] 0 6, .rd 15 [] 0 0] [27, 24, 25, 26] [(29, .val (.bool true))] (oC (show decide ((↑b.toNat : Int) ≤ (57 : Int)) = true from by simp; omega) oN) ?_
        refine JR_end ?_
        refine J_cond_t (by kernel_rfl) (by kernel_rfl) ?_
        refine J_seq ?_
        refine J_seq ?_
        refine Za (Rds 0 3 ++ [.rd 3 [] 2 0, .rd 4 [] 2 0, .rd 5 [] 0 3, .rd 6 [] 0 0, .rd 7 [] 2 0, .rd 8 [] 2 0, .rd 9 [] 0 3]) [29] [(39, .val (.bool (decide (d > 0) && n == 0 || decide (d > 13))))] ?_
        refine J_cond (t := decide (d > 0) && n == 0 || decide (d > 13)) (by kernel_rfl) (by kernel_rfl) (fun hbad => ?_) (fun hbad => ?_)
        · have hb2 : (0 < d ∧ n = 0) ∨ 13 < d := by simp at hbad; omega
          rw [if_pos hb2] at hrest2
          refine J_seq ?_
          refine Za [.rd 0 [] 0 0, .rd 1 [] 0 0] [39] [] ?_
          refine Yr [[], []] (.tuple #[.slice none 0 0, .bool false]) fun a w s => ?_
          exact .inl ⟨hrest2.symm, s.ret (by simp) [] [] rfl rfl⟩
        · have hb2 : ¬ ((0 < d ∧ n = 0) ∨ 13 < d) := by simp at hbad; omega
          rw [if_neg hb2] at hrest2
          have hn13 := pow_le13 hn1 hd0 (by omega)
          refine J_skip ?_
          refine J_seq ?_
          refine jT [(0, true), (1, true), (2, true), (3, true), (4, false), (5, true), (6, true), (7, true), (8, true)] [] ?_
          refine Yp [.rd 0 [] 0 0, .rd 1 [] 0 1, .rd 2 [] 0 0, .rd 3 [] 0 0] [39] [(41, .val (.int .i64 (10 * n))), (42, .val (.string s0)), (43, .val (.int .i64 i))] (oC (show IntKind.i64.wrap ((10 : Int) * n) = (10 : Int) * n from wrap_i64 (by omega) (by omega)) oN) ?_
          refine JR_idx 9 s0 i _ (some 44) (by kernel_rfl) (by kernel_rfl) hi0 hb ?_
          refine Ya (Rds 5 9) [44, 41, 42, 43] [(5, .val (.int .i64 (IntKind.i64.wrap (10 * n + IntKind.i64.wrap (IntKind.u8.wrap ((↑b.toNat : Int) - 48))))))] ?_
          refine JR_end ?_
          refine J_seq ?_
          refine Zp [.rd 0 [] 0 0, .rd 1 [] 0 1, .rd 2 [] 0 0] [] [(6, .val (.int .i64 (d + 1)))] (oC (show IntKind.i64.wrap (d + (1 : Int)) = d + (1 : Int) from wrap_i64 (by omega) (by omega)) oN) ?_
          refine J_exit rfl ?_
          refine Zp [.rd 0 [] 0 0, .rd 1 [] 0 1, .rd 2 [] 0 0] [] [(7, .val (.int .i64 (i + 1)))] (oC (show IntKind.i64.wrap (i + (1 : Int)) = i + (1 : Int) from wrap_i64 (by omega) (by omega)) oN) ?_
          rw [digit_wrap hn0 hn13 h48 h57]
          refine J_backx ⟨i + 1, 10 * n + ((b.toNat : Int) - 48), d + 1, av, k, cv, l⟩ [0, 2, 3, 4, 5, 6, 7] [] [0] [] ?_ ?_ (by kernel_rfl) rfl rfl rfl
          · refine ⟨by simp; omega, by simp; omega, by simp; omega, by simp; omega, by simp; omega, ?_, by simp; omega, .inl ⟨by simp; omega, hrest2⟩⟩
            have e : (d + 1).toNat = d.toNat + 1 := by omega
            show 10 * n + ((b.toNat : Int) - 48) < 10 ^ (d + 1).toNat
            rw [e, Int.pow_succ]
            omega
          · simp only
            omega
      · rw [if_neg hnd] at hrest2
        have hlo : ¬ (48 : Int) ≤ (b.toNat : Int) := by omega
        refine J_skip ?_
        refine J_seq ?_
        refine J_block ?_
        refine J_seq ?_
        refine J_seq ?_
        refine jT [(0, true), (1, true), (2, true), (3, true), (4, true), (5, true), (6, true), (7, false), (8, true), (9, true), (10, true), (11, true), (12, true), (13, false), (14, true), (15, true)] [] ?_
        refine Yp (Rds 0 3 ++ [.rd 3 [] 0 6] ++ Rds 4 7) [11] [(18, .val (.bool true)), (19, .val (.string s0)), (20, .val (.int .i64 i))] (oC (show decide (i < (↑s0.size : Int)) = true from by simp; omega) oN) ?_
        refine JR_idx 9 s0 i _ (some 21) (by kernel_rfl) (by kernel_rfl) hi0 hb ?_
        refine Yp [.rd 8 [] 0 7, .rd 9 [] 0 0, .rd 10 [] 0 0, .rd 11 [] 1 0, .rd 12 [] 1 0, .wr 13 [] 1, .rd 14 [] 1 0, .rd 15 [] 0 0] [21, 18, 19, 20] [(29, .val (.bool false))] (oC (show decide ((↑b.toNat : Int) ≥ (48 : Int)) = false from by simp; omega) oN) ?_
        refine JR_end ?_
        refine J_cond_f (by kernel_rfl) (by kernel_rfl) ?_
        refine J_skip ?_
        refine J_seq ?_
        refine J_seq ?_
        refine jT [(0, true), (1, true), (2, true), (3, true), (4, true), (5, true), (6, true), (7, false), (8, true), (9, true), (10, true), (11, true), (12, true), (13, true)] [] ?_
        refine Yp (Rds 0 3 ++ [.rd 3 [] 0 6] ++ Rds 4 7) [29] [(54, .val (.bool true)), (55, .val (.string s0)), (56, .val (.int .i64 i))] (oC (show decide (i < (↑s0.size : Int)) = true from by simp; omega) oN) ?_
        refine JR_idx 9 s0 i _ (some 57) (by kernel_rfl) (by kernel_rfl) hi0 hb ?_
        refine Yp ([.rd 8 [] 0 7] ++ Rds 9 14) [57, 54, 55, 56] [(63, .val (.bool (d == 0)))] (oC (show ((↑b.toNat : Int) != (46 : Int)) = false from by simp; omega) oN) ?_
        refine JR_end ?_
        refine J_cond (t := d == 0) (by kernel_rfl) (by kernel_rfl) (fun hd => ?_) (fun hd => ?_)
        · have hd2 : d = 0 := by simpa [h46] using hd
          rw [if_pos (.inr hd2)] at hrest2
          refine J_seq ?_
          refine Za [.rd 0 [] 0 0, .rd 1 [] 0 0] [63] [] ?_
          refine Yr [[], []] (.tuple #[.slice none 0 0, .bool false]) fun a w s => ?_
          exact .inl ⟨hrest2.symm, s.ret (by simp) [] [] rfl rfl⟩
        · have hd2 : ¬ d = 0 := by simpa [h46] using hd
          rw [if_neg (by omega)] at hrest2
          refine J_skip ?_
          refine J_seq ?_
          refine jT [(0, true), (1, true), (2, false), (3, false), (4, true)] [] ?_
          refine Ym [.rd 0 [] 0 0, .rd 1 [] 0 0, .wr 2 [] 0] [63] (fun nu1 => [(64, .val (.slice av k cv)), (66, .val (.slice (some (⟨nu1 0, 0, none⟩)) 1 1))]) o0 (fun nu1 => [(nu1 0, .cells #[.int .i64 n] 3 (0, 0))]) [] (fun nu1 => ?_)
          refine JR_appm 0 22 3 1 8 (.int .i64 0) (a0 := av) (len := k) (cap0 := cv) (ax := (some (⟨nu1 0, 0, none⟩))) (m := 1) (c := 1) (dst := (some 67)) [n] (by kernel_rfl) (by kernel_rfl) (by kernel_rfl) (by kernel_rfl) rfl (by decide) rfl (fun _ _ _ s => src_one s 0 rfl rfl ⟨.inl ⟨rfl, rfl⟩, trivial⟩) (by simp only [maxLen]; omega) (by omega) (fun av1 cv1 => ?_)
          try simp only [aQ]
          refine Ya [.rd 4 [] 0 0] [67, 64, 66] [(4, .val (.slice av1 (k + 1) cv1))] ?_
          try simp only [aQ]
          refine JR_end ?_
          try simp only [aQ]
          refine J_seq ?_
          try simp only [aQ]
          refine Za [.rd 0 [] 0 0] [] [(5, .val (.int .i64 0))] ?_
          try simp only [aQ]
          refine Za [.rd 0 [] 0 0] [] [(6, .val (.int .i64 0))] ?_
          try simp only [aQ]
          refine J_eb ?_
          try simp only [aQ]
          refine Zp [.rd 0 [] 0 0, .rd 1 [] 0 1, .rd 2 [] 0 0] [] [(7, .val (.int .i64 (i + 1)))] (oC (show IntKind.i64.wrap (i + (1 : Int)) = i + (1 : Int) from wrap_i64 (by omega) (by omega)) oN) ?_
          try simp only [aQ]
          refine J_backx ⟨i + 1, 0, 0, av1, k + 1, cv1, l ++ [n]⟩ [0, 2, 3, 4, 5, 6, 7] [] [0] [] ?_ ?_ (by kernel_rfl) rfl rfl rfl
          · exact ⟨by simp; omega, by simp; omega, by simp, by simp, by simp, by simp, by simp; omega, .inl ⟨by simp; omega, hrest2⟩⟩
          · simp only
            omega
      · rw [if_neg hnd, if_pos (.inl (by omega))] at hrest2
        by_cases hlo : (48 : Int) ≤ (b.toNat : Int)
        · have h57 : ¬ (b.toNat : Int) ≤ 57 := by omega
          refine J_skip ?_
          refine J_seq ?_
          refine J_block ?_
          refine J_seq ?_
          refine J_seq ?_
          refine jT [(0, true), (1, true), (2, true), (3, true), (4, true), (5, true), (6, true), (7, false), (8, true), (9, true), (10, true), (11, true), (12, true), (13, false), (14, true), (15, true)] [] ?_
          refine Yp (Rds 0 3 ++ [.rd 3 [] 0 6] ++ Rds 4 7) [11] [(18, .val (.bool true)), (19, .val (.string s0)), (20, .val (.int .i64 i))] (oC (show decide (i < (↑s0.size : Int)) = true from by simp; omega) oN) ?_
          refine JR_idx 9 s0 i _ (some 21) (by kernel_rfl) (by kernel_rfl) hi0 hb ?_
          refine Yp ([.rd 8 [] 0 6] ++ Rds 9 13) [21, 18, 19, 20] [(24, .val (.bool true)), (25, .val (.string s0)), (26, .val (.int .i64 i))] (oC (show decide ((↑b.toNat : Int) ≥ (48 : Int)) = true from by simp; omega) oN) ?_
          refine JR_idx 9 s0 i _ (some 27) (by kernel_rfl) (by kernel_rfl) hi0 hb ?_
          refine Yp [.rd 14 [] 0 7, .rd 15 [] 0 0] [27, 24, 25, 26] [(29, .val (.bool false))] (oC (show decide ((↑b.toNat : Int) ≤ (57 : Int)) = false from by simp; omega) oN) ?_
          refine JR_end ?_
          refine J_cond_f (by kernel_rfl) (by kernel_rfl) ?_
          refine J_skip ?_
          refine J_seq ?_
          refine J_seq ?_
          refine jT [(0, true), (1, true), (2, true), (3, true), (4, true), (5, true), (6, true), (7, false), (8, true), (9, true), (10, true), (11, true), (12, true), (13, true)] [] ?_
          refine Yp (Rds 0 3 ++ [.rd 3 [] 0 6] ++ Rds 4 7) [29] [(54, .val (.bool true)), (55, .val (.string s0)), (56, .val (.int .i64 i))] (oC (show decide (i < (↑s0.size : Int)) = true from by simp; omega) oN) ?_
          refine JR_idx 9 s0 i _ (some 57) (by kernel_rfl) (by kernel_rfl) hi0 hb ?_
          refine Yp [.rd 8 [] 0 6, .rd 9 [] 0 0, .rd 10 [] 0 0, .rd 11 [] 1 0, .rd 12 [] 1 0, .rd 13 [] 0 0] [57, 54, 55, 56] [(63, .val (.bool true))] (oC (show ((↑b.toNat : Int) != (46 : Int)) = true from by simp; omega) oN) ?_
          refine JR_end ?_
          refine J_cond_t (by kernel_rfl) (by kernel_rfl) ?_
          refine J_seq ?_
          refine Za [.rd 0 [] 0 0, .rd 1 [] 0 0] [63] [] ?_
          refine Yr [[], []] (.tuple #[.slice none 0 0, .bool false]) fun a w s => ?_
          exact .inl ⟨hrest2.symm, s.ret (by simp) [] [] rfl rfl⟩
        · refine J_skip ?_
          refine J_seq ?_
          refine J_block ?_
          refine J_seq ?_
          refine J_seq ?_
          refine jT [(0, true), (1, true), (2, true), (3, true), (4, true), (5, true), (6, true), (7, false), (8, true), (9, true), (10, true), (11, true), (12, true), (13, false), (14, true), (15, true)] [] ?_
          refine Yp (Rds 0 3 ++ [.rd 3 [] 0 6] ++ Rds 4 7) [11] [(18, .val (.bool true)), (19, .val (.string s0)), (20, .val (.int .i64 i))] (oC (show decide (i < (↑s0.size : Int)) = true from by simp; omega) oN) ?_
          refine JR_idx 9 s0 i _ (some 21) (by kernel_rfl) (by kernel_rfl) hi0 hb ?_
          refine Yp [.rd 8 [] 0 7, .rd 9 [] 0 0, .rd 10 [] 0 0, .rd 11 [] 1 0, .rd 12 [] 1 0, .wr 13 [] 1, .rd 14 [] 1 0, .rd 15 [] 0 0] [21, 18, 19, 20] [(29, .val (.bool false))] (oC (show decide ((↑b.toNat : Int) ≥ (48 : Int)) = false from by simp; omega) oN) ?_
          refine JR_end ?_
          refine J_cond_f (by kernel_rfl) (by kernel_rfl) ?_
          refine J_skip ?_
          refine J_seq ?_
          refine J_seq ?_
          refine jT [(0, true), (1, true), (2, true), (3, true), (4, true), (5, true), (6, true), (7, false), (8, true), (9, true), (10, true), (11, true), (12, true), (13, true)] [] ?_
          refine Yp (Rds 0 3 ++ [.rd 3 [] 0 6] ++ Rds 4 7) [29] [(54, .val (.bool true)), (55, .val (.string s0)), (56, .val (.int .i64 i))] (oC (show decide (i < (↑s0.size : Int)) = true from by simp; omega) oN) ?_
          refine JR_idx 9 s0 i _ (some 57) (by kernel_rfl) (by kernel_rfl) hi0 hb ?_
          refine Yp [.rd 8 [] 0 6, .rd 9 [] 0 0, .rd 10 [] 0 0, .rd 11 [] 1 0, .rd 12 [] 1 0, .rd 13 [] 0 0] [57, 54, 55, 56] [(63, .val (.bool true))] (oC (show ((↑b.toNat : Int) != (46 : Int)) = true from by simp; omega) oN) ?_
          refine JR_end ?_
          refine J_cond_t (by kernel_rfl) (by kernel_rfl) ?_
          refine J_seq ?_
          refine Za [.rd 0 [] 0 0, .rd 1 [] 0 0] [63] [] ?_
          refine Yr [[], []] (.tuple #[.slice none 0 0, .bool false]) fun a w s => ?_
          exact .inl ⟨hrest2.symm, s.ret (by simp) [] [] rfl rfl⟩
    · have hie : i = s0.size := by omega
      rw [List.drop_of_length_le (by omega), vofL] at hrest2
      refine J_skip ?_
      refine J_seq ?_
      refine J_block ?_
      refine J_seq ?_
      refine J_seq ?_
      refine Zp (Rds 0 3 ++ [.rd 3 [] 0 7, .rd 4 [] 0 0, .rd 5 [] 1 0, .rd 6 [] 1 0, .wr 7 [] 1, .rd 8 [] 1 0, .rd 9 [] 0 0, .rd 10 [] 0 0, .rd 11 [] 1 0, .rd 12 [] 1 0, .wr 13 [] 1, .rd 14 [] 1 0, .rd 15 [] 0 0]) [11] [(29, .val (.bool false))] (oC (show decide (i < (↑s0.size : Int)) = false from by simp; omega) oN) ?_
      refine J_cond_f (by kernel_rfl) (by kernel_rfl) ?_
      refine J_skip ?_
      refine J_seq ?_
      refine J_seq ?_
      refine Zp (Rds 0 3 ++ [.rd 3 [] 0 7, .rd 4 [] 0 0, .rd 5 [] 1 0, .rd 6 [] 1 0, .wr 7 [] 1, .rd 8 [] 1 0] ++ Rds 9 14) [29] [(63, .val (.bool (d == 0)))] (oC (show decide (i < (↑s0.size : Int)) = false from by simp; omega) oN) ?_
      refine J_cond (t := d == 0) (by kernel_rfl) (by kernel_rfl) (fun hd => ?_) (fun hd => ?_)
      · have hd2 : d = 0 := by simpa using hd
        rw [if_pos hd2] at hrest2
        refine J_seq ?_
        refine Za [.rd 0 [] 0 0, .rd 1 [] 0 0] [63] [] ?_
        refine Yr [[], []] (.tuple #[.slice none 0 0, .bool false]) fun a w s => ?_
        exact .inl ⟨hrest2.symm, s.ret (by simp) [] [] rfl rfl⟩
      · have hd2 : ¬ d = 0 := by simpa using hd
        rw [if_neg hd2] at hrest2
        refine J_skip ?_
        refine J_seq ?_
        refine jT [(0, true), (1, true), (2, false), (3, false), (4, true)] [] ?_
        refine Ym [.rd 0 [] 0 0, .rd 1 [] 0 0, .wr 2 [] 0] [63] (fun nu1 => [(64, .val (.slice av k cv)), (66, .val (.slice (some (⟨nu1 0, 0, none⟩)) 1 1))]) o0 (fun nu1 => [(nu1 0, .cells #[.int .i64 n] 3 (0, 0))]) [] (fun nu1 => ?_)
        refine JR_appm 0 22 3 1 8 (.int .i64 0) (a0 := av) (len := k) (cap0 := cv) (ax := (some (⟨nu1 0, 0, none⟩))) (m := 1) (c := 1) (dst := (some 67)) [n] (by kernel_rfl) (by kernel_rfl) (by kernel_rfl) (by kernel_rfl) rfl (by decide) rfl (fun _ _ _ s => src_one s 0 rfl rfl ⟨.inl ⟨rfl, rfl⟩, trivial⟩) (by simp only [maxLen]; omega) (by omega) (fun av1 cv1 => ?_)
        try simp only [aQ]
        refine Ya [.rd 4 [] 0 0] [67, 64, 66] [(4, .val (.slice av1 (k + 1) cv1))] ?_
        try simp only [aQ]
        refine JR_end ?_
        try simp only [aQ]
        refine J_seq ?_
        try simp only [aQ]
        refine Za [.rd 0 [] 0 0] [] [(5, .val (.int .i64 0))] ?_
        try simp only [aQ]
        refine Za [.rd 0 [] 0 0] [] [(6, .val (.int .i64 0))] ?_
        try simp only [aQ]
        refine J_eb ?_
        try simp only [aQ]
        refine Zp [.rd 0 [] 0 0, .rd 1 [] 0 1, .rd 2 [] 0 0] [] [(7, .val (.int .i64 (i + 1)))] (oC (show IntKind.i64.wrap (i + (1 : Int)) = i + (1 : Int) from wrap_i64 (by omega) (by omega)) oN) ?_
        try simp only [aQ]
        refine J_backx ⟨i + 1, 0, 0, av1, k + 1, cv1, l ++ [n]⟩ [0, 2, 3, 4, 5, 6, 7] [] [0] [] ?_ ?_ (by kernel_rfl) rfl rfl rfl
        · exact ⟨by simp; omega, by simp; omega, by simp, by simp, by simp, by simp, by simp; omega, .inr ⟨by simp; omega, hrest2.symm⟩⟩
        · simp only
          omega
  · have hie : i = s0.size + 1 := by simp at hlt; omega
    have hrest2 : vofL s0.data.toList 0 0 [] = some l := by
      rcases hrest with h | h
      · omega
      · exact h.2
    refine J_stp (stp_freeze 0 rfl) ?_
    try simp only [aQ]
    refine J_exit rfl ?_
    refine J_seq ?_
    refine jT [(0, true), (1, true), (2, false), (3, true), (4, true), (5, true)] [] ?_
    refine Ya [.rd 0 [] 0 0, .rd 1 [] 0 0] [11, 0, 4, 5, 6, 7] [(68, .val (.slice av k cv)), (69, .val (.slice av k cv))] ?_
    refine Yc 7 #[.slice av k cv] (some 70) fun w S hG => ?_
    refine (rVecErr (hG.at 0 rfl) (by omega)).mono ?_
    rintro e w2 hR
    refine ⟨_, _, _, hR, ?_⟩
    try simp only [aQ]
    refine Ya (Rds 3 6) [70, 68, 69] [(2, .val (.slice av k cv)), (3, .val (.bool ((↑(vecErr l) : Int) == 0)))] ?_
    refine JR_end ?_
    refine Yr [[], []] (.tuple #[.slice av k cv, .bool ((↑(vecErr l) : Int) == 0)]) fun a w s => ?_
    exact .inr ⟨l, _, _, _, hrest2, hk2, s.ret (by simp) [] [0] rfl rfl⟩
end Go.Proofs.YtahbmdchcbnolaaDoor
