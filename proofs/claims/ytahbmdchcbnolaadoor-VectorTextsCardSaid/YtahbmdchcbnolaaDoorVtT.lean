/- The law of texts, walked. -/
import Derived.Test.YtahbmdchcbnolaaDoorVtM
import Derived.Test.YtahbmdchcbnolaaDoorMz
namespace Go.Proofs.YtahbmdchcbnolaaDoor
open Go Go.Sx Go.RowKit

theorem textB_len {xs : List Int} (h : vecErr xs = 0) : (textB xs).size ≤ 1000000 := by
  have h6 := vecErr_len h
  have h7 := joinB_len (l := txts xs) fun y hy => by
    obtain ⟨z, hz, rfl⟩ := List.mem_map.1 hy
    exact decB_len (vecErr_in h z hz).1 (vecErr_in h z hz).2
  rw [txts_len] at h7
  rw [textB, joinB_eq]
  show (joinB (txts xs)).toArray.size ≤ _
  rw [List.size_toArray]
  omega
theorem vof_of_read {s : ByteArray} {ys : List Int} (h : readR s = some ys) : vofL s.data.toList 0 0 [] = some ys ∧ vecErr ys = 0 := by
  rw [read_vof] at h
  split at h
  · rename_i zs hz
    split at h
    · rename_i h0
      cases h
      exact ⟨hz, h0⟩
    · cases h
  · cases h
set_option maxHeartbeats 4000000 in
theorem vectorTexts {w : World} {S : Nat → Prop} {er : Nat → Addr} {eb : Nat → Array Value × TypeId} {o : Obj} {e1 e2 : Value} {a : Option Addr} {n c : Nat} {xs : List Int} {s0 : ByteArray} (hC : Rep w S .nilIface (dC er eb)) (hI : Inj er) (hT : Rep w S .nilIface (dT o e1 e2)) (ho : TabO o e1 e2) (ha : Rep w S (.slice a n c) (dInts xs)) :
    Calls Tryd.prog 3 #[.slice a n c, .string s0] w fun e w' => Ret [] (zero w) S w' e (.bool true) [] [] := by
  obtain rfl := rep_ints_len ha
  refine ep3 (args := [.slice a xs.length c, .string s0]) (G := [(_, dC er eb), (_, dT o e1 e2), (_, dInts xs)]) (by kernel_rfl) (.cons hC (.cons hT (.cons ha (.nil _ _)))) ?_
  refine J_zero ?_
  refine J_seq ?_
  refine Za [.rd 0 [] 0 0] [] [(4, .val (.bool false))] ?_
  refine J_seq ?_
  refine jT [(0, false), (1, true)] [] ?_
  refine JR_callzp [] 4 #[] (some 14) zero_all (by kernel_rfl) (fun w S hG => ?_)
  refine (vtimed (globs_of (hG.at 0 rfl)) (hG.at 1 rfl) ho).mono ?_
  rintro e w1 hR
  refine ⟨_, _, _, hR, ?_⟩
  try simp only [aQ]
  refine Ya [.rd 1 [] 0 0] [14] [(5, .val (.bool true))] ?_
  refine JR_end ?_
  refine J_seq ?_
  refine J_seq ?_
  refine Za (Rds 0 8 ++ [.rd 8 [] 2 0, .rd 9 [] 2 0, .rd 10 [] 2 0, .rd 11 [] 0 3]) [] [(26, .val (.bool (decide ((↑xs.length : Int) > 20) || decide ((↑s0.size : Int) > 200))))] ?_
  refine J_cond (t := decide ((↑xs.length : Int) > 20) || decide ((↑s0.size : Int) > 200)) (by kernel_rfl) (by kernel_rfl) (fun hbig => ?_) (fun hbig => ?_)
  · refine J_seq ?_
    refine Za [.rd 0 [] 0 0, .rd 1 [] 0 0] [26, 5] [(4, .val (.bool true))] ?_
    refine Yr [[]] (.bool true) fun a w s => ?_
    exact s.retz (by simp) [] [] rfl rfl
  · have hb2 : xs.length ≤ 20 ∧ s0.size ≤ 200 := by simp at hbig; omega
    refine J_skip ?_
    refine J_seq ?_
    refine jT [(0, true), (1, false), (2, false), (3, true), (4, true), (5, true), (6, true), (7, true)] [] ?_
    refine Ya [.rd 0 [] 0 0] [26, 5] [(29, .val (.slice a xs.length c))] ?_
    refine Yc 6 #[.slice a xs.length c] (some 30) fun w S hG => ?_
    refine (vown (hG.at 2 rfl) (by omega)).mono ?_
    rintro e w2 ⟨a', c', hR⟩
    refine ⟨_, _, _, hR, ?_⟩
    try simp only [aQ]
    refine JR_callzp [] 5 #[.slice a' xs.length c'] (some 31) zero_all (by kernel_rfl) (fun w S hG => ?_)
    refine (vtext (globs_of (hG.at 0 rfl)) (hG.at 1 rfl) ho (hG.at 3 rfl) (by omega)).mono ?_
    rintro e w3 ⟨ev, hR, hev⟩
    rcases hev with ⟨h0, rfl⟩ | ⟨h0, rfl⟩
    · rw [if_pos h0] at hR
      have h6 := vecErr_len h0
      refine ⟨_, _, _, hR, ?_⟩
      try simp only [aQ]
      refine Ya (Rds 3 8) [31, 30, 29] [(6, .val (.string (textB xs))), (7, .val (.nilIface))] ?_
      refine JR_end ?_
      refine J_seq ?_
      refine jT [(0, true), (1, false), (2, true)] [] ?_
      refine Ya [.rd 0 [] 0 0] [] [(34, .val (.slice a xs.length c))] ?_
      refine Yc 7 #[.slice a xs.length c] (some 35) fun w S hG => ?_
      refine (rVecErr (hG.at 2 rfl) (by omega)).mono ?_
      rintro e w4 hR
      rw [show ((vecErr xs : Nat) : Int) = 0 by omega] at hR
      refine ⟨_, _, _, hR, ?_⟩
      try simp only [aQ]
      refine Ya [.rd 2 [] 0 0] [35, 34] [(8, .val (.int .i64 0))] ?_
      refine JR_end ?_
      refine J_seq ?_
      refine J_seq ?_
      refine Za [.rd 0 [] 0 0, .rd 1 [] 0 0] [] [(37, .val (.bool false))] ?_
      refine J_cond_f (by kernel_rfl) (by kernel_rfl) ?_
      refine J_seq ?_
      refine jT [(0, true), (1, false), (2, true), (3, true), (4, true), (5, true), (6, true)] [] ?_
      refine Ya [.rd 0 [] 0 0] [37, 8] [(47, .val (.string (textB xs)))] ?_
      refine JR_callzp [] 9 #[.string (textB xs)] (some 48) zero_all (by kernel_rfl) (fun w S hG => ?_)
      refine (vread (hG.at 0 rfl) (hG.at 1 rfl) ho (textB_len h0)).mono ?_
      rintro e w5 (⟨hr, hR⟩ | ⟨us, ua, un, uc, hr, hR⟩)
      · rw [read_text h0] at hr
        cases hr
      · rw [read_text h0] at hr
        cases hr
        refine ⟨_, _, _, hR, ?_⟩
        try simp only [aQ]
        refine Ya (Rds 2 7) [48, 47] [(9, .val (.slice ua un uc)), (10, .val (.nilIface))] ?_
        refine JR_end ?_
        refine J_seq ?_
        refine jT [(0, true), (1, true), (2, true), (3, true), (4, true), (5, false), (6, true), (7, true), (8, true), (9, true), (10, true), (11, true), (12, true), (13, true), (14, true), (15, false), (16, true), (17, true)] [] ?_
        refine Ya (Rds 0 5) [6] [(53, .val (.bool false)), (54, .val (.string (textB xs))), (55, .val (.slice a xs.length c))] ?_
        refine Yc 10 #[.slice a xs.length c] (some 56) fun w S hG => ?_
        refine (rVecText (hG.at 2 rfl) h0).mono ?_
        rintro e w6 hR
        refine ⟨_, _, _, hR, ?_⟩
        try simp only [aQ]
        refine Yp ([.rd 6 [] 0 7] ++ Rds 7 15) [56, 53, 54, 55, 9, 10, 0] [(63, .val (.bool false)), (64, .val (.slice ua un uc)), (65, .val (.slice a xs.length c))] (oC (show (!(textB xs).toList == (textB xs).toList) = false from by simp) oN) ?_
        refine Yc 11 #[.slice ua un uc, .slice a xs.length c] (some 66) fun w S hG => ?_
        refine (sameInts (hG.at 4 rfl) (hG.at 2 rfl) (by omega)).mono ?_
        rintro e w6 hR
        rw [decide_eq_true rfl] at hR
        refine ⟨_, _, _, hR, ?_⟩
        try simp only [aQ]
        refine Ya [.rd 16 [] 0 0, .rd 17 [] 0 0] [66, 63, 64, 65] [(68, .val (.bool false))] ?_
        refine JR_end ?_
        refine J_cond_f (by kernel_rfl) (by kernel_rfl) ?_
        refine J_skip ?_
        refine J_seq ?_
        refine jT [(0, true), (1, false), (2, true), (3, true), (4, true), (5, true), (6, true)] [] ?_
        refine Ya [.rd 0 [] 0 0] [68] [(70, .val (.string s0))] ?_
        refine JR_callzp [] 9 #[.string s0] (some 71) zero_all (by kernel_rfl) (fun w S hG => ?_)
        refine (vread (hG.at 0 rfl) (hG.at 1 rfl) ho (by omega)).mono ?_
        rintro e w7 (⟨hr, hR⟩ | ⟨ys, ya, yn, yc, hr, hR⟩)
        · refine ⟨_, _, _, hR, ?_⟩
          try simp only [aQ]
          refine Ya (Rds 2 7) [71, 70] [(7, .val (.iface 135 (.pointer (some (er 1))))), (11, .val (.slice none 0 0))] ?_
          refine JR_end ?_
          refine J_seq ?_
          refine jT [(0, true), (1, false), (2, true), (3, true), (4, true), (5, true), (6, true)] [] ?_
          refine Ya [.rd 0 [] 0 0] [1] [(75, .val (.string s0))] ?_
          refine Yc 12 #[.string s0] (some 76) fun w S hG => ?_
          refine (vecOfR (S := S) (by omega)).mono ?_
          rintro e w8 (⟨hv, hR⟩ | ⟨zs, za, zn, zc, hv, hzl, hR⟩)
          · refine ⟨_, _, _, hR, ?_⟩
            try simp only [aQ]
            refine Ya (Rds 2 7) [76, 75] [(12, .val (.slice none 0 0)), (13, .val (.bool false))] ?_
            refine JR_end ?_
            refine J_seq ?_
            refine J_seq ?_
            refine Za [.rd 0 [] 0 0, .rd 1 [] 0 0] [13] [(80, .val (.bool true))] ?_
            refine J_cond_t (by kernel_rfl) (by kernel_rfl) ?_
            refine J_seq ?_
            refine jT [(0, true), (1, false), (2, true), (3, true), (4, true), (5, true), (6, true), (7, true)] [] ?_
            refine Ya [.rd 0 [] 0 0] [80] [(81, .val (.iface 135 (.pointer (some (er 1)))))] ?_
            refine Yc 8 #[.iface 135 (.pointer (some (er 1))), .int .i64 1] (some 82) fun w S hG => ?_
            refine (codedErr (er := er) (eb := eb) (k := 1) (hG.at 0 rfl) hI (by omega) (.inr ⟨by decide, rfl⟩)).mono ?_
            rintro e w9 hR
            rw [show decide (((1 : Nat) : Int) = 1) = true from rfl] at hR
            refine ⟨_, _, _, hR, ?_⟩
            try simp only [aQ]
            refine Ya (Rds 2 8) [82, 81] [(4, .val (.bool true))] ?_
            refine JR_end ?_
            refine Yr [[]] (.bool true) fun a w s => ?_
            exact s.retz (by simp) [] [] rfl rfl
          · have hbad : decide ((vecErr zs : Int) = 0) = false := by
              rw [read_vof, hv] at hr
              simp only [decide_eq_false_iff_not]
              intro h
              have h9 : vecErr zs = 0 := by omega
              simp [h9] at hr
            rw [hbad] at hR
            refine ⟨_, _, _, hR, ?_⟩
            try simp only [aQ]
            refine Ya (Rds 2 7) [76, 75] [(12, .val (.slice za zn zc)), (13, .val (.bool false))] ?_
            refine JR_end ?_
            refine J_seq ?_
            refine J_seq ?_
            refine Za [.rd 0 [] 0 0, .rd 1 [] 0 0] [13] [(80, .val (.bool true))] ?_
            refine J_cond_t (by kernel_rfl) (by kernel_rfl) ?_
            refine J_seq ?_
            refine jT [(0, true), (1, false), (2, true), (3, true), (4, true), (5, true), (6, true), (7, true)] [] ?_
            refine Ya [.rd 0 [] 0 0] [80] [(81, .val (.iface 135 (.pointer (some (er 1)))))] ?_
            refine Yc 8 #[.iface 135 (.pointer (some (er 1))), .int .i64 1] (some 82) fun w S hG => ?_
            refine (codedErr (er := er) (eb := eb) (k := 1) (hG.at 0 rfl) hI (by omega) (.inr ⟨by decide, rfl⟩)).mono ?_
            rintro e w9 hR
            rw [show decide (((1 : Nat) : Int) = 1) = true from rfl] at hR
            refine ⟨_, _, _, hR, ?_⟩
            try simp only [aQ]
            refine Ya (Rds 2 8) [82, 81] [(4, .val (.bool true))] ?_
            refine JR_end ?_
            refine Yr [[]] (.bool true) fun a w s => ?_
            exact s.retz (by simp) [] [] rfl rfl
        · refine ⟨_, _, _, hR, ?_⟩
          obtain ⟨hv0, hy0⟩ := vof_of_read hr
          try simp only [aQ]
          refine Ya (Rds 2 7) [71, 70] [(11, .val (.slice ya yn yc))] ?_
          refine JR_end ?_
          refine J_seq ?_
          refine jT [(0, true), (1, false), (2, true), (3, true), (4, true), (5, true), (6, true)] [] ?_
          refine Ya [.rd 0 [] 0 0] [1] [(75, .val (.string s0))] ?_
          refine Yc 12 #[.string s0] (some 76) fun w S hG => ?_
          refine (vecOfR (S := S) (by omega)).mono ?_
          rintro e w8 (⟨hv, hR⟩ | ⟨zs, za, zn, zc, hv, hzl, hR⟩)
          · rw [hv0] at hv
            cases hv
          · rw [hv0] at hv
            cases hv
            rw [show decide ((vecErr ys : Int) = 0) = true from decide_eq_true (by omega)] at hR
            refine ⟨_, _, _, hR, ?_⟩
            try simp only [aQ]
            refine Ya (Rds 2 7) [76, 75] [(12, .val (.slice za zn zc)), (13, .val (.bool true))] ?_
            refine JR_end ?_
            refine J_seq ?_
            refine J_seq ?_
            refine Za [.rd 0 [] 0 0, .rd 1 [] 0 0] [13] [(80, .val (.bool false))] ?_
            refine J_cond_f (by kernel_rfl) (by kernel_rfl) ?_
            refine J_skip ?_
            refine J_seq ?_
            refine jT [(0, true), (1, true), (2, true), (3, true), (4, true), (5, false), (6, true), (7, true)] [] ?_
            refine Ya (Rds 0 5) [80, 12, 11, 7] [(90, .val (.bool true)), (91, .val (.slice ya yn yc)), (92, .val (.slice za zn zc))] ?_
            refine Yc 11 #[.slice ya yn yc, .slice za zn zc] (some 93) fun w S hG => ?_
            refine (sameInts (hG.at 5 rfl) (hG.at 6 rfl) (by omega)).mono ?_
            rintro e w9 hR
            rw [decide_eq_true rfl] at hR
            refine ⟨_, _, _, hR, ?_⟩
            try simp only [aQ]
            refine Ya [.rd 6 [] 0 0, .rd 7 [] 0 0] [93, 90, 91, 92] [(4, .val (.bool true))] ?_
            refine JR_end ?_
            refine Yr [[]] (.bool true) fun a w s => ?_
            exact s.retz (by simp) [] [] rfl rfl
    · rw [if_neg h0] at hR
      have hk : vecErr xs ≤ 3 := by unfold vecErr; split <;> (try split) <;> omega
      have hpos : (0 : Int) < (vecErr xs : Int) := by omega
      refine ⟨_, _, _, hR, ?_⟩
      try simp only [aQ]
      refine Ya (Rds 3 8) [31, 30, 29] [(6, .val (.string (ByteArray.mk #[]))), (7, .val (.iface 135 (.pointer (some (er (vecErr xs))))))] ?_
      refine JR_end ?_
      refine J_seq ?_
      refine jT [(0, true), (1, false), (2, true)] [] ?_
      refine Ya [.rd 0 [] 0 0] [] [(34, .val (.slice a xs.length c))] ?_
      refine Yc 7 #[.slice a xs.length c] (some 35) fun w S hG => ?_
      refine (rVecErr (hG.at 2 rfl) (by omega)).mono ?_
      rintro e w4 hR
      refine ⟨_, _, _, hR, ?_⟩
      try simp only [aQ]
      refine Ya [.rd 2 [] 0 0] [35, 34] [(8, .val (.int .i64 ((↑(vecErr xs) : Int))))] ?_
      refine JR_end ?_
      refine J_seq ?_
      refine J_seq ?_
      refine Za [.rd 0 [] 0 0, .rd 1 [] 0 0] [] [(37, .val (.bool (decide ((↑(vecErr xs) : Int) > 0))))] ?_
      refine J_condT (decide ((↑(vecErr xs) : Int) > 0)) (by kernel_rfl) (by kernel_rfl) (by simp; omega) ?_
      refine J_seq ?_
      refine jT [(0, true), (1, true), (2, false), (3, true), (4, true), (5, true), (6, true), (7, true)] [] ?_
      refine Ya [.rd 0 [] 0 0, .rd 1 [] 0 0] [37, 8, 0] [(38, .val (.iface 135 (.pointer (some (er (vecErr xs)))))), (39, .val (.int .i64 ((↑(vecErr xs) : Int))))] ?_
      refine Yc 8 #[.iface 135 (.pointer (some (er (vecErr xs)))), .int .i64 ((↑(vecErr xs) : Int))] (some 40) fun w S hG => ?_
      refine (codedErr (er := er) (eb := eb) (k := vecErr xs) (hG.at 0 rfl) hI (by omega) (.inr ⟨h0, rfl⟩)).mono ?_
      rintro e w5 hR
      rw [decide_eq_true rfl] at hR
      refine ⟨_, _, _, hR, ?_⟩
      try simp only [aQ]
      refine Ya (Rds 3 8) [40, 38, 39, 6] [(45, .val (.bool false))] ?_
      refine JR_end ?_
      refine J_cond_f (by kernel_rfl) (by kernel_rfl) ?_
      refine J_skip ?_
      refine J_seq ?_
      refine jT [(0, true), (1, false), (2, true), (3, true), (4, true), (5, true), (6, true)] [] ?_
      refine Ya [.rd 0 [] 0 0] [45] [(70, .val (.string s0))] ?_
      refine JR_callzp [] 9 #[.string s0] (some 71) zero_all (by kernel_rfl) (fun w S hG => ?_)
      refine (vread (hG.at 0 rfl) (hG.at 1 rfl) ho (by omega)).mono ?_
      rintro e w7 (⟨hr, hR⟩ | ⟨ys, ya, yn, yc, hr, hR⟩)
      · refine ⟨_, _, _, hR, ?_⟩
        try simp only [aQ]
        refine Ya (Rds 2 7) [71, 70] [(7, .val (.iface 135 (.pointer (some (er 1))))), (11, .val (.slice none 0 0))] ?_
        refine JR_end ?_
        refine J_seq ?_
        refine jT [(0, true), (1, false), (2, true), (3, true), (4, true), (5, true), (6, true)] [] ?_
        refine Ya [.rd 0 [] 0 0] [1] [(75, .val (.string s0))] ?_
        refine Yc 12 #[.string s0] (some 76) fun w S hG => ?_
        refine (vecOfR (S := S) (by omega)).mono ?_
        rintro e w8 (⟨hv, hR⟩ | ⟨zs, za, zn, zc, hv, hzl, hR⟩)
        · refine ⟨_, _, _, hR, ?_⟩
          try simp only [aQ]
          refine Ya (Rds 2 7) [76, 75] [(12, .val (.slice none 0 0)), (13, .val (.bool false))] ?_
          refine JR_end ?_
          refine J_seq ?_
          refine J_seq ?_
          refine Za [.rd 0 [] 0 0, .rd 1 [] 0 0] [13] [(80, .val (.bool true))] ?_
          refine J_cond_t (by kernel_rfl) (by kernel_rfl) ?_
          refine J_seq ?_
          refine jT [(0, true), (1, false), (2, true), (3, true), (4, true), (5, true), (6, true), (7, true)] [] ?_
          refine Ya [.rd 0 [] 0 0] [80] [(81, .val (.iface 135 (.pointer (some (er 1)))))] ?_
          refine Yc 8 #[.iface 135 (.pointer (some (er 1))), .int .i64 1] (some 82) fun w S hG => ?_
          refine (codedErr (er := er) (eb := eb) (k := 1) (hG.at 0 rfl) hI (by omega) (.inr ⟨by decide, rfl⟩)).mono ?_
          rintro e w9 hR
          rw [show decide (((1 : Nat) : Int) = 1) = true from rfl] at hR
          refine ⟨_, _, _, hR, ?_⟩
          try simp only [aQ]
          refine Ya (Rds 2 8) [82, 81] [(4, .val (.bool true))] ?_
          refine JR_end ?_
          refine Yr [[]] (.bool true) fun a w s => ?_
          exact s.retz (by simp) [] [] rfl rfl
        · have hbad : decide ((vecErr zs : Int) = 0) = false := by
            rw [read_vof, hv] at hr
            simp only [decide_eq_false_iff_not]
            intro h
            have h9 : vecErr zs = 0 := by omega
            simp [h9] at hr
          rw [hbad] at hR
          refine ⟨_, _, _, hR, ?_⟩
          try simp only [aQ]
          refine Ya (Rds 2 7) [76, 75] [(12, .val (.slice za zn zc)), (13, .val (.bool false))] ?_
          refine JR_end ?_
          refine J_seq ?_
          refine J_seq ?_
          refine Za [.rd 0 [] 0 0, .rd 1 [] 0 0] [13] [(80, .val (.bool true))] ?_
          refine J_cond_t (by kernel_rfl) (by kernel_rfl) ?_
          refine J_seq ?_
          refine jT [(0, true), (1, false), (2, true), (3, true), (4, true), (5, true), (6, true), (7, true)] [] ?_
          refine Ya [.rd 0 [] 0 0] [80] [(81, .val (.iface 135 (.pointer (some (er 1)))))] ?_
          refine Yc 8 #[.iface 135 (.pointer (some (er 1))), .int .i64 1] (some 82) fun w S hG => ?_
          refine (codedErr (er := er) (eb := eb) (k := 1) (hG.at 0 rfl) hI (by omega) (.inr ⟨by decide, rfl⟩)).mono ?_
          rintro e w9 hR
          rw [show decide (((1 : Nat) : Int) = 1) = true from rfl] at hR
          refine ⟨_, _, _, hR, ?_⟩
          try simp only [aQ]
          refine Ya (Rds 2 8) [82, 81] [(4, .val (.bool true))] ?_
          refine JR_end ?_
          refine Yr [[]] (.bool true) fun a w s => ?_
          exact s.retz (by simp) [] [] rfl rfl
      · refine ⟨_, _, _, hR, ?_⟩
        obtain ⟨hv0, hy0⟩ := vof_of_read hr
        try simp only [aQ]
        refine Ya (Rds 2 7) [71, 70] [(7, .val (.nilIface)), (11, .val (.slice ya yn yc))] ?_
        refine JR_end ?_
        refine J_seq ?_
        refine jT [(0, true), (1, false), (2, true), (3, true), (4, true), (5, true), (6, true)] [] ?_
        refine Ya [.rd 0 [] 0 0] [1] [(75, .val (.string s0))] ?_
        refine Yc 12 #[.string s0] (some 76) fun w S hG => ?_
        refine (vecOfR (S := S) (by omega)).mono ?_
        rintro e w8 (⟨hv, hR⟩ | ⟨zs, za, zn, zc, hv, hzl, hR⟩)
        · rw [hv0] at hv
          cases hv
        · rw [hv0] at hv
          cases hv
          rw [show decide ((vecErr ys : Int) = 0) = true from decide_eq_true (by omega)] at hR
          refine ⟨_, _, _, hR, ?_⟩
          try simp only [aQ]
          refine Ya (Rds 2 7) [76, 75] [(12, .val (.slice za zn zc)), (13, .val (.bool true))] ?_
          refine JR_end ?_
          refine J_seq ?_
          refine J_seq ?_
          refine Za [.rd 0 [] 0 0, .rd 1 [] 0 0] [13] [(80, .val (.bool false))] ?_
          refine J_cond_f (by kernel_rfl) (by kernel_rfl) ?_
          refine J_skip ?_
          refine J_seq ?_
          refine jT [(0, true), (1, true), (2, true), (3, true), (4, true), (5, false), (6, true), (7, true)] [] ?_
          refine Ya (Rds 0 5) [80, 12, 7, 11] [(90, .val (.bool true)), (91, .val (.slice ya yn yc)), (92, .val (.slice za zn zc))] ?_
          refine Yc 11 #[.slice ya yn yc, .slice za zn zc] (some 93) fun w S hG => ?_
          refine (sameInts (hG.at 4 rfl) (hG.at 5 rfl) (by omega)).mono ?_
          rintro e w9 hR
          rw [decide_eq_true rfl] at hR
          refine ⟨_, _, _, hR, ?_⟩
          try simp only [aQ]
          refine Ya [.rd 6 [] 0 0, .rd 7 [] 0 0] [93, 90, 91, 92] [(4, .val (.bool true))] ?_
          refine JR_end ?_
          refine Yr [[]] (.bool true) fun a w s => ?_
          exact s.retz (by simp) [] [] rfl rfl
end Go.Proofs.YtahbmdchcbnolaaDoor
