/- Part 5 of the texts of a claim: Pen Pen2 Errs Code Enc. -/
import Derived.Test.YtonhcoeneahpaaaDoorProg
import Derived.WalkKit
import Derived.LaidEql
import Derived.Stop.Asserts
import Derived.RowKitTokens
import Derived.Test.YtonhcoeneahpaaaDoorTb4
section
namespace Go.Proofs.YtonhcoeneahpaaaDoor
open Go Go.Sx
structure PenI where
  i : Int
  a : Option Addr
  k : Nat
  c : Nat
  r : List Int
abbrev penC (v : Value) : Obj := .cells #[v] 56 (0, 0)
theorem enc8_take {n : Int} {k : Int} {x : Int} (h0 : 0 ≤ k) (h7 : k ≤ 7) (hx : ((byteI n k.toNat).toNat : Int) = x) (bs : List Int) : bs ++ bI ((enc8 n).take (7 - k).toNat) ++ [x] = bs ++ bI ((enc8 n).take (7 - (k - 1)).toNat) := by
  subst hx
  rw [List.append_assoc]
  congr 1
  obtain h | h | h | h | h | h | h | h : k = 0 ∨ k = 1 ∨ k = 2 ∨ k = 3 ∨ k = 4 ∨ k = 5 ∨ k = 6 ∨ k = 7 := by omega
  all_goals subst h; rfl
set_option maxHeartbeats 4000000 in
theorem numbersW {w0 : World} {S : Nat → Prop} {M : List Nat} {pb n c ln lc : Nat} {a la : Option Addr} {bs l : List Int} (hP : Pre w0 S M [cObj pb (penC (.slice a n c)), cAcc (.slice a n c) 5 1 (bs.map eU)]) (hl : Rep w0 S (.slice la ln lc) (dInts l)) (hb : bs.length + 8 * l.length ≤ 100000000) :
    Calls Tryd.prog 17 #[.pointer (some ⟨pb, 0, none⟩), .slice la ln lc] w0 fun e w' => ∃ a' n' c', Ret M w0 S w' e (.tuple #[]) [cObj pb (penC (.slice a' n' c')), cAcc (.slice a' n' c') 5 1 ((bs ++ bI (l.flatMap enc8)).map eU)] [] := by
  obtain rfl := rep_ints_len hl
  refine en17 (args := [.pointer (some ⟨pb, 0, none⟩), .slice la l.length lc]) (S := S) (C := [cObj pb (penC (.slice a n c)), cAcc (.slice a n c) 5 1 (bs.map eU)]) (G := [(_, dInts l)]) (by kernel_rfl) hP (.cons hl (.nil _ _)) ?_
  refine J_show 0 rfl ?_
  refine J_seq ?_
  refine Za (Rds 0 3) [1] [(7, .val (.slice la l.length lc)), (8, .val (.int .i64 (↑l.length : Int))), (9, .val (.int .i64 0))] ?_
  refine J_block ?_
  refine J_loopx (fun x : PenI => [(0, .val (.pointer (some (⟨pb, 0, none⟩)))), (7, .val (.slice la l.length lc)), (8, .val (.int .i64 (↑l.length : Int))), (9, .val (.int .i64 x.i))]) (fun x : PenI => [(pb, penC (.slice x.a x.k x.c))]) (fun x : PenI => [cAcc (.slice x.a x.k x.c) 5 1 (x.r.map eU)]) (fun x : PenI => [(.slice la l.length lc, (dInts l))]) (fun x : PenI => (l.length - x.i).toNat) (fun x : PenI => (0 ≤ x.i ∧ x.i ≤ l.length ∧ x.r = bs ++ bI ((l.take x.i.toNat).flatMap enc8))) ⟨0, a, n, c, bs⟩ [0, 7, 8, 9] [0] [0] [0] ?_ (by kernel_rfl) rfl rfl rfl ?_
  · exact ⟨by simp, by simp, by simp [bI]⟩
  rintro ⟨i, av, k, cv, r⟩ ⟨hi0, hi, hr⟩
  dsimp only at hi0 hi hr ⊢
  refine J_seq ?_
  refine Za [.rd 0 [] 0 0] [] [(10, .val (.bool (decide (i < (↑l.length : Int)))))] ?_
  refine J_seq ?_
  refine J_cond (t := decide (i < (↑l.length : Int))) (by kernel_rfl) (by kernel_rfl) (fun hlt => ?_) (fun hlt => ?_)
  · have hlt2 : i < l.length := by simpa using hlt
    obtain ⟨v, hv⟩ : ∃ x, l[i.toNat]? = some x := ⟨_, List.getElem?_eq_getElem (by omega)⟩
    have hrl : r.length + 8 * (l.length - i.toNat) ≤ 100000000 := by
      rw [hr, List.length_append, bI_length, flat8]
      simp
      omega
    refine J_read0 0 rfl i.toNat (map_at hv) (by kernel_rfl) (fun b1 off1 cs1 ty1 fz1 ha1 hrd1 => ?_)
    cases ha1
    have hrd1_0 := rd0 (hrd1 0 _ rfl)
    try simp only [aQ]
    refine J_skip ?_
    refine J_seq ?_
    refine J_block ?_
    refine J_seq ?_
    refine Zp [.rd 0 [] 0 2, .rd 1 [.r 0 (some (.int .i64 v))] 0 0, .rd 2 [] 0 0] [10] [(5, .val (.int .i64 v))] [(0 : Int) ≤ i, i < (↑l.length : Int), cs1[off1 + i.toNat * (1 : Nat)]? = some (Value.int IntKind.i64 v)] ⟨hi0, hlt2, hrd1_0, trivial⟩ ?_
    refine J_seq ?_
    refine Za [.rd 0 [] 0 0] [] [(6, .val (.int .i64 7))] ?_
    refine J_block ?_
    refine J_loopx (fun y : PenI => [(0, .val (.pointer (some (⟨pb, 0, none⟩)))), (5, .val (.int .i64 v)), (6, .val (.int .i64 y.i)), (7, .val (.slice (some (⟨b1, off1, none⟩)) l.length lc)), (8, .val (.int .i64 (↑l.length : Int))), (9, .val (.int .i64 i))]) (fun y : PenI => [(pb, penC (.slice y.a y.k y.c))]) (fun y : PenI => [cAcc (.slice y.a y.k y.c) 5 1 (y.r.map eU)]) (fun y : PenI => [(.slice (some (⟨b1, off1, none⟩)) l.length lc, (dInts l))]) (fun y : PenI => (y.i + 1).toNat) (fun y : PenI => (-1 ≤ y.i ∧ y.i ≤ 7 ∧ y.r = r ++ bI ((enc8 v).take (7 - y.i).toNat))) ⟨7, av, k, cv, r⟩ [0, 5, 6, 7, 8, 9] [0] [0] [0] ?_ (by kernel_rfl) rfl rfl rfl ?_
    · exact ⟨by simp, by simp, by simp [bI]⟩
    rintro ⟨j, av, k, cv, q⟩ ⟨hj0, hj, hq⟩
    dsimp only at hj0 hj hq ⊢
    refine J_stpx (stp_acclen 0 rfl) fun _ hk => ?_
    rw [List.length_map, hq, List.length_append, bI_length, List.length_take, enc8_length] at hk
    refine J_seq ?_
    refine J_seq ?_
    refine Za [.rd 0 [] 0 0, .rd 1 [] 0 0] [] [(14, .val (.bool (decide (j ≥ 0))))] ?_
    refine J_cond (t := decide (j ≥ 0)) (by kernel_rfl) (by kernel_rfl) (fun hj7 => ?_) (fun hj7 => ?_)
    · have hj8 : 0 ≤ j := by simpa using hj7
      obtain h | h | h | h | h | h | h | h : j = 0 ∨ j = 1 ∨ j = 2 ∨ j = 3 ∨ j = 4 ∨ j = 5 ∨ j = 6 ∨ j = 7 := by omega
      · subst h
        refine J_skip ?_
        refine J_seq ?_
        refine J_block ?_
        refine jT [(0, true), (1, true), (2, true), (3, true), (4, true), (5, true), (6, true), (7, true), (8, true), (9, true), (10, false), (11, false), (12, true), (13, true), (14, false)] [(11, []), (14, [0])] ?_
        refine Ym (id := 6) (rest := [(11, false), (12, true), (13, true), (14, false)]) (Rds 0 4 ++ [.rd 4 [.o 0 none] 0 0] ++ Rds 5 10 ++ [.wr 10 [] 0]) [14] (fun nu1 => [(17, .val (.pointer (some (⟨pb, 0, none⟩)))), (21, .val (.slice av k cv)), (27, .val (.slice (some (⟨nu1 0, 0, none⟩)) 1 1))]) (fun nu1 => [(pb, .cells #[.slice av k cv] 56 (0, 0)), (nu1 0, .cells #[.int .u8 (IntKind.u8.wrap (v.fdiv (2 ^ min (Int.toNat 0) IntKind.i64.bits)))] 5 (0, 0))]) [(11, []), (14, [0])] (fun nu1 => ?_)
        refine JR_appm 0 54 5 1 1 (.int .u8 0) (a0 := av) (len := k) (cap0 := cv) (ax := (some (⟨nu1 0, 0, none⟩))) (m := 1) (c := 1) (dst := (some 28)) [(IntKind.u8.wrap (v.fdiv (2 ^ min (Int.toNat 0) IntKind.i64.bits)))] (by kernel_rfl) (by kernel_rfl) (by kernel_rfl) (by kernel_rfl) rfl (by decide) rfl (fun _ _ _ s => src_one s 1 rfl rfl ⟨.inl ⟨rfl, rfl⟩, trivial⟩) (by simp only [maxLen]; omega) (by omega) (fun av1 cv1 => ?_)
        try simp only [aQ]
        refine Ym (id := 6) (rest := []) [.rd 12 [] 0 0, .rd 13 [] 0 0, .wr 14 [.o 0 none] 0] [28, 17, 21, 27] (fun _ => []) (fun _ => [(pb, .cells #[.slice av1 (k + 1) cv1] 56 (0, 0)), (nu1 0, .cells #[.int .u8 (IntKind.u8.wrap (v.fdiv (2 ^ min (Int.toNat 0) IntKind.i64.bits)))] 5 (0, 0))]) [] (fun _ => ?_)
        try simp only [aQ]
        refine JR_end ?_
        try simp only [aQ]
        refine J_eb ?_
        try simp only [aQ]
        refine Za (Rds 0 3) [] [(6, .val (.int .i64 (-1)))] ?_
        try simp only [aQ]
        refine J_backx ⟨0 - 1, av1, k + 1, cv1, q ++ [IntKind.u8.wrap (v.fdiv (2 ^ min (Int.toNat 0) IntKind.i64.bits))]⟩ [0, 5, 6, 7, 8, 9] [0] [0] [0] ?_ ?_ (by kernel_rfl) rfl rfl rfl
        · refine ⟨by simp only; omega, by simp only; omega, ?_⟩
          simp only
          rw [hq]
          exact enc8_take (k := 0) (by decide) (by decide) (byteAt 0 rfl) r
        · simp
      · subst h
        refine J_skip ?_
        refine J_seq ?_
        refine J_block ?_
        refine jT [(0, true), (1, true), (2, true), (3, true), (4, true), (5, true), (6, true), (7, true), (8, true), (9, true), (10, false), (11, false), (12, true), (13, true), (14, false)] [(11, []), (14, [0])] ?_
        refine Ym (id := 6) (rest := [(11, false), (12, true), (13, true), (14, false)]) (Rds 0 4 ++ [.rd 4 [.o 0 none] 0 0] ++ Rds 5 10 ++ [.wr 10 [] 0]) [14] (fun nu1 => [(17, .val (.pointer (some (⟨pb, 0, none⟩)))), (21, .val (.slice av k cv)), (27, .val (.slice (some (⟨nu1 0, 0, none⟩)) 1 1))]) (fun nu1 => [(pb, .cells #[.slice av k cv] 56 (0, 0)), (nu1 0, .cells #[.int .u8 (IntKind.u8.wrap (v.fdiv (2 ^ min (Int.toNat 8) IntKind.i64.bits)))] 5 (0, 0))]) [(11, []), (14, [0])] (fun nu1 => ?_)
        refine JR_appm 0 54 5 1 1 (.int .u8 0) (a0 := av) (len := k) (cap0 := cv) (ax := (some (⟨nu1 0, 0, none⟩))) (m := 1) (c := 1) (dst := (some 28)) [(IntKind.u8.wrap (v.fdiv (2 ^ min (Int.toNat 8) IntKind.i64.bits)))] (by kernel_rfl) (by kernel_rfl) (by kernel_rfl) (by kernel_rfl) rfl (by decide) rfl (fun _ _ _ s => src_one s 1 rfl rfl ⟨.inl ⟨rfl, rfl⟩, trivial⟩) (by simp only [maxLen]; omega) (by omega) (fun av1 cv1 => ?_)
        try simp only [aQ]
        refine Ym (id := 6) (rest := []) [.rd 12 [] 0 0, .rd 13 [] 0 0, .wr 14 [.o 0 none] 0] [28, 17, 21, 27] (fun _ => []) (fun _ => [(pb, .cells #[.slice av1 (k + 1) cv1] 56 (0, 0)), (nu1 0, .cells #[.int .u8 (IntKind.u8.wrap (v.fdiv (2 ^ min (Int.toNat 8) IntKind.i64.bits)))] 5 (0, 0))]) [] (fun _ => ?_)
        try simp only [aQ]
        refine JR_end ?_
        try simp only [aQ]
        refine J_eb ?_
        try simp only [aQ]
        refine Za (Rds 0 3) [] [(6, .val (.int .i64 0))] ?_
        try simp only [aQ]
        refine J_backx ⟨1 - 1, av1, k + 1, cv1, q ++ [IntKind.u8.wrap (v.fdiv (2 ^ min (Int.toNat 8) IntKind.i64.bits))]⟩ [0, 5, 6, 7, 8, 9] [0] [0] [0] ?_ ?_ (by kernel_rfl) rfl rfl rfl
        · refine ⟨by simp only; omega, by simp only; omega, ?_⟩
          simp only
          rw [hq]
          exact enc8_take (k := 1) (by decide) (by decide) (byteAt 1 rfl) r
        · simp
      · subst h
        refine J_skip ?_
        refine J_seq ?_
        refine J_block ?_
        refine jT [(0, true), (1, true), (2, true), (3, true), (4, true), (5, true), (6, true), (7, true), (8, true), (9, true), (10, false), (11, false), (12, true), (13, true), (14, false)] [(11, []), (14, [0])] ?_
        refine Ym (id := 6) (rest := [(11, false), (12, true), (13, true), (14, false)]) (Rds 0 4 ++ [.rd 4 [.o 0 none] 0 0] ++ Rds 5 10 ++ [.wr 10 [] 0]) [14] (fun nu1 => [(17, .val (.pointer (some (⟨pb, 0, none⟩)))), (21, .val (.slice av k cv)), (27, .val (.slice (some (⟨nu1 0, 0, none⟩)) 1 1))]) (fun nu1 => [(pb, .cells #[.slice av k cv] 56 (0, 0)), (nu1 0, .cells #[.int .u8 (IntKind.u8.wrap (v.fdiv (2 ^ min (Int.toNat 16) IntKind.i64.bits)))] 5 (0, 0))]) [(11, []), (14, [0])] (fun nu1 => ?_)
        refine JR_appm 0 54 5 1 1 (.int .u8 0) (a0 := av) (len := k) (cap0 := cv) (ax := (some (⟨nu1 0, 0, none⟩))) (m := 1) (c := 1) (dst := (some 28)) [(IntKind.u8.wrap (v.fdiv (2 ^ min (Int.toNat 16) IntKind.i64.bits)))] (by kernel_rfl) (by kernel_rfl) (by kernel_rfl) (by kernel_rfl) rfl (by decide) rfl (fun _ _ _ s => src_one s 1 rfl rfl ⟨.inl ⟨rfl, rfl⟩, trivial⟩) (by simp only [maxLen]; omega) (by omega) (fun av1 cv1 => ?_)
        try simp only [aQ]
        refine Ym (id := 6) (rest := []) [.rd 12 [] 0 0, .rd 13 [] 0 0, .wr 14 [.o 0 none] 0] [28, 17, 21, 27] (fun _ => []) (fun _ => [(pb, .cells #[.slice av1 (k + 1) cv1] 56 (0, 0)), (nu1 0, .cells #[.int .u8 (IntKind.u8.wrap (v.fdiv (2 ^ min (Int.toNat 16) IntKind.i64.bits)))] 5 (0, 0))]) [] (fun _ => ?_)
        try simp only [aQ]
        refine JR_end ?_
        try simp only [aQ]
        refine J_eb ?_
        try simp only [aQ]
        refine Za (Rds 0 3) [] [(6, .val (.int .i64 1))] ?_
        try simp only [aQ]
        refine J_backx ⟨2 - 1, av1, k + 1, cv1, q ++ [IntKind.u8.wrap (v.fdiv (2 ^ min (Int.toNat 16) IntKind.i64.bits))]⟩ [0, 5, 6, 7, 8, 9] [0] [0] [0] ?_ ?_ (by kernel_rfl) rfl rfl rfl
        · refine ⟨by simp only; omega, by simp only; omega, ?_⟩
          simp only
          rw [hq]
          exact enc8_take (k := 2) (by decide) (by decide) (byteAt 2 rfl) r
        · simp
      · subst h
        refine J_skip ?_
        refine J_seq ?_
        refine J_block ?_
        refine jT [(0, true), (1, true), (2, true), (3, true), (4, true), (5, true), (6, true), (7, true), (8, true), (9, true), (10, false), (11, false), (12, true), (13, true), (14, false)] [(11, []), (14, [0])] ?_
        refine Ym (id := 6) (rest := [(11, false), (12, true), (13, true), (14, false)]) (Rds 0 4 ++ [.rd 4 [.o 0 none] 0 0] ++ Rds 5 10 ++ [.wr 10 [] 0]) [14] (fun nu1 => [(17, .val (.pointer (some (⟨pb, 0, none⟩)))), (21, .val (.slice av k cv)), (27, .val (.slice (some (⟨nu1 0, 0, none⟩)) 1 1))]) (fun nu1 => [(pb, .cells #[.slice av k cv] 56 (0, 0)), (nu1 0, .cells #[.int .u8 (IntKind.u8.wrap (v.fdiv (2 ^ min (Int.toNat 24) IntKind.i64.bits)))] 5 (0, 0))]) [(11, []), (14, [0])] (fun nu1 => ?_)
        refine JR_appm 0 54 5 1 1 (.int .u8 0) (a0 := av) (len := k) (cap0 := cv) (ax := (some (⟨nu1 0, 0, none⟩))) (m := 1) (c := 1) (dst := (some 28)) [(IntKind.u8.wrap (v.fdiv (2 ^ min (Int.toNat 24) IntKind.i64.bits)))] (by kernel_rfl) (by kernel_rfl) (by kernel_rfl) (by kernel_rfl) rfl (by decide) rfl (fun _ _ _ s => src_one s 1 rfl rfl ⟨.inl ⟨rfl, rfl⟩, trivial⟩) (by simp only [maxLen]; omega) (by omega) (fun av1 cv1 => ?_)
        try simp only [aQ]
        refine Ym (id := 6) (rest := []) [.rd 12 [] 0 0, .rd 13 [] 0 0, .wr 14 [.o 0 none] 0] [28, 17, 21, 27] (fun _ => []) (fun _ => [(pb, .cells #[.slice av1 (k + 1) cv1] 56 (0, 0)), (nu1 0, .cells #[.int .u8 (IntKind.u8.wrap (v.fdiv (2 ^ min (Int.toNat 24) IntKind.i64.bits)))] 5 (0, 0))]) [] (fun _ => ?_)
        try simp only [aQ]
        refine JR_end ?_
        try simp only [aQ]
        refine J_eb ?_
        try simp only [aQ]
        refine Za (Rds 0 3) [] [(6, .val (.int .i64 2))] ?_
        try simp only [aQ]
        refine J_backx ⟨3 - 1, av1, k + 1, cv1, q ++ [IntKind.u8.wrap (v.fdiv (2 ^ min (Int.toNat 24) IntKind.i64.bits))]⟩ [0, 5, 6, 7, 8, 9] [0] [0] [0] ?_ ?_ (by kernel_rfl) rfl rfl rfl
        · refine ⟨by simp only; omega, by simp only; omega, ?_⟩
          simp only
          rw [hq]
          exact enc8_take (k := 3) (by decide) (by decide) (byteAt 3 rfl) r
        · simp
      · subst h
        refine J_skip ?_
        refine J_seq ?_
        refine J_block ?_
        refine jT [(0, true), (1, true), (2, true), (3, true), (4, true), (5, true), (6, true), (7, true), (8, true), (9, true), (10, false), (11, false), (12, true), (13, true), (14, false)] [(11, []), (14, [0])] ?_
        refine Ym (id := 6) (rest := [(11, false), (12, true), (13, true), (14, false)]) (Rds 0 4 ++ [.rd 4 [.o 0 none] 0 0] ++ Rds 5 10 ++ [.wr 10 [] 0]) [14] (fun nu1 => [(17, .val (.pointer (some (⟨pb, 0, none⟩)))), (21, .val (.slice av k cv)), (27, .val (.slice (some (⟨nu1 0, 0, none⟩)) 1 1))]) (fun nu1 => [(pb, .cells #[.slice av k cv] 56 (0, 0)), (nu1 0, .cells #[.int .u8 (IntKind.u8.wrap (v.fdiv (2 ^ min (Int.toNat 32) IntKind.i64.bits)))] 5 (0, 0))]) [(11, []), (14, [0])] (fun nu1 => ?_)
        refine JR_appm 0 54 5 1 1 (.int .u8 0) (a0 := av) (len := k) (cap0 := cv) (ax := (some (⟨nu1 0, 0, none⟩))) (m := 1) (c := 1) (dst := (some 28)) [(IntKind.u8.wrap (v.fdiv (2 ^ min (Int.toNat 32) IntKind.i64.bits)))] (by kernel_rfl) (by kernel_rfl) (by kernel_rfl) (by kernel_rfl) rfl (by decide) rfl (fun _ _ _ s => src_one s 1 rfl rfl ⟨.inl ⟨rfl, rfl⟩, trivial⟩) (by simp only [maxLen]; omega) (by omega) (fun av1 cv1 => ?_)
        try simp only [aQ]
        refine Ym (id := 6) (rest := []) [.rd 12 [] 0 0, .rd 13 [] 0 0, .wr 14 [.o 0 none] 0] [28, 17, 21, 27] (fun _ => []) (fun _ => [(pb, .cells #[.slice av1 (k + 1) cv1] 56 (0, 0)), (nu1 0, .cells #[.int .u8 (IntKind.u8.wrap (v.fdiv (2 ^ min (Int.toNat 32) IntKind.i64.bits)))] 5 (0, 0))]) [] (fun _ => ?_)
        try simp only [aQ]
        refine JR_end ?_
        try simp only [aQ]
        refine J_eb ?_
        try simp only [aQ]
        refine Za (Rds 0 3) [] [(6, .val (.int .i64 3))] ?_
        try simp only [aQ]
        refine J_backx ⟨4 - 1, av1, k + 1, cv1, q ++ [IntKind.u8.wrap (v.fdiv (2 ^ min (Int.toNat 32) IntKind.i64.bits))]⟩ [0, 5, 6, 7, 8, 9] [0] [0] [0] ?_ ?_ (by kernel_rfl) rfl rfl rfl
        · refine ⟨by simp only; omega, by simp only; omega, ?_⟩
          simp only
          rw [hq]
          exact enc8_take (k := 4) (by decide) (by decide) (byteAt 4 rfl) r
        · simp
      · subst h
        refine J_skip ?_
        refine J_seq ?_
        refine J_block ?_
        refine jT [(0, true), (1, true), (2, true), (3, true), (4, true), (5, true), (6, true), (7, true), (8, true), (9, true), (10, false), (11, false), (12, true), (13, true), (14, false)] [(11, []), (14, [0])] ?_
        refine Ym (id := 6) (rest := [(11, false), (12, true), (13, true), (14, false)]) (Rds 0 4 ++ [.rd 4 [.o 0 none] 0 0] ++ Rds 5 10 ++ [.wr 10 [] 0]) [14] (fun nu1 => [(17, .val (.pointer (some (⟨pb, 0, none⟩)))), (21, .val (.slice av k cv)), (27, .val (.slice (some (⟨nu1 0, 0, none⟩)) 1 1))]) (fun nu1 => [(pb, .cells #[.slice av k cv] 56 (0, 0)), (nu1 0, .cells #[.int .u8 (IntKind.u8.wrap (v.fdiv (2 ^ min (Int.toNat 40) IntKind.i64.bits)))] 5 (0, 0))]) [(11, []), (14, [0])] (fun nu1 => ?_)
        refine JR_appm 0 54 5 1 1 (.int .u8 0) (a0 := av) (len := k) (cap0 := cv) (ax := (some (⟨nu1 0, 0, none⟩))) (m := 1) (c := 1) (dst := (some 28)) [(IntKind.u8.wrap (v.fdiv (2 ^ min (Int.toNat 40) IntKind.i64.bits)))] (by kernel_rfl) (by kernel_rfl) (by kernel_rfl) (by kernel_rfl) rfl (by decide) rfl (fun _ _ _ s => src_one s 1 rfl rfl ⟨.inl ⟨rfl, rfl⟩, trivial⟩) (by simp only [maxLen]; omega) (by omega) (fun av1 cv1 => ?_)
        try simp only [aQ]
        refine Ym (id := 6) (rest := []) [.rd 12 [] 0 0, .rd 13 [] 0 0, .wr 14 [.o 0 none] 0] [28, 17, 21, 27] (fun _ => []) (fun _ => [(pb, .cells #[.slice av1 (k + 1) cv1] 56 (0, 0)), (nu1 0, .cells #[.int .u8 (IntKind.u8.wrap (v.fdiv (2 ^ min (Int.toNat 40) IntKind.i64.bits)))] 5 (0, 0))]) [] (fun _ => ?_)
        try simp only [aQ]
        refine JR_end ?_
        try simp only [aQ]
        refine J_eb ?_
        try simp only [aQ]
        refine Za (Rds 0 3) [] [(6, .val (.int .i64 4))] ?_
        try simp only [aQ]
        refine J_backx ⟨5 - 1, av1, k + 1, cv1, q ++ [IntKind.u8.wrap (v.fdiv (2 ^ min (Int.toNat 40) IntKind.i64.bits))]⟩ [0, 5, 6, 7, 8, 9] [0] [0] [0] ?_ ?_ (by kernel_rfl) rfl rfl rfl
        · refine ⟨by simp only; omega, by simp only; omega, ?_⟩
          simp only
          rw [hq]
          exact enc8_take (k := 5) (by decide) (by decide) (byteAt 5 rfl) r
        · simp
      · subst h
        refine J_skip ?_
        refine J_seq ?_
        refine J_block ?_
        refine jT [(0, true), (1, true), (2, true), (3, true), (4, true), (5, true), (6, true), (7, true), (8, true), (9, true), (10, false), (11, false), (12, true), (13, true), (14, false)] [(11, []), (14, [0])] ?_
        refine Ym (id := 6) (rest := [(11, false), (12, true), (13, true), (14, false)]) (Rds 0 4 ++ [.rd 4 [.o 0 none] 0 0] ++ Rds 5 10 ++ [.wr 10 [] 0]) [14] (fun nu1 => [(17, .val (.pointer (some (⟨pb, 0, none⟩)))), (21, .val (.slice av k cv)), (27, .val (.slice (some (⟨nu1 0, 0, none⟩)) 1 1))]) (fun nu1 => [(pb, .cells #[.slice av k cv] 56 (0, 0)), (nu1 0, .cells #[.int .u8 (IntKind.u8.wrap (v.fdiv (2 ^ min (Int.toNat 48) IntKind.i64.bits)))] 5 (0, 0))]) [(11, []), (14, [0])] (fun nu1 => ?_)
        refine JR_appm 0 54 5 1 1 (.int .u8 0) (a0 := av) (len := k) (cap0 := cv) (ax := (some (⟨nu1 0, 0, none⟩))) (m := 1) (c := 1) (dst := (some 28)) [(IntKind.u8.wrap (v.fdiv (2 ^ min (Int.toNat 48) IntKind.i64.bits)))] (by kernel_rfl) (by kernel_rfl) (by kernel_rfl) (by kernel_rfl) rfl (by decide) rfl (fun _ _ _ s => src_one s 1 rfl rfl ⟨.inl ⟨rfl, rfl⟩, trivial⟩) (by simp only [maxLen]; omega) (by omega) (fun av1 cv1 => ?_)
        try simp only [aQ]
        refine Ym (id := 6) (rest := []) [.rd 12 [] 0 0, .rd 13 [] 0 0, .wr 14 [.o 0 none] 0] [28, 17, 21, 27] (fun _ => []) (fun _ => [(pb, .cells #[.slice av1 (k + 1) cv1] 56 (0, 0)), (nu1 0, .cells #[.int .u8 (IntKind.u8.wrap (v.fdiv (2 ^ min (Int.toNat 48) IntKind.i64.bits)))] 5 (0, 0))]) [] (fun _ => ?_)
        try simp only [aQ]
        refine JR_end ?_
        try simp only [aQ]
        refine J_eb ?_
        try simp only [aQ]
        refine Za (Rds 0 3) [] [(6, .val (.int .i64 5))] ?_
        try simp only [aQ]
        refine J_backx ⟨6 - 1, av1, k + 1, cv1, q ++ [IntKind.u8.wrap (v.fdiv (2 ^ min (Int.toNat 48) IntKind.i64.bits))]⟩ [0, 5, 6, 7, 8, 9] [0] [0] [0] ?_ ?_ (by kernel_rfl) rfl rfl rfl
        · refine ⟨by simp only; omega, by simp only; omega, ?_⟩
          simp only
          rw [hq]
          exact enc8_take (k := 6) (by decide) (by decide) (byteAt 6 rfl) r
        · simp
      · subst h
        refine J_skip ?_
        refine J_seq ?_
        refine J_block ?_
        refine jT [(0, true), (1, true), (2, true), (3, true), (4, true), (5, true), (6, true), (7, true), (8, true), (9, true), (10, false), (11, false), (12, true), (13, true), (14, false)] [(11, []), (14, [0])] ?_
        refine Ym (id := 6) (rest := [(11, false), (12, true), (13, true), (14, false)]) (Rds 0 4 ++ [.rd 4 [.o 0 none] 0 0] ++ Rds 5 10 ++ [.wr 10 [] 0]) [14] (fun nu1 => [(17, .val (.pointer (some (⟨pb, 0, none⟩)))), (21, .val (.slice av k cv)), (27, .val (.slice (some (⟨nu1 0, 0, none⟩)) 1 1))]) (fun nu1 => [(pb, .cells #[.slice av k cv] 56 (0, 0)), (nu1 0, .cells #[.int .u8 (IntKind.u8.wrap (v.fdiv (2 ^ min (Int.toNat 56) IntKind.i64.bits)))] 5 (0, 0))]) [(11, []), (14, [0])] (fun nu1 => ?_)
        refine JR_appm 0 54 5 1 1 (.int .u8 0) (a0 := av) (len := k) (cap0 := cv) (ax := (some (⟨nu1 0, 0, none⟩))) (m := 1) (c := 1) (dst := (some 28)) [(IntKind.u8.wrap (v.fdiv (2 ^ min (Int.toNat 56) IntKind.i64.bits)))] (by kernel_rfl) (by kernel_rfl) (by kernel_rfl) (by kernel_rfl) rfl (by decide) rfl (fun _ _ _ s => src_one s 1 rfl rfl ⟨.inl ⟨rfl, rfl⟩, trivial⟩) (by simp only [maxLen]; omega) (by omega) (fun av1 cv1 => ?_)
        try simp only [aQ]
        refine Ym (id := 6) (rest := []) [.rd 12 [] 0 0, .rd 13 [] 0 0, .wr 14 [.o 0 none] 0] [28, 17, 21, 27] (fun _ => []) (fun _ => [(pb, .cells #[.slice av1 (k + 1) cv1] 56 (0, 0)), (nu1 0, .cells #[.int .u8 (IntKind.u8.wrap (v.fdiv (2 ^ min (Int.toNat 56) IntKind.i64.bits)))] 5 (0, 0))]) [] (fun _ => ?_)
        try simp only [aQ]
        refine JR_end ?_
        try simp only [aQ]
        refine J_eb ?_
        try simp only [aQ]
        refine Za (Rds 0 3) [] [(6, .val (.int .i64 6))] ?_
        try simp only [aQ]
        refine J_backx ⟨7 - 1, av1, k + 1, cv1, q ++ [IntKind.u8.wrap (v.fdiv (2 ^ min (Int.toNat 56) IntKind.i64.bits))]⟩ [0, 5, 6, 7, 8, 9] [0] [0] [0] ?_ ?_ (by kernel_rfl) rfl rfl rfl
        · refine ⟨by simp only; omega, by simp only; omega, ?_⟩
          simp only
          rw [hq]
          exact enc8_take (k := 7) (by decide) (by decide) (byteAt 7 rfl) r
        · simp
    · obtain rfl : j = -1 := by simp at hj7; omega
      refine J_exit rfl ?_
      refine J_eb ?_
      refine Zp [.rd 0 [] 0 1, .rd 1 [] 0 0] [14] [(9, .val (.int .i64 (i + 1)))] [IntKind.i64.wrap (i + (1 : Int)) = i + (1 : Int)] ⟨wrap_i64 (by omega) (by omega), trivial⟩ ?_
      refine J_backx ⟨i + 1, av, k, cv, q⟩ [0, 7, 8, 9] [0] [0] [0] ?_ ?_ (by kernel_rfl) rfl rfl rfl
      · refine ⟨by simp only; omega, by simp only; omega, ?_⟩
        simp only
        rw [hq, hr, List.append_assoc, bI_app, ← take_snoc hi0 hv, List.flatMap_append]
        simp
        rfl
      · simp only
        omega
  · refine J_exit rfl ?_
    refine J_fall [] (.tuple #[]) (by kernel_rfl) (fun a w s => ?_)
    have e : l.take i.toNat = l := List.take_of_length_le (by simp at hlt; omega)
    rw [e] at hr
    subst hr
    exact ⟨_, _, _, (s.hide 0 rfl).ret (by simp) [1, 0] [] rfl rfl⟩
end Go.Proofs.YtonhcoeneahpaaaDoor
end
section
namespace Go.Proofs.YtonhcoeneahpaaaDoor
open Go Go.Sx
set_option maxHeartbeats 4000000 in
theorem penFlag {w0 : World} {S : Nat → Prop} {M : List Nat} {pb n c : Nat} {a : Option Addr} {bs : List Int} {b : Bool} (hP : Pre w0 S M [cObj pb (penC (.slice a n c)), cAcc (.slice a n c) 5 1 (bs.map eU)]) (hb : bs.length ≤ 90000000) :
    Calls Tryd.prog 18 #[.pointer (some ⟨pb, 0, none⟩), .bool b] w0 fun e w' => ∃ a' n' c', Ret M w0 S w' e (.tuple #[]) [cObj pb (penC (.slice a' n' c')), cAcc (.slice a' n' c') 5 1 ((bs ++ bI (encF b)).map eU)] [] := by
  refine en18 (args := [.pointer (some ⟨pb, 0, none⟩), .bool b]) (S := S) (C := [cObj pb (penC (.slice a n c)), cAcc (.slice a n c) 5 1 (bs.map eU)]) (G := []) (by kernel_rfl) hP (.nil _ _) ?_
  refine J_seq ?_
  refine J_seq ?_
  refine Za [.rd 0 [] 0 0] [1] [(4, .val (.bool b))] ?_
  refine J_cond (t := b) (by kernel_rfl) (by kernel_rfl) (fun hb1 => ?_) (fun hb1 => ?_)
  · refine J_seq ?_
    refine jT [(0, true), (1, false), (2, false)] [] ?_
    refine Ym (id := 1) (rest := [(2, false)]) [.rd 0 [] 0 0, .wr 1 [] 0] [4] (fun nu1 => [(5, .val (.pointer (some (⟨pb, 0, none⟩)))), (6, .val (.slice (some (⟨nu1 0, 0, none⟩)) 1 1))]) (fun nu1 => [(nu1 0, .cells #[.int .i64 1] 3 (0, 0))]) [] (fun nu1 => ?_)
    refine JR_data (size := 1) 0 eI [(1 : Int)] 1 rfl (by kernel_rfl) (by decide) (by intro x _; rfl) (by simp) ⟨.inl ⟨rfl, rfl⟩, trivial⟩ ?_
    refine JR_call [] [0, 1] 17 #[.pointer (some (⟨pb, 0, none⟩)), .slice (some (⟨nu1 0, 0, none⟩)) 1 1] (some 7) (by kernel_rfl) (by kernel_rfl) (by decide) (fun w S M hP hG _ => ?_)
    refine (numbersW (l := [1]) hP (hG.at 0 rfl) (by simp; omega)).mono ?_
    rintro e1 w1 ⟨a1, n1, c1, hR⟩
    refine ⟨_, _, _, hR, ?_⟩
    try simp only [aQ]
    refine JR_end ?_
    try simp only [aQ]
    refine Yr [] (.tuple #[]) fun a w s => ?_
    subst hb1
    exact ⟨_, _, _, s.ret (by simp) [0, 1] [] rfl rfl⟩
  · refine J_skip ?_
    refine jT [(0, true), (1, false), (2, false)] [] ?_
    refine Ym (id := 2) (rest := [(2, false)]) [.rd 0 [] 0 0, .wr 1 [] 0] [4, 0] (fun nu1 => [(8, .val (.pointer (some (⟨pb, 0, none⟩)))), (9, .val (.slice (some (⟨nu1 0, 0, none⟩)) 1 1))]) (fun nu1 => [(nu1 0, .cells #[.int .i64 0] 3 (0, 0))]) [] (fun nu1 => ?_)
    refine JR_data (size := 1) 0 eI [(0 : Int)] 1 rfl (by kernel_rfl) (by decide) (by intro x _; rfl) (by simp) ⟨.inl ⟨rfl, rfl⟩, trivial⟩ ?_
    refine JR_call [] [0, 1] 17 #[.pointer (some (⟨pb, 0, none⟩)), .slice (some (⟨nu1 0, 0, none⟩)) 1 1] (some 10) (by kernel_rfl) (by kernel_rfl) (by decide) (fun w S M hP hG _ => ?_)
    refine (numbersW (l := [0]) hP (hG.at 0 rfl) (by simp; omega)).mono ?_
    rintro e1 w1 ⟨a1, n1, c1, hR⟩
    refine ⟨_, _, _, hR, ?_⟩
    try simp only [aQ]
    refine JR_end ?_
    try simp only [aQ]
    refine J_fall [] (.tuple #[]) (by kernel_rfl) (fun a w s => ?_)
    obtain rfl : b = false := by simpa using hb1
    exact ⟨_, _, _, s.ret (by simp) [0, 1] [] rfl rfl⟩
set_option maxHeartbeats 4000000 in
theorem penText {w0 : World} {S : Nat → Prop} {M : List Nat} {pb n c : Nat} {a : Option Addr} {bs : List Int} {s0 : ByteArray} (hP : Pre w0 S M [cObj pb (penC (.slice a n c)), cAcc (.slice a n c) 5 1 (bs.map eU)]) (hb : bs.length + s0.size ≤ 90000000) :
    Calls Tryd.prog 19 #[.pointer (some ⟨pb, 0, none⟩), .string s0] w0 fun e w' => ∃ a' n' c', Ret M w0 S w' e (.tuple #[]) [cObj pb (penC (.slice a' n' c')), cAcc (.slice a' n' c') 5 1 ((bs ++ bI (encT s0)).map eU)] [] := by
  refine en19 (args := [.pointer (some ⟨pb, 0, none⟩), .string s0]) (S := S) (C := [cObj pb (penC (.slice a n c)), cAcc (.slice a n c) 5 1 (bs.map eU)]) (G := []) (by kernel_rfl) hP (.nil _ _) ?_
  refine J_seq ?_
  refine jT [(0, true), (1, true), (2, true), (3, false), (4, false)] [] ?_
  refine Ym (id := 0) (rest := [(4, false)]) (Rds 0 3 ++ [.wr 3 [] 0]) [] (fun nu1 => [(4, .val (.pointer (some (⟨pb, 0, none⟩)))), (7, .val (.slice (some (⟨nu1 0, 0, none⟩)) 1 1))]) (fun nu1 => [(nu1 0, .cells #[.int .i64 (↑s0.size : Int)] 3 (0, 0))]) [] (fun nu1 => ?_)
  refine JR_data (size := 1) 0 eI [(s0.size : Int)] 1 rfl (by kernel_rfl) (by decide) (by intro x _; rfl) (by simp) ⟨.inl ⟨rfl, rfl⟩, trivial⟩ ?_
  refine JR_call [] [0, 1] 17 #[.pointer (some (⟨pb, 0, none⟩)), .slice (some (⟨nu1 0, 0, none⟩)) 1 1] (some 8) (by kernel_rfl) (by kernel_rfl) (by decide) (fun w S M hP hG _ => ?_)
  refine (numbersW (l := [(s0.size : Int)]) hP (hG.at 0 rfl) (by simp; omega)).mono ?_
  rintro e1 w1 ⟨a1, n1, c1, hR⟩
  refine ⟨_, _, _, hR, ?_⟩
  try simp only [aQ]
  refine JR_end ?_
  try simp only [aQ]
  refine Nm [cObj pb (.cells #[.slice a1 n1 c1] 56 (0, 0)), cAcc (.slice a1 n1 c1) 5 1 (List.map eU (bs ++ bI (List.flatMap enc8 [(↑s0.size : Int)])))] ?_
  refine J_show 0 rfl ?_
  refine J_stpx (stp_acclen 0 rfl) fun _ hk => ?_
  have hk2 : n1 = bs.length + 8 := by
    rw [hk, List.length_map, List.length_append, bI_length]
    rfl
  refine jT [(0, true), (1, true), (2, true), (3, true), (4, true), (5, true), (6, false), (7, true), (8, true), (9, false)] [(6, []), (9, [0])] ?_
  refine Ya (id := 1) (rest := [(6, false), (7, true), (8, true), (9, false)]) (Rds 0 4 ++ [.rd 4 [.o 0 none] 0 0, .rd 5 [] 0 0]) [8, 4, 7, 0, 1] [(9, .val (.pointer (some (⟨pb, 0, none⟩)))), (13, .val (.slice a1 n1 c1)), (14, .val (.string s0))] ?_
  refine JR_apps 0 54 9 5 s0 (a0 := a1) (len := n1) (cap0 := c1) (some 15) (by kernel_rfl) (by kernel_rfl) (by kernel_rfl) (by kernel_rfl) (by kernel_rfl) rfl (by omega) (fun av1 cv1 => ?_)
  try simp only [aQ]
  refine Ym (id := 1) (rest := []) [.rd 7 [] 0 0, .rd 8 [] 0 0, .wr 9 [.o 0 none] 0] [15, 9, 13, 14] (fun _ => []) (fun _ => [(pb, .cells #[.slice av1 (n1 + s0.size) cv1] 56 (0, 0))]) [] (fun _ => ?_)
  try simp only [aQ]
  refine JR_end ?_
  try simp only [aQ]
  refine J_fall [] (.tuple #[]) (by kernel_rfl) (fun a w s => ?_)
  have e : bs ++ bI ([(s0.size : Int)].flatMap enc8) ++ bI s0.data.toList = bs ++ bI (encT s0) := by
    rw [List.append_assoc, bI_app]
    rfl
  rw [e] at s
  exact ⟨_, _, _, (s.hide 0 rfl).ret (by simp) [1, 0] [] rfl rfl⟩
end Go.Proofs.YtonhcoeneahpaaaDoor
end
section
namespace Go.Proofs.YtonhcoeneahpaaaDoor.Er
open Go Go.RowKit Go.Extern.Stop Go.Stop Go.Extern
theorem isTypeOf (v : Value) (w : World) : (Extern.ReflectliteType.typeOf #[.iface 122 v]).run Tryd.prog w = .ok (.iface 108 (.agg #[.pointer (some ⟨13, 122, none⟩)])) w := by kernel_rfl
theorem isComparable (w : World) : (callFunc 75 #[.agg #[.pointer (some ⟨13, 122, none⟩)]]).run Tryd.prog w = .ok (.value (.bool true)) w := by kernel_rfl
theorem isMethodComparable (v : Value) (w : World) : (Go.method 253 108 v "Comparable").run Tryd.prog w = .ok (75, v) w := by kernel_rfl
theorem isComp : (Tryd.prog.info? 122).map (·.comparable) = some true := by kernel_rfl
theorem isSize : (Tryd.prog.info? 141).map (·.size) = some 1 := by kernel_rfl
theorem noIsE (v : Value) (xT : TypeId) (w : World) : (Instr.typeAssert (.iface 122 v) xT 119 true).run Tryd.prog w = .ok (.tuple #[.nilIface, .bool false]) w := run_typeAssert_lacksB Tryd.underlying119 (by kernel_rfl) (by kernel_rfl) v xT w
theorem noUnwrapE (v : Value) (xT : TypeId) (w : World) : (Instr.typeAssert (.iface 122 v) xT 115 true).run Tryd.prog w = .ok (.tuple #[.nilIface, .bool false]) w := run_typeAssert_lacksB Tryd.underlying115 (by kernel_rfl) (by kernel_rfl) v xT w
theorem noUnwrapsE (v : Value) (xT : TypeId) (w : World) : (Instr.typeAssert (.iface 122 v) xT 117 true).run Tryd.prog w = .ok (.tuple #[.nilIface, .bool false]) w := run_typeAssert_lacksB Tryd.underlying117 (by kernel_rfl) (by kernel_rfl) v xT w
theorem noAsE (v : Value) (xT : TypeId) (w : World) : (Instr.typeAssert (.iface 122 v) xT 112 true).run Tryd.prog w = .ok (.tuple #[.nilIface, .bool false]) w := run_typeAssert_lacksB Tryd.underlying112 (by kernel_rfl) (by kernel_rfl) v xT w
theorem is_same (a : Addr) (w : World) :
    Calls Tryd.prog 38 #[.iface 122 (.pointer (some a)), .iface 122 (.pointer (some a))] w fun e w' => e = .returned (.bool true) ∧ w' = w := by
  obtain ⟨i, hi, hcmp⟩ := Option.map_eq_some_iff.1 isComp
  obtain ⟨j, hj, hjs⟩ := Option.map_eq_some_iff.1 isSize
  have h8 := @run_callFunc_extern Tryd.prog 46 _ Extern.ReflectliteType.typeOf Tryd.func46 (by kernel_rfl) (by kernel_rfl) (by kernel_rfl) (by kernel_rfl)
  have tT := isTypeOf
  have cT := isComparable
  have mR := isMethodComparable
  have heq := run_eql_iface_ptr_same (P := Tryd.prog) w a Tryd.underlying31 Tryd.underlying122 hi hcmp hj
  go_enter Tryd.func38, Tryd.ntmps38
  go_wp2
  refine wp_loop_rounds 1 ?_
  rw [rounds_succ]
  go_wp2
  go_ret
  exact ⟨rfl, rfl⟩
theorem is_other (a b : Addr) (ca cb : Array Value) (ta tb : TypeId) (w : World) (hne : a ≠ b) (ha : w.heap[a.block]? = some (.cells ca ta (0, 0))) (hb : w.heap[b.block]? = some (.cells cb tb (0, 0))) :
    Calls Tryd.prog 38 #[.iface 122 (.pointer (some a)), .iface 122 (.pointer (some b))] w fun e w' => e = .returned (.bool false) ∧ w' = w := by
  obtain ⟨i, hi, hcmp⟩ := Option.map_eq_some_iff.1 isComp
  obtain ⟨j, hj, hjs⟩ := Option.map_eq_some_iff.1 isSize
  have h8 := @run_callFunc_extern Tryd.prog 46 _ Extern.ReflectliteType.typeOf Tryd.func46 (by kernel_rfl) (by kernel_rfl) (by kernel_rfl) (by kernel_rfl)
  have tT := isTypeOf
  have cT := isComparable
  have mR := isMethodComparable
  have nE := noIsE
  have uE := noUnwrapE
  have vE := noUnwrapsE
  have heq := run_eql_iface_ptr_other (P := Tryd.prog) w Tryd.underlying31 Tryd.underlying122 hi hcmp hj (by rw [hjs]; decide) hne ha hb
  go_enter Tryd.func38, Tryd.ntmps38
  go_wp2
  refine wp_loop_rounds 1 ?_
  rw [rounds_succ]
  go_wp2
  go_ret
  exact ⟨rfl, rfl⟩
theorem valueOfFF (t : Addr) (w : World) : (ReflectliteValue.unpack (.iface 85 (.pointer (some t)))).run Tryd.prog w
    = .ok (.agg #[.pointer (some ⟨13, 85, none⟩), .pointer (some ⟨w.heap.size, 0, none⟩), .int .u64 150]) (w.alloc (.cells #[.pointer (some t)] 85)) := by kernel_rfl
theorem typeFF (a : Addr) (w : World) : (ReflectliteValue.methodAny (ReflectliteValue.valueError "reflectlite.Value.Type" 0) (fun t _ _ _ => ReflectliteType.toType t) #[.agg #[.pointer (some ⟨13, 85, none⟩), .pointer (some a), .int .u64 150]]).run Tryd.prog w
    = .ok (.iface 108 (.agg #[.pointer (some ⟨13, 85, none⟩)])) w := by kernel_rfl
theorem methodKind (h : Value) (w : World) : (Go.method 253 108 (.agg #[h]) "Kind").run Tryd.prog w = .ok (65, h) w := by kernel_rfl
theorem kindFF (w : World) : ((ReflectliteType.abiMethod fun t => (fun a : Nat => Value.int IntKind.u8 (a : Int)) <$> Rtype.kind t) #[.pointer (some ⟨13, 85, none⟩)]).run Tryd.prog w = .ok (.int .u8 22) w := by kernel_rfl
theorem kindF (w : World) : ((ReflectliteType.abiMethod fun t => (fun a : Nat => Value.int IntKind.u8 (a : Int)) <$> Rtype.kind t) #[.pointer (some ⟨13, 83, none⟩)]).run Tryd.prog w = .ok (.int .u8 22) w := by kernel_rfl
theorem rlm (z : Sem Value) (f : TypeId → Addr → Nat → Nat → Sem Value) (v : Value) :
    ReflectliteValue.method z f #[v] = (do match ← ReflectliteValue.parts v with | none => z | some (t, a, fl) => f t a fl (fl % 32)) := rfl
theorem partsFF (a : Addr) (w : World) : (ReflectliteValue.parts (.agg #[.pointer (some ⟨13, 85, none⟩), .pointer (some a), .int .u64 150])).run Tryd.prog w = .ok (some (85, a, 150)) w := by kernel_rfl
theorem isNilFF (a p : Addr) (W : World) (ha : W.cell? a = some (.pointer (some p))) :
    (ReflectliteValue.method (ReflectliteValue.valueError "reflectlite.Value.IsNil" 0) ReflectliteValue.isNil #[.agg #[.pointer (some ⟨13, 85, none⟩), .pointer (some a), .int .u64 150]]).run Tryd.prog W = .ok (.bool false) W := by
  rw [rlm]
  simp only [Sem.run_bind, partsFF, Result.andThen]
  simp [ReflectliteValue.isNil, loadVar, isAgg, underlying, Tryd.underlying85, ha, Result.andThen]
theorem methodElem (h : Value) (w : World) : (Go.method 253 108 (.agg #[h]) "Elem").run Tryd.prog w = .ok (76, .agg #[h]) w := by kernel_rfl
theorem methodImplements (h : Value) (w : World) : (Go.method 253 108 (.agg #[h]) "Implements").run Tryd.prog w = .ok (77, .agg #[h]) w := by kernel_rfl
theorem methodAssignableTo (h : Value) (w : World) : (Go.method 253 108 (.agg #[h]) "AssignableTo").run Tryd.prog w = .ok (74, .agg #[h]) w := by kernel_rfl
theorem elemFF (w : World) : (ReflectliteType.method ReflectliteType.elem #[.agg #[.pointer (some ⟨13, 85, none⟩)]]).run Tryd.prog w = .ok (.iface 108 (.agg #[.pointer (some ⟨13, 83, none⟩)])) w := by kernel_rfl
theorem implementsF (w : World) : (ReflectliteType.relation "Implements" ReflectliteType.implements_ #[.agg #[.pointer (some ⟨13, 83, none⟩)], .iface 108 (.agg #[.pointer (some ⟨13, 31, none⟩)])]).run Tryd.prog w = .ok (.bool true) w := by kernel_rfl
theorem assignableT (w : World) : (ReflectliteType.relation "AssignableTo" ReflectliteType.assignableTo #[.agg #[.pointer (some ⟨13, 122, none⟩)], .iface 108 (.agg #[.pointer (some ⟨13, 83, none⟩)])]).run Tryd.prog w = .ok (.bool false) w := by kernel_rfl
theorem cell_lt {w : World} {a : Addr} {v : Value} (h : w.cell? a = some v) : a.block < w.heap.size := by
  rcases Nat.lt_or_ge a.block w.heap.size with h' | h'
  · exact h'
  · simp [World.cell?, Array.getElem?_eq_none h'] at h
set_option maxHeartbeats 4000000 in
theorem as_miss (e t : Addr) (w : World) (hg : w.cell? ⟨12, 0, none⟩ = some (.iface 108 (.agg #[.pointer (some ⟨13, 31, none⟩)]))) :
    Calls Tryd.prog 37 #[.iface 122 (.pointer (some e)), .iface 85 (.pointer (some t))] w fun ev w' => ev = .returned (.bool false) ∧ w' = (((w.alloc (.cells #[.pointer (some t)] 85)).alloc (.cells #[.pointer (some ⟨13, 85, none⟩), .pointer (some ⟨w.heap.size, 0, none⟩), .int .u64 150] 95)).alloc (.cells #[.pointer (some ⟨13, 85, none⟩), .pointer (some ⟨w.heap.size, 0, none⟩), .int .u64 150] 95)) := by
  have h6 := @run_callFunc_extern Tryd.prog 42 _ (fun args => ReflectliteValue.unpack (args.getD 0 (.tuple #[]))) Tryd.func42 (by kernel_rfl) (by kernel_rfl) (by kernel_rfl) (by kernel_rfl)
  have h7 := @run_callFunc_extern Tryd.prog 43 _ (ReflectliteValue.methodAny (ReflectliteValue.valueError "reflectlite.Value.Type" 0) (fun t _ _ _ => ReflectliteType.toType t)) Tryd.func43 (by kernel_rfl) (by kernel_rfl) (by kernel_rfl) (by kernel_rfl)
  have h8 := @run_callFunc_extern Tryd.prog 44 _ (ReflectliteValue.method (ReflectliteValue.valueError "reflectlite.Value.IsNil" 0) ReflectliteValue.isNil) Tryd.func44 (by kernel_rfl) (by kernel_rfl) (by kernel_rfl) (by kernel_rfl)
  have h27 := @run_callFunc_extern Tryd.prog 65 _ (ReflectliteType.abiMethod fun t => do pure (.int .u8 (← Rtype.kind t))) Tryd.func65 (by kernel_rfl) (by kernel_rfl) (by kernel_rfl) (by kernel_rfl)
  have h37 := @run_callFunc_extern Tryd.prog 76 _ (ReflectliteType.method ReflectliteType.elem) Tryd.func76 (by kernel_rfl) (by kernel_rfl) (by kernel_rfl) (by kernel_rfl)
  have h38 := @run_callFunc_extern Tryd.prog 77 _ (ReflectliteType.relation "Implements" ReflectliteType.implements_) Tryd.func77 (by kernel_rfl) (by kernel_rfl) (by kernel_rfl) (by kernel_rfl)
  have h10 := @run_callFunc_extern Tryd.prog 46 _ ReflectliteType.typeOf Tryd.func46 (by kernel_rfl) (by kernel_rfl) (by kernel_rfl) (by kernel_rfl)
  have h35 := @run_callFunc_extern Tryd.prog 74 _ (ReflectliteType.relation "AssignableTo" ReflectliteType.assignableTo) Tryd.func74 (by kernel_rfl) (by kernel_rfl) (by kernel_rfl) (by kernel_rfl)
  have tO := isTypeOf
  have mA := methodAssignableTo
  have a25 := assignableT
  have f6 := valueOfFF
  have f7 := typeFF
  have mK := methodKind
  have mE := methodElem
  have mI := methodImplements
  have k27 := kindFF
  have k25 := kindF
  have e27 := elemFF
  have i25 := implementsF
  have nA := noAsE
  have uE := noUnwrapE
  have vE := noUnwrapsE
  have n8 := isNilFF ⟨w.heap.size, 0, none⟩ t ((w.alloc (.cells #[.pointer (some t)] 85)).alloc (.cells #[.pointer (some ⟨13, 85, none⟩), .pointer (some ⟨w.heap.size, 0, none⟩), .int .u64 150] 95)) (by simp)
  have hlt : 12 < w.heap.size := cell_lt hg
  have hg2 : ((w.alloc (.cells #[.pointer (some t)] 85)).alloc (.cells #[.pointer (some ⟨13, 85, none⟩), .pointer (some ⟨w.heap.size, 0, none⟩), .int .u64 150] 95)).cell? ⟨12, 0, none⟩ = some (.iface 108 (.agg #[.pointer (some ⟨13, 31, none⟩)])) := by
    rw [World.cell?_alloc_lt _ _ ⟨12, 0, none⟩ (by simp; omega), World.cell?_alloc_lt _ _ ⟨12, 0, none⟩ hlt]; exact hg
  go_enter Tryd.func37, Tryd.ntmps37
  go_wp2
  refine wp_loop_rounds 1 ?_
  rw [rounds_succ]
  go_wp2
  go_ret
  exact ⟨rfl, rfl⟩
end Go.Proofs.YtonhcoeneahpaaaDoor.Er
end
section
namespace Go.Proofs.YtonhcoeneahpaaaDoor
open Go Go.Sx
abbrev eO (er : Nat → Addr) (eb : Nat → Array Value × TypeId) (k : Nat) : Value × D := (.pointer (some (er k)), .obj (.cells (eb k).1 (eb k).2 (0, 0)))
def cglobs (er : Nat → Addr) (eb : Nat → Array Value × TypeId) : List (Value × D) := [dE 122 er 1 1, dE 122 er 3 2, dE 122 er 4 3, dE 122 er 5 4, dE 122 er 6 5, dE 122 er 7 6, dE 122 er 0 7, dE 122 er 2 8, dE 122 er 8 9, dE 122 er 9 10, dE 122 er 10 11, dE 122 er 11 12, (.pointer (some ⟨12, 0, none⟩), .ptr [.v (.iface 108 (.agg #[.pointer (some ⟨13, 31, none⟩)]))]), eO er eb 1, eO er eb 2, eO er eb 3, eO er eb 4, eO er eb 5, eO er eb 6, eO er eb 7, eO er eb 8, eO er eb 9, eO er eb 10, eO er eb 11, eO er eb 12]
abbrev dC (er : Nat → Addr) (eb : Nat → Array Value × TypeId) : D := .all (cglobs er eb)
def Inj (er : Nat → Addr) : Prop := ∀ i j, 1 ≤ i → i ≤ 12 → 1 ≤ j → j ≤ 12 → er i = er j → i = j
theorem eO_mem (er : Nat → Addr) (eb : Nat → Array Value × TypeId) {k : Nat} (h1 : 1 ≤ k) (h2 : k ≤ 12) : eO er eb k ∈ cglobs er eb := by
  rcases (by omega : k = 1 ∨ k = 2 ∨ k = 3 ∨ k = 4 ∨ k = 5 ∨ k = 6 ∨ k = 7 ∨ k = 8 ∨ k = 9 ∨ k = 10 ∨ k = 11 ∨ k = 12) with rfl | rfl | rfl | rfl | rfl | rfl | rfl | rfl | rfl | rfl | rfl | rfl <;> simp [cglobs, eO]
set_option maxHeartbeats 4000000 in
theorem blk_of {w : World} {S : Nat → Prop} {a : Addr} {o : Obj} (h : Rep w S (.pointer (some a)) (.obj o)) : w.heap[a.block]? = some o := by
  cases h with
  | obj hb => exact hb
set_option maxHeartbeats 4000000 in
theorem var_of {w : World} {S : Nat → Prop} {g : Nat} {v : Value} (h : Rep w S (.pointer (some ⟨g, 0, none⟩)) (.ptr [.v v])) : w.cell? ⟨g, 0, none⟩ = some v := by
  cases h with
  | ptr u hb hS hcell hrep =>
    have h1 := (hrep 0 _ rfl).plain
    have h2 := hcell 0 (by simp)
    rw [h1] at h2
    simpa [World.cell?, hb] using h2
set_option maxHeartbeats 4000000 in
theorem isAt {w : World} {S : Nat → Prop} {a : Addr} {ca : Array Value} {ta : TypeId} {er : Nat → Addr} {eb : Nat → Array Value × TypeId} {j : Nat} (hC : Rep w S .nilIface (dC er eb)) (ha : Rep w S (.pointer (some a)) (.obj (.cells ca ta (0, 0)))) (h1 : 1 ≤ j) (h2 : j ≤ 12) :
    Calls Tryd.prog 38 #[.iface 122 (.pointer (some a)), .iface 122 (.pointer (some (er j)))] w fun e w' => Ret [] w S w' e (.bool (decide (a = er j))) [] [] := by
  by_cases h : a = er j
  · subst h
    rw [decide_eq_true rfl]
    exact (Er.is_same _ w).mono fun e w' h => ret_same h.1 h.2
  · rw [decide_eq_false h]
    exact (Er.is_other a (er j) ca (eb j).1 ta (eb j).2 w h (blk_of ha) (blk_of (hC.part _ (eO_mem er eb h1 h2)))).mono fun e w' h => ret_same h.1 h.2
set_option maxHeartbeats 4000000 in
theorem asMiss {w : World} {S : Nat → Prop} {a t : Addr} {er : Nat → Addr} {eb : Nat → Array Value × TypeId} (hC : Rep w S .nilIface (dC er eb)) :
    Calls Tryd.prog 37 #[.iface 122 (.pointer (some a)), .iface 85 (.pointer (some t))] w fun e w' => Ret [] w S w' e (.bool false) [] [] :=
  (Er.as_miss a t w (var_of (hC.part _ (List.mem_of_getElem? (i := 12) rfl)))).mono fun e w' h => ret_below h.1 (by
    rw [h.2]
    exact (((RowKit.Below.refl _ w).alloc (Nat.le_refl _) _).alloc (by simp) _).alloc (by simp; omega) _) (by rw [h.2]; exact Nat.le_refl _)
abbrev eEr (er : Nat → Addr) (k : Nat) : List D := [.v (.iface 122 (.pointer (some (er k))))]
theorem row12 {i : Int} (h0 : 0 ≤ i) (h1 : i < 12) : ([1, 2, 3, 4, 5, 6, 7, 8, 9, 10, 11, 12] : List Nat)[i.toNat]? = some (i.toNat + 1) := by
  obtain ⟨n, rfl⟩ : ∃ n : Nat, i = n := ⟨i.toNat, by omega⟩
  rcases (by omega : n = 0 ∨ n = 1 ∨ n = 2 ∨ n = 3 ∨ n = 4 ∨ n = 5 ∨ n = 6 ∨ n = 7 ∨ n = 8 ∨ n = 9 ∨ n = 10 ∨ n = 11) with rfl | rfl | rfl | rfl | rfl | rfl | rfl | rfl | rfl | rfl | rfl | rfl <;> rfl
set_option maxHeartbeats 4000000 in
theorem codeErr {w : World} {S : Nat → Prop} {er : Nat → Addr} {eb : Nat → Array Value × TypeId} {k : Nat} {v : Value} (hC : Rep w S .nilIface (dC er eb)) (hI : Inj er) (hk : k ≤ 12) (hv : ErrIs 122 er k v) :
    Calls Tryd.prog 25 #[v] w fun e w' => Ret [] w S w' e (.tuple #[.int .i64 k, .int .i64 (-1)]) [] [] := by
  rcases hv with ⟨rfl, rfl⟩ | ⟨h0, rfl⟩
  · refine ep25 (args := [.nilIface]) (S := S) (G := []) (by kernel_rfl) (.nil _ _) ?_
    refine J_seq ?_
    refine Za [.rd 0 [] 0 0, .rd 1 [] 0 0] [] [(2, .val (.int .i64 0)), (3, .val (.int .i64 0))] ?_
    refine J_seq ?_
    refine J_seq ?_
    refine Za [.rd 0 [] 0 0, .rd 1 [] 0 0] [] [(8, .val (.bool true))] ?_
    refine J_cond_t (by kernel_rfl) (by kernel_rfl) ?_
    refine J_seq ?_
    refine Za [.rd 0 [] 0 0, .rd 1 [] 0 0] [8] [(3, .val (.int .i64 (-1)))] ?_
    refine Yr [[], []] (.tuple #[.int .i64 0, .int .i64 (-1)]) fun a w s => ?_
    exact s.ret (by simp) [] [] rfl rfl
  · refine ep25 (args := [.iface 122 (.pointer (some (er k)))]) (G := [(_, dC er eb)]) (by kernel_rfl) (.cons hC (.nil _ _)) ?_
    refine J_stp (stp_all 0 [0, 1, 2, 3, 4, 5, 6, 7, 8, 9, 10, 11] rfl rfl) ?_
    refine J_glob 1 rfl (fun csg1 tyg1 fzg1 hglob1 => ?_)
    refine J_glob 2 rfl (fun csg2 tyg2 fzg2 hglob2 => ?_)
    refine J_glob 3 rfl (fun csg3 tyg3 fzg3 hglob3 => ?_)
    refine J_glob 4 rfl (fun csg4 tyg4 fzg4 hglob4 => ?_)
    refine J_glob 5 rfl (fun csg5 tyg5 fzg5 hglob5 => ?_)
    refine J_glob 6 rfl (fun csg6 tyg6 fzg6 hglob6 => ?_)
    refine J_glob 7 rfl (fun csg7 tyg7 fzg7 hglob7 => ?_)
    refine J_glob 8 rfl (fun csg8 tyg8 fzg8 hglob8 => ?_)
    refine J_glob 9 rfl (fun csg9 tyg9 fzg9 hglob9 => ?_)
    refine J_glob 10 rfl (fun csg10 tyg10 fzg10 hglob10 => ?_)
    refine J_glob 11 rfl (fun csg11 tyg11 fzg11 hglob11 => ?_)
    refine J_glob 12 rfl (fun csg12 tyg12 fzg12 hglob12 => ?_)
    try simp only [aQ]
    refine J_seq ?_
    refine Za [.rd 0 [] 0 0, .rd 1 [] 0 0] [] [(2, .val (.int .i64 0)), (3, .val (.int .i64 0))] ?_
    refine J_seq ?_
    refine J_seq ?_
    refine Za [.rd 0 [] 0 0, .rd 1 [] 0 0] [] [(8, .val (.bool false))] ?_
    refine J_cond_f (by kernel_rfl) (by kernel_rfl) ?_
    refine J_skip ?_
    refine J_seq ?_
    refine Za [.rd 0 [] 0 0] [8] [(3, .val (.int .i64 (-1)))] ?_
    refine J_seq ?_
    refine Zm [.wr 0 [] 0] [] [] (fun nu1 => [(4, .val (.pointer (some (⟨nu1 0, 0, none⟩))))]) (fun nu1 => [(nu1 0, .cells #[.pointer none] 83 (0, 0))]) (fun nu1 => ?_)
    refine J_seq ?_
    refine J_seq ?_
    refine jT [(0, true), (1, true), (2, false)] [] ?_
    refine Ya (id := 5) (rest := [(2, false)]) [.rd 0 [] 0 0, .rd 1 [] 0 0] [] [(9, .val (.iface 122 (.pointer (some (er k))))), (10, .val (.iface 85 (.pointer (some (⟨nu1 0, 0, none⟩)))))] ?_
    refine Yc 37 #[.iface 122 (.pointer (some (er k))), .iface 85 (.pointer (some (⟨nu1 0, 0, none⟩)))] (some 11) fun w S hG => ?_
    refine (asMiss (hG.at 0 rfl)).mono ?_
    rintro e1 w1 hR
    refine ⟨_, _, _, hR, ?_⟩
    try simp only [aQ]
    refine JR_end ?_
    refine J_cond_f (by kernel_rfl) (by kernel_rfl) ?_
    refine J_skip ?_
    refine J_seq ?_
    refine J_seq ?_
    refine Zn [.rd 0 [.r 0 (some (.iface 122 (.pointer (some (er 1)))))] 0 0, .rd 1 [.r 1 (some (.iface 122 (.pointer (some (er 2)))))] 0 0, .rd 2 [.r 2 (some (.iface 122 (.pointer (some (er 3)))))] 0 0, .rd 3 [.r 3 (some (.iface 122 (.pointer (some (er 4)))))] 0 0, .rd 4 [.r 4 (some (.iface 122 (.pointer (some (er 5)))))] 0 0, .rd 5 [.r 5 (some (.iface 122 (.pointer (some (er 6)))))] 0 0, .rd 6 [.r 6 (some (.iface 122 (.pointer (some (er 7)))))] 0 0, .rd 7 [.r 7 (some (.iface 122 (.pointer (some (er 8)))))] 0 0, .rd 8 [.r 8 (some (.iface 122 (.pointer (some (er 9)))))] 0 0, .rd 9 [.r 9 (some (.iface 122 (.pointer (some (er 10)))))] 0 0, .rd 10 [.r 10 (some (.iface 122 (.pointer (some (er 11)))))] 0 0, .rd 11 [.r 11 (some (.iface 122 (.pointer (some (er 12)))))] 0 0, .wr 12 [] 0, .rd 13 [] 0 0, .rd 14 [] 0 0] [] [11, 9, 10, 4] (fun nu2 => [(28, .val (.slice (some (⟨nu2 0, 0, none⟩)) 12 12)), (29, .val (.int .i64 12)), (30, .val (.int .i64 0))]) (fun nu2 => [(nu1 0, .cells #[.pointer none] 83 (0, 0)), (nu2 0, .cells #[.iface 122 (.pointer (some (er 1))), .iface 122 (.pointer (some (er 2))), .iface 122 (.pointer (some (er 3))), .iface 122 (.pointer (some (er 4))), .iface 122 (.pointer (some (er 5))), .iface 122 (.pointer (some (er 6))), .iface 122 (.pointer (some (er 7))), .iface 122 (.pointer (some (er 8))), .iface 122 (.pointer (some (er 9))), .iface 122 (.pointer (some (er 10))), .iface 122 (.pointer (some (er 11))), .iface 122 (.pointer (some (er 12)))] 31 (0, 0))]) (fun nu2 => [csg1[(0 : Nat)]? = some (Value.iface (122 : Nat) (Value.pointer (some (er (1 : Nat))))), csg2[(0 : Nat)]? = some (Value.iface (122 : Nat) (Value.pointer (some (er (2 : Nat))))), csg3[(0 : Nat)]? = some (Value.iface (122 : Nat) (Value.pointer (some (er (3 : Nat))))), csg4[(0 : Nat)]? = some (Value.iface (122 : Nat) (Value.pointer (some (er (4 : Nat))))), csg5[(0 : Nat)]? = some (Value.iface (122 : Nat) (Value.pointer (some (er (5 : Nat))))), csg6[(0 : Nat)]? = some (Value.iface (122 : Nat) (Value.pointer (some (er (6 : Nat))))), csg7[(0 : Nat)]? = some (Value.iface (122 : Nat) (Value.pointer (some (er (7 : Nat))))), csg8[(0 : Nat)]? = some (Value.iface (122 : Nat) (Value.pointer (some (er (8 : Nat))))), csg9[(0 : Nat)]? = some (Value.iface (122 : Nat) (Value.pointer (some (er (9 : Nat))))), csg10[(0 : Nat)]? = some (Value.iface (122 : Nat) (Value.pointer (some (er (10 : Nat))))), csg11[(0 : Nat)]? = some (Value.iface (122 : Nat) (Value.pointer (some (er (11 : Nat))))), csg12[(0 : Nat)]? = some (Value.iface (122 : Nat) (Value.pointer (some (er (12 : Nat)))))]) (fun _ => ⟨hglob1, hglob2, hglob3, hglob4, hglob5, hglob6, hglob7, hglob8, hglob9, hglob10, hglob11, hglob12, trivial⟩) (fun nu2 => ?_)
    refine J_block ?_
    refine J_data (size := 1) 1 (eEr er) [1, 2, 3, 4, 5, 6, 7, 8, 9, 10, 11, 12] 12 rfl (by decide) (by intro x _; rfl) (by simp) ⟨.inl ⟨rfl, rfl⟩, ⟨.inl ⟨rfl, rfl⟩, ⟨.inl ⟨rfl, rfl⟩, ⟨.inl ⟨rfl, rfl⟩, ⟨.inl ⟨rfl, rfl⟩, ⟨.inl ⟨rfl, rfl⟩, ⟨.inl ⟨rfl, rfl⟩, ⟨.inl ⟨rfl, rfl⟩, ⟨.inl ⟨rfl, rfl⟩, ⟨.inl ⟨rfl, rfl⟩, ⟨.inl ⟨rfl, rfl⟩, ⟨.inl ⟨rfl, rfl⟩, trivial⟩⟩⟩⟩⟩⟩⟩⟩⟩⟩⟩⟩ ?_
    refine J_loopx (fun i : Int => [(0, .val (.iface 122 (.pointer (some (er k))))), (2, .val (.int .i64 0)), (3, .val (.int .i64 (-1))), (28, .val (.slice (some (⟨nu2 0, 0, none⟩)) 12 12)), (29, .val (.int .i64 12)), (30, .val (.int .i64 i))]) (fun i : Int => []) (fun i : Int => []) (fun i : Int => [(.nilIface, (dC er eb)), (.slice (some (⟨nu2 0, 0, none⟩)) ((List.map (eEr er) [1, 2, 3, 4, 5, 6, 7, 8, 9, 10, 11, 12]).length) 12, (D.sl 1 (List.map (eEr er) [1, 2, 3, 4, 5, 6, 7, 8, 9, 10, 11, 12])))]) (fun i : Int => (12 - i).toNat) (fun i : Int => (0 ≤ i ∧ i < k)) 0 [0, 2, 3, 28, 29, 30] [] [] [0, 13] ?_ (by kernel_rfl) rfl rfl rfl ?_
    · exact ⟨by omega, by omega⟩
    rintro i ⟨hi0, hi⟩
    have hx := row12 hi0 (by omega)
    refine J_read0 1 rfl i.toNat (map_at hx) (by kernel_rfl) (fun b1 off1 cs1 ty1 fz1 ha1 hrd1 => ?_)
    cases ha1
    have hrd1_0 := rd0 (hrd1 0 _ rfl)
    try simp only [aQ]
    refine J_seq ?_
    refine Za [.rd 0 [] 0 0] [] [(31, .val (.bool (decide (i < 12))))] ?_
    refine J_seq ?_
    refine J_condT (decide (i < 12)) (by kernel_rfl) (by kernel_rfl) (by simp; omega) ?_
    refine J_skip ?_
    refine J_seq ?_
    refine J_block ?_
    refine J_seq ?_
    refine Zp [.rd 0 [] 0 0, .rd 1 [] 0 2, .rd 2 [.r 12 (some (.iface 122 (.pointer (some (er (i.toNat + 1))))))] 0 0, .rd 3 [] 0 0, .rd 4 [] 0 0] [31] [(5, .val (.int .i64 i)), (6, .val (.iface 122 (.pointer (some (er (i.toNat + 1))))))] [(0 : Int) ≤ i, i < (↑(12 : Nat) : Int), cs1[(0 : Nat) + i.toNat * (1 : Nat)]? = some (Value.iface (122 : TypeId) (Value.pointer (some (er (i.toNat + (1 : Nat))))))] ⟨hi0, by omega, hrd1_0, trivial⟩ ?_
    refine J_seq ?_
    refine jT [(0, true), (1, true), (2, false)] [] ?_
    refine Ya (id := 10) (rest := [(2, false)]) [.rd 0 [] 0 0, .rd 1 [] 0 0] [] [(35, .val (.iface 122 (.pointer (some (er k))))), (36, .val (.iface 122 (.pointer (some (er (i.toNat + 1))))))] ?_
    refine Yc 38 #[.iface 122 (.pointer (some (er k))), .iface 122 (.pointer (some (er (i.toNat + 1))))] (some 37) fun w S hG => ?_
    refine (isAt (hG.at 0 rfl) ((hG.at 0 rfl).part _ (eO_mem er eb (k := k) (by omega) hk)) (by omega) (by omega)).mono ?_
    rintro e2 w2 hR
    refine ⟨_, _, _, hR, ?_⟩
    try simp only [aQ]
    refine JR_end ?_
    refine J_cond (t := decide (er k = er (i.toNat + 1))) (by kernel_rfl) (by kernel_rfl) (fun hb => ?_) (fun hb => ?_)
    · refine J_seq ?_
      refine Zp ([.rd 0 [] 0 0, .rd 1 [] 0 1] ++ Rds 2 5) [37] [(2, .val (.int .i64 (i + 1)))] [IntKind.i64.wrap (i + (1 : Int)) = i + (1 : Int)] ⟨wrap_i64 (by omega) (by omega), trivial⟩ ?_
      refine Yr [[], []] (.tuple #[.int .i64 (i + 1), .int .i64 (-1)]) fun a w s => ?_
      have e : i + 1 = k := by
        have := hI k (i.toNat + 1) (by omega) hk (by omega) (by omega) (of_decide_eq_true hb)
        omega
      rw [e]
      exact s.ret (by simp) [] [] rfl rfl
    · refine J_skip ?_
      refine J_eb ?_
      refine Zp [.rd 0 [] 0 1, .rd 1 [] 0 0] [37] [(30, .val (.int .i64 (i + 1)))] [IntKind.i64.wrap (i + (1 : Int)) = i + (1 : Int)] ⟨wrap_i64 (by omega) (by omega), trivial⟩ ?_
      refine J_backx (i + 1) [0, 2, 3, 28, 29, 30] [] [] [0, 1] ?_ ?_ (by kernel_rfl) rfl rfl rfl
      · refine ⟨by omega, ?_⟩
        rcases (by omega : i + 1 < k ∨ (i.toNat + 1 = k)) with h | h
        · exact h
        · rw [h] at hb
          simp at hb
      · omega
end Go.Proofs.YtonhcoeneahpaaaDoor
end
section
namespace Go.Proofs.YtonhcoeneahpaaaDoor
open Go Go.Sx
def headM (m : MsgT) : List UInt8 := [m.fm, m.to, m.shard, m.seq, m.time].flatMap enc8 ++ encF m.beat ++ [(m.c.when.length : Int)].flatMap enc8 ++ m.c.when.flatMap enc8 ++ [m.c.place, (m.c.ops.length : Int)].flatMap enc8
def headO (o : OpT) : List UInt8 := [o.no].flatMap enc8 ++ encT o.key ++ [o.kind].flatMap enc8 ++ encT o.text ++ [o.n].flatMap enc8 ++ encF o.remove ++ [(o.dots.length : Int)].flatMap enc8
theorem encMsg_head (m : MsgT) : encMsg m = headM m ++ m.c.ops.flatMap encOp := by
  simp [encMsg, headM, encL, List.append_assoc]
theorem encOp_head (o : OpT) : encOp o = headO o ++ o.dots.flatMap encDot := by
  simp [encOp, headO, encL, List.append_assoc]
theorem flat_take_le {α : Type} (f : α → List UInt8) (l : List α) (i : Nat) : ((l.take i).flatMap f).length ≤ (l.flatMap f).length := by
  conv => rhs; rw [← List.take_append_drop i l, List.flatMap_append, List.length_append]
  omega
theorem flat_mem_le {α : Type} (f : α → List UInt8) {l : List α} {x : α} (h : x ∈ l) : (f x).length ≤ (l.flatMap f).length := by
  obtain ⟨a, b, rfl⟩ := List.append_of_mem h
  rw [List.flatMap_append, List.flatMap_cons, List.length_append, List.length_append]
  omega
set_option maxHeartbeats 4000000 in
theorem sumW {w : World} {S : Nat → Prop} {l : List UInt8} (h9 : l.length ≤ 100000) : Calls Tryd.prog 21 #[.string ⟨l.toArray⟩] w fun e w' => Ret [] w S w' e (.int .u32 (sumN l)) [] [] := by
  refine (crcPW (S := S) (s0 := ⟨l.toArray⟩) (by show l.toArray.size ≤ 100000; simpa using h9)).mono fun e w' h => ?_
  have e1 := crcU_sum (ByteArray.mk l.toArray).data.toList
  rw [e1] at h
  simpa using h
set_option maxHeartbeats 4000000 in
theorem encodeW {w0 : World} {S : Nat → Prop} {er : Nat → Addr} {eb : Nat → Array Value × TypeId} {m : MsgT} {a1 a2 : Option Addr} {n1 c1 n2 c2 : Nat} (hC : Rep w0 S .nilIface (dC er eb)) (h1 : Rep w0 S (.slice a1 n1 c1) (dInts m.c.when)) (h2 : Rep w0 S (.slice a2 n2 c2) (.sl 7 (m.c.ops.map eOp))) (hb : (encMsg m).length ≤ 90000) :
    Calls Tryd.prog 7 #[.agg #[.int .i64 m.fm, .int .i64 m.to, .int .i64 m.shard, .int .i64 m.seq, .int .i64 m.time, .bool m.beat, .slice a1 n1 c1, .int .i64 m.c.place, .slice a2 n2 c2]] w0 fun e w' =>
      (5996 < (encMsg m).length ∧ Ret [] w0 S w' e (.tuple #[.string ⟨#[]⟩, .iface 122 (.pointer (some (er 7)))]) [] []) ∨
      ((encMsg m).length ≤ 5996 ∧ Ret [] w0 S w' e (.tuple #[.string ⟨(encMsg m ++ enc4 (sumN (encMsg m))).toArray⟩, .nilIface]) [] []) := by
  obtain rfl := rep_ints_len h1
  have e2 := h2.slen
  rw [List.length_map] at e2
  subst e2
  have hbh : (headM m).length + (m.c.ops.flatMap encOp).length ≤ 90000 := by rw [← List.length_append, ← encMsg_head]; exact hb
  have hbo : ∀ o ∈ m.c.ops, (headO o).length + (o.dots.flatMap encDot).length ≤ 90000 := fun o ho => by
    have := flat_mem_le encOp ho
    rw [encOp_head, List.length_append] at this
    omega
  have hops : m.c.ops.length ≤ 90000 := by
    have := flat_length (en := encOp) (least := 1) (fun x => by have := encOp_length x; omega) m.c.ops
    omega
  have hh1 : (headM m).length = 72 + 8 * m.c.when.length := by
    simp only [headM, List.length_append, flat8, encF, enc8_length, List.length_cons, List.length_nil]
    omega
  refine ep7 (args := [.agg #[.int .i64 m.fm, .int .i64 m.to, .int .i64 m.shard, .int .i64 m.seq, .int .i64 m.time, .bool m.beat, .slice a1 m.c.when.length c1, .int .i64 m.c.place, .slice a2 m.c.ops.length c2]]) (G := [(_, dInts m.c.when), (_, .sl 7 (m.c.ops.map eOp)), (_, dC er eb)]) (by kernel_rfl) (.cons h1 (.cons h2 (.cons hC (.nil _ _)))) ?_
  refine J_stp (stp_all 2 [6] rfl rfl) ?_
  refine J_glob 3 rfl (fun csg1 tyg1 fzg1 hglob1 => ?_)
  try simp only [aQ]
  refine J_seq ?_
  refine Zm [.wr 0 [] 0, .rd 1 [] 0 0, .rd 2 [] 0 0] [] [0] (fun nu1 => [(1, .val (.pointer (some (⟨nu1 0, 0, none⟩)))), (2, .val (.string (ByteArray.mk #[]))), (3, .val (.nilIface))]) (fun nu1 => [(nu1 0, .cells #[.int .i64 m.fm, .int .i64 m.to, .int .i64 m.shard, .int .i64 m.seq, .int .i64 m.time, .bool m.beat, .slice a1 m.c.when.length c1, .int .i64 m.c.place, .slice a2 m.c.ops.length c2] 34 (0, 0))]) (fun nu1 => ?_)
  refine J_seq ?_
  refine Zm [.rd 0 [] 0 0, .wr 1 [] 0, .rd 2 [] 0 0] [] [] (fun nu2 => [(4, .val (.pointer (some (⟨nu2 0, 0, none⟩))))]) (fun nu2 => [(nu1 0, .cells #[.int .i64 m.fm, .int .i64 m.to, .int .i64 m.shard, .int .i64 m.seq, .int .i64 m.time, .bool m.beat, .slice a1 m.c.when.length c1, .int .i64 m.c.place, .slice a2 m.c.ops.length c2] 34 (0, 0)), (nu2 0, .cells #[.slice none 0 0] 56 (0, 0))]) (fun nu2 => ?_)
  refine J_seq ?_
  refine J_hide 1 rfl ?_
  refine J_stp (stp_accm eU 5 1) ?_
  try simp only [aQ]
  refine jT [(0, true), (1, true), (2, true), (3, true), (4, true), (5, true), (6, true), (7, true), (8, true), (9, true), (10, true), (11, false), (12, false)] [] ?_
  refine Ym (id := 2) (rest := [(12, false)]) [.rd 0 [] 0 0, .rd 1 [] 0 0, .rd 2 [.o 0 none] 0 0, .rd 3 [] 0 0, .rd 4 [.o 0 none] 0 0, .rd 5 [] 0 0, .rd 6 [.o 0 none] 0 0, .rd 7 [] 0 0, .rd 8 [.o 0 none] 0 0, .rd 9 [] 0 0, .rd 10 [.o 0 none] 0 0, .wr 11 [] 0] [] (fun nu3 => [(12, .val (.pointer (some (⟨nu2 0, 0, none⟩)))), (23, .val (.slice (some (⟨nu3 0, 0, none⟩)) 5 5))]) (fun nu3 => [(nu1 0, .cells #[.int .i64 m.fm, .int .i64 m.to, .int .i64 m.shard, .int .i64 m.seq, .int .i64 m.time, .bool m.beat, .slice a1 m.c.when.length c1, .int .i64 m.c.place, .slice a2 m.c.ops.length c2] 34 (0, 0)), (nu3 0, .cells #[.int .i64 m.fm, .int .i64 m.to, .int .i64 m.shard, .int .i64 m.seq, .int .i64 m.time] 3 (0, 0))]) [] (fun nu3 => ?_)
  refine JR_data (size := 1) 1 eI [m.fm, m.to, m.shard, m.seq, m.time] 5 rfl (by kernel_rfl) (by decide) (by intro x _; rfl) (by simp) ⟨.inl ⟨rfl, rfl⟩, ⟨.inl ⟨rfl, rfl⟩, ⟨.inl ⟨rfl, rfl⟩, ⟨.inl ⟨rfl, rfl⟩, ⟨.inl ⟨rfl, rfl⟩, trivial⟩⟩⟩⟩⟩ ?_
  refine JR_call [] [0, 1] 17 #[.pointer (some (⟨nu2 0, 0, none⟩)), .slice (some (⟨nu3 0, 0, none⟩)) 5 5] (some 24) (by kernel_rfl) (by kernel_rfl) (by decide) (fun w S M hP hG _ => ?_)
  refine (numbersW (l := [m.fm, m.to, m.shard, m.seq, m.time]) hP (hG.at 4 rfl) (by simp only [List.length_append, bI_length, flat8, encF, encT_length, enc8_length, List.length_cons, List.length_nil]; omega)).mono ?_
  rintro e1 w1 ⟨u1, k1, v1, hR⟩
  refine ⟨_, _, _, hR, ?_⟩
  try simp only [aQ]
  refine JR_end ?_
  try simp only [aQ]
  refine J_seq ?_
  try simp only [aQ]
  refine Nm [cObj (nu2 0) (.cells #[.slice u1 k1 v1] 56 (0, 0)), cAcc (.slice u1 k1 v1) 5 1 (List.map eU (bI (List.flatMap enc8 [m.fm, m.to, m.shard, m.seq, m.time])))] ?_
  refine jT [(0, true), (1, true), (2, true), (3, false)] [] ?_
  refine Ya (id := 3) (rest := [(3, false)]) [.rd 0 [] 0 0, .rd 1 [] 0 0, .rd 2 [.o 0 none] 0 0] [24, 12, 23] [(25, .val (.pointer (some (⟨nu2 0, 0, none⟩)))), (27, .val (.bool m.beat))] ?_
  refine JR_call [] [0, 1] 18 #[.pointer (some (⟨nu2 0, 0, none⟩)), .bool m.beat] (some 28) (by kernel_rfl) (by kernel_rfl) (by decide) (fun w S M hP hG _ => ?_)
  refine (penFlag hP (by simp only [List.length_append, bI_length, flat8, encF, encT_length, enc8_length, List.length_cons, List.length_nil]; omega)).mono ?_
  rintro e2 w2 ⟨u2, k2, v2, hR⟩
  refine ⟨_, _, _, hR, ?_⟩
  try simp only [aQ]
  refine JR_end ?_
  try simp only [aQ]
  refine J_seq ?_
  try simp only [aQ]
  refine Nm [cObj (nu2 0) (.cells #[.slice u2 k2 v2] 56 (0, 0)), cAcc (.slice u2 k2 v2) 5 1 (List.map eU (bI (List.flatMap enc8 [m.fm, m.to, m.shard, m.seq, m.time]) ++ bI (encF m.beat)))] ?_
  refine jT [(0, true), (1, true), (2, true), (3, true), (4, true), (5, false), (6, false)] [] ?_
  refine Ym (id := 4) (rest := [(6, false)]) (Rds 0 3 ++ [.rd 3 [.o 0 none] 0 0, .rd 4 [] 0 0, .wr 5 [] 0]) [28, 25, 27] (fun nu4 => [(29, .val (.pointer (some (⟨nu2 0, 0, none⟩)))), (34, .val (.slice (some (⟨nu4 0, 0, none⟩)) 1 1))]) (fun nu4 => [(nu1 0, .cells #[.int .i64 m.fm, .int .i64 m.to, .int .i64 m.shard, .int .i64 m.seq, .int .i64 m.time, .bool m.beat, .slice a1 m.c.when.length c1, .int .i64 m.c.place, .slice a2 m.c.ops.length c2] 34 (0, 0)), (nu4 0, .cells #[.int .i64 (↑m.c.when.length : Int)] 3 (0, 0))]) [] (fun nu4 => ?_)
  refine JR_data (size := 1) 1 eI [(m.c.when.length : Int)] 1 rfl (by kernel_rfl) (by decide) (by intro x _; rfl) (by simp) ⟨.inl ⟨rfl, rfl⟩, trivial⟩ ?_
  refine JR_call [] [0, 1] 17 #[.pointer (some (⟨nu2 0, 0, none⟩)), .slice (some (⟨nu4 0, 0, none⟩)) 1 1] (some 35) (by kernel_rfl) (by kernel_rfl) (by decide) (fun w S M hP hG _ => ?_)
  refine (numbersW (l := [(m.c.when.length : Int)]) hP (hG.at 5 rfl) (by simp only [List.length_append, bI_length, flat8, encF, encT_length, enc8_length, List.length_cons, List.length_nil]; omega)).mono ?_
  rintro e3 w3 ⟨u3, k3, v3, hR⟩
  refine ⟨_, _, _, hR, ?_⟩
  try simp only [aQ]
  refine JR_end ?_
  try simp only [aQ]
  refine J_seq ?_
  try simp only [aQ]
  refine Nm [cObj (nu2 0) (.cells #[.slice u3 k3 v3] 56 (0, 0)), cAcc (.slice u3 k3 v3) 5 1 (List.map eU (bI (List.flatMap enc8 [m.fm, m.to, m.shard, m.seq, m.time]) ++ bI (encF m.beat) ++ bI (List.flatMap enc8 [(↑m.c.when.length : Int)])))] ?_
  refine jT [(0, true), (1, true), (2, true), (3, true), (4, false)] [] ?_
  refine Ya (id := 5) (rest := [(4, false)]) (Rds 0 3 ++ [.rd 3 [.o 0 none] 0 0]) [35, 29, 34] [(36, .val (.pointer (some (⟨nu2 0, 0, none⟩)))), (39, .val (.slice a1 m.c.when.length c1))] ?_
  refine JR_call [] [0, 1] 17 #[.pointer (some (⟨nu2 0, 0, none⟩)), .slice a1 m.c.when.length c1] (some 40) (by kernel_rfl) (by kernel_rfl) (by decide) (fun w S M hP hG _ => ?_)
  refine (numbersW (l := m.c.when) hP (hG.at 0 rfl) (by simp only [List.length_append, bI_length, flat8, encF, encT_length, enc8_length, List.length_cons, List.length_nil]; omega)).mono ?_
  rintro e4 w4 ⟨u4, k4, v4, hR⟩
  refine ⟨_, _, _, hR, ?_⟩
  try simp only [aQ]
  refine JR_end ?_
  try simp only [aQ]
  refine J_seq ?_
  try simp only [aQ]
  refine Nm [cObj (nu2 0) (.cells #[.slice u4 k4 v4] 56 (0, 0)), cAcc (.slice u4 k4 v4) 5 1 (List.map eU (bI (List.flatMap enc8 [m.fm, m.to, m.shard, m.seq, m.time]) ++ bI (encF m.beat) ++ bI (List.flatMap enc8 [(↑m.c.when.length : Int)]) ++ bI (List.flatMap enc8 m.c.when)))] ?_
  refine jT [(0, true), (1, true), (2, true), (3, true), (4, true), (5, true), (6, true), (7, true), (8, false), (9, false)] [] ?_
  refine Ym (id := 6) (rest := [(9, false)]) (Rds 0 3 ++ [.rd 3 [.o 0 none] 0 0, .rd 4 [] 0 0, .rd 5 [] 0 0, .rd 6 [.o 0 none] 0 0, .rd 7 [] 0 0, .wr 8 [] 0]) [40, 36, 39] (fun nu5 => [(41, .val (.pointer (some (⟨nu2 0, 0, none⟩)))), (49, .val (.slice (some (⟨nu5 0, 0, none⟩)) 2 2))]) (fun nu5 => [(nu1 0, .cells #[.int .i64 m.fm, .int .i64 m.to, .int .i64 m.shard, .int .i64 m.seq, .int .i64 m.time, .bool m.beat, .slice a1 m.c.when.length c1, .int .i64 m.c.place, .slice a2 m.c.ops.length c2] 34 (0, 0)), (nu5 0, .cells #[.int .i64 m.c.place, .int .i64 (↑m.c.ops.length : Int)] 3 (0, 0))]) [] (fun nu5 => ?_)
  refine JR_data (size := 1) 1 eI [m.c.place, (m.c.ops.length : Int)] 2 rfl (by kernel_rfl) (by decide) (by intro x _; rfl) (by simp) ⟨.inl ⟨rfl, rfl⟩, ⟨.inl ⟨rfl, rfl⟩, trivial⟩⟩ ?_
  refine JR_call [] [0, 1] 17 #[.pointer (some (⟨nu2 0, 0, none⟩)), .slice (some (⟨nu5 0, 0, none⟩)) 2 2] (some 50) (by kernel_rfl) (by kernel_rfl) (by decide) (fun w S M hP hG _ => ?_)
  refine (numbersW (l := [m.c.place, (m.c.ops.length : Int)]) hP (hG.at 6 rfl) (by simp only [List.length_append, bI_length, flat8, encF, encT_length, enc8_length, List.length_cons, List.length_nil]; omega)).mono ?_
  rintro e5 w5 ⟨u5, k5, v5, hR⟩
  refine ⟨_, _, _, hR, ?_⟩
  try simp only [aQ]
  refine JR_end ?_
  try simp only [aQ]
  refine J_seq ?_
  try simp only [aQ]
  refine J_seq ?_
  try simp only [aQ]
  refine Nm [cObj (nu2 0) (.cells #[.slice u5 k5 v5] 56 (0, 0)), cAcc (.slice u5 k5 v5) 5 1 (List.map eU (bI (List.flatMap enc8 [m.fm, m.to, m.shard, m.seq, m.time]) ++ bI (encF m.beat) ++ bI (List.flatMap enc8 [(↑m.c.when.length : Int)]) ++ bI (List.flatMap enc8 m.c.when) ++ bI (List.flatMap enc8 [m.c.place, (↑m.c.ops.length : Int)])))] ?_
  have e0 : bI ([m.fm, m.to, m.shard, m.seq, m.time].flatMap enc8) ++ bI (encF m.beat) ++ bI ([(m.c.when.length : Int)].flatMap enc8) ++ bI (m.c.when.flatMap enc8) ++ bI ([m.c.place, (m.c.ops.length : Int)].flatMap enc8) = bI (headM m) := by
    simp only [headM, bI_app]
  rw [e0]
  refine Za [.rd 0 [] 0 0, .rd 1 [] 0 0, .rd 2 [.o 0 none] 0 0, .rd 3 [] 0 0, .rd 4 [] 0 0] [50, 41, 49, 1] [(53, .val (.slice a2 m.c.ops.length c2)), (54, .val (.int .i64 (↑m.c.ops.length : Int))), (55, .val (.int .i64 0))] ?_
  refine J_block ?_
  refine J_loopx (fun x : PenI => [(2, .val (.string (ByteArray.mk #[]))), (3, .val (.nilIface)), (4, .val (.pointer (some (⟨nu2 0, 0, none⟩)))), (53, .val (.slice a2 m.c.ops.length c2)), (54, .val (.int .i64 (↑m.c.ops.length : Int))), (55, .val (.int .i64 x.i))]) (fun x : PenI => []) (fun x : PenI => [cObj (nu2 0) (penC (.slice x.a x.k x.c)), cAcc (.slice x.a x.k x.c) 5 1 (x.r.map eU)]) (fun x : PenI => [(.slice a1 m.c.when.length c1, (dInts m.c.when)), (.slice a2 m.c.ops.length c2, (D.sl 7 (List.map eOp m.c.ops))), (.nilIface, (dC er eb)), (.pointer (some (⟨0, 0, none⟩)), (D.ptr [D.v (Value.iface 122 (Value.pointer (some (er 7))))]))]) (fun x : PenI => (m.c.ops.length - x.i).toNat) (fun x : PenI => (0 ≤ x.i ∧ x.i ≤ m.c.ops.length ∧ x.r = bI (headM m ++ (m.c.ops.take x.i.toNat).flatMap encOp))) ⟨0, u5, k5, v5, bI (headM m)⟩ [2, 3, 4, 53, 54, 55] [] [0, 1] [0, 1, 2, 3] ?_ (by kernel_rfl) rfl rfl rfl ?_
  · exact ⟨by simp, by simp, by simp⟩
  rintro ⟨i, ua, uk, uv, r⟩ ⟨hi0, hi, hr⟩
  dsimp only at hi0 hi hr ⊢
  refine J_seq ?_
  refine Za [.rd 0 [] 0 0] [] [(56, .val (.bool (decide (i < (↑m.c.ops.length : Int)))))] ?_
  refine J_seq ?_
  refine J_cond (t := decide (i < (↑m.c.ops.length : Int))) (by kernel_rfl) (by kernel_rfl) (fun hlt => ?_) (fun hlt => ?_)
  · have hlt2 : i < m.c.ops.length := by simpa using hlt
    obtain ⟨o, ho⟩ : ∃ x, m.c.ops[i.toNat]? = some x := ⟨_, List.getElem?_eq_getElem (by omega)⟩
    have hbo2 := hbo o (List.mem_of_getElem? ho)
    have hho : (headO o).length = 56 + o.key.size + o.text.size := by
      simp only [headO, List.length_append, flat8, encF, encT_length, enc8_length, List.length_cons, List.length_nil]
      omega
    have hod : o.dots.length ≤ 90000 := by
      have := flat_length (en := encDot) (least := 1) (fun x => by simp only [encDot, List.length_append, enc8_length]; omega) o.dots
      omega
    have hrl : r.length ≤ 90000 := by
      rw [hr, bI_length, List.length_append]
      have := flat_take_le encOp m.c.ops i.toNat
      omega
    refine J_read1 1 rfl i.toNat (map_at ho) (by kernel_rfl) (fun b1 off1 cs1 ty1 fz1 a1_0 c1_0 ha1 hrd1 => ?_)
    cases ha1
    have hrd1_0 := rd0 (hrd1 0 _ rfl)
    have hrd1_1 := hrd1 1 _ rfl
    have hrd1_2 := hrd1 2 _ rfl
    have hrd1_3 := hrd1 3 _ rfl
    have hrd1_4 := hrd1 4 _ rfl
    have hrd1_5 := hrd1 5 _ rfl
    have hrd1_6 := hrd1 6 _ rfl
    try simp only [aQ]
    refine J_skip ?_
    refine J_seq ?_
    refine J_block ?_
    refine J_seq ?_
    refine Zn [.rd 0 [] 0 2, .rd 1 [.r 1 (some (.int .i64 o.no)), .r 1 (some (.string o.key)), .r 1 (some (.int .i64 o.kind)), .r 1 (some (.string o.text)), .r 1 (some (.int .i64 o.n)), .r 1 (some (.bool o.remove)), .r 1 (some (.slice (a1_0, c1_0).fst ((List.map eDot o.dots).length) c1_0))] 0 0, .wr 2 [] 0, .wr 3 [.o 0 none, .o 0 none, .o 0 none, .o 0 none, .o 0 none, .o 0 none, .o 0 none] 0] [(3, [])] [56] (fun nu6 => [(6, .val (.pointer (some (⟨nu6 0, 0, none⟩))))]) (fun nu6 => [(nu6 0, .cells #[.int .i64 o.no, .string o.key, .int .i64 o.kind, .string o.text, .int .i64 o.n, .bool o.remove, .slice (a1_0, c1_0).fst ((List.map eDot o.dots).length) c1_0] 52 (0, 0))]) (fun nu6 => [(0 : Int) ≤ i, i < (↑m.c.ops.length : Int), cs1[off1 + i.toNat * (7 : Nat)]? = some (Value.int IntKind.i64 o.no), cs1[off1 + i.toNat * (7 : Nat) + (1 : Nat)]? = some (Value.string o.key), cs1[off1 + i.toNat * (7 : Nat) + (2 : Nat)]? = some (Value.int IntKind.i64 o.kind), cs1[off1 + i.toNat * (7 : Nat) + (3 : Nat)]? = some (Value.string o.text), cs1[off1 + i.toNat * (7 : Nat) + (4 : Nat)]? = some (Value.int IntKind.i64 o.n), cs1[off1 + i.toNat * (7 : Nat) + (5 : Nat)]? = some (Value.bool o.remove), cs1[off1 + i.toNat * (7 : Nat) + (6 : Nat)]? = some (Value.slice (a1_0, c1_0).fst (List.map eDot o.dots).length (a1_0, c1_0).snd)]) (fun _ => ⟨hi0, hlt2, hrd1_0, hrd1_1, hrd1_2, hrd1_3, hrd1_4, hrd1_5, hrd1_6, trivial⟩) (fun nu6 => ?_)
    refine J_seq ?_
    refine jT [(0, true), (1, true), (2, true), (3, false), (4, false)] [] ?_
    refine Ym (id := 10) (rest := [(4, false)]) [.rd 0 [] 0 0, .rd 1 [] 0 0, .rd 2 [.o 0 none] 0 0, .wr 3 [] 0] [] (fun nu7 => [(59, .val (.pointer (some (⟨nu2 0, 0, none⟩)))), (62, .val (.slice (some (⟨nu7 0, 0, none⟩)) 1 1))]) (fun nu7 => [(nu6 0, .cells #[.int .i64 o.no, .string o.key, .int .i64 o.kind, .string o.text, .int .i64 o.n, .bool o.remove, .slice (a1_0, c1_0).fst ((List.map eDot o.dots).length) c1_0] 52 (0, 0)), (nu7 0, .cells #[.int .i64 o.no] 3 (0, 0))]) [] (fun nu7 => ?_)
    refine JR_data (size := 1) 1 eI [o.no] 1 rfl (by kernel_rfl) (by decide) (by intro x _; rfl) (by simp) ⟨.inl ⟨rfl, rfl⟩, trivial⟩ ?_
    refine JR_call [] [0, 1] 17 #[.pointer (some (⟨nu2 0, 0, none⟩)), .slice (some (⟨nu7 0, 0, none⟩)) 1 1] (some 63) (by kernel_rfl) (by kernel_rfl) (by decide) (fun w S M hP hG _ => ?_)
    refine (numbersW (l := [o.no]) hP (hG.at 5 rfl) (by simp only [List.length_append, bI_length, flat8, encF, encT_length, enc8_length, List.length_cons, List.length_nil]; omega)).mono ?_
    rintro e6 w6 ⟨u6, k6, v6, hR⟩
    refine ⟨_, _, _, hR, ?_⟩
    try simp only [aQ]
    refine JR_end ?_
    try simp only [aQ]
    refine J_seq ?_
    try simp only [aQ]
    refine Nm [cObj (nu2 0) (.cells #[.slice u6 k6 v6] 56 (0, 0)), cAcc (.slice u6 k6 v6) 5 1 (List.map eU (r ++ bI (List.flatMap enc8 [o.no])))] ?_
    refine jT [(0, true), (1, true), (2, true), (3, false)] [] ?_
    refine Ya (id := 11) (rest := [(3, false)]) [.rd 0 [] 0 0, .rd 1 [] 0 0, .rd 2 [.o 0 none] 0 0] [63] [(64, .val (.pointer (some (⟨nu2 0, 0, none⟩)))), (66, .val (.string o.key))] ?_
    refine JR_call [] [0, 1] 19 #[.pointer (some (⟨nu2 0, 0, none⟩)), .string o.key] (some 67) (by kernel_rfl) (by kernel_rfl) (by decide) (fun w S M hP hG _ => ?_)
    refine (penText hP (by simp only [List.length_append, bI_length, flat8, encF, encT_length, enc8_length, List.length_cons, List.length_nil]; omega)).mono ?_
    rintro e7 w7 ⟨u7, k7, v7, hR⟩
    refine ⟨_, _, _, hR, ?_⟩
    try simp only [aQ]
    refine JR_end ?_
    try simp only [aQ]
    refine J_seq ?_
    try simp only [aQ]
    refine Nm [cObj (nu2 0) (.cells #[.slice u7 k7 v7] 56 (0, 0)), cAcc (.slice u7 k7 v7) 5 1 (List.map eU (r ++ bI (List.flatMap enc8 [o.no]) ++ bI (encT o.key)))] ?_
    refine jT [(0, true), (1, true), (2, true), (3, false), (4, false)] [] ?_
    refine Ym (id := 12) (rest := [(4, false)]) [.rd 0 [] 0 0, .rd 1 [] 0 0, .rd 2 [.o 0 none] 0 0, .wr 3 [] 0] [67] (fun nu8 => [(68, .val (.pointer (some (⟨nu2 0, 0, none⟩)))), (71, .val (.slice (some (⟨nu8 0, 0, none⟩)) 1 1))]) (fun nu8 => [(nu6 0, .cells #[.int .i64 o.no, .string o.key, .int .i64 o.kind, .string o.text, .int .i64 o.n, .bool o.remove, .slice a1_0 ((List.map eDot o.dots).length) c1_0] 52 (0, 0)), (nu8 0, .cells #[.int .i64 o.kind] 3 (0, 0))]) [] (fun nu8 => ?_)
    refine JR_data (size := 1) 1 eI [o.kind] 1 rfl (by kernel_rfl) (by decide) (by intro x _; rfl) (by simp) ⟨.inl ⟨rfl, rfl⟩, trivial⟩ ?_
    refine JR_call [] [0, 1] 17 #[.pointer (some (⟨nu2 0, 0, none⟩)), .slice (some (⟨nu8 0, 0, none⟩)) 1 1] (some 72) (by kernel_rfl) (by kernel_rfl) (by decide) (fun w S M hP hG _ => ?_)
    refine (numbersW (l := [o.kind]) hP (hG.at 6 rfl) (by simp only [List.length_append, bI_length, flat8, encF, encT_length, enc8_length, List.length_cons, List.length_nil]; omega)).mono ?_
    rintro e8 w8 ⟨u8, k8, v8, hR⟩
    refine ⟨_, _, _, hR, ?_⟩
    try simp only [aQ]
    refine JR_end ?_
    try simp only [aQ]
    refine J_seq ?_
    try simp only [aQ]
    refine Nm [cObj (nu2 0) (.cells #[.slice u8 k8 v8] 56 (0, 0)), cAcc (.slice u8 k8 v8) 5 1 (List.map eU (r ++ bI (List.flatMap enc8 [o.no]) ++ bI (encT o.key) ++ bI (List.flatMap enc8 [o.kind])))] ?_
    refine jT [(0, true), (1, true), (2, true), (3, false)] [] ?_
    refine Ya (id := 13) (rest := [(3, false)]) [.rd 0 [] 0 0, .rd 1 [] 0 0, .rd 2 [.o 0 none] 0 0] [72] [(73, .val (.pointer (some (⟨nu2 0, 0, none⟩)))), (75, .val (.string o.text))] ?_
    refine JR_call [] [0, 1] 19 #[.pointer (some (⟨nu2 0, 0, none⟩)), .string o.text] (some 76) (by kernel_rfl) (by kernel_rfl) (by decide) (fun w S M hP hG _ => ?_)
    refine (penText hP (by simp only [List.length_append, bI_length, flat8, encF, encT_length, enc8_length, List.length_cons, List.length_nil]; omega)).mono ?_
    rintro e9 w9 ⟨u9, k9, v9, hR⟩
    refine ⟨_, _, _, hR, ?_⟩
    try simp only [aQ]
    refine JR_end ?_
    try simp only [aQ]
    refine J_seq ?_
    try simp only [aQ]
    refine Nm [cObj (nu2 0) (.cells #[.slice u9 k9 v9] 56 (0, 0)), cAcc (.slice u9 k9 v9) 5 1 (List.map eU (r ++ bI (List.flatMap enc8 [o.no]) ++ bI (encT o.key) ++ bI (List.flatMap enc8 [o.kind]) ++ bI (encT o.text)))] ?_
    refine jT [(0, true), (1, true), (2, true), (3, false), (4, false)] [] ?_
    refine Ym (id := 14) (rest := [(4, false)]) [.rd 0 [] 0 0, .rd 1 [] 0 0, .rd 2 [.o 0 none] 0 0, .wr 3 [] 0] [76] (fun nu9 => [(77, .val (.pointer (some (⟨nu2 0, 0, none⟩)))), (80, .val (.slice (some (⟨nu9 0, 0, none⟩)) 1 1))]) (fun nu9 => [(nu6 0, .cells #[.int .i64 o.no, .string o.key, .int .i64 o.kind, .string o.text, .int .i64 o.n, .bool o.remove, .slice a1_0 ((List.map eDot o.dots).length) c1_0] 52 (0, 0)), (nu9 0, .cells #[.int .i64 o.n] 3 (0, 0))]) [] (fun nu9 => ?_)
    refine JR_data (size := 1) 1 eI [o.n] 1 rfl (by kernel_rfl) (by decide) (by intro x _; rfl) (by simp) ⟨.inl ⟨rfl, rfl⟩, trivial⟩ ?_
    refine JR_call [] [0, 1] 17 #[.pointer (some (⟨nu2 0, 0, none⟩)), .slice (some (⟨nu9 0, 0, none⟩)) 1 1] (some 81) (by kernel_rfl) (by kernel_rfl) (by decide) (fun w S M hP hG _ => ?_)
    refine (numbersW (l := [o.n]) hP (hG.at 7 rfl) (by simp only [List.length_append, bI_length, flat8, encF, encT_length, enc8_length, List.length_cons, List.length_nil]; omega)).mono ?_
    rintro e10 w10 ⟨u10, k10, v10, hR⟩
    refine ⟨_, _, _, hR, ?_⟩
    try simp only [aQ]
    refine JR_end ?_
    try simp only [aQ]
    refine J_seq ?_
    try simp only [aQ]
    refine Nm [cObj (nu2 0) (.cells #[.slice u10 k10 v10] 56 (0, 0)), cAcc (.slice u10 k10 v10) 5 1 (List.map eU (r ++ bI (List.flatMap enc8 [o.no]) ++ bI (encT o.key) ++ bI (List.flatMap enc8 [o.kind]) ++ bI (encT o.text) ++ bI (List.flatMap enc8 [o.n])))] ?_
    refine jT [(0, true), (1, true), (2, true), (3, false)] [] ?_
    refine Ya (id := 15) (rest := [(3, false)]) [.rd 0 [] 0 0, .rd 1 [] 0 0, .rd 2 [.o 0 none] 0 0] [81] [(82, .val (.pointer (some (⟨nu2 0, 0, none⟩)))), (84, .val (.bool o.remove))] ?_
    refine JR_call [] [0, 1] 18 #[.pointer (some (⟨nu2 0, 0, none⟩)), .bool o.remove] (some 85) (by kernel_rfl) (by kernel_rfl) (by decide) (fun w S M hP hG _ => ?_)
    refine (penFlag hP (by simp only [List.length_append, bI_length, flat8, encF, encT_length, enc8_length, List.length_cons, List.length_nil]; omega)).mono ?_
    rintro e11 w11 ⟨u11, k11, v11, hR⟩
    refine ⟨_, _, _, hR, ?_⟩
    try simp only [aQ]
    refine JR_end ?_
    try simp only [aQ]
    refine J_seq ?_
    try simp only [aQ]
    refine Nm [cObj (nu2 0) (.cells #[.slice u11 k11 v11] 56 (0, 0)), cAcc (.slice u11 k11 v11) 5 1 (List.map eU (r ++ bI (List.flatMap enc8 [o.no]) ++ bI (encT o.key) ++ bI (List.flatMap enc8 [o.kind]) ++ bI (encT o.text) ++ bI (List.flatMap enc8 [o.n]) ++ bI (encF o.remove)))] ?_
    refine jT [(0, true), (1, true), (2, true), (3, true), (4, false), (5, false)] [] ?_
    refine Ym (id := 16) (rest := [(5, false)]) [.rd 0 [] 0 0, .rd 1 [] 0 0, .rd 2 [.o 0 none] 0 0, .rd 3 [] 0 0, .wr 4 [] 0] [85] (fun nu10 => [(86, .val (.pointer (some (⟨nu2 0, 0, none⟩)))), (90, .val (.slice (some (⟨nu10 0, 0, none⟩)) 1 1))]) (fun nu10 => [(nu6 0, .cells #[.int .i64 o.no, .string o.key, .int .i64 o.kind, .string o.text, .int .i64 o.n, .bool o.remove, .slice a1_0 ((List.map eDot o.dots).length) c1_0] 52 (0, 0)), (nu10 0, .cells #[.int .i64 ((↑(List.map eDot o.dots).length : Int))] 3 (0, 0))]) [] (fun nu10 => ?_)
    refine JR_data (size := 1) 1 eI [((o.dots.map eDot).length : Int)] 1 rfl (by kernel_rfl) (by decide) (by intro x _; rfl) (by simp) ⟨.inl ⟨rfl, rfl⟩, trivial⟩ ?_
    refine JR_call [] [0, 1] 17 #[.pointer (some (⟨nu2 0, 0, none⟩)), .slice (some (⟨nu10 0, 0, none⟩)) 1 1] (some 91) (by kernel_rfl) (by kernel_rfl) (by decide) (fun w S M hP hG _ => ?_)
    refine (numbersW (l := [((o.dots.map eDot).length : Int)]) hP (hG.at 8 rfl) (by simp only [List.length_append, bI_length, flat8, encF, encT_length, enc8_length, List.length_cons, List.length_nil]; omega)).mono ?_
    rintro e12 w12 ⟨u12, k12, v12, hR⟩
    refine ⟨_, _, _, hR, ?_⟩
    try simp only [aQ]
    refine JR_end ?_
    try simp only [aQ]
    refine J_seq ?_
    try simp only [aQ]
    refine Nm [cObj (nu2 0) (.cells #[.slice u12 k12 v12] 56 (0, 0)), cAcc (.slice u12 k12 v12) 5 1 (List.map eU (r ++ bI (List.flatMap enc8 [o.no]) ++ bI (encT o.key) ++ bI (List.flatMap enc8 [o.kind]) ++ bI (encT o.text) ++ bI (List.flatMap enc8 [o.n]) ++ bI (encF o.remove) ++ bI (List.flatMap enc8 [(↑(List.map eDot o.dots).length : Int)])))] ?_
    have e1 : r ++ bI ([o.no].flatMap enc8) ++ bI (encT o.key) ++ bI ([o.kind].flatMap enc8) ++ bI (encT o.text) ++ bI ([o.n].flatMap enc8) ++ bI (encF o.remove) ++ bI ([((o.dots.map eDot).length : Int)].flatMap enc8) = r ++ bI (headO o) := by
      simp only [headO, ← bI_app, List.append_assoc, List.length_map]
    rw [e1]
    refine Za [.rd 0 [] 0 0, .rd 1 [.o 0 none] 0 0, .rd 2 [] 0 0, .rd 3 [] 0 0] [91] [(93, .val (.slice a1_0 ((List.map eDot o.dots).length) c1_0)), (94, .val (.int .i64 ((↑(List.map eDot o.dots).length : Int)))), (95, .val (.int .i64 0))] ?_
    refine J_block ?_
    refine J_loopx (fun y : PenI => [(2, .val (.string (ByteArray.mk #[]))), (3, .val (.nilIface)), (4, .val (.pointer (some (⟨nu2 0, 0, none⟩)))), (6, .val (.pointer (some (⟨nu6 0, 0, none⟩)))), (53, .val (.slice (some (⟨b1, off1, none⟩)) m.c.ops.length c2)), (54, .val (.int .i64 (↑m.c.ops.length : Int))), (55, .val (.int .i64 i)), (59, .val (.pointer (some (⟨nu2 0, 0, none⟩)))), (62, .val (.slice (some (⟨nu7 0, 0, none⟩)) 1 1)), (64, .val (.pointer (some (⟨nu2 0, 0, none⟩)))), (66, .val (.string o.key)), (68, .val (.pointer (some (⟨nu2 0, 0, none⟩)))), (71, .val (.slice (some (⟨nu8 0, 0, none⟩)) 1 1)), (73, .val (.pointer (some (⟨nu2 0, 0, none⟩)))), (75, .val (.string o.text)), (77, .val (.pointer (some (⟨nu2 0, 0, none⟩)))), (80, .val (.slice (some (⟨nu9 0, 0, none⟩)) 1 1)), (82, .val (.pointer (some (⟨nu2 0, 0, none⟩)))), (84, .val (.bool o.remove)), (86, .val (.pointer (some (⟨nu2 0, 0, none⟩)))), (90, .val (.slice (some (⟨nu10 0, 0, none⟩)) 1 1)), (93, .val (.slice a1_0 ((List.map eDot o.dots).length) c1_0)), (94, .val (.int .i64 ((↑(List.map eDot o.dots).length : Int)))), (95, .val (.int .i64 y.i))]) (fun y : PenI => []) (fun y : PenI => [cObj (nu2 0) (penC (.slice y.a y.k y.c)), cAcc (.slice y.a y.k y.c) 5 1 (y.r.map eU)]) (fun y : PenI => [(.slice a1 m.c.when.length c1, (dInts m.c.when)), (.slice (some (⟨b1, off1, none⟩)) m.c.ops.length c2, (D.sl 7 (List.map eOp m.c.ops))), (.nilIface, (dC er eb)), (.pointer (some (⟨0, 0, none⟩)), (D.ptr [D.v (Value.iface 122 (Value.pointer (some (er 7))))])), (.slice (a1_0, c1_0).fst ((List.map eDot o.dots).length) c1_0, (D.sl 3 (List.map eDot o.dots)))]) (fun y : PenI => (o.dots.length - y.i).toNat) (fun y : PenI => (0 ≤ y.i ∧ y.i ≤ o.dots.length ∧ y.r = r ++ bI (headO o ++ (o.dots.take y.i.toNat).flatMap encDot))) ⟨0, u12, k12, v12, r ++ bI (headO o)⟩ [2, 3, 4, 6, 53, 54, 55, 59, 62, 64, 66, 68, 71, 73, 75, 77, 80, 82, 84, 86, 90, 93, 94, 95] [] [0, 1] [0, 1, 2, 3, 4] ?_ (by kernel_rfl) rfl rfl rfl ?_
    · exact ⟨by simp, by simp, by simp⟩
    rintro ⟨j, ya, yk, yv, q⟩ ⟨hj0, hj, hq⟩
    dsimp only at hj0 hj hq ⊢
    refine J_seq ?_
    refine Za [.rd 0 [] 0 0] [] [(96, .val (.bool (decide (j < (↑(List.map eDot o.dots).length : Int)))))] ?_
    refine J_seq ?_
    refine J_cond (t := decide (j < (↑(List.map eDot o.dots).length : Int))) (by kernel_rfl) (by kernel_rfl) (fun hlt3 => ?_) (fun hlt3 => ?_)
    · have hlt4 : j < o.dots.length := by simpa using hlt3
      obtain ⟨d, hd⟩ : ∃ x, o.dots[j.toNat]? = some x := ⟨_, List.getElem?_eq_getElem (by omega)⟩
      have hql : q.length ≤ 180000 := by
        rw [hq, List.length_append, bI_length, List.length_append]
        have := flat_take_le encDot o.dots j.toNat
        omega
      refine J_read0 4 rfl j.toNat (map_at hd) (by kernel_rfl) (fun b2 off2 cs2 ty2 fz2 ha2 hrd2 => ?_)
      cases ha2
      have hrd2_0 := rd0 (hrd2 0 _ rfl)
      have hrd2_1 := hrd2 1 _ rfl
      have hrd2_2 := hrd2 2 _ rfl
      try simp only [aQ]
      refine J_skip ?_
      refine J_seq ?_
      refine J_block ?_
      refine J_seq ?_
      refine Zn [.rd 0 [] 0 2, .rd 1 [.r 2 (some (.int .i64 d.place)), .r 2 (some (.int .i64 d.time)), .r 2 (some (.int .i64 d.no))] 0 0, .wr 2 [] 0, .wr 3 [.o 0 none, .o 0 none, .o 0 none] 0] [(3, [])] [96] (fun nu11 => [(8, .val (.pointer (some (⟨nu11 0, 0, none⟩))))]) (fun nu11 => [(nu11 0, .cells #[.int .i64 d.place, .int .i64 d.time, .int .i64 d.no] 61 (0, 0))]) (fun nu11 => [(0 : Int) ≤ j, j < (↑(List.map eDot o.dots).length : Int), cs2[off2 + j.toNat * (3 : Nat)]? = some (Value.int IntKind.i64 d.place), cs2[off2 + j.toNat * (3 : Nat) + (1 : Nat)]? = some (Value.int IntKind.i64 d.time), cs2[off2 + j.toNat * (3 : Nat) + (2 : Nat)]? = some (Value.int IntKind.i64 d.no)]) (fun _ => ⟨hj0, by simp; omega, hrd2_0, hrd2_1, hrd2_2, trivial⟩) (fun nu11 => ?_)
      refine jT [(0, true), (1, true), (2, true), (3, true), (4, true), (5, true), (6, true), (7, false), (8, false)] [] ?_
      refine Ym (id := 20) (rest := [(8, false)]) [.rd 0 [] 0 0, .rd 1 [] 0 0, .rd 2 [.o 0 none] 0 0, .rd 3 [] 0 0, .rd 4 [.o 0 none] 0 0, .rd 5 [] 0 0, .rd 6 [.o 0 none] 0 0, .wr 7 [] 0] [] (fun nu12 => [(99, .val (.pointer (some (⟨nu2 0, 0, none⟩)))), (106, .val (.slice (some (⟨nu12 0, 0, none⟩)) 3 3))]) (fun nu12 => [(nu11 0, .cells #[.int .i64 d.place, .int .i64 d.time, .int .i64 d.no] 61 (0, 0)), (nu12 0, .cells #[.int .i64 d.place, .int .i64 d.time, .int .i64 d.no] 3 (0, 0))]) [] (fun nu12 => ?_)
      refine JR_data (size := 1) 1 eI [d.place, d.time, d.no] 3 rfl (by kernel_rfl) (by decide) (by intro x _; rfl) (by simp) ⟨.inl ⟨rfl, rfl⟩, ⟨.inl ⟨rfl, rfl⟩, ⟨.inl ⟨rfl, rfl⟩, trivial⟩⟩⟩ ?_
      refine JR_call [] [0, 1] 17 #[.pointer (some (⟨nu2 0, 0, none⟩)), .slice (some (⟨nu12 0, 0, none⟩)) 3 3] (some 107) (by kernel_rfl) (by kernel_rfl) (by decide) (fun w S M hP hG _ => ?_)
      refine (numbersW (l := [d.place, d.time, d.no]) hP (hG.at 5 rfl) (by simp only [List.length_append, bI_length, flat8, encF, encT_length, enc8_length, List.length_cons, List.length_nil]; omega)).mono ?_
      rintro e13 w13 ⟨u13, k13, v13, hR⟩
      refine ⟨_, _, _, hR, ?_⟩
      try simp only [aQ]
      refine JR_end ?_
      try simp only [aQ]
      refine J_eb ?_
      try simp only [aQ]
      refine Zp [.rd 0 [] 0 1, .rd 1 [] 0 0] [107] [(95, .val (.int .i64 (j + 1)))] [IntKind.i64.wrap (j + (1 : Int)) = j + (1 : Int)] ⟨wrap_i64 (by omega) (by omega), trivial⟩ ?_
      try simp only [aQ]
      refine J_backx ⟨j + 1, u13, k13, v13, q ++ bI ([d.place, d.time, d.no].flatMap enc8)⟩ [2, 3, 4, 6, 53, 54, 55, 59, 62, 64, 66, 68, 71, 73, 75, 77, 80, 82, 84, 86, 90, 93, 94, 95] [] [0, 1] [0, 1, 2, 3, 4] ?_ ?_ (by kernel_rfl) rfl rfl rfl
      · refine ⟨by simp only; omega, by simp only; omega, ?_⟩
        simp only
        rw [hq, List.append_assoc, bI_app, ← take_snoc hj0 hd, List.flatMap_append]
        simp [encDot]
      · simp only
        omega
    · refine J_exit rfl ?_
      refine J_eb ?_
      refine Zp [.rd 0 [] 0 1, .rd 1 [] 0 0] [96] [(55, .val (.int .i64 (i + 1)))] [IntKind.i64.wrap (i + (1 : Int)) = i + (1 : Int)] ⟨wrap_i64 (by omega) (by omega), trivial⟩ ?_
      refine J_backx ⟨i + 1, ya, yk, yv, q⟩ [2, 3, 4, 53, 54, 55] [] [0, 1] [0, 1, 2, 3] ?_ ?_ (by kernel_rfl) rfl rfl rfl
      · refine ⟨by simp only; omega, by simp only; omega, ?_⟩
        simp only
        have e : o.dots.take j.toNat = o.dots := List.take_of_length_le (by simp at hlt3; omega)
        rw [hq, hr, e, ← encOp_head, bI_app, ← take_snoc hi0 ho, List.flatMap_append]
        simp
      · simp only
        omega
  · refine J_exit rfl ?_
    refine J_seq ?_
    refine J_seq ?_
    have e : m.c.ops.take i.toNat = m.c.ops := List.take_of_length_le (by simp at hlt; omega)
    rw [e, ← encMsg_head] at hr
    subst hr
    refine Nm [cObj (nu2 0) (.cells #[.slice ua uk uv] 56 (0, 0)), cAcc (.slice ua uk uv) 5 1 (List.map eU (bI (encMsg m)))] ?_
    refine J_show 0 rfl ?_
    refine J_stpx (stp_acclen 0 rfl) fun _ hk => ?_
    rw [List.length_map, bI_length] at hk
    subst hk
    refine Za (Rds 0 3 ++ [.rd 3 [.o 0 none] 0 0, .rd 4 [] 0 0, .rd 5 [] 0 0]) [56, 53, 54, 55] [(115, .val (.bool (decide ((↑(encMsg m).length : Int) > 5996))))] ?_
    refine J_cond (t := decide ((↑(encMsg m).length : Int) > 5996)) (by kernel_rfl) (by kernel_rfl) (fun hbig => ?_) (fun hbig => ?_)
    · refine J_seq ?_
      refine Zp [.rd 0 [.r 0 (some (.iface 122 (.pointer (some (er 7)))))] 0 0, .rd 1 [] 0 0, .rd 2 [] 0 0] [115] [(3, .val (.iface 122 (.pointer (some (er 7)))))] [csg1[(0 : Nat)]? = some (Value.iface (122 : Nat) (Value.pointer (some (er (7 : Nat)))))] ⟨hglob1, trivial⟩ ?_
      refine Yr [[], []] (.tuple #[.string (ByteArray.mk #[]), .iface 122 (.pointer (some (er 7)))]) fun a w s => ?_
      exact .inl ⟨by simp at hbig; omega, s.ret (by simp) [] [] rfl rfl⟩
    · refine J_skip ?_
      refine J_seq ?_
      refine jT [(0, true), (1, true), (2, true), (3, true), (4, false), (5, true)] [] ?_
      refine Ya (id := 25) (rest := [(4, false), (5, true)]) (Rds 0 3 ++ [.rd 3 [.o 0 none] 0 0]) [115, 4] [(120, .val (.slice ua ((encMsg m).length) uv))] ?_
      refine JR_strq (a0 := ua) (len := (encMsg m).length) (cap0 := uv) 0 54 9 5 5 (some 121) (by kernel_rfl) (by kernel_rfl) (by kernel_rfl) (by kernel_rfl) rfl ?_
      refine Ya (id := 25) (rest := []) [.rd 5 [] 0 0] [121, 120] [(9, .val (.string (ByteArray.mk (encMsg m).toArray)))] ?_
      refine JR_end ?_
      refine J_seq ?_
      refine jT [(0, true), (1, true), (2, false), (3, false), (4, false), (5, true), (6, true)] [] ?_
      refine Ya (id := 26) (rest := [(2, false), (3, false), (4, false), (5, true), (6, true)]) [.rd 0 [] 0 0, .rd 1 [] 0 0] [9] [(122, .val (.string (ByteArray.mk (encMsg m).toArray))), (123, .val (.string (ByteArray.mk (encMsg m).toArray)))] ?_
      refine Yc 21 #[.string (ByteArray.mk (encMsg m).toArray)] (some 124) fun w S hG => ?_
      refine (sumW (S := S) (l := encMsg m) (by omega)).mono ?_
      rintro e30 w30 hR
      refine ⟨_, _, _, hR, ?_⟩
      try simp only [aQ]
      refine Yc 20 #[.int .u32 ((↑(sumN (encMsg m)) : Int))] (some 125) fun w S hG => ?_
      refine (fourW (S := S)).mono ?_
      rintro e31 w31 hR
      refine ⟨_, _, _, hR, ?_⟩
      have hn4 : (enc4 (sumN (encMsg m) : Int)).length = 4 := rfl
      try simp only [aQ]
      refine JR_cat (encMsg m) (enc4 (↑(sumN (encMsg m)) : Int)) (some 126) (by kernel_rfl) (by first | omega | (simp only [List.length_append, List.length_cons, List.length_nil, enc8_length, encF_length, encT_length, flat8, Array.length_toList, ByteArray.size_data] <;> omega)) ?_
      refine Ya (id := 26) (rest := []) [.rd 5 [] 0 0, .rd 6 [] 0 0] [126, 125, 124, 122, 123] [(2, .val (.string (ByteArray.mk (encMsg m ++ enc4 (↑(sumN (encMsg m)) : Int)).toArray)))] ?_
      refine JR_end ?_
      refine Yr [[], []] (.tuple #[.string (ByteArray.mk (encMsg m ++ enc4 (↑(sumN (encMsg m)) : Int)).toArray), .nilIface]) fun a w s => ?_
      exact .inr ⟨by simp at hbig; omega, s.ret (by simp) [] [] rfl rfl⟩
end Go.Proofs.YtonhcoeneahpaaaDoor
end
