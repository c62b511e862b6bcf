/- The two orders: of ops done, of dots. -/
import Derived.Test.YtpjkiomccpjboaaGreatDoorVal
import Derived.Test.YtpjkiomccpjboaaGreatDoorTk
namespace Go.Proofs.YtpjkiomccpjboaaGreatDoor
open Go Go.Sx

theorem isNaN {w : World} {S : Nat → Prop} {x : Int} : Calls Tryz.prog 105 #[.int .i64 x] w fun e w' => Ret [] w S w' e (.bool false) [] [] := by
  refine ep105 (args := [.int .i64 x]) (S := S) (G := []) (by kernel_rfl) (.nil _ _) ?_
  refine J_seq ?_
  refine J_reg mixed [.rd 0 [] 0 0] [] [0, 2] (E1 := fun _ => [(0, .val (.int .i64 x)), (2, .val (.bool false))]) (h1 := fun _ => []) (p1 := fun _ => []) (W1 := []) (by kernel_rfl) (fun _ => by kernel_rfl) (fun _ => trivial) (fun _ => ?_)
  refine J_seq ?_
  refine J_reg mixed [.rd 0 [] 0 0, .rd 1 [] 0 0, .rd 2 [] 0 0, .rd 3 [] 0 0] [] [2] (E1 := fun _ => [(2, .val (.bool (x != x)))]) (h1 := fun _ => []) (p1 := fun _ => []) (W1 := []) (by kernel_rfl) (fun _ => by kernel_rfl) (fun _ => trivial) (fun _ => ?_)
  refine J_return [[]] (.bool (x != x)) (by kernel_rfl) (fun a w s => ?_)
  have e1 : false = !decide (x = x) := by simp
  rw [e1]
  exact s.ret (by simp) [] [] rfl rfl
theorem cmpC {w : World} {S : Nat → Prop} {x y : Int} : Calls Tryz.prog 69 #[.int .i64 x, .int .i64 y] w fun e w' => Ret [] w S w' e (.int .i64 (cmpI x y)) [] [] := by
  refine ep69 (args := [.int .i64 x, .int .i64 y]) (S := S) (G := []) (by kernel_rfl) (.nil _ _) ?_
  refine J_seq ?_
  refine J_reg mixed [.rd 0 [] 0 0] [] [0, 1, 4] (E1 := fun _ => [(0, .val (.int .i64 x)), (1, .val (.int .i64 y)), (4, .val (.int .i64 0))]) (h1 := fun _ => []) (p1 := fun _ => []) (W1 := []) (by kernel_rfl) (fun _ => by kernel_rfl) (fun _ => trivial) (fun _ => ?_)
  refine J_seq ?_
  refine JR_begin mixed [(0, true), (1, false), (2, true)] [] (by kernel_rfl) (by kernel_rfl) ?_
  refine JR_run (id := 1) (rest := [(1, false), (2, true)]) [.rd 0 [] 0 0] [0, 1, 4, 7] (E1 := fun _ => [(0, .val (.int .i64 x)), (1, .val (.int .i64 y)), (4, .val (.int .i64 0)), (7, .val (.int .i64 x))]) (h1 := fun _ => []) (p1 := fun _ => []) (W1 := []) (fun _ => by kernel_rfl) (fun _ => trivial) (fun _ => ?_)
  refine JR_callp [] 105 #[.int .i64 x] (some 8) (by kernel_rfl) (fun w S hG => ?_)
  refine (isNaN (S := S)).mono ?_
  rintro e1 w1 hR
  refine ⟨_, _, _, hR, ?_⟩
  try simp only [List.cons_append, List.nil_append, List.append_nil]
  refine JR_run (id := 1) (rest := []) [.rd 2 [] 0 0] [0, 1, 4, 5] (E1 := fun _ => [(0, .val (.int .i64 x)), (1, .val (.int .i64 y)), (4, .val (.int .i64 0)), (5, .val (.bool false))]) (h1 := fun _ => []) (p1 := fun _ => []) (W1 := []) (fun _ => by kernel_rfl) (fun _ => trivial) (fun _ => ?_)
  refine JR_end ?_
  refine J_seq ?_
  refine JR_begin mixed [(0, true), (1, false), (2, true)] [] (by kernel_rfl) (by kernel_rfl) ?_
  refine JR_run (id := 2) (rest := [(1, false), (2, true)]) [.rd 0 [] 0 0] [0, 1, 4, 5, 9] (E1 := fun _ => [(0, .val (.int .i64 x)), (1, .val (.int .i64 y)), (4, .val (.int .i64 0)), (5, .val (.bool false)), (9, .val (.int .i64 y))]) (h1 := fun _ => []) (p1 := fun _ => []) (W1 := []) (fun _ => by kernel_rfl) (fun _ => trivial) (fun _ => ?_)
  refine JR_callp [] 105 #[.int .i64 y] (some 10) (by kernel_rfl) (fun w S hG => ?_)
  refine (isNaN (S := S)).mono ?_
  rintro e2 w2 hR
  refine ⟨_, _, _, hR, ?_⟩
  try simp only [List.cons_append, List.nil_append, List.append_nil]
  refine JR_run (id := 2) (rest := []) [.rd 2 [] 0 0] [0, 1, 4, 5, 6] (E1 := fun _ => [(0, .val (.int .i64 x)), (1, .val (.int .i64 y)), (4, .val (.int .i64 0)), (5, .val (.bool false)), (6, .val (.bool false))]) (h1 := fun _ => []) (p1 := fun _ => []) (W1 := []) (fun _ => by kernel_rfl) (fun _ => trivial) (fun _ => ?_)
  refine JR_end ?_
  refine J_seq ?_
  refine J_seq ?_
  refine J_reg mixed [.rd 0 [] 0 0] [] [0, 1, 4, 6, 11] (E1 := fun _ => [(0, .val (.int .i64 x)), (1, .val (.int .i64 y)), (4, .val (.int .i64 0)), (6, .val (.bool false)), (11, .val (.bool false))]) (h1 := fun _ => []) (p1 := fun _ => []) (W1 := []) (by kernel_rfl) (fun _ => by kernel_rfl) (fun _ => trivial) (fun _ => ?_)
  refine J_cond_f (by kernel_rfl) (by kernel_rfl) ?_
  refine J_skip ?_
  refine J_seq ?_
  refine J_seq ?_
  refine J_reg mixed [.rd 0 [] 0 0] [] [0, 1, 4, 13] (E1 := fun _ => [(0, .val (.int .i64 x)), (1, .val (.int .i64 y)), (4, .val (.int .i64 0)), (13, .val (.bool false))]) (h1 := fun _ => []) (p1 := fun _ => []) (W1 := []) (by kernel_rfl) (fun _ => by kernel_rfl) (fun _ => trivial) (fun _ => ?_)
  refine J_cond_f (by kernel_rfl) (by kernel_rfl) ?_
  refine J_skip ?_
  refine J_seq ?_
  refine J_seq ?_
  refine J_reg mixed [.rd 0 [] 0 0, .rd 1 [] 0 0, .rd 2 [] 0 0] [] [0, 1, 4, 16] (E1 := fun _ => [(0, .val (.int .i64 x)), (1, .val (.int .i64 y)), (4, .val (.int .i64 0)), (16, .val (.bool (decide (x < y))))]) (h1 := fun _ => []) (p1 := fun _ => []) (W1 := []) (by kernel_rfl) (fun _ => by kernel_rfl) (fun _ => trivial) (fun _ => ?_)
  refine J_cond (t := decide (x < y)) (by kernel_rfl) (by kernel_rfl) (fun h1 => ?_) (fun h1 => ?_)
  · refine J_seq ?_
    refine J_reg mixed [.rd 0 [] 0 0] [] [0, 1, 4] (E1 := fun _ => [(0, .val (.int .i64 x)), (1, .val (.int .i64 y)), (4, .val (.int .i64 (-1)))]) (h1 := fun _ => []) (p1 := fun _ => []) (W1 := []) (by kernel_rfl) (fun _ => by kernel_rfl) (fun _ => trivial) (fun _ => ?_)
    refine J_return [[]] (.int .i64 (-1)) (by kernel_rfl) (fun a w s => ?_)
    have e3 : cmpI x y = -1 := by simp at h1; simp [cmpI, h1]
    rw [e3]
    exact s.ret (by simp) [] [] rfl rfl
  · refine J_skip ?_
    refine J_seq ?_
    refine J_seq ?_
    refine J_reg mixed [.rd 0 [] 0 0, .rd 1 [] 0 0, .rd 2 [] 0 0] [] [4, 19] (E1 := fun _ => [(4, .val (.int .i64 0)), (19, .val (.bool (decide (x > y))))]) (h1 := fun _ => []) (p1 := fun _ => []) (W1 := []) (by kernel_rfl) (fun _ => by kernel_rfl) (fun _ => trivial) (fun _ => ?_)
    refine J_cond (t := decide (x > y)) (by kernel_rfl) (by kernel_rfl) (fun h2 => ?_) (fun h2 => ?_)
    · refine J_seq ?_
      refine J_reg mixed [.rd 0 [] 0 0] [] [4] (E1 := fun _ => [(4, .val (.int .i64 1))]) (h1 := fun _ => []) (p1 := fun _ => []) (W1 := []) (by kernel_rfl) (fun _ => by kernel_rfl) (fun _ => trivial) (fun _ => ?_)
      refine J_return [[]] (.int .i64 1) (by kernel_rfl) (fun a w s => ?_)
      have e3 : cmpI x y = 1 := by simp at h1 h2; rw [cmpI, if_neg (by omega), if_pos (by omega)]
      rw [e3]
      exact s.ret (by simp) [] [] rfl rfl
    · refine J_skip ?_
      refine J_seq ?_
      refine J_reg mixed [.rd 0 [] 0 0] [] [4] (E1 := fun _ => [(4, .val (.int .i64 0))]) (h1 := fun _ => []) (p1 := fun _ => []) (W1 := []) (by kernel_rfl) (fun _ => by kernel_rfl) (fun _ => trivial) (fun _ => ?_)
      refine J_return [[]] (.int .i64 0) (by kernel_rfl) (fun a w s => ?_)
      have e3 : cmpI x y = 0 := by simp at h1 h2; rw [cmpI, if_neg (by omega), if_neg (by omega)]
      rw [e3]
      exact s.ret (by simp) [] [] rfl rfl
theorem orC {w : World} {S : Nat → Prop} {a : Option Addr} {n c : Nat} {xs : List Int} (ha : Rep w S (.slice a n c) (dInts xs)) (hl : xs.length ≤ 1000000) :
    Calls Tryz.prog 68 #[.slice a n c] w fun e w' => Ret [] w S w' e (.int .i64 (orL xs)) [] [] := by
  obtain rfl := rep_ints_len ha
  refine ep68 (args := [.slice a xs.length c]) (G := [(_, dInts xs)]) (by kernel_rfl) (.cons ha (.nil _ _)) ?_
  refine J_seq ?_
  refine J_reg mixed [.rd 0 [] 0 0] [] [0, 2] (E1 := fun _ => [(0, .val (.slice a xs.length c)), (2, .val (.int .i64 0))]) (h1 := fun _ => []) (p1 := fun _ => []) (W1 := []) (by kernel_rfl) (fun _ => by kernel_rfl) (fun _ => trivial) (fun _ => ?_)
  refine J_seq ?_
  refine J_reg mixed [.rd 0 [] 0 0] [] [0, 2, 3] (E1 := fun _ => [(0, .val (.slice a xs.length c)), (2, .val (.int .i64 0)), (3, .val (.int .i64 0))]) (h1 := fun _ => []) (p1 := fun _ => []) (W1 := []) (by kernel_rfl) (fun _ => by kernel_rfl) (fun _ => trivial) (fun _ => ?_)
  refine J_seq ?_
  refine J_seq ?_
  refine J_reg mixed [.rd 0 [] 0 0, .rd 1 [] 0 0, .rd 2 [] 0 0] [] [2, 3, 6, 7, 8] (E1 := fun _ => [(2, .val (.int .i64 0)), (3, .val (.int .i64 0)), (6, .val (.slice a xs.length c)), (7, .val (.int .i64 (↑xs.length : Int))), (8, .val (.int .i64 0))]) (h1 := fun _ => []) (p1 := fun _ => []) (W1 := []) (by kernel_rfl) (fun _ => by kernel_rfl) (fun _ => trivial) (fun _ => ?_)
  refine J_block ?_
  refine J_loopx (fun i : Int => [(2, .val (.int .i64 0)), (3, .val (.int .i64 0)), (6, .val (.slice a xs.length c)), (7, .val (.int .i64 (↑xs.length : Int))), (8, .val (.int .i64 i))]) (fun i : Int => []) (fun i : Int => []) (fun i : Int => [(.slice a xs.length c, (dInts xs))]) (fun i : Int => (xs.length - i).toNat) (fun i : Int => (0 ≤ i ∧ i ≤ xs.length ∧ ∀ j : Nat, j < i.toNat → ∀ t, xs[j]? = some t → t = 0)) 0 [2, 3, 6, 7, 8] [] [] [0] ?_ (by kernel_rfl) rfl rfl rfl ?_
  · exact ⟨by simp, by omega, by simp⟩
  rintro i ⟨hi0, hi, hno⟩
  refine J_seq ?_
  refine J_reg mixed [.rd 0 [] 0 0] [] [2, 3, 6, 7, 8, 9] (E1 := fun _ => [(2, .val (.int .i64 0)), (3, .val (.int .i64 0)), (6, .val (.slice a xs.length c)), (7, .val (.int .i64 (↑xs.length : Int))), (8, .val (.int .i64 i)), (9, .val (.bool (decide (i < (↑xs.length : Int)))))]) (h1 := fun _ => []) (p1 := fun _ => []) (W1 := []) (by kernel_rfl) (fun _ => by kernel_rfl) (fun _ => trivial) (fun _ => ?_)
  refine J_seq ?_
  refine J_cond (t := decide (i < (↑xs.length : Int))) (by kernel_rfl) (by kernel_rfl) (fun hlt => ?_) (fun hlt => ?_)
  · have hlt2 : i < xs.length := by simpa using hlt
    obtain ⟨x, hx⟩ : ∃ x, xs[i.toNat]? = some x := ⟨_, List.getElem?_eq_getElem (by omega)⟩
    refine J_read0 0 rfl i.toNat (map_at hx) (by kernel_rfl) (fun b1 off1 cs1 ty1 fz1 ha1 hrd1 => ?_)
    cases ha1
    have hrd1_0 := rd0 (hrd1 0 _ rfl)
    try simp only [List.cons_append, List.nil_append, List.append_nil]
    refine J_skip ?_
    refine J_seq ?_
    refine J_block ?_
    refine J_seq ?_
    refine J_reg mixed [.rd 0 [] 0 2, .rd 1 [.r 0 (some (.int .i64 x))] 0 0, .rd 2 [] 0 0] [] [2, 3, 5, 6, 7, 8] (E1 := fun _ => [(2, .val (.int .i64 0)), (3, .val (.int .i64 0)), (5, .val (.int .i64 x)), (6, .val (.slice (some (⟨b1, off1, none⟩)) xs.length c)), (7, .val (.int .i64 (↑xs.length : Int))), (8, .val (.int .i64 i))]) (h1 := fun _ => []) (p1 := fun _ => [(0 : Int) ≤ i, i < (↑xs.length : Int), cs1[off1 + i.toNat * (1 : Nat)]? = some (Value.int IntKind.i64 x)]) (W1 := []) (by kernel_rfl) (fun _ => by kernel_rfl) (fun _ => ⟨hi0, hlt2, hrd1_0, trivial⟩) (fun _ => ?_)
    refine J_seq ?_
    refine J_reg mixed [.rd 0 [] 0 0, .rd 1 [] 0 0, .rd 2 [] 0 0] [] [2, 3, 5, 6, 7, 8, 14] (E1 := fun _ => [(2, .val (.int .i64 0)), (3, .val (.int .i64 0)), (5, .val (.int .i64 x)), (6, .val (.slice (some (⟨b1, off1, none⟩)) xs.length c)), (7, .val (.int .i64 (↑xs.length : Int))), (8, .val (.int .i64 i)), (14, .val (.bool (x != 0)))]) (h1 := fun _ => []) (p1 := fun _ => []) (W1 := []) (by kernel_rfl) (fun _ => by kernel_rfl) (fun _ => trivial) (fun _ => ?_)
    refine J_cond (t := x != 0) (by kernel_rfl) (by kernel_rfl) (fun hb => ?_) (fun hb => ?_)
    · refine J_seq ?_
      refine J_reg mixed [.rd 0 [] 0 0, .rd 1 [] 0 0] [] [2, 3, 5, 6, 7, 8] (E1 := fun _ => [(2, .val (.int .i64 x)), (3, .val (.int .i64 0)), (5, .val (.int .i64 x)), (6, .val (.slice (some (⟨b1, off1, none⟩)) xs.length c)), (7, .val (.int .i64 (↑xs.length : Int))), (8, .val (.int .i64 i))]) (h1 := fun _ => []) (p1 := fun _ => []) (W1 := []) (by kernel_rfl) (fun _ => by kernel_rfl) (fun _ => trivial) (fun _ => ?_)
      refine J_return [[]] (.int .i64 x) (by kernel_rfl) (fun a w s => ?_)
      rw [orL_at hno hx (by simpa using hb)]
      exact s.ret (by simp) [] [] rfl rfl
    · refine J_skip ?_
      refine J_eb ?_
      refine J_reg mixed [.rd 0 [] 0 1, .rd 1 [] 0 0] [] [2, 3, 5, 6, 7, 8] (E1 := fun _ => [(2, .val (.int .i64 0)), (3, .val (.int .i64 0)), (5, .val (.int .i64 x)), (6, .val (.slice (some (⟨b1, off1, none⟩)) xs.length c)), (7, .val (.int .i64 (↑xs.length : Int))), (8, .val (.int .i64 (i + 1)))]) (h1 := fun _ => []) (p1 := fun _ => [IntKind.i64.wrap (i + (1 : Int)) = i + (1 : Int)]) (W1 := []) (by kernel_rfl) (fun _ => by kernel_rfl) (fun _ => ⟨wrap_i64 (by omega) (by omega), trivial⟩) (fun _ => ?_)
      refine J_backx (i + 1) [2, 3, 6, 7, 8] [] [] [0] ?_ ?_ (by kernel_rfl) rfl rfl rfl
      · refine ⟨by omega, by omega, fun j hj t ht => ?_⟩
        by_cases hji : j = i.toNat
        · subst hji
          rw [hx] at ht
          cases ht
          simpa using hb
        · exact hno j (by omega) t ht
      · omega
  · refine J_exit rfl ?_
    refine J_seq ?_
    refine J_reg mixed [.rd 0 [] 0 0, .rd 1 [] 0 0] [] [2] (E1 := fun _ => [(2, .val (.int .i64 0))]) (h1 := fun _ => []) (p1 := fun _ => []) (W1 := []) (by kernel_rfl) (fun _ => by kernel_rfl) (fun _ => trivial) (fun _ => ?_)
    refine J_return [[]] (.int .i64 0) (by kernel_rfl) (fun a w s => ?_)
    rw [orL_none fun j t ht => hno j (by have := (List.getElem?_eq_some_iff.1 ht).1; simp at hlt; omega) t ht]
    exact s.ret (by simp) [] [] rfl rfl
end Go.Proofs.YtpjkiomccpjboaaGreatDoor
namespace Go.Proofs.YtpjkiomccpjboaaGreatDoor
open Go Go.Sx

abbrev doneA (x : DoneT) (v : Value) : Value := .agg #[.int .i64 x.o.no, .string x.o.key, .int .i64 x.o.kind, .string x.o.text, .int .i64 x.o.n, .bool x.o.remove, v, .int .i64 x.d.place, .int .i64 x.d.time, .int .i64 x.d.no, .int .i64 x.w]
abbrev dotV (d : DotT) : Value := .agg #[.int .i64 d.place, .int .i64 d.time, .int .i64 d.no]
theorem cmpDone {w : World} {S : Nat → Prop} {x y : DoneT} {v1 v2 : Value} (o1 : v1.oneCell' = true) (o2 : v2.oneCell' = true) : Calls Tryz.prog 96 #[doneA x v1, doneA y v2] w fun e w' => Ret [] w S w' e (.int .i64 (doneCmp x y)) [] [] := by
  refine ep96 (args := [doneA x v1, doneA y v2]) (S := S) (G := []) (by kernel_rfl) (.nil _ _) ?_
  refine J_seq ?_
  refine J_reg mixed [.wr 0 [] 0, .wr 1 [] 0, .rd 2 [] 0 0] [] [2, 3, 4] (E1 := fun nu1 => [(2, .val (.pointer (some (⟨nu1 0, 0, none⟩)))), (3, .val (.pointer (some (⟨nu1 1, 0, none⟩)))), (4, .val (.int .i64 0))]) (h1 := fun nu1 => [(nu1 0, .cells #[.int .i64 x.o.no, .string x.o.key, .int .i64 x.o.kind, .string x.o.text, .int .i64 x.o.n, .bool x.o.remove, v1, .int .i64 x.d.place, .int .i64 x.d.time, .int .i64 x.d.no, .int .i64 x.w] 112 (0, 0)), (nu1 1, .cells #[.int .i64 y.o.no, .string y.o.key, .int .i64 y.o.kind, .string y.o.text, .int .i64 y.o.n, .bool y.o.remove, v2, .int .i64 y.d.place, .int .i64 y.d.time, .int .i64 y.d.no, .int .i64 y.w] 112 (0, 0))]) (p1 := fun nu1 => []) (W1 := []) (by kernel_rfl) (fun _ => by kernel_rfl) (fun _ => trivial) (fun nu1 => ?_)
  refine J_seq ?_
  refine JR_begin mixed [(0, true), (1, true), (2, true), (3, true), (5, true), (6, true), (7, true), (8, true), (9, true), (10, true), (12, true), (13, true), (14, true), (15, true), (16, true), (17, true), (19, true), (20, true), (21, true), (22, true), (23, true), (24, true), (4, false), (11, false), (18, false), (25, false), (26, false), (27, false), (28, true)] [] (by kernel_rfl) (by kernel_rfl) ?_
  refine JR_run (id := 1) (rest := [(4, false), (11, false), (18, false), (25, false), (26, false), (27, false), (28, true)]) [.rd 0 [] 0 0, .rd 1 [.o 0 none] 0 0, .rd 2 [] 0 0, .rd 3 [.o 1 none] 0 0, .rd 5 [] 0 0, .rd 6 [] 0 0, .rd 7 [.o 0 none] 0 0, .rd 8 [] 0 0, .rd 9 [] 0 0, .rd 10 [.o 1 none] 0 0, .rd 12 [] 0 0, .rd 13 [] 0 0, .rd 14 [.o 0 none] 0 0, .rd 15 [] 0 0, .rd 16 [] 0 0, .rd 17 [.o 1 none] 0 0, .rd 19 [] 0 0, .rd 20 [] 0 0, .rd 21 [.o 0 none] 0 0, .rd 22 [] 0 0, .rd 23 [] 0 0, .rd 24 [.o 1 none] 0 0] [4, 6, 8, 12, 15, 19, 22, 26, 29] (E1 := fun _ => [(4, .val (.int .i64 0)), (6, .val (.int .i64 x.w)), (8, .val (.int .i64 y.w)), (12, .val (.int .i64 x.d.place)), (15, .val (.int .i64 y.d.place)), (19, .val (.int .i64 x.d.time)), (22, .val (.int .i64 y.d.time)), (26, .val (.int .i64 x.d.no)), (29, .val (.int .i64 y.d.no))]) (h1 := fun _ => [(nu1 0, .cells #[.int .i64 x.o.no, .string x.o.key, .int .i64 x.o.kind, .string x.o.text, .int .i64 x.o.n, .bool x.o.remove, v1, .int .i64 x.d.place, .int .i64 x.d.time, .int .i64 x.d.no, .int .i64 x.w] 112 (0, 0)), (nu1 1, .cells #[.int .i64 y.o.no, .string y.o.key, .int .i64 y.o.kind, .string y.o.text, .int .i64 y.o.n, .bool y.o.remove, v2, .int .i64 y.d.place, .int .i64 y.d.time, .int .i64 y.d.no, .int .i64 y.w] 112 (0, 0))]) (p1 := fun _ => []) (W1 := []) (fun _ => by kernel_rfl) (fun _ => trivial) (fun _ => ?_)
  all_goals first | assumption | skip
  refine JR_callp [] 69 #[.int .i64 x.w, .int .i64 y.w] (some 9) (by kernel_rfl) (fun w S hG => ?_)
  refine (cmpC (S := S)).mono ?_
  rintro e1 w1 hR
  refine ⟨_, _, _, hR, ?_⟩
  try simp only [List.cons_append, List.nil_append, List.append_nil]
  refine JR_callp [] 69 #[.int .i64 x.d.place, .int .i64 y.d.place] (some 16) (by kernel_rfl) (fun w S hG => ?_)
  refine (cmpC (S := S)).mono ?_
  rintro e2 w2 hR
  refine ⟨_, _, _, hR, ?_⟩
  try simp only [List.cons_append, List.nil_append, List.append_nil]
  refine JR_callp [] 69 #[.int .i64 x.d.time, .int .i64 y.d.time] (some 23) (by kernel_rfl) (fun w S hG => ?_)
  refine (cmpC (S := S)).mono ?_
  rintro e3 w3 hR
  refine ⟨_, _, _, hR, ?_⟩
  try simp only [List.cons_append, List.nil_append, List.append_nil]
  refine JR_callp [] 69 #[.int .i64 x.d.no, .int .i64 y.d.no] (some 30) (by kernel_rfl) (fun w S hG => ?_)
  refine (cmpC (S := S)).mono ?_
  rintro e4 w4 hR
  refine ⟨_, _, _, hR, ?_⟩
  try simp only [List.cons_append, List.nil_append, List.append_nil]
  refine JR_run (id := 1) (rest := [(27, false), (28, true)]) [.wr 26 [] 0] [4, 31] (E1 := fun nu2 => [(4, .val (.int .i64 0)), (31, .val (.slice (some (⟨nu2 0, 0, none⟩)) 4 4))]) (h1 := fun nu2 => [(nu1 0, .cells #[.int .i64 x.o.no, .string x.o.key, .int .i64 x.o.kind, .string x.o.text, .int .i64 x.o.n, .bool x.o.remove, v1, .int .i64 x.d.place, .int .i64 x.d.time, .int .i64 x.d.no, .int .i64 x.w] 112 (0, 0)), (nu1 1, .cells #[.int .i64 y.o.no, .string y.o.key, .int .i64 y.o.kind, .string y.o.text, .int .i64 y.o.n, .bool y.o.remove, v2, .int .i64 y.d.place, .int .i64 y.d.time, .int .i64 y.d.no, .int .i64 y.w] 112 (0, 0)), (nu2 0, .cells #[.int .i64 (cmpI x.w y.w), .int .i64 (cmpI x.d.place y.d.place), .int .i64 (cmpI x.d.time y.d.time), .int .i64 (cmpI x.d.no y.d.no)] 3 (0, 0))]) (p1 := fun nu2 => []) (W1 := []) (fun _ => by kernel_rfl) (fun _ => trivial) (fun nu2 => ?_)
  refine JR_data (size := 1) 2 eI [cmpI x.w y.w, cmpI x.d.place y.d.place, cmpI x.d.time y.d.time, cmpI x.d.no y.d.no] 4 rfl (by kernel_rfl) (by decide) (by intro x _; rfl) (by simp) ⟨.inl ⟨rfl, rfl⟩, ⟨.inl ⟨rfl, rfl⟩, ⟨.inl ⟨rfl, rfl⟩, ⟨.inl ⟨rfl, rfl⟩, trivial⟩⟩⟩⟩ ?_
  refine JR_callp [] 68 #[.slice (some (⟨nu2 0, 0, none⟩)) 4 4] (some 32) (by kernel_rfl) (fun w S hG => ?_)
  refine (orC (hG.at 0 rfl) (by simp)).mono ?_
  rintro e7 w7 hR
  refine ⟨_, _, _, hR, ?_⟩
  try simp only [List.cons_append, List.nil_append, List.append_nil]
  refine JR_run (id := 1) (rest := []) [.rd 28 [] 0 0] [4] (E1 := fun _ => [(4, .val (.int .i64 (orL [cmpI x.w y.w, cmpI x.d.place y.d.place, cmpI x.d.time y.d.time, cmpI x.d.no y.d.no])))]) (h1 := fun _ => [(nu1 0, .cells #[.int .i64 x.o.no, .string x.o.key, .int .i64 x.o.kind, .string x.o.text, .int .i64 x.o.n, .bool x.o.remove, v1, .int .i64 x.d.place, .int .i64 x.d.time, .int .i64 x.d.no, .int .i64 x.w] 112 (0, 0)), (nu1 1, .cells #[.int .i64 y.o.no, .string y.o.key, .int .i64 y.o.kind, .string y.o.text, .int .i64 y.o.n, .bool y.o.remove, v2, .int .i64 y.d.place, .int .i64 y.d.time, .int .i64 y.d.no, .int .i64 y.w] 112 (0, 0))]) (p1 := fun _ => []) (W1 := []) (fun _ => by kernel_rfl) (fun _ => trivial) (fun _ => ?_)
  refine JR_end ?_
  refine J_return [[]] (.int .i64 (orL [cmpI x.w y.w, cmpI x.d.place y.d.place, cmpI x.d.time y.d.time, cmpI x.d.no y.d.no])) (by kernel_rfl) (fun a w s => ?_)
  exact s.ret (by simp) [] [] rfl rfl
theorem cmpDot {w : World} {S : Nat → Prop} {x y : DotT} : Calls Tryz.prog 67 #[dotV x, dotV y] w fun e w' => Ret [] w S w' e (.int .i64 (dotCmp x y)) [] [] := by
  refine ep67 (args := [dotV x, dotV y]) (S := S) (G := []) (by kernel_rfl) (.nil _ _) ?_
  refine J_seq ?_
  refine J_reg mixed [.wr 0 [] 0, .wr 1 [] 0, .rd 2 [] 0 0] [] [2, 3, 4] (E1 := fun nu1 => [(2, .val (.pointer (some (⟨nu1 0, 0, none⟩)))), (3, .val (.pointer (some (⟨nu1 1, 0, none⟩)))), (4, .val (.int .i64 0))]) (h1 := fun nu1 => [(nu1 0, .cells #[.int .i64 x.place, .int .i64 x.time, .int .i64 x.no] 65 (0, 0)), (nu1 1, .cells #[.int .i64 y.place, .int .i64 y.time, .int .i64 y.no] 65 (0, 0))]) (p1 := fun nu1 => []) (W1 := []) (by kernel_rfl) (fun _ => by kernel_rfl) (fun _ => trivial) (fun nu1 => ?_)
  refine J_seq ?_
  refine JR_begin mixed [(0, true), (1, true), (2, true), (3, true), (5, true), (6, true), (7, true), (8, true), (10, true), (11, true), (12, true), (13, true), (4, false), (9, false), (14, false), (15, false), (16, false), (17, true)] [] (by kernel_rfl) (by kernel_rfl) ?_
  refine JR_run (id := 1) (rest := [(4, false), (9, false), (14, false), (15, false), (16, false), (17, true)]) [.rd 0 [] 0 0, .rd 1 [.o 0 none] 0 0, .rd 2 [] 0 0, .rd 3 [.o 1 none] 0 0, .rd 5 [] 0 0, .rd 6 [.o 0 none] 0 0, .rd 7 [] 0 0, .rd 8 [.o 1 none] 0 0, .rd 10 [] 0 0, .rd 11 [.o 0 none] 0 0, .rd 12 [] 0 0, .rd 13 [.o 1 none] 0 0] [4, 6, 8, 11, 13, 16, 18] (E1 := fun _ => [(4, .val (.int .i64 0)), (6, .val (.int .i64 x.place)), (8, .val (.int .i64 y.place)), (11, .val (.int .i64 x.time)), (13, .val (.int .i64 y.time)), (16, .val (.int .i64 x.no)), (18, .val (.int .i64 y.no))]) (h1 := fun _ => [(nu1 0, .cells #[.int .i64 x.place, .int .i64 x.time, .int .i64 x.no] 65 (0, 0)), (nu1 1, .cells #[.int .i64 y.place, .int .i64 y.time, .int .i64 y.no] 65 (0, 0))]) (p1 := fun _ => []) (W1 := []) (fun _ => by kernel_rfl) (fun _ => trivial) (fun _ => ?_)
  refine JR_callp [] 69 #[.int .i64 x.place, .int .i64 y.place] (some 9) (by kernel_rfl) (fun w S hG => ?_)
  refine (cmpC (S := S)).mono ?_
  rintro e1 w1 hR
  refine ⟨_, _, _, hR, ?_⟩
  try simp only [List.cons_append, List.nil_append, List.append_nil]
  refine JR_callp [] 69 #[.int .i64 x.time, .int .i64 y.time] (some 14) (by kernel_rfl) (fun w S hG => ?_)
  refine (cmpC (S := S)).mono ?_
  rintro e2 w2 hR
  refine ⟨_, _, _, hR, ?_⟩
  try simp only [List.cons_append, List.nil_append, List.append_nil]
  refine JR_callp [] 69 #[.int .i64 x.no, .int .i64 y.no] (some 19) (by kernel_rfl) (fun w S hG => ?_)
  refine (cmpC (S := S)).mono ?_
  rintro e3 w3 hR
  refine ⟨_, _, _, hR, ?_⟩
  try simp only [List.cons_append, List.nil_append, List.append_nil]
  refine JR_run (id := 1) (rest := [(16, false), (17, true)]) [.wr 15 [] 0] [4, 20] (E1 := fun nu2 => [(4, .val (.int .i64 0)), (20, .val (.slice (some (⟨nu2 0, 0, none⟩)) 3 3))]) (h1 := fun nu2 => [(nu1 0, .cells #[.int .i64 x.place, .int .i64 x.time, .int .i64 x.no] 65 (0, 0)), (nu1 1, .cells #[.int .i64 y.place, .int .i64 y.time, .int .i64 y.no] 65 (0, 0)), (nu2 0, .cells #[.int .i64 (cmpI x.place y.place), .int .i64 (cmpI x.time y.time), .int .i64 (cmpI x.no y.no)] 3 (0, 0))]) (p1 := fun nu2 => []) (W1 := []) (fun _ => by kernel_rfl) (fun _ => trivial) (fun nu2 => ?_)
  refine JR_data (size := 1) 2 eI [cmpI x.place y.place, cmpI x.time y.time, cmpI x.no y.no] 3 rfl (by kernel_rfl) (by decide) (by intro x _; rfl) (by simp) ⟨.inl ⟨rfl, rfl⟩, ⟨.inl ⟨rfl, rfl⟩, ⟨.inl ⟨rfl, rfl⟩, trivial⟩⟩⟩ ?_
  refine JR_callp [] 68 #[.slice (some (⟨nu2 0, 0, none⟩)) 3 3] (some 21) (by kernel_rfl) (fun w S hG => ?_)
  refine (orC (hG.at 0 rfl) (by simp)).mono ?_
  rintro e7 w7 hR
  refine ⟨_, _, _, hR, ?_⟩
  try simp only [List.cons_append, List.nil_append, List.append_nil]
  refine JR_run (id := 1) (rest := []) [.rd 17 [] 0 0] [4] (E1 := fun _ => [(4, .val (.int .i64 (orL [cmpI x.place y.place, cmpI x.time y.time, cmpI x.no y.no])))]) (h1 := fun _ => [(nu1 0, .cells #[.int .i64 x.place, .int .i64 x.time, .int .i64 x.no] 65 (0, 0)), (nu1 1, .cells #[.int .i64 y.place, .int .i64 y.time, .int .i64 y.no] 65 (0, 0))]) (p1 := fun _ => []) (W1 := []) (fun _ => by kernel_rfl) (fun _ => trivial) (fun _ => ?_)
  refine JR_end ?_
  refine J_return [[]] (.int .i64 (orL [cmpI x.place y.place, cmpI x.time y.time, cmpI x.no y.no])) (by kernel_rfl) (fun a w s => ?_)
  exact s.ret (by simp) [] [] rfl rfl
end Go.Proofs.YtpjkiomccpjboaaGreatDoor
