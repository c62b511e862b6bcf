/- The document's answers on vectors (causewayref1); vector.Order. -/
import Derived.Test.YtibkfmobofikmaaDoorVec3
namespace Go.Proofs.YtibkfmobofikmaaDoor
open Go Go.Sx

theorem rVecErr {w : World} {S : Nat → Prop} {a : Option Addr} {n c : Nat} {xs : List Int} (ha : Rep w S (.slice a n c) (dInts xs)) (hl : xs.length ≤ 1000000) :
    Calls Tryd.prog 22 #[.slice a n c] w fun e w' => Ret [] w S w' e (.int .i64 (vecErr xs)) [] [] := by
  obtain rfl := rep_ints_len ha
  refine ep22 (args := [.slice a xs.length c]) (G := [(_, dInts xs)]) (by kernel_rfl) (.cons ha (.nil _ _)) ?_
  refine J_seq ?_
  refine J_reg mixed [.rd 0 [] 0 0] [] [0, 2] (E1 := fun _ => [(0, .val (.slice a xs.length c)), (2, .val (.int .i64 0))]) (h1 := fun _ => []) (p1 := fun _ => []) (W1 := []) (by kernel_rfl) (fun _ => by kernel_rfl) (fun _ => trivial) (fun _ => ?_)
  refine J_seq ?_
  refine J_seq ?_
  refine J_reg mixed [.rd 0 [] 0 0, .rd 1 [] 0 0, .rd 2 [] 0 0, .rd 3 [] 0 0, .rd 4 [] 2 0, .rd 5 [] 2 0, .rd 6 [] 2 0, .rd 7 [] 0 3] [] [0, 2, 11] (E1 := fun _ => [(0, .val (.slice a xs.length c)), (2, .val (.int .i64 0)), (11, .val (.bool (decide ((↑xs.length : Int) < 1) || decide ((↑xs.length : Int) > 6))))]) (h1 := fun _ => []) (p1 := fun _ => []) (W1 := []) (by kernel_rfl) (fun _ => by kernel_rfl) (fun _ => trivial) (fun _ => ?_)
  refine J_cond (t := decide ((↑xs.length : Int) < 1) || decide ((↑xs.length : Int) > 6)) (by kernel_rfl) (by kernel_rfl) (fun hn => ?_) (fun hn => ?_)
  · refine J_seq ?_
    refine J_reg mixed [.rd 0 [] 0 0] [] [0, 2] (E1 := fun _ => [(0, .val (.slice a xs.length c)), (2, .val (.int .i64 3))]) (h1 := fun _ => []) (p1 := fun _ => []) (W1 := []) (by kernel_rfl) (fun _ => by kernel_rfl) (fun _ => trivial) (fun _ => ?_)
    refine J_return [[]] (.int .i64 3) (by kernel_rfl) (fun a w s => ?_)
    have e1 : vecErr xs = 3 := by rw [vecErr, if_pos (by simp at hn; omega)]
    rw [e1]
    exact s.ret (by simp) [] [] rfl rfl
  · have hn2 : ¬ (xs.length < 1 ∨ 6 < xs.length) := by simp at hn; omega
    refine J_skip ?_
    refine J_seq ?_
    refine J_seq ?_
    refine J_reg mixed [.rd 0 [] 0 0] [] [0, 2, 3] (E1 := fun _ => [(0, .val (.slice a xs.length c)), (2, .val (.int .i64 0)), (3, .val (.int .i64 0))]) (h1 := fun _ => []) (p1 := fun _ => []) (W1 := []) (by kernel_rfl) (fun _ => by kernel_rfl) (fun _ => trivial) (fun _ => ?_)
    refine J_block ?_
    refine J_loopx (fun i : Int => [(0, .val (.slice a xs.length c)), (2, .val (.int .i64 0)), (3, .val (.int .i64 i))]) (fun i : Int => []) (fun i : Int => []) (fun i : Int => [(.slice a xs.length c, (dInts xs))]) (fun i : Int => (xs.length - i).toNat) (fun i : Int => (0 ≤ i ∧ i ≤ xs.length ∧ ∀ j : Nat, j < i.toNat → ∀ t, xs[j]? = some t → badT t = false)) 0 [0, 2, 3] [] [] [0] ?_ (by kernel_rfl) rfl rfl rfl ?_
    · exact ⟨by simp, by omega, by simp⟩
    rintro i ⟨hi0, hi, hno⟩
    refine J_seq ?_
    refine J_seq ?_
    refine J_reg mixed [.rd 0 [] 0 0, .rd 1 [] 0 0, .rd 2 [] 0 0, .rd 3 [] 0 0] [] [0, 2, 3, 15] (E1 := fun _ => [(0, .val (.slice a xs.length c)), (2, .val (.int .i64 0)), (3, .val (.int .i64 i)), (15, .val (.bool (decide (i < (↑xs.length : Int)))))]) (h1 := fun _ => []) (p1 := fun _ => []) (W1 := []) (by kernel_rfl) (fun _ => by kernel_rfl) (fun _ => trivial) (fun _ => ?_)
    refine J_cond (t := decide (i < (↑xs.length : Int))) (by kernel_rfl) (by kernel_rfl) (fun hlt => ?_) (fun hlt => ?_)
    · have hlt2 : i < xs.length := by simpa using hlt
      obtain ⟨x, hx⟩ : ∃ x, xs[i.toNat]? = some x := ⟨_, List.getElem?_eq_getElem (by omega)⟩
      refine J_read0 0 rfl i.toNat (map_at hx) (by kernel_rfl) (fun b1 off1 cs1 ty1 fz1 ha1 hrd1 => ?_)
      cases ha1
      have hrd1_0 := rd0 (hrd1 0 _ rfl)
      try simp only [List.cons_append, List.nil_append, List.append_nil]
      refine J_skip ?_
      refine J_seq ?_
      refine J_block ?_
      refine J_seq ?_
      refine J_reg mixed [.rd 0 [] 0 0, .rd 1 [] 0 0, .rd 2 [] 0 2, .rd 3 [.r 0 (some (.int .i64 x))] 0 0, .rd 4 [] 0 0, .rd 5 [] 0 0, .rd 6 [] 2 0, .rd 7 [] 2 0, .rd 8 [] 2 2, .rd 9 [.r 0 (some (.int .i64 x))] 2 0, .rd 10 [] 2 0, .rd 11 [] 0 3] [] [0, 2, 3, 29] (E1 := fun _ => [(0, .val (.slice (some (⟨b1, off1, none⟩)) xs.length c)), (2, .val (.int .i64 0)), (3, .val (.int .i64 i)), (29, .val (.bool (decide (x < 0) || decide (x > 1099511627776))))]) (h1 := fun _ => []) (p1 := fun _ => [(0 : Int) ≤ i, i < (↑xs.length : Int), cs1[off1 + i.toNat * (1 : Nat)]? = some (Value.int IntKind.i64 x), (decide (x < 0)) = false → (0 : Int) ≤ i, (decide (x < 0)) = false → i < (↑xs.length : Int), (decide (x < 0)) = false → cs1[off1 + i.toNat * (1 : Nat)]? = some (Value.int IntKind.i64 x)]) (W1 := []) (by kernel_rfl) (fun _ => by kernel_rfl) (fun _ => ⟨hi0, hlt2, hrd1_0, (fun _ => hi0), (fun _ => hlt2), (fun _ => hrd1_0), trivial⟩) (fun _ => ?_)
      refine J_cond (t := decide (x < 0) || decide (x > 1099511627776)) (by kernel_rfl) (by kernel_rfl) (fun hb => ?_) (fun hb => ?_)
      · refine J_seq ?_
        refine J_reg mixed [.rd 0 [] 0 0] [] [0, 2, 3] (E1 := fun _ => [(0, .val (.slice (some (⟨b1, off1, none⟩)) xs.length c)), (2, .val (.int .i64 2)), (3, .val (.int .i64 i))]) (h1 := fun _ => []) (p1 := fun _ => []) (W1 := []) (by kernel_rfl) (fun _ => by kernel_rfl) (fun _ => trivial) (fun _ => ?_)
        refine J_return [[]] (.int .i64 2) (by kernel_rfl) (fun a w s => ?_)
        have e1 : vecErr xs = 2 := by rw [vecErr, if_neg hn2, if_pos (List.any_eq_true.2 ⟨x, List.mem_of_getElem? hx, hb⟩)]
        rw [e1]
        exact s.ret (by simp) [] [] rfl rfl
      · refine J_skip ?_
        refine J_eb ?_
        refine J_reg mixed [.rd 0 [] 0 0, .rd 1 [] 0 1, .rd 2 [] 0 0] [] [0, 2, 3] (E1 := fun _ => [(0, .val (.slice (some (⟨b1, off1, none⟩)) xs.length c)), (2, .val (.int .i64 0)), (3, .val (.int .i64 (i + 1)))]) (h1 := fun _ => []) (p1 := fun _ => [IntKind.i64.wrap (i + (1 : Int)) = i + (1 : Int)]) (W1 := []) (by kernel_rfl) (fun _ => by kernel_rfl) (fun _ => ⟨wrap_i64 (by omega) (by omega), trivial⟩) (fun _ => ?_)
        refine J_backx (i + 1) [0, 2, 3] [] [] [0] ?_ ?_ (by kernel_rfl) rfl rfl rfl
        · refine ⟨by omega, by omega, fun j hj t ht => ?_⟩
          by_cases hji : j = i.toNat
          · subst hji
            rw [hx] at ht
            cases ht
            exact hb
          · exact hno j (by omega) t ht
        · omega
    · refine J_exit rfl ?_
      refine J_seq ?_
      refine J_reg mixed [.rd 0 [] 0 0] [] [2] (E1 := fun _ => [(2, .val (.int .i64 0))]) (h1 := fun _ => []) (p1 := fun _ => []) (W1 := []) (by kernel_rfl) (fun _ => by kernel_rfl) (fun _ => trivial) (fun _ => ?_)
      refine J_return [[]] (.int .i64 0) (by kernel_rfl) (fun a w s => ?_)
      have e1 : vecErr xs = 0 := by
        rw [vecErr, if_neg hn2, if_neg]
        rw [Bool.not_eq_true, List.any_eq_false]
        intro t ht
        obtain ⟨j, hj⟩ := List.getElem?_of_mem ht
        have hjl := (List.getElem?_eq_some_iff.1 hj).1
        simp [hno j (by simp at hlt; omega) t hj]
      rw [e1]
      exact s.ret (by simp) [] [] rfl rfl

theorem rTwoErr {w : World} {S : Nat → Prop} {a b : Option Addr} {n m c d : Nat} {xs ys : List Int} (ha : Rep w S (.slice a n c) (dInts xs)) (hb : Rep w S (.slice b m d) (dInts ys)) (hl : xs.length ≤ 1000000) (hl2 : ys.length ≤ 1000000) :
    Calls Tryd.prog 19 #[.slice a n c, .slice b m d] w fun e w' => Ret [] w S w' e (.int .i64 (twoErr xs ys)) [] [] := by
  obtain rfl := rep_ints_len ha
  obtain rfl := rep_ints_len hb
  refine ep19 (args := [.slice a xs.length c, .slice b ys.length d]) (G := [(_, dInts xs), (_, dInts ys)]) (by kernel_rfl) (.cons ha (.cons hb (.nil _ _))) ?_
  refine J_seq ?_
  refine J_reg mixed [.rd 0 [] 0 0] [] [0, 1, 4] (E1 := fun _ => [(0, .val (.slice a xs.length c)), (1, .val (.slice b ys.length d)), (4, .val (.int .i64 0))]) (h1 := fun _ => []) (p1 := fun _ => []) (W1 := []) (by kernel_rfl) (fun _ => by kernel_rfl) (fun _ => trivial) (fun _ => ?_)
  refine J_seq ?_
  refine JR_begin mixed [(0, true), (1, false), (2, true)] [] (by kernel_rfl) (by kernel_rfl) ?_
  refine JR_run (id := 1) (rest := [(1, false), (2, true)]) [.rd 0 [] 0 0] [0, 1, 4, 6] (E1 := fun _ => [(0, .val (.slice a xs.length c)), (1, .val (.slice b ys.length d)), (4, .val (.int .i64 0)), (6, .val (.slice a xs.length c))]) (h1 := fun _ => []) (p1 := fun _ => []) (W1 := []) (fun _ => by kernel_rfl) (fun _ => trivial) (fun _ => ?_)
  refine JR_callp [] 22 #[.slice a xs.length c] (some 7) (by kernel_rfl) (fun w S hG => ?_)
  refine (rVecErr (hG.at 0 rfl) hl).mono ?_
  rintro e1 w1 hR
  refine ⟨_, _, _, hR, ?_⟩
  try simp only [List.cons_append, List.nil_append, List.append_nil]
  refine JR_run (id := 1) (rest := []) [.rd 2 [] 0 0] [0, 1, 4, 5] (E1 := fun _ => [(0, .val (.slice a xs.length c)), (1, .val (.slice b ys.length d)), (4, .val (.int .i64 0)), (5, .val (.int .i64 ((↑(vecErr xs) : Int))))]) (h1 := fun _ => []) (p1 := fun _ => []) (W1 := []) (fun _ => by kernel_rfl) (fun _ => trivial) (fun _ => ?_)
  refine JR_end ?_
  refine J_seq ?_
  refine J_seq ?_
  refine J_reg mixed [.rd 0 [] 0 0, .rd 1 [] 0 0] [] [0, 1, 4, 5, 9] (E1 := fun _ => [(0, .val (.slice a xs.length c)), (1, .val (.slice b ys.length d)), (4, .val (.int .i64 0)), (5, .val (.int .i64 ((↑(vecErr xs) : Int)))), (9, .val (.bool ((↑(vecErr xs) : Int) == 0)))]) (h1 := fun _ => []) (p1 := fun _ => []) (W1 := []) (by kernel_rfl) (fun _ => by kernel_rfl) (fun _ => trivial) (fun _ => ?_)
  refine J_cond (t := (↑(vecErr xs) : Int) == 0) (by kernel_rfl) (by kernel_rfl) (fun h0 => ?_) (fun h0 => ?_)
  · have hx0 : vecErr xs = 0 := by simpa using h0
    refine JR_begin mixed [(0, true), (1, false), (2, true)] [] (by kernel_rfl) (by kernel_rfl) ?_
    refine JR_run (id := 3) (rest := [(1, false), (2, true)]) [.rd 0 [] 0 0] [0, 1, 4, 5, 10] (E1 := fun _ => [(0, .val (.slice a xs.length c)), (1, .val (.slice b ys.length d)), (4, .val (.int .i64 0)), (5, .val (.int .i64 ((↑(vecErr xs) : Int)))), (10, .val (.slice b ys.length d))]) (h1 := fun _ => []) (p1 := fun _ => []) (W1 := []) (fun _ => by kernel_rfl) (fun _ => trivial) (fun _ => ?_)
    refine JR_callp [] 22 #[.slice b ys.length d] (some 11) (by kernel_rfl) (fun w S hG => ?_)
    refine (rVecErr (hG.at 1 rfl) hl2).mono ?_
    rintro e2 w2 hR
    refine ⟨_, _, _, hR, ?_⟩
    try simp only [List.cons_append, List.nil_append, List.append_nil]
    refine JR_run (id := 3) (rest := []) [.rd 2 [] 0 0] [0, 1, 4, 5] (E1 := fun _ => [(0, .val (.slice a xs.length c)), (1, .val (.slice b ys.length d)), (4, .val (.int .i64 0)), (5, .val (.int .i64 ((↑(vecErr ys) : Int))))]) (h1 := fun _ => []) (p1 := fun _ => []) (W1 := []) (fun _ => by kernel_rfl) (fun _ => trivial) (fun _ => ?_)
    refine JR_end ?_
    refine J_seq ?_
    refine J_seq ?_
    refine J_reg mixed [.rd 0 [] 0 0, .rd 1 [] 0 0, .rd 2 [] 0 0, .rd 3 [] 2 0, .rd 4 [] 2 0, .rd 5 [] 2 0, .rd 6 [] 2 0, .rd 7 [] 2 0, .rd 8 [] 0 3] [] [4, 5, 20] (E1 := fun _ => [(4, .val (.int .i64 0)), (5, .val (.int .i64 ((↑(vecErr ys) : Int)))), (20, .val (.bool ((↑(vecErr ys) : Int) == 0 && (↑xs.length : Int) != (↑ys.length : Int))))]) (h1 := fun _ => []) (p1 := fun _ => []) (W1 := []) (by kernel_rfl) (fun _ => by kernel_rfl) (fun _ => trivial) (fun _ => ?_)
    refine J_cond (t := (↑(vecErr ys) : Int) == 0 && (↑xs.length : Int) != (↑ys.length : Int)) (by kernel_rfl) (by kernel_rfl) (fun h1 => ?_) (fun h1 => ?_)
    · have h2 : vecErr ys = 0 ∧ xs.length ≠ ys.length := by simp at h1; omega
      refine J_reg mixed [.rd 0 [] 0 0] [] [4, 5] (E1 := fun _ => [(4, .val (.int .i64 0)), (5, .val (.int .i64 3))]) (h1 := fun _ => []) (p1 := fun _ => []) (W1 := []) (by kernel_rfl) (fun _ => by kernel_rfl) (fun _ => trivial) (fun _ => ?_)
      refine J_seq ?_
      refine J_reg mixed [.rd 0 [] 0 0, .rd 1 [] 0 0] [] [4] (E1 := fun _ => [(4, .val (.int .i64 3))]) (h1 := fun _ => []) (p1 := fun _ => []) (W1 := []) (by kernel_rfl) (fun _ => by kernel_rfl) (fun _ => trivial) (fun _ => ?_)
      refine J_return [[]] (.int .i64 3) (by kernel_rfl) (fun a w s => ?_)
      have e1 : twoErr xs ys = 3 := by simp [twoErr, hx0, h2.1, h2.2]
      rw [e1]
      exact s.ret (by simp) [] [] rfl rfl
    · refine J_skip ?_
      refine J_seq ?_
      refine J_reg mixed [.rd 0 [] 0 0, .rd 1 [] 0 0] [] [4] (E1 := fun _ => [(4, .val (.int .i64 ((↑(vecErr ys) : Int))))]) (h1 := fun _ => []) (p1 := fun _ => []) (W1 := []) (by kernel_rfl) (fun _ => by kernel_rfl) (fun _ => trivial) (fun _ => ?_)
      refine J_return [[]] (.int .i64 ((↑(vecErr ys) : Int))) (by kernel_rfl) (fun a w s => ?_)
      have e1 : twoErr xs ys = vecErr ys := by
        unfold twoErr
        rw [if_neg (by simp [hx0])]
        by_cases hy : vecErr ys = 0
        · have h2 : xs.length = ys.length := by simp [hy] at h1; omega
          simp [hy, h2]
        · simp [hy]
      rw [e1]
      exact s.ret (by simp) [] [] rfl rfl
  · have hx0 : vecErr xs ≠ 0 := by simpa using h0
    refine J_skip ?_
    refine J_seq ?_
    refine J_seq ?_
    refine J_reg mixed [.rd 0 [] 0 0, .rd 1 [] 0 0, .rd 2 [] 0 0, .rd 3 [] 2 0, .rd 4 [] 2 0, .rd 5 [] 2 0, .rd 6 [] 2 0, .rd 7 [] 2 0, .rd 8 [] 0 3] [] [4, 5, 20] (E1 := fun _ => [(4, .val (.int .i64 0)), (5, .val (.int .i64 ((↑(vecErr xs) : Int)))), (20, .val (.bool ((↑(vecErr xs) : Int) == 0 && (↑xs.length : Int) != (↑ys.length : Int))))]) (h1 := fun _ => []) (p1 := fun _ => []) (W1 := []) (by kernel_rfl) (fun _ => by kernel_rfl) (fun _ => trivial) (fun _ => ?_)
    refine J_condF ((↑(vecErr xs) : Int) == 0 && (↑xs.length : Int) != (↑ys.length : Int)) (by kernel_rfl) (by kernel_rfl) (by simp; omega) ?_
    refine J_skip ?_
    refine J_seq ?_
    refine J_reg mixed [.rd 0 [] 0 0, .rd 1 [] 0 0] [] [4] (E1 := fun _ => [(4, .val (.int .i64 ((↑(vecErr xs) : Int))))]) (h1 := fun _ => []) (p1 := fun _ => []) (W1 := []) (by kernel_rfl) (fun _ => by kernel_rfl) (fun _ => trivial) (fun _ => ?_)
    refine J_return [[]] (.int .i64 ((↑(vecErr xs) : Int))) (by kernel_rfl) (fun a w s => ?_)
    have e1 : twoErr xs ys = vecErr xs := by simp [twoErr, hx0]
    rw [e1]
    exact s.ret (by simp) [] [] rfl rfl

theorem rIn {w : World} {S : Nat → Prop} {a b : Option Addr} {n m c d : Nat} {xs ys : List Int} (ha : Rep w S (.slice a n c) (dInts xs)) (hb : Rep w S (.slice b m d) (dInts ys)) (hl : xs.length ≤ 1000000) (hxy : xs.length = ys.length) :
    Calls Tryd.prog 23 #[.slice a n c, .slice b m d] w fun e w' => Ret [] w S w' e (.bool (inL xs ys)) [] [] := by
  obtain rfl := rep_ints_len ha
  obtain rfl := rep_ints_len hb
  refine ep23 (args := [.slice a xs.length c, .slice b ys.length d]) (G := [(_, dInts xs), (_, dInts ys)]) (by kernel_rfl) (.cons ha (.cons hb (.nil _ _))) ?_
  refine J_seq ?_
  refine J_reg mixed [.rd 0 [] 0 0] [] [0, 1, 4] (E1 := fun _ => [(0, .val (.slice a xs.length c)), (1, .val (.slice b ys.length d)), (4, .val (.bool false))]) (h1 := fun _ => []) (p1 := fun _ => []) (W1 := []) (by kernel_rfl) (fun _ => by kernel_rfl) (fun _ => trivial) (fun _ => ?_)
  refine J_seq ?_
  refine J_seq ?_
  refine J_reg mixed [.rd 0 [] 0 0] [] [0, 1, 4, 5] (E1 := fun _ => [(0, .val (.slice a xs.length c)), (1, .val (.slice b ys.length d)), (4, .val (.bool false)), (5, .val (.int .i64 0))]) (h1 := fun _ => []) (p1 := fun _ => []) (W1 := []) (by kernel_rfl) (fun _ => by kernel_rfl) (fun _ => trivial) (fun _ => ?_)
  refine J_block ?_
  refine J_loopx (fun i : Int => [(0, .val (.slice a xs.length c)), (1, .val (.slice b ys.length d)), (4, .val (.bool false)), (5, .val (.int .i64 i))]) (fun i : Int => []) (fun i : Int => []) (fun i : Int => [(.slice a xs.length c, (dInts xs)), (.slice b ys.length d, (dInts ys))]) (fun i : Int => (xs.length - i).toNat) (fun i : Int => (0 ≤ i ∧ i ≤ xs.length ∧ ∀ j : Nat, j < i.toNat → ∀ x y, xs[j]? = some x → ys[j]? = some y → x ≤ y)) 0 [0, 1, 4, 5] [] [] [0, 1] ?_ (by kernel_rfl) rfl rfl rfl ?_
  · exact ⟨by simp, by omega, by simp⟩
  rintro i ⟨hi0, hi, hno⟩
  refine J_seq ?_
  refine J_seq ?_
  refine J_reg mixed [.rd 0 [] 0 0, .rd 1 [] 0 0, .rd 2 [] 0 0, .rd 3 [] 0 0] [] [0, 1, 4, 5, 9] (E1 := fun _ => [(0, .val (.slice a xs.length c)), (1, .val (.slice b ys.length d)), (4, .val (.bool false)), (5, .val (.int .i64 i)), (9, .val (.bool (decide (i < (↑xs.length : Int)))))]) (h1 := fun _ => []) (p1 := fun _ => []) (W1 := []) (by kernel_rfl) (fun _ => by kernel_rfl) (fun _ => trivial) (fun _ => ?_)
  refine J_cond (t := decide (i < (↑xs.length : Int))) (by kernel_rfl) (by kernel_rfl) (fun hlt => ?_) (fun hlt => ?_)
  · have hlt2 : i < xs.length := by simpa using hlt
    obtain ⟨x, hx⟩ : ∃ x, xs[i.toNat]? = some x := ⟨_, List.getElem?_eq_getElem (by omega)⟩
    obtain ⟨y, hy⟩ : ∃ y, ys[i.toNat]? = some y := ⟨_, List.getElem?_eq_getElem (by omega)⟩
    refine J_read0 0 rfl i.toNat (map_at hx) (by kernel_rfl) (fun b1 off1 cs1 ty1 fz1 ha1 hrd1 => ?_)
    cases ha1
    have hrd1_0 := rd0 (hrd1 0 _ rfl)
    refine J_read0 1 rfl i.toNat (map_at hy) (by kernel_rfl) (fun b2 off2 cs2 ty2 fz2 ha2 hrd2 => ?_)
    cases ha2
    have hrd2_0 := rd0 (hrd2 0 _ rfl)
    try simp only [List.cons_append, List.nil_append, List.append_nil]
    refine J_skip ?_
    refine J_seq ?_
    refine J_block ?_
    refine J_seq ?_
    refine J_reg mixed [.rd 0 [] 0 0, .rd 1 [] 0 0, .rd 2 [] 0 2, .rd 3 [.r 0 (some (.int .i64 x))] 0 0, .rd 4 [] 0 0, .rd 5 [] 0 0, .rd 6 [] 0 2, .rd 7 [.r 1 (some (.int .i64 y))] 0 0, .rd 8 [] 0 0] [] [0, 1, 4, 5, 20] (E1 := fun _ => [(0, .val (.slice (some (⟨b1, off1, none⟩)) xs.length c)), (1, .val (.slice (some (⟨b2, off2, none⟩)) ys.length d)), (4, .val (.bool false)), (5, .val (.int .i64 i)), (20, .val (.bool (decide (x > y))))]) (h1 := fun _ => []) (p1 := fun _ => [(0 : Int) ≤ i, i < (↑xs.length : Int), cs1[off1 + i.toNat * (1 : Nat)]? = some (Value.int IntKind.i64 x), (0 : Int) ≤ i, i < (↑ys.length : Int), cs2[off2 + i.toNat * (1 : Nat)]? = some (Value.int IntKind.i64 y)]) (W1 := []) (by kernel_rfl) (fun _ => by kernel_rfl) (fun _ => ⟨hi0, hlt2, hrd1_0, hi0, by omega, hrd2_0, trivial⟩) (fun _ => ?_)
    refine J_cond (t := decide (x > y)) (by kernel_rfl) (by kernel_rfl) (fun hgt => ?_) (fun hgt => ?_)
    · refine J_seq ?_
      refine J_reg mixed [.rd 0 [] 0 0] [] [0, 1, 4, 5] (E1 := fun _ => [(0, .val (.slice (some (⟨b1, off1, none⟩)) xs.length c)), (1, .val (.slice (some (⟨b2, off2, none⟩)) ys.length d)), (4, .val (.bool false)), (5, .val (.int .i64 i))]) (h1 := fun _ => []) (p1 := fun _ => []) (W1 := []) (by kernel_rfl) (fun _ => by kernel_rfl) (fun _ => trivial) (fun _ => ?_)
      refine J_return [[]] (.bool false) (by kernel_rfl) (fun a w s => ?_)
      rw [inL_false hx hy (by simpa using hgt)]
      exact s.ret (by simp) [] [] rfl rfl
    · refine J_skip ?_
      refine J_eb ?_
      refine J_reg mixed [.rd 0 [] 0 0, .rd 1 [] 0 1, .rd 2 [] 0 0] [] [0, 1, 4, 5] (E1 := fun _ => [(0, .val (.slice (some (⟨b1, off1, none⟩)) xs.length c)), (1, .val (.slice (some (⟨b2, off2, none⟩)) ys.length d)), (4, .val (.bool false)), (5, .val (.int .i64 (i + 1)))]) (h1 := fun _ => []) (p1 := fun _ => [IntKind.i64.wrap (i + (1 : Int)) = i + (1 : Int)]) (W1 := []) (by kernel_rfl) (fun _ => by kernel_rfl) (fun _ => ⟨wrap_i64 (by omega) (by omega), trivial⟩) (fun _ => ?_)
      refine J_backx (i + 1) [0, 1, 4, 5] [] [] [0, 1] ?_ ?_ (by kernel_rfl) rfl rfl rfl
      · refine ⟨by omega, by omega, fun j hj x' y' hx' hy' => ?_⟩
        by_cases hji : j = i.toNat
        · subst hji
          rw [hx] at hx'
          rw [hy] at hy'
          cases hx'
          cases hy'
          simpa using hgt
        · exact hno j (by omega) x' y' hx' hy'
      · omega
  · refine J_exit rfl ?_
    refine J_seq ?_
    refine J_reg mixed [.rd 0 [] 0 0] [] [4] (E1 := fun _ => [(4, .val (.bool true))]) (h1 := fun _ => []) (p1 := fun _ => []) (W1 := []) (by kernel_rfl) (fun _ => by kernel_rfl) (fun _ => trivial) (fun _ => ?_)
    refine J_return [[]] (.bool true) (by kernel_rfl) (fun a w s => ?_)
    rw [inL_true hxy fun j x y hx hy => hno j (by have := (List.getElem?_eq_some_iff.1 hx).1; simp at hlt; omega) x y hx hy]
    exact s.ret (by simp) [] [] rfl rfl

theorem rLeast {w : World} {S : Nat → Prop} {a b : Option Addr} {n m c d : Nat} {xs ys : List Int} (ha : Rep w S (.slice a n c) (dInts xs)) (hb : Rep w S (.slice b m d) (dInts ys)) (hl : xs.length ≤ 1000000) (hxy : xs.length = ys.length) :
    Calls Tryd.prog 24 #[.slice a n c, .slice b m d] w fun e w' => ∃ a' n' c', Ret [] w S w' e (.slice a' n' c') [] [(.slice a' n' c', dInts (List.zipWith min xs ys))] := by
  obtain rfl := rep_ints_len ha
  obtain rfl := rep_ints_len hb
  refine ep24 (args := [.slice a xs.length c, .slice b ys.length d]) (G := [(_, dInts xs), (_, dInts ys)]) (by kernel_rfl) (.cons ha (.cons hb (.nil _ _))) ?_
  refine J_seq ?_
  refine J_reg mixed [.rd 0 [] 0 0] [] [0, 1, 4] (E1 := fun _ => [(0, .val (.slice a xs.length c)), (1, .val (.slice b ys.length d)), (4, .val (.slice none 0 0))]) (h1 := fun _ => []) (p1 := fun _ => []) (W1 := []) (by kernel_rfl) (fun _ => by kernel_rfl) (fun _ => trivial) (fun _ => ?_)
  refine J_seq ?_
  refine J_reg mixed [.rd 0 [] 0 0] [] [0, 1, 4, 5] (E1 := fun _ => [(0, .val (.slice a xs.length c)), (1, .val (.slice b ys.length d)), (4, .val (.slice none 0 0)), (5, .val (.slice none 0 0))]) (h1 := fun _ => []) (p1 := fun _ => []) (W1 := []) (by kernel_rfl) (fun _ => by kernel_rfl) (fun _ => trivial) (fun _ => ?_)
  refine J_seq ?_
  refine J_seq ?_
  refine J_reg mixed [.rd 0 [] 0 0] [] [0, 1, 4, 5, 6] (E1 := fun _ => [(0, .val (.slice a xs.length c)), (1, .val (.slice b ys.length d)), (4, .val (.slice none 0 0)), (5, .val (.slice none 0 0)), (6, .val (.int .i64 0))]) (h1 := fun _ => []) (p1 := fun _ => []) (W1 := []) (by kernel_rfl) (fun _ => by kernel_rfl) (fun _ => trivial) (fun _ => ?_)
  refine J_block ?_
  refine J_stp (stp_acc 3 1) ?_
  refine J_loopx (fun x : AccI => [(0, .val (.slice a xs.length c)), (1, .val (.slice b ys.length d)), (4, .val (.slice none 0 0)), (5, .val (.slice x.a x.k x.c)), (6, .val (.int .i64 x.i))]) (fun x : AccI => []) (fun x : AccI => [cAcc (.slice x.a x.k x.c) 3 1 ((List.take x.i.toNat (List.zipWith min xs ys)).map eI)]) (fun x : AccI => [(.slice a xs.length c, (dInts xs)), (.slice b ys.length d, (dInts ys))]) (fun x : AccI => (xs.length - x.i).toNat) (fun x : AccI => (0 ≤ x.i ∧ x.i ≤ xs.length)) ⟨0, none, 0, 0⟩ [0, 1, 4, 5, 6] [] [0] [0, 1] ?_ (by kernel_rfl) rfl rfl rfl ?_
  · exact ⟨by simp, by simp⟩
  rintro ⟨i, av, k, cv⟩ ⟨hi0, hi⟩
  dsimp only at hi0 hi ⊢
  refine J_stpx (stp_acclen 0 rfl) fun _ hk => ?_
  have hk2 : k ≤ xs.length := by simp at hk; omega
  refine J_seq ?_
  refine J_seq ?_
  refine J_reg mixed [.rd 0 [] 0 0, .rd 1 [] 0 0, .rd 2 [] 0 0, .rd 3 [] 0 0] [] [0, 1, 4, 5, 6, 11] (E1 := fun _ => [(0, .val (.slice a xs.length c)), (1, .val (.slice b ys.length d)), (4, .val (.slice none 0 0)), (5, .val (.slice av k cv)), (6, .val (.int .i64 i)), (11, .val (.bool (decide (i < (↑xs.length : Int)))))]) (h1 := fun _ => []) (p1 := fun _ => []) (W1 := []) (by kernel_rfl) (fun _ => by kernel_rfl) (fun _ => trivial) (fun _ => ?_)
  refine J_cond (t := decide (i < (↑xs.length : Int))) (by kernel_rfl) (by kernel_rfl) (fun hlt => ?_) (fun hlt => ?_)
  · have hlt2 : i < xs.length := by simpa using hlt
    obtain ⟨x, hx⟩ : ∃ x, xs[i.toNat]? = some x := ⟨_, List.getElem?_eq_getElem (by omega)⟩
    obtain ⟨y, hy⟩ : ∃ y, ys[i.toNat]? = some y := ⟨_, List.getElem?_eq_getElem (by omega)⟩
    refine J_read0 0 rfl i.toNat (map_at hx) (by kernel_rfl) (fun b1 off1 cs1 ty1 fz1 ha1 hrd1 => ?_)
    cases ha1
    have hrd1_0 := rd0 (hrd1 0 _ rfl)
    refine J_read0 1 rfl i.toNat (map_at hy) (by kernel_rfl) (fun b2 off2 cs2 ty2 fz2 ha2 hrd2 => ?_)
    cases ha2
    have hrd2_0 := rd0 (hrd2 0 _ rfl)
    try simp only [List.cons_append, List.nil_append, List.append_nil]
    refine J_skip ?_
    refine J_seq ?_
    refine J_block ?_
    refine J_seq ?_
    refine J_reg mixed [.rd 0 [] 0 0, .rd 1 [] 0 0, .rd 2 [] 0 2, .rd 3 [.r 0 (some (.int .i64 x))] 0 0, .rd 4 [] 0 0] [] [0, 1, 4, 5, 6, 7] (E1 := fun _ => [(0, .val (.slice (some (⟨b1, off1, none⟩)) xs.length c)), (1, .val (.slice (some (⟨b2, off2, none⟩)) ys.length d)), (4, .val (.slice none 0 0)), (5, .val (.slice av k cv)), (6, .val (.int .i64 i)), (7, .val (.int .i64 x))]) (h1 := fun _ => []) (p1 := fun _ => [(0 : Int) ≤ i, i < (↑xs.length : Int), cs1[off1 + i.toNat * (1 : Nat)]? = some (Value.int IntKind.i64 x)]) (W1 := []) (by kernel_rfl) (fun _ => by kernel_rfl) (fun _ => ⟨hi0, hlt2, hrd1_0, trivial⟩) (fun _ => ?_)
    refine J_seq ?_
    refine J_seq ?_
    refine J_reg mixed [.rd 0 [] 0 0, .rd 1 [] 0 0, .rd 2 [] 0 2, .rd 3 [.r 1 (some (.int .i64 y))] 0 0, .rd 4 [] 0 0, .rd 5 [] 0 0] [] [0, 1, 4, 5, 6, 7, 23] (E1 := fun _ => [(0, .val (.slice (some (⟨b1, off1, none⟩)) xs.length c)), (1, .val (.slice (some (⟨b2, off2, none⟩)) ys.length d)), (4, .val (.slice none 0 0)), (5, .val (.slice av k cv)), (6, .val (.int .i64 i)), (7, .val (.int .i64 x)), (23, .val (.bool (decide (y < x))))]) (h1 := fun _ => []) (p1 := fun _ => [(0 : Int) ≤ i, i < (↑ys.length : Int), cs2[off2 + i.toNat * (1 : Nat)]? = some (Value.int IntKind.i64 y)]) (W1 := []) (by kernel_rfl) (fun _ => by kernel_rfl) (fun _ => ⟨hi0, by omega, hrd2_0, trivial⟩) (fun _ => ?_)
    refine J_cond (t := decide (y < x)) (by kernel_rfl) (by kernel_rfl) (fun hyx => ?_) (fun hyx => ?_)
    · have em : min x y = y := by simp at hyx; omega
      refine J_reg mixed [.rd 0 [] 0 0, .rd 1 [] 0 0, .rd 2 [] 0 2, .rd 3 [.r 1 (some (.int .i64 y))] 0 0, .rd 4 [] 0 0] [] [0, 1, 4, 5, 6, 7] (E1 := fun _ => [(0, .val (.slice (some (⟨b1, off1, none⟩)) xs.length c)), (1, .val (.slice (some (⟨b2, off2, none⟩)) ys.length d)), (4, .val (.slice none 0 0)), (5, .val (.slice av k cv)), (6, .val (.int .i64 i)), (7, .val (.int .i64 y))]) (h1 := fun _ => []) (p1 := fun _ => [(0 : Int) ≤ i, i < (↑ys.length : Int), cs2[off2 + i.toNat * (1 : Nat)]? = some (Value.int IntKind.i64 y)]) (W1 := []) (by kernel_rfl) (fun _ => by kernel_rfl) (fun _ => ⟨hi0, by omega, hrd2_0, trivial⟩) (fun _ => ?_)
      refine JR_begin mixed [(0, true), (1, true), (2, false), (3, false), (4, true)] [] (by kernel_rfl) (by kernel_rfl) ?_
      refine JR_run (id := 8) (rest := [(3, false), (4, true)]) [.rd 0 [] 0 0, .rd 1 [] 0 0, .wr 2 [] 0] [0, 1, 4, 5, 6, 7, 28, 30] (E1 := fun nu1 => [(0, .val (.slice (some (⟨b1, off1, none⟩)) xs.length c)), (1, .val (.slice (some (⟨b2, off2, none⟩)) ys.length d)), (4, .val (.slice none 0 0)), (5, .val (.slice av k cv)), (6, .val (.int .i64 i)), (7, .val (.int .i64 y)), (28, .val (.slice av k cv)), (30, .val (.slice (some (⟨nu1 0, 0, none⟩)) 1 1))]) (h1 := fun nu1 => [(nu1 0, .cells #[.int .i64 y] 3 (0, 0))]) (p1 := fun nu1 => []) (W1 := []) (fun _ => by kernel_rfl) (fun _ => trivial) (fun nu1 => ?_)
      refine JR_appm 0 22 3 1 8 (.int .i64 0) (a0 := av) (len := k) (cap0 := cv) (ax := (some (⟨nu1 0, 0, none⟩))) (m := 1) (c := 1) (dst := (some 31)) [y] (by kernel_rfl) (by kernel_rfl) (by kernel_rfl) (by kernel_rfl) rfl (by decide) rfl (fun _ _ _ s => src_one s 0 rfl rfl ⟨.inl ⟨rfl, rfl⟩, trivial⟩) (by simp only [maxLen]; omega) (by omega) (fun av1 cv1 => ?_)
      try simp only [List.cons_append, List.nil_append, List.append_nil]
      refine JR_run (id := 8) (rest := []) [.rd 4 [] 0 0] [0, 1, 4, 5, 6, 7] (E1 := fun _ => [(0, .val (.slice (some (⟨b1, off1, none⟩)) xs.length c)), (1, .val (.slice (some (⟨b2, off2, none⟩)) ys.length d)), (4, .val (.slice none 0 0)), (5, .val (.slice av1 (k + 1) cv1)), (6, .val (.int .i64 i)), (7, .val (.int .i64 y))]) (h1 := fun _ => [(nu1 0, .cells #[.int .i64 y] 3 (0, 0))]) (p1 := fun _ => []) (W1 := []) (fun _ => by kernel_rfl) (fun _ => trivial) (fun _ => ?_)
      try simp only [List.cons_append, List.nil_append, List.append_nil]
      refine JR_end ?_
      try simp only [List.cons_append, List.nil_append, List.append_nil]
      refine J_eb ?_
      try simp only [List.cons_append, List.nil_append, List.append_nil]
      refine J_reg mixed [.rd 0 [] 0 0, .rd 1 [] 0 1, .rd 2 [] 0 0] [] [0, 1, 4, 5, 6, 7] (E1 := fun _ => [(0, .val (.slice (some (⟨b1, off1, none⟩)) xs.length c)), (1, .val (.slice (some (⟨b2, off2, none⟩)) ys.length d)), (4, .val (.slice none 0 0)), (5, .val (.slice av1 (k + 1) cv1)), (6, .val (.int .i64 (i + 1))), (7, .val (.int .i64 y))]) (h1 := fun _ => [(nu1 0, .cells #[.int .i64 y] 3 (0, 0))]) (p1 := fun _ => [IntKind.i64.wrap (i + (1 : Int)) = i + (1 : Int)]) (W1 := []) (by kernel_rfl) (fun _ => by kernel_rfl) (fun _ => ⟨wrap_i64 (by omega) (by omega), trivial⟩) (fun _ => ?_)
      try simp only [List.cons_append, List.nil_append, List.append_nil]
      rw [take_snoc hi0 (List.getElem?_zipWith_eq_some.2 ⟨x, y, hx, hy, em⟩)]
      refine J_backx ⟨i + 1, av1, k + 1, cv1⟩ [0, 1, 4, 5, 6] [] [0] [0, 1] ?_ ?_ (by kernel_rfl) rfl rfl rfl
      · exact ⟨by simp only; omega, by simp only; omega⟩
      · simp only
        omega
    · have em : min x y = x := by simp at hyx; omega
      refine J_skip ?_
      refine JR_begin mixed [(0, true), (1, true), (2, false), (3, false), (4, true)] [] (by kernel_rfl) (by kernel_rfl) ?_
      refine JR_run (id := 8) (rest := [(3, false), (4, true)]) [.rd 0 [] 0 0, .rd 1 [] 0 0, .wr 2 [] 0] [0, 1, 4, 5, 6, 7, 28, 30] (E1 := fun nu1 => [(0, .val (.slice (some (⟨b1, off1, none⟩)) xs.length c)), (1, .val (.slice (some (⟨b2, off2, none⟩)) ys.length d)), (4, .val (.slice none 0 0)), (5, .val (.slice av k cv)), (6, .val (.int .i64 i)), (7, .val (.int .i64 x)), (28, .val (.slice av k cv)), (30, .val (.slice (some (⟨nu1 0, 0, none⟩)) 1 1))]) (h1 := fun nu1 => [(nu1 0, .cells #[.int .i64 x] 3 (0, 0))]) (p1 := fun nu1 => []) (W1 := []) (fun _ => by kernel_rfl) (fun _ => trivial) (fun nu1 => ?_)
      refine JR_appm 0 22 3 1 8 (.int .i64 0) (a0 := av) (len := k) (cap0 := cv) (ax := (some (⟨nu1 0, 0, none⟩))) (m := 1) (c := 1) (dst := (some 31)) [x] (by kernel_rfl) (by kernel_rfl) (by kernel_rfl) (by kernel_rfl) rfl (by decide) rfl (fun _ _ _ s => src_one s 0 rfl rfl ⟨.inl ⟨rfl, rfl⟩, trivial⟩) (by simp only [maxLen]; omega) (by omega) (fun av1 cv1 => ?_)
      try simp only [List.cons_append, List.nil_append, List.append_nil]
      refine JR_run (id := 8) (rest := []) [.rd 4 [] 0 0] [0, 1, 4, 5, 6, 7] (E1 := fun _ => [(0, .val (.slice (some (⟨b1, off1, none⟩)) xs.length c)), (1, .val (.slice (some (⟨b2, off2, none⟩)) ys.length d)), (4, .val (.slice none 0 0)), (5, .val (.slice av1 (k + 1) cv1)), (6, .val (.int .i64 i)), (7, .val (.int .i64 x))]) (h1 := fun _ => [(nu1 0, .cells #[.int .i64 x] 3 (0, 0))]) (p1 := fun _ => []) (W1 := []) (fun _ => by kernel_rfl) (fun _ => trivial) (fun _ => ?_)
      try simp only [List.cons_append, List.nil_append, List.append_nil]
      refine JR_end ?_
      try simp only [List.cons_append, List.nil_append, List.append_nil]
      refine J_eb ?_
      try simp only [List.cons_append, List.nil_append, List.append_nil]
      refine J_reg mixed [.rd 0 [] 0 0, .rd 1 [] 0 1, .rd 2 [] 0 0] [] [0, 1, 4, 5, 6, 7] (E1 := fun _ => [(0, .val (.slice (some (⟨b1, off1, none⟩)) xs.length c)), (1, .val (.slice (some (⟨b2, off2, none⟩)) ys.length d)), (4, .val (.slice none 0 0)), (5, .val (.slice av1 (k + 1) cv1)), (6, .val (.int .i64 (i + 1))), (7, .val (.int .i64 x))]) (h1 := fun _ => [(nu1 0, .cells #[.int .i64 x] 3 (0, 0))]) (p1 := fun _ => [IntKind.i64.wrap (i + (1 : Int)) = i + (1 : Int)]) (W1 := []) (by kernel_rfl) (fun _ => by kernel_rfl) (fun _ => ⟨wrap_i64 (by omega) (by omega), trivial⟩) (fun _ => ?_)
      try simp only [List.cons_append, List.nil_append, List.append_nil]
      rw [take_snoc hi0 (List.getElem?_zipWith_eq_some.2 ⟨x, y, hx, hy, em⟩)]
      refine J_backx ⟨i + 1, av1, k + 1, cv1⟩ [0, 1, 4, 5, 6] [] [0] [0, 1] ?_ ?_ (by kernel_rfl) rfl rfl rfl
      · exact ⟨by simp only; omega, by simp only; omega⟩
      · simp only
        omega
  · refine J_exit rfl ?_
    refine J_seq ?_
    refine J_reg mixed [.rd 0 [] 0 0, .rd 1 [] 0 0] [] [4] (E1 := fun _ => [(4, .val (.slice av k cv))]) (h1 := fun _ => []) (p1 := fun _ => []) (W1 := []) (by kernel_rfl) (fun _ => by kernel_rfl) (fun _ => trivial) (fun _ => ?_)
    refine J_return [[]] (.slice av k cv) (by kernel_rfl) (fun a w s => ?_)
    have e : List.take i.toNat (List.zipWith min xs ys) = List.zipWith min xs ys := List.take_of_length_le (by simp at hlt ⊢; omega)
    have s2 := s.stp (stp_freeze 0 rfl)
    rw [e] at s2
    exact ⟨av, k, cv, s2.ret (by simp) [] [2] rfl rfl⟩

theorem rMost {w : World} {S : Nat → Prop} {a b : Option Addr} {n m c d : Nat} {xs ys : List Int} (ha : Rep w S (.slice a n c) (dInts xs)) (hb : Rep w S (.slice b m d) (dInts ys)) (hl : xs.length ≤ 1000000) (hxy : xs.length = ys.length) :
    Calls Tryd.prog 25 #[.slice a n c, .slice b m d] w fun e w' => ∃ a' n' c', Ret [] w S w' e (.slice a' n' c') [] [(.slice a' n' c', dInts (List.zipWith max xs ys))] := by
  obtain rfl := rep_ints_len ha
  obtain rfl := rep_ints_len hb
  refine ep25 (args := [.slice a xs.length c, .slice b ys.length d]) (G := [(_, dInts xs), (_, dInts ys)]) (by kernel_rfl) (.cons ha (.cons hb (.nil _ _))) ?_
  refine J_seq ?_
  refine J_reg mixed [.rd 0 [] 0 0] [] [0, 1, 4] (E1 := fun _ => [(0, .val (.slice a xs.length c)), (1, .val (.slice b ys.length d)), (4, .val (.slice none 0 0))]) (h1 := fun _ => []) (p1 := fun _ => []) (W1 := []) (by kernel_rfl) (fun _ => by kernel_rfl) (fun _ => trivial) (fun _ => ?_)
  refine J_seq ?_
  refine J_reg mixed [.rd 0 [] 0 0] [] [0, 1, 4, 5] (E1 := fun _ => [(0, .val (.slice a xs.length c)), (1, .val (.slice b ys.length d)), (4, .val (.slice none 0 0)), (5, .val (.slice none 0 0))]) (h1 := fun _ => []) (p1 := fun _ => []) (W1 := []) (by kernel_rfl) (fun _ => by kernel_rfl) (fun _ => trivial) (fun _ => ?_)
  refine J_seq ?_
  refine J_seq ?_
  refine J_reg mixed [.rd 0 [] 0 0] [] [0, 1, 4, 5, 6] (E1 := fun _ => [(0, .val (.slice a xs.length c)), (1, .val (.slice b ys.length d)), (4, .val (.slice none 0 0)), (5, .val (.slice none 0 0)), (6, .val (.int .i64 0))]) (h1 := fun _ => []) (p1 := fun _ => []) (W1 := []) (by kernel_rfl) (fun _ => by kernel_rfl) (fun _ => trivial) (fun _ => ?_)
  refine J_block ?_
  refine J_stp (stp_acc 3 1) ?_
  refine J_loopx (fun x : AccI => [(0, .val (.slice a xs.length c)), (1, .val (.slice b ys.length d)), (4, .val (.slice none 0 0)), (5, .val (.slice x.a x.k x.c)), (6, .val (.int .i64 x.i))]) (fun x : AccI => []) (fun x : AccI => [cAcc (.slice x.a x.k x.c) 3 1 ((List.take x.i.toNat (List.zipWith max xs ys)).map eI)]) (fun x : AccI => [(.slice a xs.length c, (dInts xs)), (.slice b ys.length d, (dInts ys))]) (fun x : AccI => (xs.length - x.i).toNat) (fun x : AccI => (0 ≤ x.i ∧ x.i ≤ xs.length)) ⟨0, none, 0, 0⟩ [0, 1, 4, 5, 6] [] [0] [0, 1] ?_ (by kernel_rfl) rfl rfl rfl ?_
  · exact ⟨by simp, by simp⟩
  rintro ⟨i, av, k, cv⟩ ⟨hi0, hi⟩
  dsimp only at hi0 hi ⊢
  refine J_stpx (stp_acclen 0 rfl) fun _ hk => ?_
  have hk2 : k ≤ xs.length := by simp at hk; omega
  refine J_seq ?_
  refine J_seq ?_
  refine J_reg mixed [.rd 0 [] 0 0, .rd 1 [] 0 0, .rd 2 [] 0 0, .rd 3 [] 0 0] [] [0, 1, 4, 5, 6, 11] (E1 := fun _ => [(0, .val (.slice a xs.length c)), (1, .val (.slice b ys.length d)), (4, .val (.slice none 0 0)), (5, .val (.slice av k cv)), (6, .val (.int .i64 i)), (11, .val (.bool (decide (i < (↑xs.length : Int)))))]) (h1 := fun _ => []) (p1 := fun _ => []) (W1 := []) (by kernel_rfl) (fun _ => by kernel_rfl) (fun _ => trivial) (fun _ => ?_)
  refine J_cond (t := decide (i < (↑xs.length : Int))) (by kernel_rfl) (by kernel_rfl) (fun hlt => ?_) (fun hlt => ?_)
  · have hlt2 : i < xs.length := by simpa using hlt
    obtain ⟨x, hx⟩ : ∃ x, xs[i.toNat]? = some x := ⟨_, List.getElem?_eq_getElem (by omega)⟩
    obtain ⟨y, hy⟩ : ∃ y, ys[i.toNat]? = some y := ⟨_, List.getElem?_eq_getElem (by omega)⟩
    refine J_read0 0 rfl i.toNat (map_at hx) (by kernel_rfl) (fun b1 off1 cs1 ty1 fz1 ha1 hrd1 => ?_)
    cases ha1
    have hrd1_0 := rd0 (hrd1 0 _ rfl)
    refine J_read0 1 rfl i.toNat (map_at hy) (by kernel_rfl) (fun b2 off2 cs2 ty2 fz2 ha2 hrd2 => ?_)
    cases ha2
    have hrd2_0 := rd0 (hrd2 0 _ rfl)
    try simp only [List.cons_append, List.nil_append, List.append_nil]
    refine J_skip ?_
    refine J_seq ?_
    refine J_block ?_
    refine J_seq ?_
    refine J_reg mixed [.rd 0 [] 0 0, .rd 1 [] 0 0, .rd 2 [] 0 2, .rd 3 [.r 0 (some (.int .i64 x))] 0 0, .rd 4 [] 0 0] [] [0, 1, 4, 5, 6, 7] (E1 := fun _ => [(0, .val (.slice (some (⟨b1, off1, none⟩)) xs.length c)), (1, .val (.slice (some (⟨b2, off2, none⟩)) ys.length d)), (4, .val (.slice none 0 0)), (5, .val (.slice av k cv)), (6, .val (.int .i64 i)), (7, .val (.int .i64 x))]) (h1 := fun _ => []) (p1 := fun _ => [(0 : Int) ≤ i, i < (↑xs.length : Int), cs1[off1 + i.toNat * (1 : Nat)]? = some (Value.int IntKind.i64 x)]) (W1 := []) (by kernel_rfl) (fun _ => by kernel_rfl) (fun _ => ⟨hi0, hlt2, hrd1_0, trivial⟩) (fun _ => ?_)
    refine J_seq ?_
    refine J_seq ?_
    refine J_reg mixed [.rd 0 [] 0 0, .rd 1 [] 0 0, .rd 2 [] 0 2, .rd 3 [.r 1 (some (.int .i64 y))] 0 0, .rd 4 [] 0 0, .rd 5 [] 0 0] [] [0, 1, 4, 5, 6, 7, 23] (E1 := fun _ => [(0, .val (.slice (some (⟨b1, off1, none⟩)) xs.length c)), (1, .val (.slice (some (⟨b2, off2, none⟩)) ys.length d)), (4, .val (.slice none 0 0)), (5, .val (.slice av k cv)), (6, .val (.int .i64 i)), (7, .val (.int .i64 x)), (23, .val (.bool (decide (y > x))))]) (h1 := fun _ => []) (p1 := fun _ => [(0 : Int) ≤ i, i < (↑ys.length : Int), cs2[off2 + i.toNat * (1 : Nat)]? = some (Value.int IntKind.i64 y)]) (W1 := []) (by kernel_rfl) (fun _ => by kernel_rfl) (fun _ => ⟨hi0, by omega, hrd2_0, trivial⟩) (fun _ => ?_)
    refine J_cond (t := decide (y > x)) (by kernel_rfl) (by kernel_rfl) (fun hyx => ?_) (fun hyx => ?_)
    · have em : max x y = y := by simp at hyx; omega
      refine J_reg mixed [.rd 0 [] 0 0, .rd 1 [] 0 0, .rd 2 [] 0 2, .rd 3 [.r 1 (some (.int .i64 y))] 0 0, .rd 4 [] 0 0] [] [0, 1, 4, 5, 6, 7] (E1 := fun _ => [(0, .val (.slice (some (⟨b1, off1, none⟩)) xs.length c)), (1, .val (.slice (some (⟨b2, off2, none⟩)) ys.length d)), (4, .val (.slice none 0 0)), (5, .val (.slice av k cv)), (6, .val (.int .i64 i)), (7, .val (.int .i64 y))]) (h1 := fun _ => []) (p1 := fun _ => [(0 : Int) ≤ i, i < (↑ys.length : Int), cs2[off2 + i.toNat * (1 : Nat)]? = some (Value.int IntKind.i64 y)]) (W1 := []) (by kernel_rfl) (fun _ => by kernel_rfl) (fun _ => ⟨hi0, by omega, hrd2_0, trivial⟩) (fun _ => ?_)
      refine JR_begin mixed [(0, true), (1, true), (2, false), (3, false), (4, true)] [] (by kernel_rfl) (by kernel_rfl) ?_
      refine JR_run (id := 8) (rest := [(3, false), (4, true)]) [.rd 0 [] 0 0, .rd 1 [] 0 0, .wr 2 [] 0] [0, 1, 4, 5, 6, 7, 28, 30] (E1 := fun nu1 => [(0, .val (.slice (some (⟨b1, off1, none⟩)) xs.length c)), (1, .val (.slice (some (⟨b2, off2, none⟩)) ys.length d)), (4, .val (.slice none 0 0)), (5, .val (.slice av k cv)), (6, .val (.int .i64 i)), (7, .val (.int .i64 y)), (28, .val (.slice av k cv)), (30, .val (.slice (some (⟨nu1 0, 0, none⟩)) 1 1))]) (h1 := fun nu1 => [(nu1 0, .cells #[.int .i64 y] 3 (0, 0))]) (p1 := fun nu1 => []) (W1 := []) (fun _ => by kernel_rfl) (fun _ => trivial) (fun nu1 => ?_)
      refine JR_appm 0 22 3 1 8 (.int .i64 0) (a0 := av) (len := k) (cap0 := cv) (ax := (some (⟨nu1 0, 0, none⟩))) (m := 1) (c := 1) (dst := (some 31)) [y] (by kernel_rfl) (by kernel_rfl) (by kernel_rfl) (by kernel_rfl) rfl (by decide) rfl (fun _ _ _ s => src_one s 0 rfl rfl ⟨.inl ⟨rfl, rfl⟩, trivial⟩) (by simp only [maxLen]; omega) (by omega) (fun av1 cv1 => ?_)
      try simp only [List.cons_append, List.nil_append, List.append_nil]
      refine JR_run (id := 8) (rest := []) [.rd 4 [] 0 0] [0, 1, 4, 5, 6, 7] (E1 := fun _ => [(0, .val (.slice (some (⟨b1, off1, none⟩)) xs.length c)), (1, .val (.slice (some (⟨b2, off2, none⟩)) ys.length d)), (4, .val (.slice none 0 0)), (5, .val (.slice av1 (k + 1) cv1)), (6, .val (.int .i64 i)), (7, .val (.int .i64 y))]) (h1 := fun _ => [(nu1 0, .cells #[.int .i64 y] 3 (0, 0))]) (p1 := fun _ => []) (W1 := []) (fun _ => by kernel_rfl) (fun _ => trivial) (fun _ => ?_)
      try simp only [List.cons_append, List.nil_append, List.append_nil]
      refine JR_end ?_
      try simp only [List.cons_append, List.nil_append, List.append_nil]
      refine J_eb ?_
      try simp only [List.cons_append, List.nil_append, List.append_nil]
      refine J_reg mixed [.rd 0 [] 0 0, .rd 1 [] 0 1, .rd 2 [] 0 0] [] [0, 1, 4, 5, 6, 7] (E1 := fun _ => [(0, .val (.slice (some (⟨b1, off1, none⟩)) xs.length c)), (1, .val (.slice (some (⟨b2, off2, none⟩)) ys.length d)), (4, .val (.slice none 0 0)), (5, .val (.slice av1 (k + 1) cv1)), (6, .val (.int .i64 (i + 1))), (7, .val (.int .i64 y))]) (h1 := fun _ => [(nu1 0, .cells #[.int .i64 y] 3 (0, 0))]) (p1 := fun _ => [IntKind.i64.wrap (i + (1 : Int)) = i + (1 : Int)]) (W1 := []) (by kernel_rfl) (fun _ => by kernel_rfl) (fun _ => ⟨wrap_i64 (by omega) (by omega), trivial⟩) (fun _ => ?_)
      try simp only [List.cons_append, List.nil_append, List.append_nil]
      rw [take_snoc hi0 (List.getElem?_zipWith_eq_some.2 ⟨x, y, hx, hy, em⟩)]
      refine J_backx ⟨i + 1, av1, k + 1, cv1⟩ [0, 1, 4, 5, 6] [] [0] [0, 1] ?_ ?_ (by kernel_rfl) rfl rfl rfl
      · exact ⟨by simp only; omega, by simp only; omega⟩
      · simp only
        omega
    · have em : max x y = x := by simp at hyx; omega
      refine J_skip ?_
      refine JR_begin mixed [(0, true), (1, true), (2, false), (3, false), (4, true)] [] (by kernel_rfl) (by kernel_rfl) ?_
      refine JR_run (id := 8) (rest := [(3, false), (4, true)]) [.rd 0 [] 0 0, .rd 1 [] 0 0, .wr 2 [] 0] [0, 1, 4, 5, 6, 7, 28, 30] (E1 := fun nu1 => [(0, .val (.slice (some (⟨b1, off1, none⟩)) xs.length c)), (1, .val (.slice (some (⟨b2, off2, none⟩)) ys.length d)), (4, .val (.slice none 0 0)), (5, .val (.slice av k cv)), (6, .val (.int .i64 i)), (7, .val (.int .i64 x)), (28, .val (.slice av k cv)), (30, .val (.slice (some (⟨nu1 0, 0, none⟩)) 1 1))]) (h1 := fun nu1 => [(nu1 0, .cells #[.int .i64 x] 3 (0, 0))]) (p1 := fun nu1 => []) (W1 := []) (fun _ => by kernel_rfl) (fun _ => trivial) (fun nu1 => ?_)
      refine JR_appm 0 22 3 1 8 (.int .i64 0) (a0 := av) (len := k) (cap0 := cv) (ax := (some (⟨nu1 0, 0, none⟩))) (m := 1) (c := 1) (dst := (some 31)) [x] (by kernel_rfl) (by kernel_rfl) (by kernel_rfl) (by kernel_rfl) rfl (by decide) rfl (fun _ _ _ s => src_one s 0 rfl rfl ⟨.inl ⟨rfl, rfl⟩, trivial⟩) (by simp only [maxLen]; omega) (by omega) (fun av1 cv1 => ?_)
      try simp only [List.cons_append, List.nil_append, List.append_nil]
      refine JR_run (id := 8) (rest := []) [.rd 4 [] 0 0] [0, 1, 4, 5, 6, 7] (E1 := fun _ => [(0, .val (.slice (some (⟨b1, off1, none⟩)) xs.length c)), (1, .val (.slice (some (⟨b2, off2, none⟩)) ys.length d)), (4, .val (.slice none 0 0)), (5, .val (.slice av1 (k + 1) cv1)), (6, .val (.int .i64 i)), (7, .val (.int .i64 x))]) (h1 := fun _ => [(nu1 0, .cells #[.int .i64 x] 3 (0, 0))]) (p1 := fun _ => []) (W1 := []) (fun _ => by kernel_rfl) (fun _ => trivial) (fun _ => ?_)
      try simp only [List.cons_append, List.nil_append, List.append_nil]
      refine JR_end ?_
      try simp only [List.cons_append, List.nil_append, List.append_nil]
      refine J_eb ?_
      try simp only [List.cons_append, List.nil_append, List.append_nil]
      refine J_reg mixed [.rd 0 [] 0 0, .rd 1 [] 0 1, .rd 2 [] 0 0] [] [0, 1, 4, 5, 6, 7] (E1 := fun _ => [(0, .val (.slice (some (⟨b1, off1, none⟩)) xs.length c)), (1, .val (.slice (some (⟨b2, off2, none⟩)) ys.length d)), (4, .val (.slice none 0 0)), (5, .val (.slice av1 (k + 1) cv1)), (6, .val (.int .i64 (i + 1))), (7, .val (.int .i64 x))]) (h1 := fun _ => [(nu1 0, .cells #[.int .i64 x] 3 (0, 0))]) (p1 := fun _ => [IntKind.i64.wrap (i + (1 : Int)) = i + (1 : Int)]) (W1 := []) (by kernel_rfl) (fun _ => by kernel_rfl) (fun _ => ⟨wrap_i64 (by omega) (by omega), trivial⟩) (fun _ => ?_)
      try simp only [List.cons_append, List.nil_append, List.append_nil]
      rw [take_snoc hi0 (List.getElem?_zipWith_eq_some.2 ⟨x, y, hx, hy, em⟩)]
      refine J_backx ⟨i + 1, av1, k + 1, cv1⟩ [0, 1, 4, 5, 6] [] [0] [0, 1] ?_ ?_ (by kernel_rfl) rfl rfl rfl
      · exact ⟨by simp only; omega, by simp only; omega⟩
      · simp only
        omega
  · refine J_exit rfl ?_
    refine J_seq ?_
    refine J_reg mixed [.rd 0 [] 0 0, .rd 1 [] 0 0] [] [4] (E1 := fun _ => [(4, .val (.slice av k cv))]) (h1 := fun _ => []) (p1 := fun _ => []) (W1 := []) (by kernel_rfl) (fun _ => by kernel_rfl) (fun _ => trivial) (fun _ => ?_)
    refine J_return [[]] (.slice av k cv) (by kernel_rfl) (fun a w s => ?_)
    have e : List.take i.toNat (List.zipWith max xs ys) = List.zipWith max xs ys := List.take_of_length_le (by simp at hlt ⊢; omega)
    have s2 := s.stp (stp_freeze 0 rfl)
    rw [e] at s2
    exact ⟨av, k, cv, s2.ret (by simp) [] [2] rfl rfl⟩

theorem rWeight {w : World} {S : Nat → Prop} {a : Option Addr} {n c : Nat} {xs : List Int} (ha : Rep w S (.slice a n c) (dInts xs)) (h2 : vecErr xs = 0) :
    Calls Tryd.prog 27 #[.slice a n c] w fun e w' => Ret [] w S w' e (.int .i64 (sumL xs)) [] [] := by
  obtain rfl := rep_ints_len ha
  have h6 := vecErr_len h2
  refine ep27 (args := [.slice a xs.length c]) (G := [(_, dInts xs)]) (by kernel_rfl) (.cons ha (.nil _ _)) ?_
  refine J_seq ?_
  refine J_reg mixed [.rd 0 [] 0 0] [] [0, 2] (E1 := fun _ => [(0, .val (.slice a xs.length c)), (2, .val (.int .i64 0))]) (h1 := fun _ => []) (p1 := fun _ => []) (W1 := []) (by kernel_rfl) (fun _ => by kernel_rfl) (fun _ => trivial) (fun _ => ?_)
  refine J_seq ?_
  refine J_reg mixed [.rd 0 [] 0 0] [] [0, 2, 3] (E1 := fun _ => [(0, .val (.slice a xs.length c)), (2, .val (.int .i64 0)), (3, .val (.int .i64 0))]) (h1 := fun _ => []) (p1 := fun _ => []) (W1 := []) (by kernel_rfl) (fun _ => by kernel_rfl) (fun _ => trivial) (fun _ => ?_)
  refine J_seq ?_
  refine J_seq ?_
  refine J_reg mixed [.rd 0 [] 0 0] [] [0, 2, 3, 4] (E1 := fun _ => [(0, .val (.slice a xs.length c)), (2, .val (.int .i64 0)), (3, .val (.int .i64 0)), (4, .val (.int .i64 0))]) (h1 := fun _ => []) (p1 := fun _ => []) (W1 := []) (by kernel_rfl) (fun _ => by kernel_rfl) (fun _ => trivial) (fun _ => ?_)
  refine J_block ?_
  refine J_loopx (fun i : Int => [(0, .val (.slice a xs.length c)), (2, .val (.int .i64 0)), (3, .val (.int .i64 (sumL (xs.take i.toNat)))), (4, .val (.int .i64 i))]) (fun i : Int => []) (fun i : Int => []) (fun i : Int => [(.slice a xs.length c, (dInts xs))]) (fun i : Int => (xs.length - i).toNat) (fun i : Int => (0 ≤ i ∧ i ≤ xs.length)) 0 [0, 2, 3, 4] [] [] [0] ?_ (by kernel_rfl) rfl rfl rfl ?_
  · exact ⟨by simp, by omega⟩
  rintro i ⟨hi0, hi⟩
  refine J_seq ?_
  refine J_seq ?_
  refine J_reg mixed [.rd 0 [] 0 0, .rd 1 [] 0 0, .rd 2 [] 0 0, .rd 3 [] 0 0] [] [0, 2, 3, 4, 8] (E1 := fun _ => [(0, .val (.slice a xs.length c)), (2, .val (.int .i64 0)), (3, .val (.int .i64 (sumL (List.take i.toNat xs)))), (4, .val (.int .i64 i)), (8, .val (.bool (decide (i < (↑xs.length : Int)))))]) (h1 := fun _ => []) (p1 := fun _ => []) (W1 := []) (by kernel_rfl) (fun _ => by kernel_rfl) (fun _ => trivial) (fun _ => ?_)
  refine J_cond (t := decide (i < (↑xs.length : Int))) (by kernel_rfl) (by kernel_rfl) (fun hlt => ?_) (fun hlt => ?_)
  · have hlt2 : i < xs.length := by simpa using hlt
    obtain ⟨x, hx⟩ : ∃ x, xs[i.toNat]? = some x := ⟨_, List.getElem?_eq_getElem (by omega)⟩
    have hs := sumL_le (vecErr_in h2) i.toNat
    have hs2 := vecErr_in h2 x (List.mem_of_getElem? hx)
    refine J_read0 0 rfl i.toNat (map_at hx) (by kernel_rfl) (fun b1 off1 cs1 ty1 fz1 ha1 hrd1 => ?_)
    cases ha1
    have hrd1_0 := rd0 (hrd1 0 _ rfl)
    try simp only [List.cons_append, List.nil_append, List.append_nil]
    refine J_skip ?_
    refine J_seq ?_
    refine J_block ?_
    refine J_reg mixed [.rd 0 [] 0 0, .rd 1 [] 0 0, .rd 2 [] 0 0, .rd 3 [] 0 2, .rd 4 [.r 0 (some (.int .i64 x))] 0 0, .rd 5 [] 0 1, .rd 6 [] 0 0] [] [0, 2, 3, 4] (E1 := fun _ => [(0, .val (.slice (some (⟨b1, off1, none⟩)) xs.length c)), (2, .val (.int .i64 0)), (3, .val (.int .i64 (sumL (List.take i.toNat xs) + x))), (4, .val (.int .i64 i))]) (h1 := fun _ => []) (p1 := fun _ => [(0 : Int) ≤ i, i < (↑xs.length : Int), cs1[off1 + i.toNat * (1 : Nat)]? = some (Value.int IntKind.i64 x), IntKind.i64.wrap (sumL (List.take i.toNat xs) + x) = sumL (List.take i.toNat xs) + x]) (W1 := []) (by kernel_rfl) (fun _ => by kernel_rfl) (fun _ => ⟨hi0, hlt2, hrd1_0, wrap_i64 (by omega) (by omega), trivial⟩) (fun _ => ?_)
    refine J_eb ?_
    refine J_reg mixed [.rd 0 [] 0 0, .rd 1 [] 0 1, .rd 2 [] 0 0] [] [0, 2, 3, 4] (E1 := fun _ => [(0, .val (.slice (some (⟨b1, off1, none⟩)) xs.length c)), (2, .val (.int .i64 0)), (3, .val (.int .i64 (sumL (List.take i.toNat xs) + x))), (4, .val (.int .i64 (i + 1)))]) (h1 := fun _ => []) (p1 := fun _ => [IntKind.i64.wrap (i + (1 : Int)) = i + (1 : Int)]) (W1 := []) (by kernel_rfl) (fun _ => by kernel_rfl) (fun _ => ⟨wrap_i64 (by omega) (by omega), trivial⟩) (fun _ => ?_)
    rw [← sumL_snoc, take_snoc hi0 hx]
    refine J_backx (i + 1) [0, 2, 3, 4] [] [] [0] ?_ ?_ (by kernel_rfl) rfl rfl rfl
    · exact ⟨by omega, by omega⟩
    · omega
  · have e : xs.take i.toNat = xs := List.take_of_length_le (by simp at hlt; omega)
    refine J_exit rfl ?_
    refine J_seq ?_
    refine J_reg mixed [.rd 0 [] 0 0, .rd 1 [] 0 0] [] [2] (E1 := fun _ => [(2, .val (.int .i64 (sumL (List.take i.toNat xs))))]) (h1 := fun _ => []) (p1 := fun _ => []) (W1 := []) (by kernel_rfl) (fun _ => by kernel_rfl) (fun _ => trivial) (fun _ => ?_)
    refine J_return [[]] (.int .i64 (sumL (List.take i.toNat xs))) (by kernel_rfl) (fun a w s => ?_)
    rw [e]
    exact s.ret (by simp) [] [] rfl rfl

/-- Which of both: by what is within what. -/
def ordL (xs ys : List Int) : Int := if inL xs ys && inL ys xs then 0 else if inL xs ys then -1 else if inL ys xs then 1 else 2
theorem vorder {w : World} {S : Nat → Prop} {er : Nat → Addr} {a b : Option Addr} {n m c d : Nat} {xs ys : List Int} (hE : AllG w S (globs er)) (ha : Rep w S (.slice a n c) (dInts xs)) (hb : Rep w S (.slice b m d) (dInts ys)) (hl : xs.length ≤ 1000000) (hl2 : ys.length ≤ 1000000) :
    Calls Tryd.prog 18 #[.slice a n c, .slice b m d] w fun e w' =>
      (twoErr xs ys ≠ 0 ∧ Ret [] w S w' e (.tuple #[.int .i64 0, errV 94 er (twoErr xs ys)]) [] []) ∨
      (twoErr xs ys = 0 ∧ Ret [] w S w' e (.tuple #[.int .i64 (ordL xs ys), .nilIface]) [] []) := by
  refine ep18 (args := [.slice a n c, .slice b m d]) (G := globs er ++ [(_, dInts xs), (_, dInts ys)]) (by kernel_rfl) (hE.app (.cons ha (.cons hb (.nil _ _)))) ?_
  try simp only [List.cons_append, List.nil_append, List.append_nil]
  refine J_seq ?_
  refine J_reg mixed [.rd 0 [] 0 0, .rd 1 [] 0 0] [] [0, 1, 4, 5] (E1 := fun _ => [(0, .val (.slice a n c)), (1, .val (.slice b m d)), (4, .val (.int .i64 0)), (5, .val (.nilIface))]) (h1 := fun _ => []) (p1 := fun _ => []) (W1 := []) (by kernel_rfl) (fun _ => by kernel_rfl) (fun _ => trivial) (fun _ => ?_)
  refine J_seq ?_
  refine J_seq ?_
  refine JR_begin mixed [(0, true), (1, true), (2, false), (3, true)] [] (by kernel_rfl) (by kernel_rfl) ?_
  refine JR_run (id := 1) (rest := [(2, false), (3, true)]) [.rd 0 [] 0 0, .rd 1 [] 0 0] [0, 1, 4, 5, 9, 10] (E1 := fun _ => [(0, .val (.slice a n c)), (1, .val (.slice b m d)), (4, .val (.int .i64 0)), (5, .val (.nilIface)), (9, .val (.slice a n c)), (10, .val (.slice b m d))]) (h1 := fun _ => []) (p1 := fun _ => []) (W1 := []) (fun _ => by kernel_rfl) (fun _ => trivial) (fun _ => ?_)
  refine JR_callp [] 48 #[.slice a n c, .slice b m d] (some 11) (by kernel_rfl) (fun w S hG => ?_)
  refine (vtwo (hG.pick [0, 1, 2] rfl) (hG.at 3 rfl) (hG.at 4 rfl) hl hl2).mono ?_
  rintro e w2 ⟨v, hR, ⟨h2, rfl⟩ | ⟨h2, rfl⟩⟩
  · refine ⟨_, _, _, hR, ?_⟩
    have hxy := (twoErr_fine h2).2.2
    try simp only [List.cons_append, List.nil_append, List.append_nil]
    refine JR_run (id := 1) (rest := []) [.rd 3 [] 0 0] [0, 1, 4, 5, 6] (E1 := fun _ => [(0, .val (.slice a n c)), (1, .val (.slice b m d)), (4, .val (.int .i64 0)), (5, .val (.nilIface)), (6, .val (.nilIface))]) (h1 := fun _ => []) (p1 := fun _ => []) (W1 := []) (fun _ => by kernel_rfl) (fun _ => trivial) (fun _ => ?_)
    refine JR_end ?_
    refine J_seq ?_
    refine J_reg mixed [.rd 0 [] 0 0, .rd 1 [] 0 0] [] [0, 1, 4, 5, 6, 13] (E1 := fun _ => [(0, .val (.slice a n c)), (1, .val (.slice b m d)), (4, .val (.int .i64 0)), (5, .val (.nilIface)), (6, .val (.nilIface)), (13, .val (.bool false))]) (h1 := fun _ => []) (p1 := fun _ => []) (W1 := []) (by kernel_rfl) (fun _ => by kernel_rfl) (fun _ => trivial) (fun _ => ?_)
    refine J_cond_f (by kernel_rfl) (by kernel_rfl) ?_
    refine J_skip ?_
    refine J_seq ?_
    refine J_seq ?_
    refine JR_begin mixed [(0, true), (1, true), (2, false), (3, true), (4, true), (5, false), (6, true), (7, true)] [] (by kernel_rfl) (by kernel_rfl) ?_
    refine JR_run (id := 4) (rest := [(2, false), (3, true), (4, true), (5, false), (6, true), (7, true)]) [.rd 0 [] 0 0, .rd 1 [] 0 0] [0, 1, 4, 5, 15, 16] (E1 := fun _ => [(0, .val (.slice a n c)), (1, .val (.slice b m d)), (4, .val (.int .i64 0)), (5, .val (.nilIface)), (15, .val (.slice a n c)), (16, .val (.slice b m d))]) (h1 := fun _ => []) (p1 := fun _ => []) (W1 := []) (fun _ => by kernel_rfl) (fun _ => trivial) (fun _ => ?_)
    refine JR_callp [] 49 #[.slice a n c, .slice b m d] (some 17) (by kernel_rfl) (fun w S hG => ?_)
    refine (vin (hG.at 3 rfl) (hG.at 4 rfl) hl hxy).mono ?_
    rintro e w3 hR
    refine ⟨_, _, _, hR, ?_⟩
    try simp only [List.cons_append, List.nil_append, List.append_nil]
    refine JR_run (id := 4) (rest := [(5, false), (6, true), (7, true)]) [.rd 3 [] 0 0, .rd 4 [] 0 0] [4, 5, 17, 18, 19] (E1 := fun _ => [(4, .val (.int .i64 0)), (5, .val (.nilIface)), (17, .val (.bool (inL xs ys))), (18, .val (.slice b m d)), (19, .val (.slice a n c))]) (h1 := fun _ => []) (p1 := fun _ => []) (W1 := []) (fun _ => by kernel_rfl) (fun _ => trivial) (fun _ => ?_)
    refine JR_callp [] 49 #[.slice b m d, .slice a n c] (some 20) (by kernel_rfl) (fun w S hG => ?_)
    refine (vin (hG.at 4 rfl) (hG.at 3 rfl) hl2 hxy.symm).mono ?_
    rintro e w4 hR
    refine ⟨_, _, _, hR, ?_⟩
    try simp only [List.cons_append, List.nil_append, List.append_nil]
    refine JR_run (id := 4) (rest := []) [.rd 6 [] 0 0, .rd 7 [] 0 0] [4, 5, 7, 8] (E1 := fun _ => [(4, .val (.int .i64 0)), (5, .val (.nilIface)), (7, .val (.bool (inL xs ys))), (8, .val (.bool (inL ys xs)))]) (h1 := fun _ => []) (p1 := fun _ => []) (W1 := []) (fun _ => by kernel_rfl) (fun _ => trivial) (fun _ => ?_)
    refine JR_end ?_
    refine J_block ?_
    refine J_seq ?_
    refine J_reg mixed [.rd 0 [] 0 0, .rd 1 [] 0 0, .rd 2 [] 2 0, .rd 3 [] 0 3, .rd 4 [] 0 0] [] [4, 5, 7, 8, 21] (E1 := fun _ => [(4, .val (.int .i64 0)), (5, .val (.nilIface)), (7, .val (.bool (inL xs ys))), (8, .val (.bool (inL ys xs))), (21, .val (.bool (inL xs ys && inL ys xs)))]) (h1 := fun _ => []) (p1 := fun _ => []) (W1 := []) (by kernel_rfl) (fun _ => by kernel_rfl) (fun _ => trivial) (fun _ => ?_)
    refine J_cond (t := inL xs ys && inL ys xs) (by kernel_rfl) (by kernel_rfl) (fun h3 => ?_) (fun h3 => ?_)
    · refine J_seq ?_
      refine J_reg mixed [.rd 0 [] 0 0, .rd 1 [] 0 0] [] [4, 5] (E1 := fun _ => [(4, .val (.int .i64 0)), (5, .val (.nilIface))]) (h1 := fun _ => []) (p1 := fun _ => []) (W1 := []) (by kernel_rfl) (fun _ => by kernel_rfl) (fun _ => trivial) (fun _ => ?_)
      refine J_return [[], []] (.tuple #[.int .i64 0, .nilIface]) (by kernel_rfl) (fun a w s => ?_)
      refine .inr ⟨h2, ?_⟩
      have e1 : ordL xs ys = 0 := by rw [ordL, if_pos h3]
      rw [e1]
      exact s.ret (by simp) [] [] rfl rfl
    · refine J_seq ?_
      refine J_reg mixed [.rd 0 [] 0 0, .rd 1 [] 0 0] [] [4, 5, 8, 26] (E1 := fun _ => [(4, .val (.int .i64 0)), (5, .val (.nilIface)), (8, .val (.bool (inL ys xs))), (26, .val (.bool (inL xs ys)))]) (h1 := fun _ => []) (p1 := fun _ => []) (W1 := []) (by kernel_rfl) (fun _ => by kernel_rfl) (fun _ => trivial) (fun _ => ?_)
      refine J_cond (t := inL xs ys) (by kernel_rfl) (by kernel_rfl) (fun h4 => ?_) (fun h4 => ?_)
      · refine J_seq ?_
        refine J_reg mixed [.rd 0 [] 0 0, .rd 1 [] 0 0] [] [4, 5] (E1 := fun _ => [(4, .val (.int .i64 (-1))), (5, .val (.nilIface))]) (h1 := fun _ => []) (p1 := fun _ => []) (W1 := []) (by kernel_rfl) (fun _ => by kernel_rfl) (fun _ => trivial) (fun _ => ?_)
        refine J_return [[], []] (.tuple #[.int .i64 (-1), .nilIface]) (by kernel_rfl) (fun a w s => ?_)
        refine .inr ⟨h2, ?_⟩
        have e1 : ordL xs ys = -1 := by rw [ordL, if_neg (by simp [h3]), if_pos h4]
        rw [e1]
        exact s.ret (by simp) [] [] rfl rfl
      · refine J_seq ?_
        refine J_reg mixed [.rd 0 [] 0 0, .rd 1 [] 0 0] [] [4, 5, 28] (E1 := fun _ => [(4, .val (.int .i64 0)), (5, .val (.nilIface)), (28, .val (.bool (inL ys xs)))]) (h1 := fun _ => []) (p1 := fun _ => []) (W1 := []) (by kernel_rfl) (fun _ => by kernel_rfl) (fun _ => trivial) (fun _ => ?_)
        refine J_cond (t := inL ys xs) (by kernel_rfl) (by kernel_rfl) (fun h5 => ?_) (fun h5 => ?_)
        · refine J_seq ?_
          refine J_reg mixed [.rd 0 [] 0 0, .rd 1 [] 0 0] [] [4, 5] (E1 := fun _ => [(4, .val (.int .i64 1)), (5, .val (.nilIface))]) (h1 := fun _ => []) (p1 := fun _ => []) (W1 := []) (by kernel_rfl) (fun _ => by kernel_rfl) (fun _ => trivial) (fun _ => ?_)
          refine J_return [[], []] (.tuple #[.int .i64 1, .nilIface]) (by kernel_rfl) (fun a w s => ?_)
          refine .inr ⟨h2, ?_⟩
          have e1 : ordL xs ys = 1 := by rw [ordL, if_neg (by simp [h3]), if_neg (by simp [h4]), if_pos h5]
          rw [e1]
          exact s.ret (by simp) [] [] rfl rfl
        · refine J_skip ?_
          refine J_eb ?_
          refine J_seq ?_
          refine J_reg mixed [.rd 0 [] 0 0, .rd 1 [] 0 0] [] [4, 5] (E1 := fun _ => [(4, .val (.int .i64 2)), (5, .val (.nilIface))]) (h1 := fun _ => []) (p1 := fun _ => []) (W1 := []) (by kernel_rfl) (fun _ => by kernel_rfl) (fun _ => trivial) (fun _ => ?_)
          refine J_return [[], []] (.tuple #[.int .i64 2, .nilIface]) (by kernel_rfl) (fun a w s => ?_)
          refine .inr ⟨h2, ?_⟩
          have e1 : ordL xs ys = 2 := by rw [ordL, if_neg (by simp [h3]), if_neg (by simp [h4]), if_neg (by simp [h5])]
          rw [e1]
          exact s.ret (by simp) [] [] rfl rfl
  · refine ⟨_, _, _, hR, ?_⟩
    try simp only [List.cons_append, List.nil_append, List.append_nil]
    refine JR_run (id := 1) (rest := []) [.rd 3 [] 0 0] [0, 1, 4, 5, 6] (E1 := fun _ => [(0, .val (.slice a n c)), (1, .val (.slice b m d)), (4, .val (.int .i64 0)), (5, .val (.nilIface)), (6, .val (.iface 94 (.pointer (some (er (twoErr xs ys))))))]) (h1 := fun _ => []) (p1 := fun _ => []) (W1 := []) (fun _ => by kernel_rfl) (fun _ => trivial) (fun _ => ?_)
    refine JR_end ?_
    refine J_seq ?_
    refine J_reg mixed [.rd 0 [] 0 0, .rd 1 [] 0 0] [] [0, 1, 4, 5, 6, 13] (E1 := fun _ => [(0, .val (.slice a n c)), (1, .val (.slice b m d)), (4, .val (.int .i64 0)), (5, .val (.nilIface)), (6, .val (.iface 94 (.pointer (some (er (twoErr xs ys)))))), (13, .val (.bool true))]) (h1 := fun _ => []) (p1 := fun _ => []) (W1 := []) (by kernel_rfl) (fun _ => by kernel_rfl) (fun _ => trivial) (fun _ => ?_)
    refine J_cond_t (by kernel_rfl) (by kernel_rfl) ?_
    refine J_seq ?_
    refine J_reg mixed [.rd 0 [] 0 0, .rd 1 [] 0 0, .rd 2 [] 0 0] [] [0, 1, 4, 5] (E1 := fun _ => [(0, .val (.slice a n c)), (1, .val (.slice b m d)), (4, .val (.int .i64 0)), (5, .val (.iface 94 (.pointer (some (er (twoErr xs ys))))))]) (h1 := fun _ => []) (p1 := fun _ => []) (W1 := []) (by kernel_rfl) (fun _ => by kernel_rfl) (fun _ => trivial) (fun _ => ?_)
    refine J_return [[], []] (.tuple #[.int .i64 0, .iface 94 (.pointer (some (er (twoErr xs ys))))]) (by kernel_rfl) (fun a w s => ?_)
    exact .inl ⟨h2, s.ret (by simp) [] [] rfl rfl⟩
end Go.Proofs.YtibkfmobofikmaaDoor
