/- values.CheckCommit: what is wrong with a commit, and where? -/
import Derived.Test.YtpjkiomccpjboaaGreatDoorOpErr2
import Derived.Test.YtpjkiomccpjboaaGreatDoorFault
import Derived.Test.YtpjkiomccpjboaaGreatDoorMsg2
namespace Go.Proofs.YtpjkiomccpjboaaGreatDoor
open Go Go.Sx

/-- The error of op i, behind the op ahead of it. -/
def opErrAt (l : List OpT) (places : Int) (i : Nat) : Nat :=
  match l[i]? with
  | none => 0
  | some o => if opErr o places ≠ 0 then opErr o places else match i, l[i - 1]? with
      | _ + 1, some p => if o.no ≤ p.no then 3 else 0
      | _, _ => 0
/-- A number, and where. -/
structure FT where
  code : Nat
  at' : Int
def opsFault (l : List OpT) (places : Int) : Nat → Nat → FT
  | 0, _ => ⟨0, -1⟩
  | n + 1, i => if opErrAt l places i = 0 then opsFault l places n (i + 1) else ⟨opErrAt l places i, i⟩
def comFault (c : ComT) : FT :=
  if vecErr c.when ≠ 0 then ⟨vecErr c.when, -1⟩
  else if c.place < 0 ∨ c.when.length ≤ c.place ∨ 12 < c.ops.length then ⟨2, -1⟩
  else if c.when[c.place.toNat]? = some 0 then ⟨2, -1⟩
  else if c.ops.length = 0 then ⟨3, -1⟩
  else opsFault c.ops c.when.length c.ops.length 0
theorem opsFault_from {l : List OpT} {places : Int} : ∀ (n k i : Nat), k ≤ i → (∀ j, k ≤ j → j < i → opErrAt l places j = 0) → (i = k + n → opsFault l places n k = ⟨0, -1⟩) ∧ (i < k + n → opErrAt l places i ≠ 0 → opsFault l places n k = ⟨opErrAt l places i, i⟩)
  | 0, k, i, hk, _ => ⟨fun _ => rfl, fun h => by omega⟩
  | n + 1, k, i, hk, h => by
    rcases Nat.eq_or_lt_of_le hk with rfl | hlt
    · refine ⟨fun he => by omega, fun _ hne => ?_⟩
      rw [opsFault, if_neg hne]
    · obtain ⟨h1, h2⟩ := opsFault_from n (k + 1) i hlt fun j hj1 hj2 => h j (by omega) hj2
      rw [opsFault, if_pos (h k (Nat.le_refl _) hlt)]
      exact ⟨fun he => h1 (by omega), fun he => h2 (by omega)⟩
theorem opErr_le (o : OpT) (p : Int) : opErr o p ≤ 12 := by
  unfold opErr
  repeat' split
  all_goals omega
theorem opErrAt_le (l : List OpT) (p : Int) (i : Nat) : opErrAt l p i ≤ 12 := by
  unfold opErrAt
  split
  · omega
  · rename_i o _
    have := opErr_le o p
    split
    · exact this
    · split
      · split <;> omega
      · omega
theorem opsFault_code (l : List OpT) (p : Int) : ∀ n k, (opsFault l p n k).code ≤ 12
  | 0, _ => by simp [opsFault]
  | n + 1, k => by
    unfold opsFault
    split
    · exact opsFault_code l p n (k + 1)
    · exact opErrAt_le l p k
theorem opErrAt_own {l : List OpT} {p : Int} {i : Nat} {o : OpT} (h : l[i]? = some o) (he : opErr o p ≠ 0) : opErrAt l p i = opErr o p := by
  unfold opErrAt
  simp only [h, if_pos he]
theorem opErrAt_first {l : List OpT} {p : Int} {o : OpT} (h : l[0]? = some o) (he : opErr o p = 0) : opErrAt l p 0 = 0 := by
  unfold opErrAt
  simp [h, he]
theorem opErrAt_next {l : List OpT} {p : Int} {i : Nat} {o q : OpT} (h : l[i + 1]? = some o) (hq : l[i]? = some q) (he : opErr o p = 0) : opErrAt l p (i + 1) = if o.no ≤ q.no then 3 else 0 := by
  unfold opErrAt
  simp [h, hq, he]
abbrev fA (f : FT) : Value := .agg #[.int .i64 f.code, .int .i64 f.at']

theorem rVecErr {w : World} {S : Nat → Prop} {a : Option Addr} {n c : Nat} {xs : List Int} (ha : Rep w S (.slice a n c) (dInts xs)) (hl : xs.length ≤ 1000000) :
    Calls Tryz.prog 43 #[.slice a n c] w fun e w' => Ret [] w S w' e (.int .i64 (vecErr xs)) [] [] := by
  obtain rfl := rep_ints_len ha
  refine ep43 (args := [.slice a xs.length c]) (G := [(_, dInts xs)]) (by kernel_rfl) (.cons ha (.nil _ _)) ?_
  refine J_seq ?_
  refine J_reg mixed [.rd 0 [] 0 0] [] [0, 2] (E1 := fun _ => [(0, .val (.slice a xs.length c)), (2, .val (.int .i64 0))]) (h1 := fun _ => []) (p1 := fun _ => []) (W1 := []) (by kernel_rfl) (fun _ => by kernel_rfl) (fun _ => trivial) (fun _ => ?_)
  refine J_seq ?_
  refine J_seq ?_
  refine J_reg mixed [.rd 0 [] 0 0, .rd 1 [] 0 0, .rd 2 [] 0 0, .rd 3 [] 0 0, .rd 4 [] 2 0, .rd 5 [] 2 0, .rd 6 [] 2 0, .rd 7 [] 0 3] [] [0, 2, 11] (E1 := fun _ => [(0, .val (.slice a xs.length c)), (2, .val (.int .i64 0)), (11, .val (.bool (decide ((↑xs.length : Int) < 1) || decide ((↑xs.length : Int) > 6))))]) (h1 := fun _ => []) (p1 := fun _ => []) (W1 := []) (by kernel_rfl) (fun _ => by kernel_rfl) (fun _ => trivial) (fun _ => ?_)
  refine J_cond (t := decide ((↑xs.length : Int) < 1) || decide ((↑xs.length : Int) > 6)) (by kernel_rfl) (by kernel_rfl) (fun hn => ?_) (fun hn => ?_)
  · refine J_seq ?_
    refine J_reg mixed [.rd 0 [] 0 0] [] [0, 2] (E1 := fun _ => [(0, .val (.slice a xs.length c)), (2, .val (.int .i64 3))]) (h1 := fun _ => []) (p1 := fun _ => []) (W1 := []) (by kernel_rfl) (fun _ => by kernel_rfl) (fun _ => trivial) (fun _ => ?_)
    refine J_return [[]] (.int .i64 3) (by kernel_rfl) (fun a w s => ?_)
    have e1 : vecErr xs = 3 := by rw [vecErr, if_pos (by simp at hn; omega)]
    rw [e1]
    exact s.ret (by simp) [] [] rfl rfl
  · have hn2 : ¬ (xs.length < 1 ∨ 6 < xs.length) := by simp at hn; omega
    refine J_skip ?_
    refine J_seq ?_
    refine J_seq ?_
    refine J_reg mixed [.rd 0 [] 0 0] [] [0, 2, 3] (E1 := fun _ => [(0, .val (.slice a xs.length c)), (2, .val (.int .i64 0)), (3, .val (.int .i64 0))]) (h1 := fun _ => []) (p1 := fun _ => []) (W1 := []) (by kernel_rfl) (fun _ => by kernel_rfl) (fun _ => trivial) (fun _ => ?_)
    refine J_block ?_
    refine J_loopx (fun i : Int => [(0, .val (.slice a xs.length c)), (2, .val (.int .i64 0)), (3, .val (.int .i64 i))]) (fun i : Int => []) (fun i : Int => []) (fun i : Int => [(.slice a xs.length c, (dInts xs))]) (fun i : Int => (xs.length - i).toNat) (fun i : Int => (0 ≤ i ∧ i ≤ xs.length ∧ ∀ j : Nat, j < i.toNat → ∀ t, xs[j]? = some t → badT t = false)) 0 [0, 2, 3] [] [] [0] ?_ (by kernel_rfl) rfl rfl rfl ?_
    · exact ⟨by simp, by omega, by simp⟩
    rintro i ⟨hi0, hi, hno⟩
    refine J_seq ?_
    refine J_seq ?_
    refine J_reg mixed [.rd 0 [] 0 0, .rd 1 [] 0 0, .rd 2 [] 0 0, .rd 3 [] 0 0] [] [0, 2, 3, 15] (E1 := fun _ => [(0, .val (.slice a xs.length c)), (2, .val (.int .i64 0)), (3, .val (.int .i64 i)), (15, .val (.bool (decide (i < (↑xs.length : Int)))))]) (h1 := fun _ => []) (p1 := fun _ => []) (W1 := []) (by kernel_rfl) (fun _ => by kernel_rfl) (fun _ => trivial) (fun _ => ?_)
    refine J_cond (t := decide (i < (↑xs.length : Int))) (by kernel_rfl) (by kernel_rfl) (fun hlt => ?_) (fun hlt => ?_)
    · have hlt2 : i < xs.length := by simpa using hlt
      obtain ⟨x, hx⟩ : ∃ x, xs[i.toNat]? = some x := ⟨_, List.getElem?_eq_getElem (by omega)⟩
      refine J_read0 0 rfl i.toNat (map_at hx) (by kernel_rfl) (fun b1 off1 cs1 ty1 fz1 ha1 hrd1 => ?_)
      cases ha1
      have hrd1_0 := rd0 (hrd1 0 _ rfl)
      try simp only [List.cons_append, List.nil_append, List.append_nil]
      refine J_skip ?_
      refine J_seq ?_
      refine J_block ?_
      refine J_seq ?_
      refine J_reg mixed [.rd 0 [] 0 0, .rd 1 [] 0 0, .rd 2 [] 0 2, .rd 3 [.r 0 (some (.int .i64 x))] 0 0, .rd 4 [] 0 0, .rd 5 [] 0 0, .rd 6 [] 2 0, .rd 7 [] 2 0, .rd 8 [] 2 2, .rd 9 [.r 0 (some (.int .i64 x))] 2 0, .rd 10 [] 2 0, .rd 11 [] 0 3] [] [0, 2, 3, 29] (E1 := fun _ => [(0, .val (.slice (some (⟨b1, off1, none⟩)) xs.length c)), (2, .val (.int .i64 0)), (3, .val (.int .i64 i)), (29, .val (.bool (decide (x < 0) || decide (x > 1099511627776))))]) (h1 := fun _ => []) (p1 := fun _ => [(0 : Int) ≤ i, i < (↑xs.length : Int), cs1[off1 + i.toNat * (1 : Nat)]? = some (Value.int IntKind.i64 x), (decide (x < 0)) = false → (0 : Int) ≤ i, (decide (x < 0)) = false → i < (↑xs.length : Int), (decide (x < 0)) = false → cs1[off1 + i.toNat * (1 : Nat)]? = some (Value.int IntKind.i64 x)]) (W1 := []) (by kernel_rfl) (fun _ => by kernel_rfl) (fun _ => ⟨hi0, hlt2, hrd1_0, (fun _ => hi0), (fun _ => hlt2), (fun _ => hrd1_0), trivial⟩) (fun _ => ?_)
      refine J_cond (t := decide (x < 0) || decide (x > 1099511627776)) (by kernel_rfl) (by kernel_rfl) (fun hb => ?_) (fun hb => ?_)
      · refine J_seq ?_
        refine J_reg mixed [.rd 0 [] 0 0] [] [0, 2, 3] (E1 := fun _ => [(0, .val (.slice (some (⟨b1, off1, none⟩)) xs.length c)), (2, .val (.int .i64 2)), (3, .val (.int .i64 i))]) (h1 := fun _ => []) (p1 := fun _ => []) (W1 := []) (by kernel_rfl) (fun _ => by kernel_rfl) (fun _ => trivial) (fun _ => ?_)
        refine J_return [[]] (.int .i64 2) (by kernel_rfl) (fun a w s => ?_)
        have e1 : vecErr xs = 2 := by rw [vecErr, if_neg hn2, if_pos (List.any_eq_true.2 ⟨x, List.mem_of_getElem? hx, hb⟩)]
        rw [e1]
        exact s.ret (by simp) [] [] rfl rfl
      · refine J_skip ?_
        refine J_eb ?_
        refine J_reg mixed [.rd 0 [] 0 0, .rd 1 [] 0 1, .rd 2 [] 0 0] [] [0, 2, 3] (E1 := fun _ => [(0, .val (.slice (some (⟨b1, off1, none⟩)) xs.length c)), (2, .val (.int .i64 0)), (3, .val (.int .i64 (i + 1)))]) (h1 := fun _ => []) (p1 := fun _ => [IntKind.i64.wrap (i + (1 : Int)) = i + (1 : Int)]) (W1 := []) (by kernel_rfl) (fun _ => by kernel_rfl) (fun _ => ⟨wrap_i64 (by omega) (by omega), trivial⟩) (fun _ => ?_)
        refine J_backx (i + 1) [0, 2, 3] [] [] [0] ?_ ?_ (by kernel_rfl) rfl rfl rfl
        · refine ⟨by omega, by omega, fun j hj t ht => ?_⟩
          by_cases hji : j = i.toNat
          · subst hji
            rw [hx] at ht
            cases ht
            exact hb
          · exact hno j (by omega) t ht
        · omega
    · refine J_exit rfl ?_
      refine J_seq ?_
      refine J_reg mixed [.rd 0 [] 0 0] [] [2] (E1 := fun _ => [(2, .val (.int .i64 0))]) (h1 := fun _ => []) (p1 := fun _ => []) (W1 := []) (by kernel_rfl) (fun _ => by kernel_rfl) (fun _ => trivial) (fun _ => ?_)
      refine J_return [[]] (.int .i64 0) (by kernel_rfl) (fun a w s => ?_)
      have e1 : vecErr xs = 0 := by
        rw [vecErr, if_neg hn2, if_neg]
        rw [Bool.not_eq_true, List.any_eq_false]
        intro t ht
        obtain ⟨j, hj⟩ := List.getElem?_of_mem ht
        have hjl := (List.getElem?_eq_some_iff.1 hj).1
        simp [hno j (by simp at hlt; omega) t hj]
      rw [e1]
      exact s.ret (by simp) [] [] rfl rfl

theorem rBare {w : World} {S : Nat → Prop} {c : Int} : Calls Tryz.prog 26 #[.int .i64 c] w fun e w' => Ret [] w S w' e (.agg #[.int .i64 c, .int .i64 (-1)]) [] [] := by
  refine ep26 (args := [.int .i64 c]) (G := []) (by kernel_rfl) (AllG.nil w S) ?_
  refine J_seq ?_
  refine J_reg mixed [.wr 0 [] 0] [] [0, 2] (E1 := fun nu1 => [(0, .val (.int .i64 c)), (2, .val (.pointer (some (⟨nu1 0, 0, none⟩))))]) (h1 := fun nu1 => [(nu1 0, .cells #[.int .i64 0, .int .i64 0] 40 (0, 0))]) (p1 := fun nu1 => []) (W1 := []) (by kernel_rfl) (fun _ => by kernel_rfl) (fun _ => trivial) (fun nu1 => ?_)
  refine J_seq ?_
  refine J_reg mixed [.rd 0 [] 0 0, .rd 1 [] 0 0, .wr 2 [.o 0 none, .o 0 none] 0] [(2, [0])] [2] (E1 := fun _ => [(2, .val (.pointer (some (⟨nu1 0, 0, none⟩))))]) (h1 := fun _ => [(nu1 0, .cells #[.int .i64 c, .int .i64 (-1)] 40 (0, 0))]) (p1 := fun _ => []) (W1 := []) (by kernel_rfl) (fun _ => by kernel_rfl) (fun _ => trivial) (fun _ => ?_)
  refine J_return [[.o 0 none, .o 0 none]] (.agg #[.int .i64 c, .int .i64 (-1)]) (by kernel_rfl) (fun a w s => ?_)
  exact s.ret (by simp) [] [] rfl rfl
theorem rFine {w : World} {S : Nat → Prop} : Calls Tryz.prog 60 #[] w fun e w' => Ret [] w S w' e (.agg #[.int .i64 0, .int .i64 (-1)]) [] [] := by
  refine ep60 (args := []) (G := []) (by kernel_rfl) (AllG.nil w S) ?_
  refine J_seq ?_
  refine J_reg mixed [.wr 0 [] 0] [] [0] (E1 := fun nu1 => [(0, .val (.pointer (some (⟨nu1 0, 0, none⟩))))]) (h1 := fun nu1 => [(nu1 0, .cells #[.int .i64 0, .int .i64 0] 40 (0, 0))]) (p1 := fun nu1 => []) (W1 := []) (by kernel_rfl) (fun _ => by kernel_rfl) (fun _ => trivial) (fun nu1 => ?_)
  refine J_seq ?_
  refine J_reg mixed [.rd 0 [] 0 0, .wr 1 [.o 0 none, .o 0 none] 0] [(1, [0])] [0] (E1 := fun _ => [(0, .val (.pointer (some (⟨nu1 0, 0, none⟩))))]) (h1 := fun _ => [(nu1 0, .cells #[.int .i64 0, .int .i64 (-1)] 40 (0, 0))]) (p1 := fun _ => []) (W1 := []) (by kernel_rfl) (fun _ => by kernel_rfl) (fun _ => trivial) (fun _ => ?_)
  refine J_return [[.o 0 none, .o 0 none]] (.agg #[.int .i64 0, .int .i64 (-1)]) (by kernel_rfl) (fun a w s => ?_)
  exact s.ret (by simp) [] [] rfl rfl

set_option maxHeartbeats 2000000 in
theorem commitFault {w : World} {S : Nat → Prop} {a1 a2 : Option Addr} {n1 c1 n2 c2 : Nat} {c : ComT} (h1 : Rep w S (.slice a1 n1 c1) (dInts c.when)) (h2 : Rep w S (.slice a2 n2 c2) (.sl 7 (c.ops.map eOp))) (hl1 : c.when.length ≤ 1000000) (hl2 : c.ops.length ≤ 1000000) :
    Calls Tryz.prog 19 #[.agg #[.slice a1 n1 c1, .int .i64 c.place, .slice a2 n2 c2]] w fun e w' => Ret [] w S w' e (fA (comFault c)) [] [] := by
  obtain rfl := rep_ints_len h1
  have e2 := h2.slen
  rw [List.length_map] at e2
  subst e2
  refine ep19 (args := [.agg #[.slice a1 c.when.length c1, .int .i64 c.place, .slice a2 c.ops.length c2]]) (G := [(_, dInts c.when), (_, .sl 7 (c.ops.map eOp))]) (by kernel_rfl) (.cons h1 (.cons h2 (.nil _ _))) ?_
  refine J_seq ?_
  refine J_reg mixed [.wr 0 [] 0, .wr 1 [] 0] [] [1, 2] (E1 := fun nu1 => [(1, .val (.pointer (some (⟨nu1 0, 0, none⟩)))), (2, .val (.pointer (some (⟨nu1 1, 0, none⟩))))]) (h1 := fun nu1 => [(nu1 0, .cells #[.slice a1 c.when.length c1, .int .i64 c.place, .slice a2 c.ops.length c2] 28 (0, 0)), (nu1 1, .cells #[.int .i64 0, .int .i64 0] 40 (0, 0))]) (p1 := fun nu1 => []) (W1 := []) (by kernel_rfl) (fun _ => by kernel_rfl) (fun _ => trivial) (fun nu1 => ?_)
  refine J_seq ?_
  refine JR_begin mixed [(0, true), (1, true), (2, false), (3, true)] [] (by kernel_rfl) (by kernel_rfl) ?_
  refine JR_run (id := 1) (rest := [(2, false), (3, true)]) [.rd 0 [] 0 0, .rd 1 [.o 0 none] 0 0] [1, 2, 7] (E1 := fun _ => [(1, .val (.pointer (some (⟨nu1 0, 0, none⟩)))), (2, .val (.pointer (some (⟨nu1 1, 0, none⟩)))), (7, .val (.slice a1 c.when.length c1))]) (h1 := fun _ => [(nu1 0, .cells #[.slice a1 c.when.length c1, .int .i64 c.place, .slice a2 c.ops.length c2] 28 (0, 0)), (nu1 1, .cells #[.int .i64 0, .int .i64 0] 40 (0, 0))]) (p1 := fun _ => []) (W1 := []) (fun _ => by kernel_rfl) (fun _ => trivial) (fun _ => ?_)
  refine JR_callp [] 43 #[.slice a1 c.when.length c1] (some 8) (by kernel_rfl) (fun w S hG => ?_)
  refine (rVecErr (hG.at 0 rfl) hl1).mono ?_
  rintro e1 w1 hR
  refine ⟨_, _, _, hR, ?_⟩
  by_cases hv : vecErr c.when = 0
  · try simp only [List.cons_append, List.nil_append, List.append_nil]
    refine JR_run (id := 1) (rest := []) [.rd 3 [] 0 0] [1, 2, 3] (E1 := fun _ => [(1, .val (.pointer (some (⟨nu1 0, 0, none⟩)))), (2, .val (.pointer (some (⟨nu1 1, 0, none⟩)))), (3, .val (.int .i64 ((↑(vecErr c.when) : Int))))]) (h1 := fun _ => [(nu1 0, .cells #[.slice a1 c.when.length c1, .int .i64 c.place, .slice a2 c.ops.length c2] 28 (0, 0)), (nu1 1, .cells #[.int .i64 0, .int .i64 0] 40 (0, 0))]) (p1 := fun _ => []) (W1 := []) (fun _ => by kernel_rfl) (fun _ => trivial) (fun _ => ?_)
    refine JR_end ?_
    refine J_seq ?_
    refine J_seq ?_
    refine J_reg mixed [.rd 0 [] 0 0, .rd 1 [] 0 7] [] [1, 2, 3, 10] (E1 := fun _ => [(1, .val (.pointer (some (⟨nu1 0, 0, none⟩)))), (2, .val (.pointer (some (⟨nu1 1, 0, none⟩)))), (3, .val (.int .i64 ((↑(vecErr c.when) : Int)))), (10, .val (.bool false))]) (h1 := fun _ => [(nu1 0, .cells #[.slice a1 c.when.length c1, .int .i64 c.place, .slice a2 c.ops.length c2] 28 (0, 0)), (nu1 1, .cells #[.int .i64 0, .int .i64 0] 40 (0, 0))]) (p1 := fun _ => [decide ((↑(vecErr c.when) : Int) > (0 : Int)) = false]) (W1 := []) (by kernel_rfl) (fun _ => by kernel_rfl) (fun _ => ⟨by simp; omega, trivial⟩) (fun _ => ?_)
    refine J_cond_f (by kernel_rfl) (by kernel_rfl) ?_
    refine J_skip ?_
    refine J_seq ?_
    refine J_seq ?_
    refine J_reg mixed [.rd 0 [] 0 0, .rd 1 [.o 0 none] 0 0, .rd 2 [] 0 0, .rd 3 [] 0 0, .rd 4 [] 2 0, .rd 5 [.o 0 none] 2 0, .rd 6 [] 2 0, .rd 7 [.o 0 none] 2 0, .rd 8 [] 2 0, .rd 9 [] 2 0, .rd 10 [] 0 3, .rd 11 [] 0 0, .rd 12 [] 2 0, .rd 13 [.o 0 none] 2 0, .rd 14 [] 2 0, .rd 15 [] 2 0, .rd 16 [] 0 3] [] [1, 2, 29] (E1 := fun _ => [(1, .val (.pointer (some (⟨nu1 0, 0, none⟩)))), (2, .val (.pointer (some (⟨nu1 1, 0, none⟩)))), (29, .val (.bool (decide (c.place < 0) || decide (c.place ≥ (↑c.when.length : Int)) || decide ((↑c.ops.length : Int) > 12))))]) (h1 := fun _ => [(nu1 0, .cells #[.slice a1 c.when.length c1, .int .i64 c.place, .slice a2 c.ops.length c2] 28 (0, 0)), (nu1 1, .cells #[.int .i64 0, .int .i64 0] 40 (0, 0))]) (p1 := fun _ => []) (W1 := []) (by kernel_rfl) (fun _ => by kernel_rfl) (fun _ => trivial) (fun _ => ?_)
    refine J_cond (t := decide (c.place < 0) || decide (c.place ≥ (↑c.when.length : Int)) || decide ((↑c.ops.length : Int) > 12)) (by kernel_rfl) (by kernel_rfl) (fun hb => ?_) (fun hb => ?_)
    · have e : comFault c = ⟨2, -1⟩ := by rw [comFault, if_neg (by simp [hv]), if_pos (by simp at hb; omega)]
      refine J_seq ?_
      refine JR_begin mixed [(0, false), (1, false)] [] (by kernel_rfl) (by kernel_rfl) ?_
      refine JR_callp [] 26 #[.int .i64 2] (some 30) (by kernel_rfl) (fun w S hG => ?_)
      refine (rBare (w := w) (S := S)).mono ?_
      rintro e1 w1 hR
      refine ⟨_, _, _, hR, ?_⟩
      try simp only [List.cons_append, List.nil_append, List.append_nil]
      refine JR_run (id := 5) (rest := []) [.wr 1 [.o 1 none, .o 1 none] 0] [1, 2] (E1 := fun _ => [(1, .val (.pointer (some (⟨nu1 0, 0, none⟩)))), (2, .val (.pointer (some (⟨nu1 1, 0, none⟩))))]) (h1 := fun _ => [(nu1 0, .cells #[.slice a1 c.when.length c1, .int .i64 c.place, .slice a2 c.ops.length c2] 28 (0, 0)), (nu1 1, .cells #[.int .i64 2, .int .i64 (-1)] 40 (0, 0))]) (p1 := fun _ => []) (W1 := []) (fun _ => by kernel_rfl) (fun _ => trivial) (fun _ => ?_)
      refine JR_end ?_
      refine J_return [[.o 1 none, .o 1 none]] (.agg #[.int .i64 2, .int .i64 (-1)]) (by kernel_rfl) (fun a w s => ?_)
      rw [e]
      exact s.ret (by simp) [] [] rfl rfl
    have hb2 : ¬ (c.place < 0 ∨ c.when.length ≤ c.place ∨ 12 < c.ops.length) := by simp at hb; omega
    obtain ⟨t, ht⟩ : ∃ t, c.when[c.place.toNat]? = some t := ⟨_, List.getElem?_eq_getElem (by omega)⟩
    refine J_read0 0 rfl c.place.toNat (map_at ht) (by kernel_rfl) (fun b1 off1 cs1 ty1 fz1 ha1 hrd1 => ?_)
    cases ha1
    have hrd1_0 := rd0 (hrd1 0 _ rfl)
    try simp only [List.cons_append, List.nil_append, List.append_nil]
    refine J_skip ?_
    refine J_seq ?_
    refine J_seq ?_
    refine J_reg mixed [.rd 0 [] 0 0, .rd 1 [.o 0 none] 0 0, .rd 2 [] 0 0, .rd 3 [.o 0 none] 0 0, .rd 4 [] 0 2, .rd 5 [.r 0 (some (.int .i64 t))] 0 0, .rd 6 [] 0 0] [] [1, 2, 37] (E1 := fun _ => [(1, .val (.pointer (some (⟨nu1 0, 0, none⟩)))), (2, .val (.pointer (some (⟨nu1 1, 0, none⟩)))), (37, .val (.bool (t == 0)))]) (h1 := fun _ => [(nu1 0, .cells #[.slice (some (⟨b1, off1, none⟩)) c.when.length c1, .int .i64 c.place, .slice a2 c.ops.length c2] 28 (0, 0)), (nu1 1, .cells #[.int .i64 0, .int .i64 0] 40 (0, 0))]) (p1 := fun _ => [(0 : Int) ≤ c.place, c.place < (↑c.when.length : Int), cs1[off1 + c.place.toNat * (1 : Nat)]? = some (Value.int IntKind.i64 t)]) (W1 := []) (by kernel_rfl) (fun _ => by kernel_rfl) (fun _ => ⟨by omega, by omega, hrd1_0, trivial⟩) (fun _ => ?_)
    refine J_cond (t := t == 0) (by kernel_rfl) (by kernel_rfl) (fun h0 => ?_) (fun h0 => ?_)
    · have h00 : t = 0 := by simpa using h0
      have e : comFault c = ⟨2, -1⟩ := by rw [comFault, if_neg (by simp [hv]), if_neg hb2, if_pos (by rw [ht, h00])]
      refine J_seq ?_
      refine JR_begin mixed [(0, false), (1, false)] [] (by kernel_rfl) (by kernel_rfl) ?_
      refine JR_callp [] 26 #[.int .i64 2] (some 38) (by kernel_rfl) (fun w S hG => ?_)
      refine (rBare (w := w) (S := S)).mono ?_
      rintro e1 w1 hR
      refine ⟨_, _, _, hR, ?_⟩
      try simp only [List.cons_append, List.nil_append, List.append_nil]
      refine JR_run (id := 7) (rest := []) [.wr 1 [.o 1 none, .o 1 none] 0] [1, 2] (E1 := fun _ => [(1, .val (.pointer (some (⟨nu1 0, 0, none⟩)))), (2, .val (.pointer (some (⟨nu1 1, 0, none⟩))))]) (h1 := fun _ => [(nu1 0, .cells #[.slice (some (⟨b1, off1, none⟩)) c.when.length c1, .int .i64 c.place, .slice a2 c.ops.length c2] 28 (0, 0)), (nu1 1, .cells #[.int .i64 2, .int .i64 (-1)] 40 (0, 0))]) (p1 := fun _ => []) (W1 := []) (fun _ => by kernel_rfl) (fun _ => trivial) (fun _ => ?_)
      refine JR_end ?_
      refine J_return [[.o 1 none, .o 1 none]] (.agg #[.int .i64 2, .int .i64 (-1)]) (by kernel_rfl) (fun a w s => ?_)
      rw [e]
      exact s.ret (by simp) [] [] rfl rfl
    have h00 : ¬ c.when[c.place.toNat]? = some 0 := by rw [ht]; simpa using h0
    refine J_skip ?_
    refine J_seq ?_
    refine J_seq ?_
    refine J_reg mixed [.rd 0 [] 0 0, .rd 1 [.o 0 none] 0 0, .rd 2 [] 0 0, .rd 3 [] 0 0] [] [1, 2, 42] (E1 := fun _ => [(1, .val (.pointer (some (⟨nu1 0, 0, none⟩)))), (2, .val (.pointer (some (⟨nu1 1, 0, none⟩)))), (42, .val (.bool ((↑c.ops.length : Int) == 0)))]) (h1 := fun _ => [(nu1 0, .cells #[.slice (some (⟨b1, off1, none⟩)) c.when.length c1, .int .i64 c.place, .slice a2 c.ops.length c2] 28 (0, 0)), (nu1 1, .cells #[.int .i64 0, .int .i64 0] 40 (0, 0))]) (p1 := fun _ => []) (W1 := []) (by kernel_rfl) (fun _ => by kernel_rfl) (fun _ => trivial) (fun _ => ?_)
    refine J_cond (t := (↑c.ops.length : Int) == 0) (by kernel_rfl) (by kernel_rfl) (fun hz => ?_) (fun hz => ?_)
    · have e : comFault c = ⟨3, -1⟩ := by rw [comFault, if_neg (by simp [hv]), if_neg hb2, if_neg h00, if_pos (by simp at hz; simp [hz])]
      refine J_seq ?_
      refine JR_begin mixed [(0, false), (1, false)] [] (by kernel_rfl) (by kernel_rfl) ?_
      refine JR_callp [] 26 #[.int .i64 3] (some 43) (by kernel_rfl) (fun w S hG => ?_)
      refine (rBare (w := w) (S := S)).mono ?_
      rintro e1 w1 hR
      refine ⟨_, _, _, hR, ?_⟩
      try simp only [List.cons_append, List.nil_append, List.append_nil]
      refine JR_run (id := 9) (rest := []) [.wr 1 [.o 1 none, .o 1 none] 0] [1, 2] (E1 := fun _ => [(1, .val (.pointer (some (⟨nu1 0, 0, none⟩)))), (2, .val (.pointer (some (⟨nu1 1, 0, none⟩))))]) (h1 := fun _ => [(nu1 0, .cells #[.slice (some (⟨b1, off1, none⟩)) c.when.length c1, .int .i64 c.place, .slice a2 c.ops.length c2] 28 (0, 0)), (nu1 1, .cells #[.int .i64 3, .int .i64 (-1)] 40 (0, 0))]) (p1 := fun _ => []) (W1 := []) (fun _ => by kernel_rfl) (fun _ => trivial) (fun _ => ?_)
      refine JR_end ?_
      refine J_return [[.o 1 none, .o 1 none]] (.agg #[.int .i64 3, .int .i64 (-1)]) (by kernel_rfl) (fun a w s => ?_)
      rw [e]
      exact s.ret (by simp) [] [] rfl rfl
    have hz2 : ¬ c.ops.length = 0 := by simp at hz; simp [hz]
    have e : comFault c = opsFault c.ops c.when.length c.ops.length 0 := by rw [comFault, if_neg (by simp [hv]), if_neg hb2, if_neg h00, if_neg hz2]
    rw [e]
    refine J_skip ?_
    refine J_seq ?_
    refine J_seq ?_
    refine J_reg mixed [.rd 0 [] 0 0] [] [1, 2, 4] (E1 := fun _ => [(1, .val (.pointer (some (⟨nu1 0, 0, none⟩)))), (2, .val (.pointer (some (⟨nu1 1, 0, none⟩)))), (4, .val (.int .i64 0))]) (h1 := fun _ => [(nu1 0, .cells #[.slice (some (⟨b1, off1, none⟩)) c.when.length c1, .int .i64 c.place, .slice a2 c.ops.length c2] 28 (0, 0)), (nu1 1, .cells #[.int .i64 0, .int .i64 0] 40 (0, 0))]) (p1 := fun _ => []) (W1 := []) (by kernel_rfl) (fun _ => by kernel_rfl) (fun _ => trivial) (fun _ => ?_)
    refine J_block ?_
    refine J_loopx (fun i : Int => [(1, .val (.pointer (some (⟨nu1 0, 0, none⟩)))), (2, .val (.pointer (some (⟨nu1 1, 0, none⟩)))), (4, .val (.int .i64 i))]) (fun i : Int => [(nu1 0, .cells #[.slice (some (⟨b1, off1, none⟩)) c.when.length c1, .int .i64 c.place, .slice a2 c.ops.length c2] 28 (0, 0)), (nu1 1, .cells #[.int .i64 0, .int .i64 0] 40 (0, 0))]) (fun i : Int => []) (fun i : Int => [(.slice (some (⟨b1, off1, none⟩)) c.when.length c1, (dInts c.when)), (.slice a2 c.ops.length c2, (D.sl 7 (List.map eOp c.ops)))]) (fun i : Int => (c.ops.length - i).toNat) (fun i : Int => (0 ≤ i ∧ i ≤ c.ops.length ∧ ∀ j : Nat, 0 ≤ j → j < i.toNat → opErrAt c.ops c.when.length j = 0)) 0 [1, 2, 4] [0, 1] [] [0, 1] ?_ (by kernel_rfl) rfl rfl rfl ?_
    · exact ⟨by simp, by omega, by simp⟩
    rintro i ⟨hi0, hi, hno⟩
    refine J_seq ?_
    refine J_seq ?_
    refine J_reg mixed [.rd 0 [] 0 0, .rd 1 [] 0 0, .rd 2 [.o 0 none] 0 0, .rd 3 [] 0 0, .rd 4 [] 0 0] [] [1, 2, 4, 48] (E1 := fun _ => [(1, .val (.pointer (some (⟨nu1 0, 0, none⟩)))), (2, .val (.pointer (some (⟨nu1 1, 0, none⟩)))), (4, .val (.int .i64 i)), (48, .val (.bool (decide (i < (↑c.ops.length : Int)))))]) (h1 := fun _ => [(nu1 0, .cells #[.slice (some (⟨b1, off1, none⟩)) c.when.length c1, .int .i64 c.place, .slice a2 c.ops.length c2] 28 (0, 0)), (nu1 1, .cells #[.int .i64 0, .int .i64 0] 40 (0, 0))]) (p1 := fun _ => []) (W1 := []) (by kernel_rfl) (fun _ => by kernel_rfl) (fun _ => trivial) (fun _ => ?_)
    refine J_cond (t := decide (i < (↑c.ops.length : Int))) (by kernel_rfl) (by kernel_rfl) (fun hlt => ?_) (fun hlt => ?_)
    · have hlt2 : i < c.ops.length := by simpa using hlt
      obtain ⟨o, ho⟩ : ∃ o, c.ops[i.toNat]? = some o := ⟨_, List.getElem?_eq_getElem (by omega)⟩
      have hit : ∀ k : Nat, opErrAt c.ops c.when.length i.toNat = k → k ≠ 0 → opsFault c.ops c.when.length c.ops.length 0 = ⟨k, i⟩ := fun k hk h0 => by
        rw [(opsFault_from c.ops.length 0 i.toNat (Nat.zero_le _) hno).2 (by omega) (by rw [hk]; exact h0), hk]
        congr 1
        omega
      have next : opErrAt c.ops c.when.length i.toNat = 0 → 0 ≤ i + 1 ∧ i + 1 ≤ c.ops.length ∧ ∀ j : Nat, 0 ≤ j → j < (i + 1).toNat → opErrAt c.ops c.when.length j = 0 := fun h => ⟨by omega, by omega, fun j h0 hj => by
        by_cases hji : j = i.toNat
        · rw [hji]; exact h
        · exact hno j h0 (by omega)⟩
      refine J_read1 1 rfl i.toNat (map_at ho) (by kernel_rfl) (fun b2 off2 cs2 ty2 fz2 a2_0 c2_0 ha2 hrd2 => ?_)
      cases ha2
      have hrd2_0 := rd0 (hrd2 0 _ rfl)
      have hrd2_1 := hrd2 1 _ rfl
      have hrd2_2 := hrd2 2 _ rfl
      have hrd2_3 := hrd2 3 _ rfl
      have hrd2_4 := hrd2 4 _ rfl
      have hrd2_5 := hrd2 5 _ rfl
      have hrd2_6 := hrd2 6 _ rfl
      by_cases hi1 : i = 0
      · have hz0 : i.toNat = 0 := by omega
        try simp only [List.cons_append, List.nil_append, List.append_nil]
        refine J_skip ?_
        refine J_seq ?_
        refine J_block ?_
        refine J_seq ?_
        refine JR_begin mixed [(0, true), (1, true), (2, true), (3, true), (4, true), (5, true), (6, true), (7, true), (8, false), (9, true)] [] (by kernel_rfl) (by kernel_rfl) ?_
        refine JR_run (id := 13) (rest := [(8, false), (9, true)]) [.rd 0 [] 0 0, .rd 1 [.o 0 none] 0 0, .rd 2 [] 0 0, .rd 3 [] 0 2, .rd 4 [.r 1 (some (.int .i64 o.no)), .r 1 (some (.string o.key)), .r 1 (some (.int .i64 o.kind)), .r 1 (some (.string o.text)), .r 1 (some (.int .i64 o.n)), .r 1 (some (.bool o.remove)), .r 1 (some (.slice (a2_0, c2_0).fst ((List.map eDot o.dots).length) c2_0))] 0 0, .rd 5 [] 0 0, .rd 6 [.o 0 none] 0 0, .rd 7 [] 0 0] [1, 2, 4, 55, 58] (E1 := fun _ => [(1, .val (.pointer (some (⟨nu1 0, 0, none⟩)))), (2, .val (.pointer (some (⟨nu1 1, 0, none⟩)))), (4, .val (.int .i64 i)), (55, .val (.agg #[.int .i64 o.no, .string o.key, .int .i64 o.kind, .string o.text, .int .i64 o.n, .bool o.remove, .slice (a2_0, c2_0).fst ((List.map eDot o.dots).length) c2_0])), (58, .val (.int .i64 (↑c.when.length : Int)))]) (h1 := fun _ => [(nu1 0, .cells #[.slice (some (⟨b1, off1, none⟩)) c.when.length c1, .int .i64 c.place, .slice (some (⟨b2, off2, none⟩)) c.ops.length c2] 28 (0, 0)), (nu1 1, .cells #[.int .i64 0, .int .i64 0] 40 (0, 0))]) (p1 := fun _ => [(0 : Int) ≤ i, i < (↑c.ops.length : Int), cs2[off2 + i.toNat * (7 : Nat)]? = some (Value.int IntKind.i64 o.no), cs2[off2 + i.toNat * (7 : Nat) + (1 : Nat)]? = some (Value.string o.key), cs2[off2 + i.toNat * (7 : Nat) + (2 : Nat)]? = some (Value.int IntKind.i64 o.kind), cs2[off2 + i.toNat * (7 : Nat) + (3 : Nat)]? = some (Value.string o.text), cs2[off2 + i.toNat * (7 : Nat) + (4 : Nat)]? = some (Value.int IntKind.i64 o.n), cs2[off2 + i.toNat * (7 : Nat) + (5 : Nat)]? = some (Value.bool o.remove), cs2[off2 + i.toNat * (7 : Nat) + (6 : Nat)]? = some (Value.slice (a2_0, c2_0).fst (List.map eDot o.dots).length (a2_0, c2_0).snd)]) (W1 := []) (fun _ => by kernel_rfl) (fun _ => ⟨hi0, hlt2, hrd2_0, hrd2_1, hrd2_2, hrd2_3, hrd2_4, hrd2_5, hrd2_6, trivial⟩) (fun _ => ?_)
        refine JR_callp [] 15 #[.agg #[.int .i64 o.no, .string o.key, .int .i64 o.kind, .string o.text, .int .i64 o.n, .bool o.remove, .slice (a2_0, c2_0).fst ((List.map eDot o.dots).length) c2_0], .int .i64 (↑c.when.length : Int)] (some 59) (by kernel_rfl) (fun w S hG => ?_)
        refine (opError (o := o) (hG.at 2 rfl)).mono ?_
        rintro e1 w1 hR
        refine ⟨_, _, _, hR, ?_⟩
        by_cases he : opErr o c.when.length = 0
        · try simp only [List.cons_append, List.nil_append, List.append_nil]
          refine JR_run (id := 13) (rest := []) [.rd 9 [] 0 0] [1, 2, 4, 5] (E1 := fun _ => [(1, .val (.pointer (some (⟨nu1 0, 0, none⟩)))), (2, .val (.pointer (some (⟨nu1 1, 0, none⟩)))), (4, .val (.int .i64 i)), (5, .val (.int .i64 ((↑(opErr o (↑c.when.length : Int)) : Int))))]) (h1 := fun _ => [(nu1 0, .cells #[.slice (some (⟨b1, off1, none⟩)) c.when.length c1, .int .i64 c.place, .slice (some (⟨b2, off2, none⟩)) c.ops.length c2] 28 (0, 0)), (nu1 1, .cells #[.int .i64 0, .int .i64 0] 40 (0, 0))]) (p1 := fun _ => []) (W1 := []) (fun _ => by kernel_rfl) (fun _ => trivial) (fun _ => ?_)
          refine JR_end ?_
          refine J_seq ?_
          refine J_seq ?_
          refine J_reg mixed [.rd 0 [] 0 0, .rd 1 [] 0 6, .rd 2 [] 0 0, .rd 3 [] 0 0, .rd 4 [] 0 7, .rd 5 [] 0 0, .rd 6 [] 0 0, .rd 7 [] 1 0, .rd 8 [] 1 0, .rd 9 [] 1 0, .rd 10 [] 1 0, .rd 11 [] 1 0, .rd 12 [] 1 0, .rd 13 [] 1 0, .rd 14 [] 1 0, .rd 15 [] 1 0, .rd 16 [] 1 0, .rd 17 [] 1 0, .rd 18 [] 1 0, .rd 19 [] 1 0, .rd 20 [] 1 0, .rd 21 [] 0 0] [] [1, 2, 4, 5, 81] (E1 := fun _ => [(1, .val (.pointer (some (⟨nu1 0, 0, none⟩)))), (2, .val (.pointer (some (⟨nu1 1, 0, none⟩)))), (4, .val (.int .i64 i)), (5, .val (.int .i64 ((↑(opErr o (↑c.when.length : Int)) : Int)))), (81, .val (.bool false))]) (h1 := fun _ => [(nu1 0, .cells #[.slice (some (⟨b1, off1, none⟩)) c.when.length c1, .int .i64 c.place, .slice (some (⟨b2, off2, none⟩)) c.ops.length c2] 28 (0, 0)), (nu1 1, .cells #[.int .i64 0, .int .i64 0] 40 (0, 0))]) (p1 := fun _ => [((↑(opErr o (↑c.when.length : Int)) : Int) == (0 : Int)) = true, decide (i > (0 : Int)) = false]) (W1 := []) (by kernel_rfl) (fun _ => by kernel_rfl) (fun _ => ⟨by simp; omega, by simp; omega, trivial⟩) (fun _ => ?_)
          refine J_cond_f (by kernel_rfl) (by kernel_rfl) ?_
          refine J_skip ?_
          refine J_seq ?_
          refine J_reg mixed [.rd 0 [] 0 0, .rd 1 [] 0 7] [] [1, 2, 4, 5, 83] (E1 := fun _ => [(1, .val (.pointer (some (⟨nu1 0, 0, none⟩)))), (2, .val (.pointer (some (⟨nu1 1, 0, none⟩)))), (4, .val (.int .i64 i)), (5, .val (.int .i64 ((↑(opErr o (↑c.when.length : Int)) : Int)))), (83, .val (.bool false))]) (h1 := fun _ => [(nu1 0, .cells #[.slice (some (⟨b1, off1, none⟩)) c.when.length c1, .int .i64 c.place, .slice (some (⟨b2, off2, none⟩)) c.ops.length c2] 28 (0, 0)), (nu1 1, .cells #[.int .i64 0, .int .i64 0] 40 (0, 0))]) (p1 := fun _ => [decide ((↑(opErr o (↑c.when.length : Int)) : Int) > (0 : Int)) = false]) (W1 := []) (by kernel_rfl) (fun _ => by kernel_rfl) (fun _ => ⟨by simp; omega, trivial⟩) (fun _ => ?_)
          refine J_cond_f (by kernel_rfl) (by kernel_rfl) ?_
          refine J_skip ?_
          refine J_eb ?_
          refine J_reg mixed [.rd 0 [] 0 0, .rd 1 [] 0 1, .rd 2 [] 0 0] [] [1, 2, 4, 5] (E1 := fun _ => [(1, .val (.pointer (some (⟨nu1 0, 0, none⟩)))), (2, .val (.pointer (some (⟨nu1 1, 0, none⟩)))), (4, .val (.int .i64 (i + 1))), (5, .val (.int .i64 ((↑(opErr o (↑c.when.length : Int)) : Int))))]) (h1 := fun _ => [(nu1 0, .cells #[.slice (some (⟨b1, off1, none⟩)) c.when.length c1, .int .i64 c.place, .slice (some (⟨b2, off2, none⟩)) c.ops.length c2] 28 (0, 0)), (nu1 1, .cells #[.int .i64 0, .int .i64 0] 40 (0, 0))]) (p1 := fun _ => [IntKind.i64.wrap (i + (1 : Int)) = i + (1 : Int)]) (W1 := []) (by kernel_rfl) (fun _ => by kernel_rfl) (fun _ => ⟨wrap_i64 (by omega) (by omega), trivial⟩) (fun _ => ?_)
          refine J_backx (i + 1) [1, 2, 4] [0, 1] [] [0, 1] ?_ ?_ (by kernel_rfl) rfl rfl rfl
          · exact next (by rw [hz0] at ho ⊢; exact opErrAt_first ho he)
          · omega
        · try simp only [List.cons_append, List.nil_append, List.append_nil]
          refine JR_run (id := 13) (rest := []) [.rd 9 [] 0 0] [1, 2, 4, 5] (E1 := fun _ => [(1, .val (.pointer (some (⟨nu1 0, 0, none⟩)))), (2, .val (.pointer (some (⟨nu1 1, 0, none⟩)))), (4, .val (.int .i64 i)), (5, .val (.int .i64 ((↑(opErr o (↑c.when.length : Int)) : Int))))]) (h1 := fun _ => [(nu1 0, .cells #[.slice (some (⟨b1, off1, none⟩)) c.when.length c1, .int .i64 c.place, .slice (some (⟨b2, off2, none⟩)) c.ops.length c2] 28 (0, 0)), (nu1 1, .cells #[.int .i64 0, .int .i64 0] 40 (0, 0))]) (p1 := fun _ => []) (W1 := []) (fun _ => by kernel_rfl) (fun _ => trivial) (fun _ => ?_)
          refine JR_end ?_
          refine J_seq ?_
          refine J_seq ?_
          refine J_reg mixed [.rd 0 [] 0 0, .rd 1 [] 0 7, .rd 2 [] 0 0, .rd 3 [] 1 0, .rd 4 [] 1 0, .rd 5 [] 0 0, .rd 6 [] 0 0, .rd 7 [] 1 0, .rd 8 [] 1 0, .rd 9 [] 1 0, .rd 10 [] 1 0, .rd 11 [] 1 0, .rd 12 [] 1 0, .rd 13 [] 1 0, .rd 14 [] 1 0, .rd 15 [] 1 0, .rd 16 [] 1 0, .rd 17 [] 1 0, .rd 18 [] 1 0, .rd 19 [] 1 0, .rd 20 [] 1 0, .rd 21 [] 0 0] [] [1, 2, 4, 5, 81] (E1 := fun _ => [(1, .val (.pointer (some (⟨nu1 0, 0, none⟩)))), (2, .val (.pointer (some (⟨nu1 1, 0, none⟩)))), (4, .val (.int .i64 i)), (5, .val (.int .i64 ((↑(opErr o (↑c.when.length : Int)) : Int)))), (81, .val (.bool false))]) (h1 := fun _ => [(nu1 0, .cells #[.slice (some (⟨b1, off1, none⟩)) c.when.length c1, .int .i64 c.place, .slice (some (⟨b2, off2, none⟩)) c.ops.length c2] 28 (0, 0)), (nu1 1, .cells #[.int .i64 0, .int .i64 0] 40 (0, 0))]) (p1 := fun _ => [((↑(opErr o (↑c.when.length : Int)) : Int) == (0 : Int)) = false]) (W1 := []) (by kernel_rfl) (fun _ => by kernel_rfl) (fun _ => ⟨by simp; omega, trivial⟩) (fun _ => ?_)
          refine J_cond_f (by kernel_rfl) (by kernel_rfl) ?_
          refine J_skip ?_
          refine J_seq ?_
          refine J_reg mixed [.rd 0 [] 0 0, .rd 1 [] 0 6] [] [1, 2, 4, 5, 83] (E1 := fun _ => [(1, .val (.pointer (some (⟨nu1 0, 0, none⟩)))), (2, .val (.pointer (some (⟨nu1 1, 0, none⟩)))), (4, .val (.int .i64 i)), (5, .val (.int .i64 ((↑(opErr o (↑c.when.length : Int)) : Int)))), (83, .val (.bool true))]) (h1 := fun _ => [(nu1 0, .cells #[.slice (some (⟨b1, off1, none⟩)) c.when.length c1, .int .i64 c.place, .slice (some (⟨b2, off2, none⟩)) c.ops.length c2] 28 (0, 0)), (nu1 1, .cells #[.int .i64 0, .int .i64 0] 40 (0, 0))]) (p1 := fun _ => [decide ((↑(opErr o (↑c.when.length : Int)) : Int) > (0 : Int)) = true]) (W1 := []) (by kernel_rfl) (fun _ => by kernel_rfl) (fun _ => ⟨by simp; omega, trivial⟩) (fun _ => ?_)
          refine J_cond_t (by kernel_rfl) (by kernel_rfl) ?_
          refine J_seq ?_
          refine J_reg mixed [.rd 0 [] 0 0, .rd 1 [] 0 0, .rd 2 [] 0 0, .wr 3 [.o 1 none, .o 1 none] 0] [(3, [1])] [1, 2, 4, 5] (E1 := fun _ => [(1, .val (.pointer (some (⟨nu1 0, 0, none⟩)))), (2, .val (.pointer (some (⟨nu1 1, 0, none⟩)))), (4, .val (.int .i64 i)), (5, .val (.int .i64 ((↑(opErr o (↑c.when.length : Int)) : Int))))]) (h1 := fun _ => [(nu1 0, .cells #[.slice (some (⟨b1, off1, none⟩)) c.when.length c1, .int .i64 c.place, .slice (some (⟨b2, off2, none⟩)) c.ops.length c2] 28 (0, 0)), (nu1 1, .cells #[.int .i64 ((↑(opErr o (↑c.when.length : Int)) : Int)), .int .i64 i] 40 (0, 0))]) (p1 := fun _ => []) (W1 := []) (by kernel_rfl) (fun _ => by kernel_rfl) (fun _ => trivial) (fun _ => ?_)
          refine J_return [[.o 1 none, .o 1 none]] (.agg #[.int .i64 ((↑(opErr o (↑c.when.length : Int)) : Int)), .int .i64 i]) (by kernel_rfl) (fun a w s => ?_)
          rw [hit _ (opErrAt_own ho he) he]
          exact s.ret (by simp) [] [] rfl rfl
      · obtain ⟨q, hq⟩ : ∃ q, c.ops[(i - 1).toNat]? = some q := ⟨_, List.getElem?_eq_getElem (by omega)⟩
        have hii : i.toNat = (i - 1).toNat + 1 := by omega
        refine J_again1 1 rfl 1 rfl ((i - 1).toNat) (map_at hq) (by kernel_rfl) (fun a3_0 c3_0 hrd3 => ?_)
        have hrd3_0 := rd0 (hrd3 0 _ rfl)
        have hrd3_1 := hrd3 1 _ rfl
        have hrd3_2 := hrd3 2 _ rfl
        have hrd3_3 := hrd3 3 _ rfl
        have hrd3_4 := hrd3 4 _ rfl
        have hrd3_5 := hrd3 5 _ rfl
        have hrd3_6 := hrd3 6 _ rfl
        try simp only [List.cons_append, List.nil_append, List.append_nil]
        refine J_skip ?_
        refine J_seq ?_
        refine J_block ?_
        refine J_seq ?_
        refine JR_begin mixed [(0, true), (1, true), (2, true), (3, true), (4, true), (5, true), (6, true), (7, true), (8, false), (9, true)] [] (by kernel_rfl) (by kernel_rfl) ?_
        refine JR_run (id := 13) (rest := [(8, false), (9, true)]) [.rd 0 [] 0 0, .rd 1 [.o 0 none] 0 0, .rd 2 [] 0 0, .rd 3 [] 0 2, .rd 4 [.r 1 (some (.int .i64 o.no)), .r 1 (some (.string o.key)), .r 1 (some (.int .i64 o.kind)), .r 1 (some (.string o.text)), .r 1 (some (.int .i64 o.n)), .r 1 (some (.bool o.remove)), .r 1 (some (.slice (a2_0, c2_0).fst ((List.map eDot o.dots).length) c2_0))] 0 0, .rd 5 [] 0 0, .rd 6 [.o 0 none] 0 0, .rd 7 [] 0 0] [1, 2, 4, 55, 58] (E1 := fun _ => [(1, .val (.pointer (some (⟨nu1 0, 0, none⟩)))), (2, .val (.pointer (some (⟨nu1 1, 0, none⟩)))), (4, .val (.int .i64 i)), (55, .val (.agg #[.int .i64 o.no, .string o.key, .int .i64 o.kind, .string o.text, .int .i64 o.n, .bool o.remove, .slice (a2_0, c2_0).fst ((List.map eDot o.dots).length) c2_0])), (58, .val (.int .i64 (↑c.when.length : Int)))]) (h1 := fun _ => [(nu1 0, .cells #[.slice (some (⟨b1, off1, none⟩)) c.when.length c1, .int .i64 c.place, .slice (some (⟨b2, off2, none⟩)) c.ops.length c2] 28 (0, 0)), (nu1 1, .cells #[.int .i64 0, .int .i64 0] 40 (0, 0))]) (p1 := fun _ => [(0 : Int) ≤ i, i < (↑c.ops.length : Int), cs2[off2 + i.toNat * (7 : Nat)]? = some (Value.int IntKind.i64 o.no), cs2[off2 + i.toNat * (7 : Nat) + (1 : Nat)]? = some (Value.string o.key), cs2[off2 + i.toNat * (7 : Nat) + (2 : Nat)]? = some (Value.int IntKind.i64 o.kind), cs2[off2 + i.toNat * (7 : Nat) + (3 : Nat)]? = some (Value.string o.text), cs2[off2 + i.toNat * (7 : Nat) + (4 : Nat)]? = some (Value.int IntKind.i64 o.n), cs2[off2 + i.toNat * (7 : Nat) + (5 : Nat)]? = some (Value.bool o.remove), cs2[off2 + i.toNat * (7 : Nat) + (6 : Nat)]? = some (Value.slice (a2_0, c2_0).fst (List.map eDot o.dots).length (a2_0, c2_0).snd)]) (W1 := []) (fun _ => by kernel_rfl) (fun _ => ⟨hi0, hlt2, hrd2_0, hrd2_1, hrd2_2, hrd2_3, hrd2_4, hrd2_5, hrd2_6, trivial⟩) (fun _ => ?_)
        refine JR_callp [] 15 #[.agg #[.int .i64 o.no, .string o.key, .int .i64 o.kind, .string o.text, .int .i64 o.n, .bool o.remove, .slice (a2_0, c2_0).fst ((List.map eDot o.dots).length) c2_0], .int .i64 (↑c.when.length : Int)] (some 59) (by kernel_rfl) (fun w S hG => ?_)
        refine (opError (o := o) (hG.at 2 rfl)).mono ?_
        rintro e1 w1 hR
        refine ⟨_, _, _, hR, ?_⟩
        by_cases he : opErr o c.when.length = 0
        · have hn := opErrAt_next (p := c.when.length) (by rw [← hii]; exact ho) hq he
          rw [← hii] at hn
          by_cases hno2 : o.no ≤ q.no
          · rw [if_pos hno2] at hn
            try simp only [List.cons_append, List.nil_append, List.append_nil]
            refine JR_run (id := 13) (rest := []) [.rd 9 [] 0 0] [1, 2, 4, 5] (E1 := fun _ => [(1, .val (.pointer (some (⟨nu1 0, 0, none⟩)))), (2, .val (.pointer (some (⟨nu1 1, 0, none⟩)))), (4, .val (.int .i64 i)), (5, .val (.int .i64 ((↑(opErr o (↑c.when.length : Int)) : Int))))]) (h1 := fun _ => [(nu1 0, .cells #[.slice (some (⟨b1, off1, none⟩)) c.when.length c1, .int .i64 c.place, .slice (some (⟨b2, off2, none⟩)) c.ops.length c2] 28 (0, 0)), (nu1 1, .cells #[.int .i64 0, .int .i64 0] 40 (0, 0))]) (p1 := fun _ => []) (W1 := []) (fun _ => by kernel_rfl) (fun _ => trivial) (fun _ => ?_)
            refine JR_end ?_
            refine J_seq ?_
            refine J_seq ?_
            refine J_reg mixed [.rd 0 [] 0 0, .rd 1 [] 0 6, .rd 2 [] 0 0, .rd 3 [] 0 0, .rd 4 [] 0 6, .rd 5 [] 0 0, .rd 6 [] 0 0, .rd 7 [] 0 0, .rd 8 [.o 0 none] 0 0, .rd 9 [] 0 0, .rd 10 [] 0 2, .rd 11 [] 0 0, .rd 12 [.r 1 (some (.int .i64 o.no))] 0 0, .rd 13 [] 0 0, .rd 14 [.o 0 none] 0 0, .rd 15 [] 0 0, .rd 16 [] 0 1, .rd 17 [] 0 2, .rd 18 [] 0 0, .rd 19 [.r 1 (some (.int .i64 q.no))] 0 0, .rd 20 [] 0 6, .rd 21 [] 0 0] [] [1, 2, 4, 5, 81] (E1 := fun _ => [(1, .val (.pointer (some (⟨nu1 0, 0, none⟩)))), (2, .val (.pointer (some (⟨nu1 1, 0, none⟩)))), (4, .val (.int .i64 i)), (5, .val (.int .i64 ((↑(opErr o (↑c.when.length : Int)) : Int)))), (81, .val (.bool true))]) (h1 := fun _ => [(nu1 0, .cells #[.slice (some (⟨b1, off1, none⟩)) c.when.length c1, .int .i64 c.place, .slice (some (⟨b2, off2, none⟩)) c.ops.length c2] 28 (0, 0)), (nu1 1, .cells #[.int .i64 0, .int .i64 0] 40 (0, 0))]) (p1 := fun _ => [((↑(opErr o (↑c.when.length : Int)) : Int) == (0 : Int)) = true, decide (i > (0 : Int)) = true, (0 : Int) ≤ i, i < (↑c.ops.length : Int), cs2[off2 + i.toNat * (7 : Nat)]? = some (Value.int IntKind.i64 o.no), IntKind.i64.wrap (i - (1 : Int)) = i - (1 : Int), (0 : Int) ≤ i - (1 : Int), i - (1 : Int) < (↑c.ops.length : Int), cs2[off2 + (i - (1 : Int)).toNat * (7 : Nat)]? = some (Value.int IntKind.i64 q.no), decide (o.no ≤ q.no) = true]) (W1 := []) (by kernel_rfl) (fun _ => by kernel_rfl) (fun _ => ⟨by simp; omega, by simp; omega, hi0, hlt2, hrd2_0, wrap_i64 (by omega) (by omega), by omega, by omega, hrd3_0, by simp; omega, trivial⟩) (fun _ => ?_)
            refine J_cond_t (by kernel_rfl) (by kernel_rfl) ?_
            refine J_reg mixed [.rd 0 [] 0 0] [] [1, 2, 4, 5] (E1 := fun _ => [(1, .val (.pointer (some (⟨nu1 0, 0, none⟩)))), (2, .val (.pointer (some (⟨nu1 1, 0, none⟩)))), (4, .val (.int .i64 i)), (5, .val (.int .i64 3))]) (h1 := fun _ => [(nu1 0, .cells #[.slice (some (⟨b1, off1, none⟩)) c.when.length c1, .int .i64 c.place, .slice (some (⟨b2, off2, none⟩)) c.ops.length c2] 28 (0, 0)), (nu1 1, .cells #[.int .i64 0, .int .i64 0] 40 (0, 0))]) (p1 := fun _ => []) (W1 := []) (by kernel_rfl) (fun _ => by kernel_rfl) (fun _ => trivial) (fun _ => ?_)
            refine J_seq ?_
            refine J_reg mixed [.rd 0 [] 0 0, .rd 1 [] 0 0] [] [1, 2, 4, 5, 83] (E1 := fun _ => [(1, .val (.pointer (some (⟨nu1 0, 0, none⟩)))), (2, .val (.pointer (some (⟨nu1 1, 0, none⟩)))), (4, .val (.int .i64 i)), (5, .val (.int .i64 3)), (83, .val (.bool true))]) (h1 := fun _ => [(nu1 0, .cells #[.slice (some (⟨b1, off1, none⟩)) c.when.length c1, .int .i64 c.place, .slice (some (⟨b2, off2, none⟩)) c.ops.length c2] 28 (0, 0)), (nu1 1, .cells #[.int .i64 0, .int .i64 0] 40 (0, 0))]) (p1 := fun _ => []) (W1 := []) (by kernel_rfl) (fun _ => by kernel_rfl) (fun _ => trivial) (fun _ => ?_)
            refine J_cond_t (by kernel_rfl) (by kernel_rfl) ?_
            refine J_seq ?_
            refine J_reg mixed [.rd 0 [] 0 0, .rd 1 [] 0 0, .rd 2 [] 0 0, .wr 3 [.o 1 none, .o 1 none] 0] [(3, [1])] [1, 2, 4, 5] (E1 := fun _ => [(1, .val (.pointer (some (⟨nu1 0, 0, none⟩)))), (2, .val (.pointer (some (⟨nu1 1, 0, none⟩)))), (4, .val (.int .i64 i)), (5, .val (.int .i64 3))]) (h1 := fun _ => [(nu1 0, .cells #[.slice (some (⟨b1, off1, none⟩)) c.when.length c1, .int .i64 c.place, .slice (some (⟨b2, off2, none⟩)) c.ops.length c2] 28 (0, 0)), (nu1 1, .cells #[.int .i64 3, .int .i64 i] 40 (0, 0))]) (p1 := fun _ => []) (W1 := []) (by kernel_rfl) (fun _ => by kernel_rfl) (fun _ => trivial) (fun _ => ?_)
            refine J_return [[.o 1 none, .o 1 none]] (.agg #[.int .i64 3, .int .i64 i]) (by kernel_rfl) (fun a w s => ?_)
            rw [hit _ hn (by decide)]
            exact s.ret (by simp) [] [] rfl rfl
          · rw [if_neg hno2] at hn
            try simp only [List.cons_append, List.nil_append, List.append_nil]
            refine JR_run (id := 13) (rest := []) [.rd 9 [] 0 0] [1, 2, 4, 5] (E1 := fun _ => [(1, .val (.pointer (some (⟨nu1 0, 0, none⟩)))), (2, .val (.pointer (some (⟨nu1 1, 0, none⟩)))), (4, .val (.int .i64 i)), (5, .val (.int .i64 ((↑(opErr o (↑c.when.length : Int)) : Int))))]) (h1 := fun _ => [(nu1 0, .cells #[.slice (some (⟨b1, off1, none⟩)) c.when.length c1, .int .i64 c.place, .slice (some (⟨b2, off2, none⟩)) c.ops.length c2] 28 (0, 0)), (nu1 1, .cells #[.int .i64 0, .int .i64 0] 40 (0, 0))]) (p1 := fun _ => []) (W1 := []) (fun _ => by kernel_rfl) (fun _ => trivial) (fun _ => ?_)
            refine JR_end ?_
            refine J_seq ?_
            refine J_seq ?_
            refine J_reg mixed [.rd 0 [] 0 0, .rd 1 [] 0 6, .rd 2 [] 0 0, .rd 3 [] 0 0, .rd 4 [] 0 6, .rd 5 [] 0 0, .rd 6 [] 0 0, .rd 7 [] 0 0, .rd 8 [.o 0 none] 0 0, .rd 9 [] 0 0, .rd 10 [] 0 2, .rd 11 [] 0 0, .rd 12 [.r 1 (some (.int .i64 o.no))] 0 0, .rd 13 [] 0 0, .rd 14 [.o 0 none] 0 0, .rd 15 [] 0 0, .rd 16 [] 0 1, .rd 17 [] 0 2, .rd 18 [] 0 0, .rd 19 [.r 1 (some (.int .i64 q.no))] 0 0, .rd 20 [] 0 7, .rd 21 [] 0 0] [] [1, 2, 4, 5, 81] (E1 := fun _ => [(1, .val (.pointer (some (⟨nu1 0, 0, none⟩)))), (2, .val (.pointer (some (⟨nu1 1, 0, none⟩)))), (4, .val (.int .i64 i)), (5, .val (.int .i64 ((↑(opErr o (↑c.when.length : Int)) : Int)))), (81, .val (.bool false))]) (h1 := fun _ => [(nu1 0, .cells #[.slice (some (⟨b1, off1, none⟩)) c.when.length c1, .int .i64 c.place, .slice (some (⟨b2, off2, none⟩)) c.ops.length c2] 28 (0, 0)), (nu1 1, .cells #[.int .i64 0, .int .i64 0] 40 (0, 0))]) (p1 := fun _ => [((↑(opErr o (↑c.when.length : Int)) : Int) == (0 : Int)) = true, decide (i > (0 : Int)) = true, (0 : Int) ≤ i, i < (↑c.ops.length : Int), cs2[off2 + i.toNat * (7 : Nat)]? = some (Value.int IntKind.i64 o.no), IntKind.i64.wrap (i - (1 : Int)) = i - (1 : Int), (0 : Int) ≤ i - (1 : Int), i - (1 : Int) < (↑c.ops.length : Int), cs2[off2 + (i - (1 : Int)).toNat * (7 : Nat)]? = some (Value.int IntKind.i64 q.no), decide (o.no ≤ q.no) = false]) (W1 := []) (by kernel_rfl) (fun _ => by kernel_rfl) (fun _ => ⟨by simp; omega, by simp; omega, hi0, hlt2, hrd2_0, wrap_i64 (by omega) (by omega), by omega, by omega, hrd3_0, by simp; omega, trivial⟩) (fun _ => ?_)
            refine J_cond_f (by kernel_rfl) (by kernel_rfl) ?_
            refine J_skip ?_
            refine J_seq ?_
            refine J_reg mixed [.rd 0 [] 0 0, .rd 1 [] 0 7] [] [1, 2, 4, 5, 83] (E1 := fun _ => [(1, .val (.pointer (some (⟨nu1 0, 0, none⟩)))), (2, .val (.pointer (some (⟨nu1 1, 0, none⟩)))), (4, .val (.int .i64 i)), (5, .val (.int .i64 ((↑(opErr o (↑c.when.length : Int)) : Int)))), (83, .val (.bool false))]) (h1 := fun _ => [(nu1 0, .cells #[.slice (some (⟨b1, off1, none⟩)) c.when.length c1, .int .i64 c.place, .slice (some (⟨b2, off2, none⟩)) c.ops.length c2] 28 (0, 0)), (nu1 1, .cells #[.int .i64 0, .int .i64 0] 40 (0, 0))]) (p1 := fun _ => [decide ((↑(opErr o (↑c.when.length : Int)) : Int) > (0 : Int)) = false]) (W1 := []) (by kernel_rfl) (fun _ => by kernel_rfl) (fun _ => ⟨by simp; omega, trivial⟩) (fun _ => ?_)
            refine J_cond_f (by kernel_rfl) (by kernel_rfl) ?_
            refine J_skip ?_
            refine J_eb ?_
            refine J_reg mixed [.rd 0 [] 0 0, .rd 1 [] 0 1, .rd 2 [] 0 0] [] [1, 2, 4, 5] (E1 := fun _ => [(1, .val (.pointer (some (⟨nu1 0, 0, none⟩)))), (2, .val (.pointer (some (⟨nu1 1, 0, none⟩)))), (4, .val (.int .i64 (i + 1))), (5, .val (.int .i64 ((↑(opErr o (↑c.when.length : Int)) : Int))))]) (h1 := fun _ => [(nu1 0, .cells #[.slice (some (⟨b1, off1, none⟩)) c.when.length c1, .int .i64 c.place, .slice (some (⟨b2, off2, none⟩)) c.ops.length c2] 28 (0, 0)), (nu1 1, .cells #[.int .i64 0, .int .i64 0] 40 (0, 0))]) (p1 := fun _ => [IntKind.i64.wrap (i + (1 : Int)) = i + (1 : Int)]) (W1 := []) (by kernel_rfl) (fun _ => by kernel_rfl) (fun _ => ⟨wrap_i64 (by omega) (by omega), trivial⟩) (fun _ => ?_)
            refine J_backx (i + 1) [1, 2, 4] [0, 1] [] [0, 1] ?_ ?_ (by kernel_rfl) rfl rfl rfl
            · exact next hn
            · omega
        · try simp only [List.cons_append, List.nil_append, List.append_nil]
          refine JR_run (id := 13) (rest := []) [.rd 9 [] 0 0] [1, 2, 4, 5] (E1 := fun _ => [(1, .val (.pointer (some (⟨nu1 0, 0, none⟩)))), (2, .val (.pointer (some (⟨nu1 1, 0, none⟩)))), (4, .val (.int .i64 i)), (5, .val (.int .i64 ((↑(opErr o (↑c.when.length : Int)) : Int))))]) (h1 := fun _ => [(nu1 0, .cells #[.slice (some (⟨b1, off1, none⟩)) c.when.length c1, .int .i64 c.place, .slice (some (⟨b2, off2, none⟩)) c.ops.length c2] 28 (0, 0)), (nu1 1, .cells #[.int .i64 0, .int .i64 0] 40 (0, 0))]) (p1 := fun _ => []) (W1 := []) (fun _ => by kernel_rfl) (fun _ => trivial) (fun _ => ?_)
          refine JR_end ?_
          refine J_seq ?_
          refine J_seq ?_
          refine J_reg mixed [.rd 0 [] 0 0, .rd 1 [] 0 7, .rd 2 [] 0 0, .rd 3 [] 1 0, .rd 4 [] 1 0, .rd 5 [] 0 0, .rd 6 [] 0 0, .rd 7 [] 1 0, .rd 8 [] 1 0, .rd 9 [] 1 0, .rd 10 [] 1 0, .rd 11 [] 1 0, .rd 12 [] 1 0, .rd 13 [] 1 0, .rd 14 [] 1 0, .rd 15 [] 1 0, .rd 16 [] 1 0, .rd 17 [] 1 0, .rd 18 [] 1 0, .rd 19 [] 1 0, .rd 20 [] 1 0, .rd 21 [] 0 0] [] [1, 2, 4, 5, 81] (E1 := fun _ => [(1, .val (.pointer (some (⟨nu1 0, 0, none⟩)))), (2, .val (.pointer (some (⟨nu1 1, 0, none⟩)))), (4, .val (.int .i64 i)), (5, .val (.int .i64 ((↑(opErr o (↑c.when.length : Int)) : Int)))), (81, .val (.bool false))]) (h1 := fun _ => [(nu1 0, .cells #[.slice (some (⟨b1, off1, none⟩)) c.when.length c1, .int .i64 c.place, .slice (some (⟨b2, off2, none⟩)) c.ops.length c2] 28 (0, 0)), (nu1 1, .cells #[.int .i64 0, .int .i64 0] 40 (0, 0))]) (p1 := fun _ => [((↑(opErr o (↑c.when.length : Int)) : Int) == (0 : Int)) = false]) (W1 := []) (by kernel_rfl) (fun _ => by kernel_rfl) (fun _ => ⟨by simp; omega, trivial⟩) (fun _ => ?_)
          refine J_cond_f (by kernel_rfl) (by kernel_rfl) ?_
          refine J_skip ?_
          refine J_seq ?_
          refine J_reg mixed [.rd 0 [] 0 0, .rd 1 [] 0 6] [] [1, 2, 4, 5, 83] (E1 := fun _ => [(1, .val (.pointer (some (⟨nu1 0, 0, none⟩)))), (2, .val (.pointer (some (⟨nu1 1, 0, none⟩)))), (4, .val (.int .i64 i)), (5, .val (.int .i64 ((↑(opErr o (↑c.when.length : Int)) : Int)))), (83, .val (.bool true))]) (h1 := fun _ => [(nu1 0, .cells #[.slice (some (⟨b1, off1, none⟩)) c.when.length c1, .int .i64 c.place, .slice (some (⟨b2, off2, none⟩)) c.ops.length c2] 28 (0, 0)), (nu1 1, .cells #[.int .i64 0, .int .i64 0] 40 (0, 0))]) (p1 := fun _ => [decide ((↑(opErr o (↑c.when.length : Int)) : Int) > (0 : Int)) = true]) (W1 := []) (by kernel_rfl) (fun _ => by kernel_rfl) (fun _ => ⟨by simp; omega, trivial⟩) (fun _ => ?_)
          refine J_cond_t (by kernel_rfl) (by kernel_rfl) ?_
          refine J_seq ?_
          refine J_reg mixed [.rd 0 [] 0 0, .rd 1 [] 0 0, .rd 2 [] 0 0, .wr 3 [.o 1 none, .o 1 none] 0] [(3, [1])] [1, 2, 4, 5] (E1 := fun _ => [(1, .val (.pointer (some (⟨nu1 0, 0, none⟩)))), (2, .val (.pointer (some (⟨nu1 1, 0, none⟩)))), (4, .val (.int .i64 i)), (5, .val (.int .i64 ((↑(opErr o (↑c.when.length : Int)) : Int))))]) (h1 := fun _ => [(nu1 0, .cells #[.slice (some (⟨b1, off1, none⟩)) c.when.length c1, .int .i64 c.place, .slice (some (⟨b2, off2, none⟩)) c.ops.length c2] 28 (0, 0)), (nu1 1, .cells #[.int .i64 ((↑(opErr o (↑c.when.length : Int)) : Int)), .int .i64 i] 40 (0, 0))]) (p1 := fun _ => []) (W1 := []) (by kernel_rfl) (fun _ => by kernel_rfl) (fun _ => trivial) (fun _ => ?_)
          refine J_return [[.o 1 none, .o 1 none]] (.agg #[.int .i64 ((↑(opErr o (↑c.when.length : Int)) : Int)), .int .i64 i]) (by kernel_rfl) (fun a w s => ?_)
          rw [hit _ (opErrAt_own ho he) he]
          exact s.ret (by simp) [] [] rfl rfl
    · have hend : i.toNat = 0 + c.ops.length := by simp at hlt; omega
      rw [(opsFault_from c.ops.length 0 i.toNat (Nat.zero_le _) hno).1 hend]
      refine J_exit rfl ?_
      refine J_seq ?_
      refine JR_begin mixed [(0, false), (1, false)] [] (by kernel_rfl) (by kernel_rfl) ?_
      refine JR_callp [] 60 #[] (some 87) (by kernel_rfl) (fun w S hG => ?_)
      refine (rFine (w := w) (S := S)).mono ?_
      rintro e1 w1 hR
      refine ⟨_, _, _, hR, ?_⟩
      try simp only [List.cons_append, List.nil_append, List.append_nil]
      refine JR_run (id := 18) (rest := []) [.wr 1 [.o 1 none, .o 1 none] 0] [2] (E1 := fun _ => [(2, .val (.pointer (some (⟨nu1 1, 0, none⟩))))]) (h1 := fun _ => [(nu1 0, .cells #[.slice (some (⟨b1, off1, none⟩)) c.when.length c1, .int .i64 c.place, .slice a2 c.ops.length c2] 28 (0, 0)), (nu1 1, .cells #[.int .i64 0, .int .i64 (-1)] 40 (0, 0))]) (p1 := fun _ => []) (W1 := []) (fun _ => by kernel_rfl) (fun _ => trivial) (fun _ => ?_)
      refine JR_end ?_
      refine J_return [[.o 1 none, .o 1 none]] (.agg #[.int .i64 0, .int .i64 (-1)]) (by kernel_rfl) (fun a w s => ?_)
      exact s.ret (by simp) [] [] rfl rfl
  · have e : comFault c = ⟨vecErr c.when, -1⟩ := by rw [comFault, if_pos hv]
    try simp only [List.cons_append, List.nil_append, List.append_nil]
    refine JR_run (id := 1) (rest := []) [.rd 3 [] 0 0] [1, 2, 3] (E1 := fun _ => [(1, .val (.pointer (some (⟨nu1 0, 0, none⟩)))), (2, .val (.pointer (some (⟨nu1 1, 0, none⟩)))), (3, .val (.int .i64 ((↑(vecErr c.when) : Int))))]) (h1 := fun _ => [(nu1 0, .cells #[.slice a1 c.when.length c1, .int .i64 c.place, .slice a2 c.ops.length c2] 28 (0, 0)), (nu1 1, .cells #[.int .i64 0, .int .i64 0] 40 (0, 0))]) (p1 := fun _ => []) (W1 := []) (fun _ => by kernel_rfl) (fun _ => trivial) (fun _ => ?_)
    refine JR_end ?_
    refine J_seq ?_
    refine J_seq ?_
    refine J_reg mixed [.rd 0 [] 0 0, .rd 1 [] 0 6] [] [1, 2, 3, 10] (E1 := fun _ => [(1, .val (.pointer (some (⟨nu1 0, 0, none⟩)))), (2, .val (.pointer (some (⟨nu1 1, 0, none⟩)))), (3, .val (.int .i64 ((↑(vecErr c.when) : Int)))), (10, .val (.bool true))]) (h1 := fun _ => [(nu1 0, .cells #[.slice a1 c.when.length c1, .int .i64 c.place, .slice a2 c.ops.length c2] 28 (0, 0)), (nu1 1, .cells #[.int .i64 0, .int .i64 0] 40 (0, 0))]) (p1 := fun _ => [decide ((↑(vecErr c.when) : Int) > (0 : Int)) = true]) (W1 := []) (by kernel_rfl) (fun _ => by kernel_rfl) (fun _ => ⟨by simp; omega, trivial⟩) (fun _ => ?_)
    refine J_cond_t (by kernel_rfl) (by kernel_rfl) ?_
    refine J_seq ?_
    refine JR_begin mixed [(0, true), (1, false), (2, false)] [] (by kernel_rfl) (by kernel_rfl) ?_
    refine JR_run (id := 3) (rest := [(1, false), (2, false)]) [.rd 0 [] 0 0] [1, 2, 11] (E1 := fun _ => [(1, .val (.pointer (some (⟨nu1 0, 0, none⟩)))), (2, .val (.pointer (some (⟨nu1 1, 0, none⟩)))), (11, .val (.int .i64 ((↑(vecErr c.when) : Int))))]) (h1 := fun _ => [(nu1 0, .cells #[.slice a1 c.when.length c1, .int .i64 c.place, .slice a2 c.ops.length c2] 28 (0, 0)), (nu1 1, .cells #[.int .i64 0, .int .i64 0] 40 (0, 0))]) (p1 := fun _ => []) (W1 := []) (fun _ => by kernel_rfl) (fun _ => trivial) (fun _ => ?_)
    refine JR_callp [] 26 #[.int .i64 ((↑(vecErr c.when) : Int))] (some 12) (by kernel_rfl) (fun w S hG => ?_)
    refine (rBare (w := w) (S := S)).mono ?_
    rintro e1 w1 hR
    refine ⟨_, _, _, hR, ?_⟩
    try simp only [List.cons_append, List.nil_append, List.append_nil]
    refine JR_run (id := 3) (rest := []) [.wr 2 [.o 1 none, .o 1 none] 0] [1, 2] (E1 := fun _ => [(1, .val (.pointer (some (⟨nu1 0, 0, none⟩)))), (2, .val (.pointer (some (⟨nu1 1, 0, none⟩))))]) (h1 := fun _ => [(nu1 0, .cells #[.slice a1 c.when.length c1, .int .i64 c.place, .slice a2 c.ops.length c2] 28 (0, 0)), (nu1 1, .cells #[.int .i64 ((↑(vecErr c.when) : Int)), .int .i64 (-1)] 40 (0, 0))]) (p1 := fun _ => []) (W1 := []) (fun _ => by kernel_rfl) (fun _ => trivial) (fun _ => ?_)
    refine JR_end ?_
    refine J_return [[.o 1 none, .o 1 none]] (.agg #[.int .i64 ((↑(vecErr c.when) : Int)), .int .i64 (-1)]) (by kernel_rfl) (fun a w s => ?_)
    rw [e]
    exact s.ret (by simp) [] [] rfl rfl
end Go.Proofs.YtpjkiomccpjboaaGreatDoor
namespace Go.Proofs.YtpjkiomccpjboaaGreatDoor
open Go Go.Sx

/-- An error: plain, or with its place. -/
def FRet (w : World) (S : Nat → Prop) (w' : World) (e : Ending) (er : Nat → Addr) (f : FT) : Prop :=
  (f.at' = -1 ∧ ∃ v, Ret [] w S w' e v [] [] ∧ ErrIs 243 er f.code v) ∨
  (1 ≤ f.code ∧ 0 ≤ f.at' ∧ ∃ pb, Ret [] w S w' e (.iface 102 (.pointer (some ⟨pb, 0, none⟩))) [] [(.pointer (some ⟨pb, 0, none⟩), .ptr [.v (.int .i64 f.at'), .v (.iface 243 (.pointer (some (er f.code))))])])

set_option maxHeartbeats 2000000 in
theorem checkCommit {w : World} {S : Nat → Prop} {er : Nat → Addr} {eb : Nat → Array Value × TypeId} {a1 a2 : Option Addr} {n1 c1 n2 c2 : Nat} {c : ComT} (hC : Rep w S .nilIface (dC er eb)) (h1 : Rep w S (.slice a1 n1 c1) (dInts c.when)) (h2 : Rep w S (.slice a2 n2 c2) (.sl 7 (c.ops.map eOp))) (hl1 : c.when.length ≤ 1000000) (hl2 : c.ops.length ≤ 1000000) :
    Calls Tryz.prog 17 #[.agg #[.slice a1 n1 c1, .int .i64 c.place, .slice a2 n2 c2]] w fun e w' => FRet w S w' e er (comFault c) := by
  obtain rfl := rep_ints_len h1
  have e2 := h2.slen
  rw [List.length_map] at e2
  subst e2
  refine ep17 (args := [.agg #[.slice a1 c.when.length c1, .int .i64 c.place, .slice a2 c.ops.length c2]]) (G := [(_, dC er eb), (_, dInts c.when), (_, .sl 7 (c.ops.map eOp))]) (by kernel_rfl) (.cons hC (.cons h1 (.cons h2 (.nil _ _)))) ?_
  refine J_stp (stp_all 0 [1, 2] rfl rfl) ?_
  refine J_glob 3 rfl (fun csg1 tyg1 fzg1 hglob1 => ?_)
  refine J_glob 4 rfl (fun csg2 tyg2 fzg2 hglob2 => ?_)
  try simp only [List.cons_append, List.nil_append, List.append_nil]
  refine J_seq ?_
  refine J_reg mixed [.wr 0 [] 0, .rd 1 [] 0 0] [] [1, 2] (E1 := fun nu1 => [(1, .val (.pointer (some (⟨nu1 0, 0, none⟩)))), (2, .val (.nilIface))]) (h1 := fun nu1 => [(nu1 0, .cells #[.slice a1 c.when.length c1, .int .i64 c.place, .slice a2 c.ops.length c2] 28 (0, 0))]) (p1 := fun nu1 => []) (W1 := []) (by kernel_rfl) (fun _ => by kernel_rfl) (fun _ => trivial) (fun nu1 => ?_)
  refine J_seq ?_
  refine J_seq ?_
  refine JR_begin mixed [(0, true), (1, true), (2, false), (3, true)] [] (by kernel_rfl) (by kernel_rfl) ?_
  refine JR_run (id := 1) (rest := [(2, false), (3, true)]) [.rd 0 [] 0 0, .rd 1 [.o 0 none] 0 0] [1, 2, 8] (E1 := fun _ => [(1, .val (.pointer (some (⟨nu1 0, 0, none⟩)))), (2, .val (.nilIface)), (8, .val (.slice a1 c.when.length c1))]) (h1 := fun _ => [(nu1 0, .cells #[.slice a1 c.when.length c1, .int .i64 c.place, .slice a2 c.ops.length c2] 28 (0, 0))]) (p1 := fun _ => []) (W1 := []) (fun _ => by kernel_rfl) (fun _ => trivial) (fun _ => ?_)
  refine JR_callp [] 59 #[.slice a1 c.when.length c1] (some 9) (by kernel_rfl) (fun w S hG => ?_)
  refine (vcheck (globs_of (hG.at 0 rfl)) (hG.at 1 rfl) hl1).mono ?_
  rintro e1 w1 ⟨v, hR, hv⟩
  refine ⟨_, _, _, hR, ?_⟩
  obtain ⟨hv0, rfl⟩ | ⟨hv0, rfl⟩ := hv
  · try simp only [List.cons_append, List.nil_append, List.append_nil]
    refine JR_run (id := 1) (rest := []) [.rd 3 [] 0 0] [1, 2, 3] (E1 := fun _ => [(1, .val (.pointer (some (⟨nu1 0, 0, none⟩)))), (2, .val (.nilIface)), (3, .val (.nilIface))]) (h1 := fun _ => [(nu1 0, .cells #[.slice a1 c.when.length c1, .int .i64 c.place, .slice a2 c.ops.length c2] 28 (0, 0))]) (p1 := fun _ => []) (W1 := []) (fun _ => by kernel_rfl) (fun _ => trivial) (fun _ => ?_)
    refine JR_end ?_
    refine J_seq ?_
    refine J_reg mixed [.rd 0 [] 0 0, .rd 1 [] 0 0] [] [1, 2, 3, 11] (E1 := fun _ => [(1, .val (.pointer (some (⟨nu1 0, 0, none⟩)))), (2, .val (.nilIface)), (3, .val (.nilIface)), (11, .val (.bool false))]) (h1 := fun _ => [(nu1 0, .cells #[.slice a1 c.when.length c1, .int .i64 c.place, .slice a2 c.ops.length c2] 28 (0, 0))]) (p1 := fun _ => []) (W1 := []) (by kernel_rfl) (fun _ => by kernel_rfl) (fun _ => trivial) (fun _ => ?_)
    refine J_cond_f (by kernel_rfl) (by kernel_rfl) ?_
    refine J_skip ?_
    refine J_seq ?_
    refine J_seq ?_
    by_cases hb : c.place < 0 ∨ c.when.length ≤ c.place
    · have e : comFault c = ⟨2, -1⟩ := by rw [comFault, if_neg (by simp [hv0]), if_pos (by omega)]
      rcases (by omega : c.place < 0 ∨ (0 ≤ c.place ∧ c.when.length ≤ c.place)) with hb1 | ⟨hb1, hb2⟩
      · refine J_reg mixed [.rd 0 [] 0 0, .rd 1 [.o 0 none] 0 0, .rd 2 [] 0 6, .rd 3 [] 0 0, .rd 4 [] 1 0, .rd 5 [] 1 0, .rd 6 [] 1 0, .rd 7 [] 1 0, .rd 8 [] 1 0, .rd 9 [] 1 0, .rd 10 [] 0 0, .rd 11 [] 0 0, .rd 12 [] 1 0, .rd 13 [] 1 0, .rd 14 [] 1 0, .rd 15 [] 1 0, .rd 16 [] 1 0, .rd 17 [] 1 0, .rd 18 [] 1 0, .rd 19 [] 0 0, .rd 20 [] 0 0, .rd 21 [] 1 0, .rd 22 [] 1 0, .rd 23 [] 1 0, .rd 24 [] 1 0, .rd 25 [] 0 0] [] [1, 2, 38] (E1 := fun _ => [(1, .val (.pointer (some (⟨nu1 0, 0, none⟩)))), (2, .val (.nilIface)), (38, .val (.bool true))]) (h1 := fun _ => [(nu1 0, .cells #[.slice a1 c.when.length c1, .int .i64 c.place, .slice a2 c.ops.length c2] 28 (0, 0))]) (p1 := fun _ => [decide (c.place < (0 : Int)) = true]) (W1 := []) (by kernel_rfl) (fun _ => by kernel_rfl) (fun _ => ⟨by simp; omega, trivial⟩) (fun _ => ?_)
        refine J_cond_t (by kernel_rfl) (by kernel_rfl) ?_
        refine J_seq ?_
        refine J_reg mixed [.rd 0 [.r 0 (some (.iface 243 (.pointer (some (er 2)))))] 0 0, .rd 1 [] 0 0] [] [1, 2] (E1 := fun _ => [(1, .val (.pointer (some (⟨nu1 0, 0, none⟩)))), (2, .val (.iface 243 (.pointer (some (er 2)))))]) (h1 := fun _ => [(nu1 0, .cells #[.slice a1 c.when.length c1, .int .i64 c.place, .slice a2 c.ops.length c2] 28 (0, 0))]) (p1 := fun _ => [csg1[(0 : Nat)]? = some (Value.iface (243 : Nat) (Value.pointer (some (er (2 : Nat)))))]) (W1 := []) (by kernel_rfl) (fun _ => by kernel_rfl) (fun _ => ⟨hglob1, trivial⟩) (fun _ => ?_)
        refine J_return [[]] (.iface 243 (.pointer (some (er 2)))) (by kernel_rfl) (fun a w s => ?_)
        rw [e]
        exact .inl ⟨rfl, _, s.ret (by simp) [] [] rfl rfl, .inr ⟨by decide, rfl⟩⟩
      · refine J_reg mixed [.rd 0 [] 0 0, .rd 1 [.o 0 none] 0 0, .rd 2 [] 0 7, .rd 3 [] 0 0, .rd 4 [] 0 0, .rd 5 [.o 0 none] 0 0, .rd 6 [] 0 0, .rd 7 [.o 0 none] 0 0, .rd 8 [] 0 0, .rd 9 [] 0 6, .rd 10 [] 0 0, .rd 11 [] 0 0, .rd 12 [] 1 0, .rd 13 [] 1 0, .rd 14 [] 1 0, .rd 15 [] 1 0, .rd 16 [] 1 0, .rd 17 [] 1 0, .rd 18 [] 1 0, .rd 19 [] 0 0, .rd 20 [] 0 0, .rd 21 [] 1 0, .rd 22 [] 1 0, .rd 23 [] 1 0, .rd 24 [] 1 0, .rd 25 [] 0 0] [] [1, 2, 38] (E1 := fun _ => [(1, .val (.pointer (some (⟨nu1 0, 0, none⟩)))), (2, .val (.nilIface)), (38, .val (.bool true))]) (h1 := fun _ => [(nu1 0, .cells #[.slice a1 c.when.length c1, .int .i64 c.place, .slice a2 c.ops.length c2] 28 (0, 0))]) (p1 := fun _ => [decide (c.place < (0 : Int)) = false, decide (c.place ≥ (↑c.when.length : Int)) = true]) (W1 := []) (by kernel_rfl) (fun _ => by kernel_rfl) (fun _ => ⟨by simp; omega, by simp; omega, trivial⟩) (fun _ => ?_)
        refine J_cond_t (by kernel_rfl) (by kernel_rfl) ?_
        refine J_seq ?_
        refine J_reg mixed [.rd 0 [.r 0 (some (.iface 243 (.pointer (some (er 2)))))] 0 0, .rd 1 [] 0 0] [] [1, 2] (E1 := fun _ => [(1, .val (.pointer (some (⟨nu1 0, 0, none⟩)))), (2, .val (.iface 243 (.pointer (some (er 2)))))]) (h1 := fun _ => [(nu1 0, .cells #[.slice a1 c.when.length c1, .int .i64 c.place, .slice a2 c.ops.length c2] 28 (0, 0))]) (p1 := fun _ => [csg1[(0 : Nat)]? = some (Value.iface (243 : Nat) (Value.pointer (some (er (2 : Nat)))))]) (W1 := []) (by kernel_rfl) (fun _ => by kernel_rfl) (fun _ => ⟨hglob1, trivial⟩) (fun _ => ?_)
        refine J_return [[]] (.iface 243 (.pointer (some (er 2)))) (by kernel_rfl) (fun a w s => ?_)
        rw [e]
        exact .inl ⟨rfl, _, s.ret (by simp) [] [] rfl rfl, .inr ⟨by decide, rfl⟩⟩
    obtain ⟨t, ht⟩ : ∃ t, c.when[c.place.toNat]? = some t := ⟨_, List.getElem?_eq_getElem (by omega)⟩
    have hg : ¬ (vecErr c.when ≠ 0) := by simp [hv0]
    refine J_read0 1 rfl c.place.toNat (map_at ht) (by kernel_rfl) (fun b1 off1 cs1 ty1 fz1 ha1 hrd1 => ?_)
    cases ha1
    have hrd1_0 := rd0 (hrd1 0 _ rfl)
    by_cases h0 : t = 0
    · have e : comFault c = ⟨2, -1⟩ := by
        by_cases h12 : 12 < c.ops.length
        · rw [comFault, if_neg hg, if_pos (by omega)]
        · rw [comFault, if_neg hg, if_neg (by omega), if_pos (by rw [ht, h0])]
      try simp only [List.cons_append, List.nil_append, List.append_nil]
      refine J_reg mixed [.rd 0 [] 0 0, .rd 1 [.o 0 none] 0 0, .rd 2 [] 0 7, .rd 3 [] 0 0, .rd 4 [] 0 0, .rd 5 [.o 0 none] 0 0, .rd 6 [] 0 0, .rd 7 [.o 0 none] 0 0, .rd 8 [] 0 0, .rd 9 [] 0 7, .rd 10 [] 0 0, .rd 11 [] 0 0, .rd 12 [] 0 0, .rd 13 [.o 0 none] 0 0, .rd 14 [] 0 0, .rd 15 [.o 0 none] 0 0, .rd 16 [] 0 2, .rd 17 [.r 2 (some (.int .i64 t))] 0 0, .rd 18 [] 0 6, .rd 19 [] 0 0, .rd 20 [] 0 0, .rd 21 [] 1 0, .rd 22 [] 1 0, .rd 23 [] 1 0, .rd 24 [] 1 0, .rd 25 [] 0 0] [] [1, 2, 38] (E1 := fun _ => [(1, .val (.pointer (some (⟨nu1 0, 0, none⟩)))), (2, .val (.nilIface)), (38, .val (.bool true))]) (h1 := fun _ => [(nu1 0, .cells #[.slice (some (⟨b1, off1, none⟩)) c.when.length c1, .int .i64 c.place, .slice a2 c.ops.length c2] 28 (0, 0))]) (p1 := fun _ => [decide (c.place < (0 : Int)) = false, decide (c.place ≥ (↑c.when.length : Int)) = false, (0 : Int) ≤ c.place, c.place < (↑c.when.length : Int), cs1[off1 + c.place.toNat * (1 : Nat)]? = some (Value.int IntKind.i64 t), (t == (0 : Int)) = true]) (W1 := []) (by kernel_rfl) (fun _ => by kernel_rfl) (fun _ => ⟨by simp; omega, by simp; omega, by omega, by omega, hrd1_0, by simp; omega, trivial⟩) (fun _ => ?_)
      refine J_cond_t (by kernel_rfl) (by kernel_rfl) ?_
      refine J_seq ?_
      refine J_reg mixed [.rd 0 [.r 0 (some (.iface 243 (.pointer (some (er 2)))))] 0 0, .rd 1 [] 0 0] [] [1, 2] (E1 := fun _ => [(1, .val (.pointer (some (⟨nu1 0, 0, none⟩)))), (2, .val (.iface 243 (.pointer (some (er 2)))))]) (h1 := fun _ => [(nu1 0, .cells #[.slice (some (⟨b1, off1, none⟩)) c.when.length c1, .int .i64 c.place, .slice a2 c.ops.length c2] 28 (0, 0))]) (p1 := fun _ => [csg1[(0 : Nat)]? = some (Value.iface (243 : Nat) (Value.pointer (some (er (2 : Nat)))))]) (W1 := []) (by kernel_rfl) (fun _ => by kernel_rfl) (fun _ => ⟨hglob1, trivial⟩) (fun _ => ?_)
      refine J_return [[]] (.iface 243 (.pointer (some (er 2)))) (by kernel_rfl) (fun a w s => ?_)
      rw [e]
      exact .inl ⟨rfl, _, s.ret (by simp) [] [] rfl rfl, .inr ⟨by decide, rfl⟩⟩
    have h00 : ¬ c.when[c.place.toNat]? = some 0 := by rw [ht]; simpa using h0
    by_cases h12 : 12 < c.ops.length
    · have e : comFault c = ⟨2, -1⟩ := by rw [comFault, if_neg hg, if_pos (by omega)]
      try simp only [List.cons_append, List.nil_append, List.append_nil]
      refine J_reg mixed [.rd 0 [] 0 0, .rd 1 [.o 0 none] 0 0, .rd 2 [] 0 7, .rd 3 [] 0 0, .rd 4 [] 0 0, .rd 5 [.o 0 none] 0 0, .rd 6 [] 0 0, .rd 7 [.o 0 none] 0 0, .rd 8 [] 0 0, .rd 9 [] 0 7, .rd 10 [] 0 0, .rd 11 [] 0 0, .rd 12 [] 0 0, .rd 13 [.o 0 none] 0 0, .rd 14 [] 0 0, .rd 15 [.o 0 none] 0 0, .rd 16 [] 0 2, .rd 17 [.r 2 (some (.int .i64 t))] 0 0, .rd 18 [] 0 7, .rd 19 [] 0 0, .rd 20 [] 0 0, .rd 21 [] 0 0, .rd 22 [.o 0 none] 0 0, .rd 23 [] 0 0, .rd 24 [] 0 6, .rd 25 [] 0 0] [] [1, 2, 38] (E1 := fun _ => [(1, .val (.pointer (some (⟨nu1 0, 0, none⟩)))), (2, .val (.nilIface)), (38, .val (.bool true))]) (h1 := fun _ => [(nu1 0, .cells #[.slice (some (⟨b1, off1, none⟩)) c.when.length c1, .int .i64 c.place, .slice a2 c.ops.length c2] 28 (0, 0))]) (p1 := fun _ => [decide (c.place < (0 : Int)) = false, decide (c.place ≥ (↑c.when.length : Int)) = false, (0 : Int) ≤ c.place, c.place < (↑c.when.length : Int), cs1[off1 + c.place.toNat * (1 : Nat)]? = some (Value.int IntKind.i64 t), (t == (0 : Int)) = false, decide ((↑c.ops.length : Int) > (12 : Int)) = true]) (W1 := []) (by kernel_rfl) (fun _ => by kernel_rfl) (fun _ => ⟨by simp; omega, by simp; omega, by omega, by omega, hrd1_0, by simp; omega, by simp; omega, trivial⟩) (fun _ => ?_)
      refine J_cond_t (by kernel_rfl) (by kernel_rfl) ?_
      refine J_seq ?_
      refine J_reg mixed [.rd 0 [.r 0 (some (.iface 243 (.pointer (some (er 2)))))] 0 0, .rd 1 [] 0 0] [] [1, 2] (E1 := fun _ => [(1, .val (.pointer (some (⟨nu1 0, 0, none⟩)))), (2, .val (.iface 243 (.pointer (some (er 2)))))]) (h1 := fun _ => [(nu1 0, .cells #[.slice (some (⟨b1, off1, none⟩)) c.when.length c1, .int .i64 c.place, .slice a2 c.ops.length c2] 28 (0, 0))]) (p1 := fun _ => [csg1[(0 : Nat)]? = some (Value.iface (243 : Nat) (Value.pointer (some (er (2 : Nat)))))]) (W1 := []) (by kernel_rfl) (fun _ => by kernel_rfl) (fun _ => ⟨hglob1, trivial⟩) (fun _ => ?_)
      refine J_return [[]] (.iface 243 (.pointer (some (er 2)))) (by kernel_rfl) (fun a w s => ?_)
      rw [e]
      exact .inl ⟨rfl, _, s.ret (by simp) [] [] rfl rfl, .inr ⟨by decide, rfl⟩⟩
    have hb2 : ¬ (c.place < 0 ∨ c.when.length ≤ c.place ∨ 12 < c.ops.length) := by omega
    try simp only [List.cons_append, List.nil_append, List.append_nil]
    refine J_reg mixed [.rd 0 [] 0 0, .rd 1 [.o 0 none] 0 0, .rd 2 [] 0 7, .rd 3 [] 0 0, .rd 4 [] 0 0, .rd 5 [.o 0 none] 0 0, .rd 6 [] 0 0, .rd 7 [.o 0 none] 0 0, .rd 8 [] 0 0, .rd 9 [] 0 7, .rd 10 [] 0 0, .rd 11 [] 0 0, .rd 12 [] 0 0, .rd 13 [.o 0 none] 0 0, .rd 14 [] 0 0, .rd 15 [.o 0 none] 0 0, .rd 16 [] 0 2, .rd 17 [.r 2 (some (.int .i64 t))] 0 0, .rd 18 [] 0 7, .rd 19 [] 0 0, .rd 20 [] 0 0, .rd 21 [] 0 0, .rd 22 [.o 0 none] 0 0, .rd 23 [] 0 0, .rd 24 [] 0 7, .rd 25 [] 0 0] [] [1, 2, 38] (E1 := fun _ => [(1, .val (.pointer (some (⟨nu1 0, 0, none⟩)))), (2, .val (.nilIface)), (38, .val (.bool false))]) (h1 := fun _ => [(nu1 0, .cells #[.slice (some (⟨b1, off1, none⟩)) c.when.length c1, .int .i64 c.place, .slice a2 c.ops.length c2] 28 (0, 0))]) (p1 := fun _ => [decide (c.place < (0 : Int)) = false, decide (c.place ≥ (↑c.when.length : Int)) = false, (0 : Int) ≤ c.place, c.place < (↑c.when.length : Int), cs1[off1 + c.place.toNat * (1 : Nat)]? = some (Value.int IntKind.i64 t), (t == (0 : Int)) = false, decide ((↑c.ops.length : Int) > (12 : Int)) = false]) (W1 := []) (by kernel_rfl) (fun _ => by kernel_rfl) (fun _ => ⟨by simp; omega, by simp; omega, by omega, by omega, hrd1_0, by simp; omega, by simp; omega, trivial⟩) (fun _ => ?_)
    refine J_cond_f (by kernel_rfl) (by kernel_rfl) ?_
    refine J_skip ?_
    refine J_seq ?_
    refine J_seq ?_
    refine J_reg mixed [.rd 0 [] 0 0, .rd 1 [.o 0 none] 0 0, .rd 2 [] 0 0, .rd 3 [] 0 0] [] [1, 2, 43] (E1 := fun _ => [(1, .val (.pointer (some (⟨nu1 0, 0, none⟩)))), (2, .val (.nilIface)), (43, .val (.bool ((↑c.ops.length : Int) == 0)))]) (h1 := fun _ => [(nu1 0, .cells #[.slice (some (⟨b1, off1, none⟩)) c.when.length c1, .int .i64 c.place, .slice a2 c.ops.length c2] 28 (0, 0))]) (p1 := fun _ => []) (W1 := []) (by kernel_rfl) (fun _ => by kernel_rfl) (fun _ => trivial) (fun _ => ?_)
    refine J_cond (t := (↑c.ops.length : Int) == 0) (by kernel_rfl) (by kernel_rfl) (fun hz => ?_) (fun hz => ?_)
    · have e : comFault c = ⟨3, -1⟩ := by rw [comFault, if_neg hg, if_neg hb2, if_neg h00, if_pos (by simp at hz; simp [hz])]
      refine J_seq ?_
      refine J_reg mixed [.rd 0 [.r 1 (some (.iface 243 (.pointer (some (er 3)))))] 0 0, .rd 1 [] 0 0] [] [1, 2] (E1 := fun _ => [(1, .val (.pointer (some (⟨nu1 0, 0, none⟩)))), (2, .val (.iface 243 (.pointer (some (er 3)))))]) (h1 := fun _ => [(nu1 0, .cells #[.slice (some (⟨b1, off1, none⟩)) c.when.length c1, .int .i64 c.place, .slice a2 c.ops.length c2] 28 (0, 0))]) (p1 := fun _ => [csg2[(0 : Nat)]? = some (Value.iface (243 : Nat) (Value.pointer (some (er (3 : Nat)))))]) (W1 := []) (by kernel_rfl) (fun _ => by kernel_rfl) (fun _ => ⟨hglob2, trivial⟩) (fun _ => ?_)
      refine J_return [[]] (.iface 243 (.pointer (some (er 3)))) (by kernel_rfl) (fun a w s => ?_)
      rw [e]
      exact .inl ⟨rfl, _, s.ret (by simp) [] [] rfl rfl, .inr ⟨by decide, rfl⟩⟩
    have hz2 : ¬ c.ops.length = 0 := by simp at hz; simp [hz]
    have e : comFault c = opsFault c.ops c.when.length c.ops.length 0 := by rw [comFault, if_neg hg, if_neg hb2, if_neg h00, if_neg hz2]
    rw [e]
    refine J_skip ?_
    refine J_seq ?_
    refine J_seq ?_
    refine J_reg mixed [.rd 0 [] 0 0, .rd 1 [.o 0 none] 0 0, .rd 2 [] 0 0, .rd 3 [] 0 0] [] [1, 2, 46, 47, 48] (E1 := fun _ => [(1, .val (.pointer (some (⟨nu1 0, 0, none⟩)))), (2, .val (.nilIface)), (46, .val (.slice a2 c.ops.length c2)), (47, .val (.int .i64 (↑c.ops.length : Int))), (48, .val (.int .i64 0))]) (h1 := fun _ => [(nu1 0, .cells #[.slice (some (⟨b1, off1, none⟩)) c.when.length c1, .int .i64 c.place, .slice a2 c.ops.length c2] 28 (0, 0))]) (p1 := fun _ => []) (W1 := []) (by kernel_rfl) (fun _ => by kernel_rfl) (fun _ => trivial) (fun _ => ?_)
    refine J_block ?_
    refine J_loopx (fun i : Int => [(1, .val (.pointer (some (⟨nu1 0, 0, none⟩)))), (2, .val (.nilIface)), (46, .val (.slice a2 c.ops.length c2)), (47, .val (.int .i64 (↑c.ops.length : Int))), (48, .val (.int .i64 i))]) (fun i : Int => [(nu1 0, .cells #[.slice (some (⟨b1, off1, none⟩)) c.when.length c1, .int .i64 c.place, .slice a2 c.ops.length c2] 28 (0, 0))]) (fun i : Int => []) (fun i : Int => [(.nilIface, (dC er eb)), (.slice (some (⟨b1, off1, none⟩)) c.when.length c1, (dInts c.when)), (.slice a2 c.ops.length c2, (D.sl 7 (List.map eOp c.ops))), (.pointer (some (⟨0, 0, none⟩)), (D.ptr [D.v (Value.iface 243 (Value.pointer (some (er 2))))])), (.pointer (some (⟨3, 0, none⟩)), (D.ptr [D.v (Value.iface 243 (Value.pointer (some (er 3))))]))]) (fun i : Int => (c.ops.length - i).toNat) (fun i : Int => (0 ≤ i ∧ i ≤ c.ops.length ∧ ∀ j : Nat, 0 ≤ j → j < i.toNat → opErrAt c.ops c.when.length j = 0)) 0 [1, 2, 46, 47, 48] [0] [] [0, 1, 2, 3, 4] ?_ (by kernel_rfl) rfl rfl rfl ?_
    · exact ⟨by simp, by omega, by simp⟩
    rintro i ⟨hi0, hi, hno⟩
    refine J_seq ?_
    refine J_reg mixed [.rd 0 [] 0 0] [] [1, 2, 46, 47, 48, 49] (E1 := fun _ => [(1, .val (.pointer (some (⟨nu1 0, 0, none⟩)))), (2, .val (.nilIface)), (46, .val (.slice a2 c.ops.length c2)), (47, .val (.int .i64 (↑c.ops.length : Int))), (48, .val (.int .i64 i)), (49, .val (.bool (decide (i < (↑c.ops.length : Int)))))]) (h1 := fun _ => [(nu1 0, .cells #[.slice (some (⟨b1, off1, none⟩)) c.when.length c1, .int .i64 c.place, .slice a2 c.ops.length c2] 28 (0, 0))]) (p1 := fun _ => []) (W1 := []) (by kernel_rfl) (fun _ => by kernel_rfl) (fun _ => trivial) (fun _ => ?_)
    refine J_seq ?_
    refine J_cond (t := decide (i < (↑c.ops.length : Int))) (by kernel_rfl) (by kernel_rfl) (fun hlt => ?_) (fun hlt => ?_)
    · have hlt2 : i < c.ops.length := by simpa using hlt
      obtain ⟨o, ho⟩ : ∃ o, c.ops[i.toNat]? = some o := ⟨_, List.getElem?_eq_getElem (by omega)⟩
      have hit : ∀ k : Nat, opErrAt c.ops c.when.length i.toNat = k → k ≠ 0 → opsFault c.ops c.when.length c.ops.length 0 = ⟨k, i⟩ := fun k hk h0 => by
        rw [(opsFault_from c.ops.length 0 i.toNat (Nat.zero_le _) hno).2 (by omega) (by rw [hk]; exact h0), hk]
        congr 1
        omega
      have next : opErrAt c.ops c.when.length i.toNat = 0 → 0 ≤ i + 1 ∧ i + 1 ≤ c.ops.length ∧ ∀ j : Nat, 0 ≤ j → j < (i + 1).toNat → opErrAt c.ops c.when.length j = 0 := fun h => ⟨by omega, by omega, fun j h0 hj => by
        by_cases hji : j = i.toNat
        · rw [hji]; exact h
        · exact hno j h0 (by omega)⟩
      refine J_glob 4 rfl (fun csg3 tyg3 fzg3 hglob3 => ?_)
      refine J_read1 2 rfl i.toNat (map_at ho) (by kernel_rfl) (fun b2 off2 cs2 ty2 fz2 a2_0 c2_0 ha2 hrd2 => ?_)
      cases ha2
      have hrd2_0 := rd0 (hrd2 0 _ rfl)
      have hrd2_1 := hrd2 1 _ rfl
      have hrd2_2 := hrd2 2 _ rfl
      have hrd2_3 := hrd2 3 _ rfl
      have hrd2_4 := hrd2 4 _ rfl
      have hrd2_5 := hrd2 5 _ rfl
      have hrd2_6 := hrd2 6 _ rfl
      by_cases hi1 : i = 0
      · have hz0 : i.toNat = 0 := by omega
        try simp only [List.cons_append, List.nil_append, List.append_nil]
        refine J_skip ?_
        refine J_seq ?_
        refine J_block ?_
        refine J_seq ?_
        refine J_reg mixed [.rd 0 [] 0 0, .rd 1 [] 0 2, .rd 2 [.r 4 (some (.int .i64 o.no)), .r 4 (some (.string o.key)), .r 4 (some (.int .i64 o.kind)), .r 4 (some (.string o.text)), .r 4 (some (.int .i64 o.n)), .r 4 (some (.bool o.remove)), .r 4 (some (.slice (a2_0, c2_0).fst ((List.map eDot o.dots).length) c2_0))] 0 0, .wr 3 [] 0, .rd 4 [] 0 0, .wr 5 [.o 1 none, .o 1 none, .o 1 none, .o 1 none, .o 1 none, .o 1 none, .o 1 none] 0] [(5, [])] [1, 2, 4, 5, 46, 47, 48] (E1 := fun nu2 => [(1, .val (.pointer (some (⟨nu1 0, 0, none⟩)))), (2, .val (.nilIface)), (4, .val (.int .i64 i)), (5, .val (.pointer (some (⟨nu2 0, 0, none⟩)))), (46, .val (.slice (some (⟨b2, off2, none⟩)) c.ops.length c2)), (47, .val (.int .i64 (↑c.ops.length : Int))), (48, .val (.int .i64 i))]) (h1 := fun nu2 => [(nu1 0, .cells #[.slice (some (⟨b1, off1, none⟩)) c.when.length c1, .int .i64 c.place, .slice (some (⟨b2, off2, none⟩)) c.ops.length c2] 28 (0, 0)), (nu2 0, .cells #[.int .i64 o.no, .string o.key, .int .i64 o.kind, .string o.text, .int .i64 o.n, .bool o.remove, .slice (a2_0, c2_0).fst ((List.map eDot o.dots).length) c2_0] 24 (0, 0))]) (p1 := fun nu2 => [(0 : Int) ≤ i, i < (↑c.ops.length : Int), cs2[off2 + i.toNat * (7 : Nat)]? = some (Value.int IntKind.i64 o.no), cs2[off2 + i.toNat * (7 : Nat) + (1 : Nat)]? = some (Value.string o.key), cs2[off2 + i.toNat * (7 : Nat) + (2 : Nat)]? = some (Value.int IntKind.i64 o.kind), cs2[off2 + i.toNat * (7 : Nat) + (3 : Nat)]? = some (Value.string o.text), cs2[off2 + i.toNat * (7 : Nat) + (4 : Nat)]? = some (Value.int IntKind.i64 o.n), cs2[off2 + i.toNat * (7 : Nat) + (5 : Nat)]? = some (Value.bool o.remove), cs2[off2 + i.toNat * (7 : Nat) + (6 : Nat)]? = some (Value.slice (a2_0, c2_0).fst (List.map eDot o.dots).length (a2_0, c2_0).snd)]) (W1 := []) (by kernel_rfl) (fun _ => by kernel_rfl) (fun _ => ⟨hi0, hlt2, hrd2_0, hrd2_1, hrd2_2, hrd2_3, hrd2_4, hrd2_5, hrd2_6, trivial⟩) (fun nu2 => ?_)
        refine J_seq ?_
        refine JR_begin mixed [(0, true), (1, true), (2, true), (3, true), (4, false), (5, true)] [] (by kernel_rfl) (by kernel_rfl) ?_
        refine JR_run (id := 11) (rest := [(4, false), (5, true)]) [.rd 0 [.o 1 none, .o 1 none, .o 1 none, .o 1 none, .o 1 none, .o 1 none, .o 1 none] 0 0, .rd 1 [] 0 0, .rd 2 [.o 0 none] 0 0, .rd 3 [] 0 0] [1, 2, 4, 5, 46, 47, 48, 53, 56] (E1 := fun _ => [(1, .val (.pointer (some (⟨nu1 0, 0, none⟩)))), (2, .val (.nilIface)), (4, .val (.int .i64 i)), (5, .val (.pointer (some (⟨nu2 0, 0, none⟩)))), (46, .val (.slice (some (⟨b2, off2, none⟩)) c.ops.length c2)), (47, .val (.int .i64 (↑c.ops.length : Int))), (48, .val (.int .i64 i)), (53, .val (.agg #[.int .i64 o.no, .string o.key, .int .i64 o.kind, .string o.text, .int .i64 o.n, .bool o.remove, .slice (a2_0, c2_0).fst ((List.map eDot o.dots).length) c2_0])), (56, .val (.int .i64 (↑c.when.length : Int)))]) (h1 := fun _ => [(nu1 0, .cells #[.slice (some (⟨b1, off1, none⟩)) c.when.length c1, .int .i64 c.place, .slice (some (⟨b2, off2, none⟩)) c.ops.length c2] 28 (0, 0)), (nu2 0, .cells #[.int .i64 o.no, .string o.key, .int .i64 o.kind, .string o.text, .int .i64 o.n, .bool o.remove, .slice (a2_0, c2_0).fst ((List.map eDot o.dots).length) c2_0] 24 (0, 0))]) (p1 := fun _ => []) (W1 := []) (fun _ => by kernel_rfl) (fun _ => trivial) (fun _ => ?_)
        refine JR_callp [] 14 #[.agg #[.int .i64 o.no, .string o.key, .int .i64 o.kind, .string o.text, .int .i64 o.n, .bool o.remove, .slice (a2_0, c2_0).fst ((List.map eDot o.dots).length) c2_0], .int .i64 (↑c.when.length : Int)] (some 57) (by kernel_rfl) (fun w S hG => ?_)
        refine (vCheckOp (o := o) (hG.at 0 rfl) (hG.at 5 rfl)).mono ?_
        rintro e1 w1 ⟨v, hR, hv⟩
        refine ⟨_, _, _, hR, ?_⟩
        obtain ⟨he, rfl⟩ | ⟨he, rfl⟩ := hv
        · try simp only [List.cons_append, List.nil_append, List.append_nil]
          refine JR_run (id := 11) (rest := []) [.rd 5 [] 0 0] [1, 2, 4, 5, 6, 46, 47, 48] (E1 := fun _ => [(1, .val (.pointer (some (⟨nu1 0, 0, none⟩)))), (2, .val (.nilIface)), (4, .val (.int .i64 i)), (5, .val (.pointer (some (⟨nu2 0, 0, none⟩)))), (6, .val (.nilIface)), (46, .val (.slice (some (⟨b2, off2, none⟩)) c.ops.length c2)), (47, .val (.int .i64 (↑c.ops.length : Int))), (48, .val (.int .i64 i))]) (h1 := fun _ => [(nu1 0, .cells #[.slice (some (⟨b1, off1, none⟩)) c.when.length c1, .int .i64 c.place, .slice (some (⟨b2, off2, none⟩)) c.ops.length c2] 28 (0, 0)), (nu2 0, .cells #[.int .i64 o.no, .string o.key, .int .i64 o.kind, .string o.text, .int .i64 o.n, .bool o.remove, .slice a2_0 ((List.map eDot o.dots).length) c2_0] 24 (0, 0))]) (p1 := fun _ => []) (W1 := []) (fun _ => by kernel_rfl) (fun _ => trivial) (fun _ => ?_)
          refine JR_end ?_
          refine J_seq ?_
          refine J_seq ?_
          refine J_reg mixed [.rd 0 [] 0 0, .rd 1 [] 0 0, .rd 2 [] 0 0, .rd 3 [] 0 0, .rd 4 [] 0 7, .rd 5 [] 0 0, .rd 6 [] 0 0, .rd 7 [] 1 0, .rd 8 [] 1 0, .rd 9 [] 1 0, .rd 10 [] 1 0, .rd 11 [] 1 0, .rd 12 [] 1 0, .rd 13 [] 1 0, .rd 14 [] 1 0, .rd 15 [] 1 0, .rd 16 [] 1 0, .rd 17 [] 0 0] [] [1, 2, 4, 5, 6, 46, 47, 48, 75] (E1 := fun _ => [(1, .val (.pointer (some (⟨nu1 0, 0, none⟩)))), (2, .val (.nilIface)), (4, .val (.int .i64 i)), (5, .val (.pointer (some (⟨nu2 0, 0, none⟩)))), (6, .val (.nilIface)), (46, .val (.slice (some (⟨b2, off2, none⟩)) c.ops.length c2)), (47, .val (.int .i64 (↑c.ops.length : Int))), (48, .val (.int .i64 i)), (75, .val (.bool false))]) (h1 := fun _ => [(nu1 0, .cells #[.slice (some (⟨b1, off1, none⟩)) c.when.length c1, .int .i64 c.place, .slice (some (⟨b2, off2, none⟩)) c.ops.length c2] 28 (0, 0)), (nu2 0, .cells #[.int .i64 o.no, .string o.key, .int .i64 o.kind, .string o.text, .int .i64 o.n, .bool o.remove, .slice a2_0 ((List.map eDot o.dots).length) c2_0] 24 (0, 0))]) (p1 := fun _ => [decide (i > (0 : Int)) = false]) (W1 := []) (by kernel_rfl) (fun _ => by kernel_rfl) (fun _ => ⟨by simp; omega, trivial⟩) (fun _ => ?_)
          refine J_cond_f (by kernel_rfl) (by kernel_rfl) ?_
          refine J_skip ?_
          refine J_seq ?_
          refine J_reg mixed [.rd 0 [] 0 0, .rd 1 [] 0 0] [] [1, 2, 4, 5, 6, 46, 47, 48, 78] (E1 := fun _ => [(1, .val (.pointer (some (⟨nu1 0, 0, none⟩)))), (2, .val (.nilIface)), (4, .val (.int .i64 i)), (5, .val (.pointer (some (⟨nu2 0, 0, none⟩)))), (6, .val (.nilIface)), (46, .val (.slice (some (⟨b2, off2, none⟩)) c.ops.length c2)), (47, .val (.int .i64 (↑c.ops.length : Int))), (48, .val (.int .i64 i)), (78, .val (.bool false))]) (h1 := fun _ => [(nu1 0, .cells #[.slice (some (⟨b1, off1, none⟩)) c.when.length c1, .int .i64 c.place, .slice (some (⟨b2, off2, none⟩)) c.ops.length c2] 28 (0, 0)), (nu2 0, .cells #[.int .i64 o.no, .string o.key, .int .i64 o.kind, .string o.text, .int .i64 o.n, .bool o.remove, .slice a2_0 ((List.map eDot o.dots).length) c2_0] 24 (0, 0))]) (p1 := fun _ => []) (W1 := []) (by kernel_rfl) (fun _ => by kernel_rfl) (fun _ => trivial) (fun _ => ?_)
          refine J_cond_f (by kernel_rfl) (by kernel_rfl) ?_
          refine J_skip ?_
          refine J_eb ?_
          refine J_reg mixed [.rd 0 [] 0 1, .rd 1 [] 0 0] [] [1, 2, 4, 5, 6, 46, 47, 48] (E1 := fun _ => [(1, .val (.pointer (some (⟨nu1 0, 0, none⟩)))), (2, .val (.nilIface)), (4, .val (.int .i64 i)), (5, .val (.pointer (some (⟨nu2 0, 0, none⟩)))), (6, .val (.nilIface)), (46, .val (.slice (some (⟨b2, off2, none⟩)) c.ops.length c2)), (47, .val (.int .i64 (↑c.ops.length : Int))), (48, .val (.int .i64 (i + 1)))]) (h1 := fun _ => [(nu1 0, .cells #[.slice (some (⟨b1, off1, none⟩)) c.when.length c1, .int .i64 c.place, .slice (some (⟨b2, off2, none⟩)) c.ops.length c2] 28 (0, 0)), (nu2 0, .cells #[.int .i64 o.no, .string o.key, .int .i64 o.kind, .string o.text, .int .i64 o.n, .bool o.remove, .slice a2_0 ((List.map eDot o.dots).length) c2_0] 24 (0, 0))]) (p1 := fun _ => [IntKind.i64.wrap (i + (1 : Int)) = i + (1 : Int)]) (W1 := []) (by kernel_rfl) (fun _ => by kernel_rfl) (fun _ => ⟨wrap_i64 (by omega) (by omega), trivial⟩) (fun _ => ?_)
          refine J_backx (i + 1) [1, 2, 46, 47, 48] [0] [] [0, 1, 2, 3, 4] ?_ ?_ (by kernel_rfl) rfl rfl rfl
          · exact next (by rw [hz0] at ho ⊢; exact opErrAt_first ho he)
          · omega
        · try simp only [List.cons_append, List.nil_append, List.append_nil]
          refine JR_run (id := 11) (rest := []) [.rd 5 [] 0 0] [1, 2, 4, 5, 6, 46, 47, 48] (E1 := fun _ => [(1, .val (.pointer (some (⟨nu1 0, 0, none⟩)))), (2, .val (.nilIface)), (4, .val (.int .i64 i)), (5, .val (.pointer (some (⟨nu2 0, 0, none⟩)))), (6, .val (.iface 243 (.pointer (some (er (opErr o (↑c.when.length : Int))))))), (46, .val (.slice (some (⟨b2, off2, none⟩)) c.ops.length c2)), (47, .val (.int .i64 (↑c.ops.length : Int))), (48, .val (.int .i64 i))]) (h1 := fun _ => [(nu1 0, .cells #[.slice (some (⟨b1, off1, none⟩)) c.when.length c1, .int .i64 c.place, .slice (some (⟨b2, off2, none⟩)) c.ops.length c2] 28 (0, 0)), (nu2 0, .cells #[.int .i64 o.no, .string o.key, .int .i64 o.kind, .string o.text, .int .i64 o.n, .bool o.remove, .slice a2_0 ((List.map eDot o.dots).length) c2_0] 24 (0, 0))]) (p1 := fun _ => []) (W1 := []) (fun _ => by kernel_rfl) (fun _ => trivial) (fun _ => ?_)
          refine JR_end ?_
          refine J_seq ?_
          refine J_seq ?_
          refine J_reg mixed [.rd 0 [] 0 0, .rd 1 [] 0 0, .rd 2 [] 0 0, .rd 3 [] 1 0, .rd 4 [] 1 0, .rd 5 [] 0 0, .rd 6 [] 0 0, .rd 7 [] 1 0, .rd 8 [] 1 0, .rd 9 [] 1 0, .rd 10 [] 1 0, .rd 11 [] 1 0, .rd 12 [] 1 0, .rd 13 [] 1 0, .rd 14 [] 1 0, .rd 15 [] 1 0, .rd 16 [] 1 0, .rd 17 [] 0 0] [] [1, 2, 4, 5, 6, 46, 47, 48, 75] (E1 := fun _ => [(1, .val (.pointer (some (⟨nu1 0, 0, none⟩)))), (2, .val (.nilIface)), (4, .val (.int .i64 i)), (5, .val (.pointer (some (⟨nu2 0, 0, none⟩)))), (6, .val (.iface 243 (.pointer (some (er (opErr o (↑c.when.length : Int))))))), (46, .val (.slice (some (⟨b2, off2, none⟩)) c.ops.length c2)), (47, .val (.int .i64 (↑c.ops.length : Int))), (48, .val (.int .i64 i)), (75, .val (.bool false))]) (h1 := fun _ => [(nu1 0, .cells #[.slice (some (⟨b1, off1, none⟩)) c.when.length c1, .int .i64 c.place, .slice (some (⟨b2, off2, none⟩)) c.ops.length c2] 28 (0, 0)), (nu2 0, .cells #[.int .i64 o.no, .string o.key, .int .i64 o.kind, .string o.text, .int .i64 o.n, .bool o.remove, .slice a2_0 ((List.map eDot o.dots).length) c2_0] 24 (0, 0))]) (p1 := fun _ => []) (W1 := []) (by kernel_rfl) (fun _ => by kernel_rfl) (fun _ => trivial) (fun _ => ?_)
          refine J_cond_f (by kernel_rfl) (by kernel_rfl) ?_
          refine J_skip ?_
          refine J_seq ?_
          refine J_reg mixed [.rd 0 [] 0 0, .rd 1 [] 0 0] [] [1, 2, 4, 5, 6, 46, 47, 48, 78] (E1 := fun _ => [(1, .val (.pointer (some (⟨nu1 0, 0, none⟩)))), (2, .val (.nilIface)), (4, .val (.int .i64 i)), (5, .val (.pointer (some (⟨nu2 0, 0, none⟩)))), (6, .val (.iface 243 (.pointer (some (er (opErr o (↑c.when.length : Int))))))), (46, .val (.slice (some (⟨b2, off2, none⟩)) c.ops.length c2)), (47, .val (.int .i64 (↑c.ops.length : Int))), (48, .val (.int .i64 i)), (78, .val (.bool true))]) (h1 := fun _ => [(nu1 0, .cells #[.slice (some (⟨b1, off1, none⟩)) c.when.length c1, .int .i64 c.place, .slice (some (⟨b2, off2, none⟩)) c.ops.length c2] 28 (0, 0)), (nu2 0, .cells #[.int .i64 o.no, .string o.key, .int .i64 o.kind, .string o.text, .int .i64 o.n, .bool o.remove, .slice a2_0 ((List.map eDot o.dots).length) c2_0] 24 (0, 0))]) (p1 := fun _ => []) (W1 := []) (by kernel_rfl) (fun _ => by kernel_rfl) (fun _ => trivial) (fun _ => ?_)
          refine J_cond_t (by kernel_rfl) (by kernel_rfl) ?_
          refine J_seq ?_
          refine J_reg mixed [.rd 0 [] 0 0, .rd 1 [] 0 0, .rd 2 [] 0 0, .wr 3 [] 0, .rd 4 [] 0 0, .rd 5 [] 0 0] [] [1, 2, 4, 5, 6, 46, 47, 48] (E1 := fun nu3 => [(1, .val (.pointer (some (⟨nu1 0, 0, none⟩)))), (2, .val (.iface 102 (.pointer (some (⟨nu3 0, 0, none⟩))))), (4, .val (.int .i64 i)), (5, .val (.pointer (some (⟨nu2 0, 0, none⟩)))), (6, .val (.iface 243 (.pointer (some (er (opErr o (↑c.when.length : Int))))))), (46, .val (.slice (some (⟨b2, off2, none⟩)) c.ops.length c2)), (47, .val (.int .i64 (↑c.ops.length : Int))), (48, .val (.int .i64 i))]) (h1 := fun nu3 => [(nu1 0, .cells #[.slice (some (⟨b1, off1, none⟩)) c.when.length c1, .int .i64 c.place, .slice (some (⟨b2, off2, none⟩)) c.ops.length c2] 28 (0, 0)), (nu2 0, .cells #[.int .i64 o.no, .string o.key, .int .i64 o.kind, .string o.text, .int .i64 o.n, .bool o.remove, .slice a2_0 ((List.map eDot o.dots).length) c2_0] 24 (0, 0)), (nu3 0, .cells #[.int .i64 i, .iface 243 (.pointer (some (er (opErr o (↑c.when.length : Int)))))] 104 (0, 0))]) (p1 := fun nu3 => []) (W1 := []) (by kernel_rfl) (fun _ => by kernel_rfl) (fun _ => trivial) (fun nu3 => ?_)
          refine J_return [[]] (.iface 102 (.pointer (some (⟨nu3 0, 0, none⟩)))) (by kernel_rfl) (fun a w s => ?_)
          rw [hit _ (opErrAt_own ho he) he]
          exact .inr ⟨by simp only; omega, hi0, _, ((s.share 2 rfl).stp (stp_fact fun w S H => ptr_of_obj rfl rfl (H (_, _) (List.mem_of_getElem? (i := 6) rfl)))).ret (by simp) [] [7] rfl rfl⟩
      · obtain ⟨q, hq⟩ : ∃ q, c.ops[(i - 1).toNat]? = some q := ⟨_, List.getElem?_eq_getElem (by omega)⟩
        have hii : i.toNat = (i - 1).toNat + 1 := by omega
        refine J_again1 2 rfl 4 rfl ((i - 1).toNat) (map_at hq) (by kernel_rfl) (fun a3_0 c3_0 hrd3 => ?_)
        have hrd3_0 := rd0 (hrd3 0 _ rfl)
        have hrd3_1 := hrd3 1 _ rfl
        have hrd3_2 := hrd3 2 _ rfl
        have hrd3_3 := hrd3 3 _ rfl
        have hrd3_4 := hrd3 4 _ rfl
        have hrd3_5 := hrd3 5 _ rfl
        have hrd3_6 := hrd3 6 _ rfl
        try simp only [List.cons_append, List.nil_append, List.append_nil]
        refine J_skip ?_
        refine J_seq ?_
        refine J_block ?_
        refine J_seq ?_
        refine J_reg mixed [.rd 0 [] 0 0, .rd 1 [] 0 2, .rd 2 [.r 4 (some (.int .i64 o.no)), .r 4 (some (.string o.key)), .r 4 (some (.int .i64 o.kind)), .r 4 (some (.string o.text)), .r 4 (some (.int .i64 o.n)), .r 4 (some (.bool o.remove)), .r 4 (some (.slice (a2_0, c2_0).fst ((List.map eDot o.dots).length) c2_0))] 0 0, .wr 3 [] 0, .rd 4 [] 0 0, .wr 5 [.o 1 none, .o 1 none, .o 1 none, .o 1 none, .o 1 none, .o 1 none, .o 1 none] 0] [(5, [])] [1, 2, 4, 5, 46, 47, 48] (E1 := fun nu2 => [(1, .val (.pointer (some (⟨nu1 0, 0, none⟩)))), (2, .val (.nilIface)), (4, .val (.int .i64 i)), (5, .val (.pointer (some (⟨nu2 0, 0, none⟩)))), (46, .val (.slice (some (⟨b2, off2, none⟩)) c.ops.length c2)), (47, .val (.int .i64 (↑c.ops.length : Int))), (48, .val (.int .i64 i))]) (h1 := fun nu2 => [(nu1 0, .cells #[.slice (some (⟨b1, off1, none⟩)) c.when.length c1, .int .i64 c.place, .slice (some (⟨b2, off2, none⟩)) c.ops.length c2] 28 (0, 0)), (nu2 0, .cells #[.int .i64 o.no, .string o.key, .int .i64 o.kind, .string o.text, .int .i64 o.n, .bool o.remove, .slice (a2_0, c2_0).fst ((List.map eDot o.dots).length) c2_0] 24 (0, 0))]) (p1 := fun nu2 => [(0 : Int) ≤ i, i < (↑c.ops.length : Int), cs2[off2 + i.toNat * (7 : Nat)]? = some (Value.int IntKind.i64 o.no), cs2[off2 + i.toNat * (7 : Nat) + (1 : Nat)]? = some (Value.string o.key), cs2[off2 + i.toNat * (7 : Nat) + (2 : Nat)]? = some (Value.int IntKind.i64 o.kind), cs2[off2 + i.toNat * (7 : Nat) + (3 : Nat)]? = some (Value.string o.text), cs2[off2 + i.toNat * (7 : Nat) + (4 : Nat)]? = some (Value.int IntKind.i64 o.n), cs2[off2 + i.toNat * (7 : Nat) + (5 : Nat)]? = some (Value.bool o.remove), cs2[off2 + i.toNat * (7 : Nat) + (6 : Nat)]? = some (Value.slice (a2_0, c2_0).fst (List.map eDot o.dots).length (a2_0, c2_0).snd)]) (W1 := []) (by kernel_rfl) (fun _ => by kernel_rfl) (fun _ => ⟨hi0, hlt2, hrd2_0, hrd2_1, hrd2_2, hrd2_3, hrd2_4, hrd2_5, hrd2_6, trivial⟩) (fun nu2 => ?_)
        refine J_seq ?_
        refine JR_begin mixed [(0, true), (1, true), (2, true), (3, true), (4, false), (5, true)] [] (by kernel_rfl) (by kernel_rfl) ?_
        refine JR_run (id := 11) (rest := [(4, false), (5, true)]) [.rd 0 [.o 1 none, .o 1 none, .o 1 none, .o 1 none, .o 1 none, .o 1 none, .o 1 none] 0 0, .rd 1 [] 0 0, .rd 2 [.o 0 none] 0 0, .rd 3 [] 0 0] [1, 2, 4, 5, 46, 47, 48, 53, 56] (E1 := fun _ => [(1, .val (.pointer (some (⟨nu1 0, 0, none⟩)))), (2, .val (.nilIface)), (4, .val (.int .i64 i)), (5, .val (.pointer (some (⟨nu2 0, 0, none⟩)))), (46, .val (.slice (some (⟨b2, off2, none⟩)) c.ops.length c2)), (47, .val (.int .i64 (↑c.ops.length : Int))), (48, .val (.int .i64 i)), (53, .val (.agg #[.int .i64 o.no, .string o.key, .int .i64 o.kind, .string o.text, .int .i64 o.n, .bool o.remove, .slice (a2_0, c2_0).fst ((List.map eDot o.dots).length) c2_0])), (56, .val (.int .i64 (↑c.when.length : Int)))]) (h1 := fun _ => [(nu1 0, .cells #[.slice (some (⟨b1, off1, none⟩)) c.when.length c1, .int .i64 c.place, .slice (some (⟨b2, off2, none⟩)) c.ops.length c2] 28 (0, 0)), (nu2 0, .cells #[.int .i64 o.no, .string o.key, .int .i64 o.kind, .string o.text, .int .i64 o.n, .bool o.remove, .slice (a2_0, c2_0).fst ((List.map eDot o.dots).length) c2_0] 24 (0, 0))]) (p1 := fun _ => []) (W1 := []) (fun _ => by kernel_rfl) (fun _ => trivial) (fun _ => ?_)
        refine JR_callp [] 14 #[.agg #[.int .i64 o.no, .string o.key, .int .i64 o.kind, .string o.text, .int .i64 o.n, .bool o.remove, .slice (a2_0, c2_0).fst ((List.map eDot o.dots).length) c2_0], .int .i64 (↑c.when.length : Int)] (some 57) (by kernel_rfl) (fun w S hG => ?_)
        refine (vCheckOp (o := o) (hG.at 0 rfl) (hG.at 5 rfl)).mono ?_
        rintro e1 w1 ⟨v, hR, hv⟩
        refine ⟨_, _, _, hR, ?_⟩
        obtain ⟨he, rfl⟩ | ⟨he, rfl⟩ := hv
        · have hn := opErrAt_next (p := c.when.length) (by rw [← hii]; exact ho) hq he
          rw [← hii] at hn
          by_cases hno2 : o.no ≤ q.no
          · rw [if_pos hno2] at hn
            try simp only [List.cons_append, List.nil_append, List.append_nil]
            refine JR_run (id := 11) (rest := []) [.rd 5 [] 0 0] [1, 2, 4, 5, 6, 46, 47, 48] (E1 := fun _ => [(1, .val (.pointer (some (⟨nu1 0, 0, none⟩)))), (2, .val (.nilIface)), (4, .val (.int .i64 i)), (5, .val (.pointer (some (⟨nu2 0, 0, none⟩)))), (6, .val (.nilIface)), (46, .val (.slice (some (⟨b2, off2, none⟩)) c.ops.length c2)), (47, .val (.int .i64 (↑c.ops.length : Int))), (48, .val (.int .i64 i))]) (h1 := fun _ => [(nu1 0, .cells #[.slice (some (⟨b1, off1, none⟩)) c.when.length c1, .int .i64 c.place, .slice (some (⟨b2, off2, none⟩)) c.ops.length c2] 28 (0, 0)), (nu2 0, .cells #[.int .i64 o.no, .string o.key, .int .i64 o.kind, .string o.text, .int .i64 o.n, .bool o.remove, .slice a2_0 ((List.map eDot o.dots).length) c2_0] 24 (0, 0))]) (p1 := fun _ => []) (W1 := []) (fun _ => by kernel_rfl) (fun _ => trivial) (fun _ => ?_)
            refine JR_end ?_
            refine J_seq ?_
            refine J_seq ?_
            refine J_reg mixed [.rd 0 [] 0 0, .rd 1 [] 0 0, .rd 2 [] 0 0, .rd 3 [] 0 0, .rd 4 [] 0 6, .rd 5 [] 0 0, .rd 6 [] 0 0, .rd 7 [] 0 0, .rd 8 [.o 1 none] 0 0, .rd 9 [] 0 0, .rd 10 [.o 0 none] 0 0, .rd 11 [] 0 0, .rd 12 [] 0 1, .rd 13 [] 0 2, .rd 14 [] 0 0, .rd 15 [.r 4 (some (.int .i64 q.no))] 0 0, .rd 16 [] 0 6, .rd 17 [] 0 0] [] [1, 2, 4, 5, 6, 46, 47, 48, 75] (E1 := fun _ => [(1, .val (.pointer (some (⟨nu1 0, 0, none⟩)))), (2, .val (.nilIface)), (4, .val (.int .i64 i)), (5, .val (.pointer (some (⟨nu2 0, 0, none⟩)))), (6, .val (.nilIface)), (46, .val (.slice (some (⟨b2, off2, none⟩)) c.ops.length c2)), (47, .val (.int .i64 (↑c.ops.length : Int))), (48, .val (.int .i64 i)), (75, .val (.bool true))]) (h1 := fun _ => [(nu1 0, .cells #[.slice (some (⟨b1, off1, none⟩)) c.when.length c1, .int .i64 c.place, .slice (some (⟨b2, off2, none⟩)) c.ops.length c2] 28 (0, 0)), (nu2 0, .cells #[.int .i64 o.no, .string o.key, .int .i64 o.kind, .string o.text, .int .i64 o.n, .bool o.remove, .slice a2_0 ((List.map eDot o.dots).length) c2_0] 24 (0, 0))]) (p1 := fun _ => [decide (i > (0 : Int)) = true, IntKind.i64.wrap (i - (1 : Int)) = i - (1 : Int), (0 : Int) ≤ i - (1 : Int), i - (1 : Int) < (↑c.ops.length : Int), cs2[off2 + (i - (1 : Int)).toNat * (7 : Nat)]? = some (Value.int IntKind.i64 q.no), decide (o.no ≤ q.no) = true]) (W1 := []) (by kernel_rfl) (fun _ => by kernel_rfl) (fun _ => ⟨by simp; omega, wrap_i64 (by omega) (by omega), by omega, by omega, hrd3_0, by simp; omega, trivial⟩) (fun _ => ?_)
            refine J_cond_t (by kernel_rfl) (by kernel_rfl) ?_
            refine J_reg mixed [.rd 0 [.r 1 (some (.iface 243 (.pointer (some (er 3)))))] 0 0, .rd 1 [] 0 0] [] [1, 2, 4, 5, 6, 46, 47, 48] (E1 := fun _ => [(1, .val (.pointer (some (⟨nu1 0, 0, none⟩)))), (2, .val (.nilIface)), (4, .val (.int .i64 i)), (5, .val (.pointer (some (⟨nu2 0, 0, none⟩)))), (6, .val (.iface 243 (.pointer (some (er 3))))), (46, .val (.slice (some (⟨b2, off2, none⟩)) c.ops.length c2)), (47, .val (.int .i64 (↑c.ops.length : Int))), (48, .val (.int .i64 i))]) (h1 := fun _ => [(nu1 0, .cells #[.slice (some (⟨b1, off1, none⟩)) c.when.length c1, .int .i64 c.place, .slice (some (⟨b2, off2, none⟩)) c.ops.length c2] 28 (0, 0)), (nu2 0, .cells #[.int .i64 o.no, .string o.key, .int .i64 o.kind, .string o.text, .int .i64 o.n, .bool o.remove, .slice a2_0 ((List.map eDot o.dots).length) c2_0] 24 (0, 0))]) (p1 := fun _ => [csg2[(0 : Nat)]? = some (Value.iface (243 : Nat) (Value.pointer (some (er (3 : Nat)))))]) (W1 := []) (by kernel_rfl) (fun _ => by kernel_rfl) (fun _ => ⟨hglob2, trivial⟩) (fun _ => ?_)
            refine J_seq ?_
            refine J_reg mixed [.rd 0 [] 0 0, .rd 1 [] 0 0] [] [1, 2, 4, 5, 6, 46, 47, 48, 78] (E1 := fun _ => [(1, .val (.pointer (some (⟨nu1 0, 0, none⟩)))), (2, .val (.nilIface)), (4, .val (.int .i64 i)), (5, .val (.pointer (some (⟨nu2 0, 0, none⟩)))), (6, .val (.iface 243 (.pointer (some (er 3))))), (46, .val (.slice (some (⟨b2, off2, none⟩)) c.ops.length c2)), (47, .val (.int .i64 (↑c.ops.length : Int))), (48, .val (.int .i64 i)), (78, .val (.bool true))]) (h1 := fun _ => [(nu1 0, .cells #[.slice (some (⟨b1, off1, none⟩)) c.when.length c1, .int .i64 c.place, .slice (some (⟨b2, off2, none⟩)) c.ops.length c2] 28 (0, 0)), (nu2 0, .cells #[.int .i64 o.no, .string o.key, .int .i64 o.kind, .string o.text, .int .i64 o.n, .bool o.remove, .slice a2_0 ((List.map eDot o.dots).length) c2_0] 24 (0, 0))]) (p1 := fun _ => []) (W1 := []) (by kernel_rfl) (fun _ => by kernel_rfl) (fun _ => trivial) (fun _ => ?_)
            refine J_cond_t (by kernel_rfl) (by kernel_rfl) ?_
            refine J_seq ?_
            refine J_reg mixed [.rd 0 [] 0 0, .rd 1 [] 0 0, .rd 2 [] 0 0, .wr 3 [] 0, .rd 4 [] 0 0, .rd 5 [] 0 0] [] [1, 2, 4, 5, 6, 46, 47, 48] (E1 := fun nu3 => [(1, .val (.pointer (some (⟨nu1 0, 0, none⟩)))), (2, .val (.iface 102 (.pointer (some (⟨nu3 0, 0, none⟩))))), (4, .val (.int .i64 i)), (5, .val (.pointer (some (⟨nu2 0, 0, none⟩)))), (6, .val (.iface 243 (.pointer (some (er 3))))), (46, .val (.slice (some (⟨b2, off2, none⟩)) c.ops.length c2)), (47, .val (.int .i64 (↑c.ops.length : Int))), (48, .val (.int .i64 i))]) (h1 := fun nu3 => [(nu1 0, .cells #[.slice (some (⟨b1, off1, none⟩)) c.when.length c1, .int .i64 c.place, .slice (some (⟨b2, off2, none⟩)) c.ops.length c2] 28 (0, 0)), (nu2 0, .cells #[.int .i64 o.no, .string o.key, .int .i64 o.kind, .string o.text, .int .i64 o.n, .bool o.remove, .slice a2_0 ((List.map eDot o.dots).length) c2_0] 24 (0, 0)), (nu3 0, .cells #[.int .i64 i, .iface 243 (.pointer (some (er 3)))] 104 (0, 0))]) (p1 := fun nu3 => []) (W1 := []) (by kernel_rfl) (fun _ => by kernel_rfl) (fun _ => trivial) (fun nu3 => ?_)
            refine J_return [[]] (.iface 102 (.pointer (some (⟨nu3 0, 0, none⟩)))) (by kernel_rfl) (fun a w s => ?_)
            rw [hit _ hn (by decide)]
            exact .inr ⟨by simp only; omega, hi0, _, ((s.share 2 rfl).stp (stp_fact fun w S H => ptr_of_obj rfl rfl (H (_, _) (List.mem_of_getElem? (i := 7) rfl)))).ret (by simp) [] [8] rfl rfl⟩
          · rw [if_neg hno2] at hn
            try simp only [List.cons_append, List.nil_append, List.append_nil]
            refine JR_run (id := 11) (rest := []) [.rd 5 [] 0 0] [1, 2, 4, 5, 6, 46, 47, 48] (E1 := fun _ => [(1, .val (.pointer (some (⟨nu1 0, 0, none⟩)))), (2, .val (.nilIface)), (4, .val (.int .i64 i)), (5, .val (.pointer (some (⟨nu2 0, 0, none⟩)))), (6, .val (.nilIface)), (46, .val (.slice (some (⟨b2, off2, none⟩)) c.ops.length c2)), (47, .val (.int .i64 (↑c.ops.length : Int))), (48, .val (.int .i64 i))]) (h1 := fun _ => [(nu1 0, .cells #[.slice (some (⟨b1, off1, none⟩)) c.when.length c1, .int .i64 c.place, .slice (some (⟨b2, off2, none⟩)) c.ops.length c2] 28 (0, 0)), (nu2 0, .cells #[.int .i64 o.no, .string o.key, .int .i64 o.kind, .string o.text, .int .i64 o.n, .bool o.remove, .slice a2_0 ((List.map eDot o.dots).length) c2_0] 24 (0, 0))]) (p1 := fun _ => []) (W1 := []) (fun _ => by kernel_rfl) (fun _ => trivial) (fun _ => ?_)
            refine JR_end ?_
            refine J_seq ?_
            refine J_seq ?_
            refine J_reg mixed [.rd 0 [] 0 0, .rd 1 [] 0 0, .rd 2 [] 0 0, .rd 3 [] 0 0, .rd 4 [] 0 6, .rd 5 [] 0 0, .rd 6 [] 0 0, .rd 7 [] 0 0, .rd 8 [.o 1 none] 0 0, .rd 9 [] 0 0, .rd 10 [.o 0 none] 0 0, .rd 11 [] 0 0, .rd 12 [] 0 1, .rd 13 [] 0 2, .rd 14 [] 0 0, .rd 15 [.r 4 (some (.int .i64 q.no))] 0 0, .rd 16 [] 0 7, .rd 17 [] 0 0] [] [1, 2, 4, 5, 6, 46, 47, 48, 75] (E1 := fun _ => [(1, .val (.pointer (some (⟨nu1 0, 0, none⟩)))), (2, .val (.nilIface)), (4, .val (.int .i64 i)), (5, .val (.pointer (some (⟨nu2 0, 0, none⟩)))), (6, .val (.nilIface)), (46, .val (.slice (some (⟨b2, off2, none⟩)) c.ops.length c2)), (47, .val (.int .i64 (↑c.ops.length : Int))), (48, .val (.int .i64 i)), (75, .val (.bool false))]) (h1 := fun _ => [(nu1 0, .cells #[.slice (some (⟨b1, off1, none⟩)) c.when.length c1, .int .i64 c.place, .slice (some (⟨b2, off2, none⟩)) c.ops.length c2] 28 (0, 0)), (nu2 0, .cells #[.int .i64 o.no, .string o.key, .int .i64 o.kind, .string o.text, .int .i64 o.n, .bool o.remove, .slice a2_0 ((List.map eDot o.dots).length) c2_0] 24 (0, 0))]) (p1 := fun _ => [decide (i > (0 : Int)) = true, IntKind.i64.wrap (i - (1 : Int)) = i - (1 : Int), (0 : Int) ≤ i - (1 : Int), i - (1 : Int) < (↑c.ops.length : Int), cs2[off2 + (i - (1 : Int)).toNat * (7 : Nat)]? = some (Value.int IntKind.i64 q.no), decide (o.no ≤ q.no) = false]) (W1 := []) (by kernel_rfl) (fun _ => by kernel_rfl) (fun _ => ⟨by simp; omega, wrap_i64 (by omega) (by omega), by omega, by omega, hrd3_0, by simp; omega, trivial⟩) (fun _ => ?_)
            refine J_cond_f (by kernel_rfl) (by kernel_rfl) ?_
            refine J_skip ?_
            refine J_seq ?_
            refine J_reg mixed [.rd 0 [] 0 0, .rd 1 [] 0 0] [] [1, 2, 4, 5, 6, 46, 47, 48, 78] (E1 := fun _ => [(1, .val (.pointer (some (⟨nu1 0, 0, none⟩)))), (2, .val (.nilIface)), (4, .val (.int .i64 i)), (5, .val (.pointer (some (⟨nu2 0, 0, none⟩)))), (6, .val (.nilIface)), (46, .val (.slice (some (⟨b2, off2, none⟩)) c.ops.length c2)), (47, .val (.int .i64 (↑c.ops.length : Int))), (48, .val (.int .i64 i)), (78, .val (.bool false))]) (h1 := fun _ => [(nu1 0, .cells #[.slice (some (⟨b1, off1, none⟩)) c.when.length c1, .int .i64 c.place, .slice (some (⟨b2, off2, none⟩)) c.ops.length c2] 28 (0, 0)), (nu2 0, .cells #[.int .i64 o.no, .string o.key, .int .i64 o.kind, .string o.text, .int .i64 o.n, .bool o.remove, .slice a2_0 ((List.map eDot o.dots).length) c2_0] 24 (0, 0))]) (p1 := fun _ => []) (W1 := []) (by kernel_rfl) (fun _ => by kernel_rfl) (fun _ => trivial) (fun _ => ?_)
            refine J_cond_f (by kernel_rfl) (by kernel_rfl) ?_
            refine J_skip ?_
            refine J_eb ?_
            refine J_reg mixed [.rd 0 [] 0 1, .rd 1 [] 0 0] [] [1, 2, 4, 5, 6, 46, 47, 48] (E1 := fun _ => [(1, .val (.pointer (some (⟨nu1 0, 0, none⟩)))), (2, .val (.nilIface)), (4, .val (.int .i64 i)), (5, .val (.pointer (some (⟨nu2 0, 0, none⟩)))), (6, .val (.nilIface)), (46, .val (.slice (some (⟨b2, off2, none⟩)) c.ops.length c2)), (47, .val (.int .i64 (↑c.ops.length : Int))), (48, .val (.int .i64 (i + 1)))]) (h1 := fun _ => [(nu1 0, .cells #[.slice (some (⟨b1, off1, none⟩)) c.when.length c1, .int .i64 c.place, .slice (some (⟨b2, off2, none⟩)) c.ops.length c2] 28 (0, 0)), (nu2 0, .cells #[.int .i64 o.no, .string o.key, .int .i64 o.kind, .string o.text, .int .i64 o.n, .bool o.remove, .slice a2_0 ((List.map eDot o.dots).length) c2_0] 24 (0, 0))]) (p1 := fun _ => [IntKind.i64.wrap (i + (1 : Int)) = i + (1 : Int)]) (W1 := []) (by kernel_rfl) (fun _ => by kernel_rfl) (fun _ => ⟨wrap_i64 (by omega) (by omega), trivial⟩) (fun _ => ?_)
            refine J_backx (i + 1) [1, 2, 46, 47, 48] [0] [] [0, 1, 2, 3, 4] ?_ ?_ (by kernel_rfl) rfl rfl rfl
            · exact next hn
            · omega
        · try simp only [List.cons_append, List.nil_append, List.append_nil]
          refine JR_run (id := 11) (rest := []) [.rd 5 [] 0 0] [1, 2, 4, 5, 6, 46, 47, 48] (E1 := fun _ => [(1, .val (.pointer (some (⟨nu1 0, 0, none⟩)))), (2, .val (.nilIface)), (4, .val (.int .i64 i)), (5, .val (.pointer (some (⟨nu2 0, 0, none⟩)))), (6, .val (.iface 243 (.pointer (some (er (opErr o (↑c.when.length : Int))))))), (46, .val (.slice (some (⟨b2, off2, none⟩)) c.ops.length c2)), (47, .val (.int .i64 (↑c.ops.length : Int))), (48, .val (.int .i64 i))]) (h1 := fun _ => [(nu1 0, .cells #[.slice (some (⟨b1, off1, none⟩)) c.when.length c1, .int .i64 c.place, .slice (some (⟨b2, off2, none⟩)) c.ops.length c2] 28 (0, 0)), (nu2 0, .cells #[.int .i64 o.no, .string o.key, .int .i64 o.kind, .string o.text, .int .i64 o.n, .bool o.remove, .slice a2_0 ((List.map eDot o.dots).length) c2_0] 24 (0, 0))]) (p1 := fun _ => []) (W1 := []) (fun _ => by kernel_rfl) (fun _ => trivial) (fun _ => ?_)
          refine JR_end ?_
          refine J_seq ?_
          refine J_seq ?_
          refine J_reg mixed [.rd 0 [] 0 0, .rd 1 [] 0 0, .rd 2 [] 0 0, .rd 3 [] 1 0, .rd 4 [] 1 0, .rd 5 [] 0 0, .rd 6 [] 0 0, .rd 7 [] 1 0, .rd 8 [] 1 0, .rd 9 [] 1 0, .rd 10 [] 1 0, .rd 11 [] 1 0, .rd 12 [] 1 0, .rd 13 [] 1 0, .rd 14 [] 1 0, .rd 15 [] 1 0, .rd 16 [] 1 0, .rd 17 [] 0 0] [] [1, 2, 4, 5, 6, 46, 47, 48, 75] (E1 := fun _ => [(1, .val (.pointer (some (⟨nu1 0, 0, none⟩)))), (2, .val (.nilIface)), (4, .val (.int .i64 i)), (5, .val (.pointer (some (⟨nu2 0, 0, none⟩)))), (6, .val (.iface 243 (.pointer (some (er (opErr o (↑c.when.length : Int))))))), (46, .val (.slice (some (⟨b2, off2, none⟩)) c.ops.length c2)), (47, .val (.int .i64 (↑c.ops.length : Int))), (48, .val (.int .i64 i)), (75, .val (.bool false))]) (h1 := fun _ => [(nu1 0, .cells #[.slice (some (⟨b1, off1, none⟩)) c.when.length c1, .int .i64 c.place, .slice (some (⟨b2, off2, none⟩)) c.ops.length c2] 28 (0, 0)), (nu2 0, .cells #[.int .i64 o.no, .string o.key, .int .i64 o.kind, .string o.text, .int .i64 o.n, .bool o.remove, .slice a2_0 ((List.map eDot o.dots).length) c2_0] 24 (0, 0))]) (p1 := fun _ => []) (W1 := []) (by kernel_rfl) (fun _ => by kernel_rfl) (fun _ => trivial) (fun _ => ?_)
          refine J_cond_f (by kernel_rfl) (by kernel_rfl) ?_
          refine J_skip ?_
          refine J_seq ?_
          refine J_reg mixed [.rd 0 [] 0 0, .rd 1 [] 0 0] [] [1, 2, 4, 5, 6, 46, 47, 48, 78] (E1 := fun _ => [(1, .val (.pointer (some (⟨nu1 0, 0, none⟩)))), (2, .val (.nilIface)), (4, .val (.int .i64 i)), (5, .val (.pointer (some (⟨nu2 0, 0, none⟩)))), (6, .val (.iface 243 (.pointer (some (er (opErr o (↑c.when.length : Int))))))), (46, .val (.slice (some (⟨b2, off2, none⟩)) c.ops.length c2)), (47, .val (.int .i64 (↑c.ops.length : Int))), (48, .val (.int .i64 i)), (78, .val (.bool true))]) (h1 := fun _ => [(nu1 0, .cells #[.slice (some (⟨b1, off1, none⟩)) c.when.length c1, .int .i64 c.place, .slice (some (⟨b2, off2, none⟩)) c.ops.length c2] 28 (0, 0)), (nu2 0, .cells #[.int .i64 o.no, .string o.key, .int .i64 o.kind, .string o.text, .int .i64 o.n, .bool o.remove, .slice a2_0 ((List.map eDot o.dots).length) c2_0] 24 (0, 0))]) (p1 := fun _ => []) (W1 := []) (by kernel_rfl) (fun _ => by kernel_rfl) (fun _ => trivial) (fun _ => ?_)
          refine J_cond_t (by kernel_rfl) (by kernel_rfl) ?_
          refine J_seq ?_
          refine J_reg mixed [.rd 0 [] 0 0, .rd 1 [] 0 0, .rd 2 [] 0 0, .wr 3 [] 0, .rd 4 [] 0 0, .rd 5 [] 0 0] [] [1, 2, 4, 5, 6, 46, 47, 48] (E1 := fun nu3 => [(1, .val (.pointer (some (⟨nu1 0, 0, none⟩)))), (2, .val (.iface 102 (.pointer (some (⟨nu3 0, 0, none⟩))))), (4, .val (.int .i64 i)), (5, .val (.pointer (some (⟨nu2 0, 0, none⟩)))), (6, .val (.iface 243 (.pointer (some (er (opErr o (↑c.when.length : Int))))))), (46, .val (.slice (some (⟨b2, off2, none⟩)) c.ops.length c2)), (47, .val (.int .i64 (↑c.ops.length : Int))), (48, .val (.int .i64 i))]) (h1 := fun nu3 => [(nu1 0, .cells #[.slice (some (⟨b1, off1, none⟩)) c.when.length c1, .int .i64 c.place, .slice (some (⟨b2, off2, none⟩)) c.ops.length c2] 28 (0, 0)), (nu2 0, .cells #[.int .i64 o.no, .string o.key, .int .i64 o.kind, .string o.text, .int .i64 o.n, .bool o.remove, .slice a2_0 ((List.map eDot o.dots).length) c2_0] 24 (0, 0)), (nu3 0, .cells #[.int .i64 i, .iface 243 (.pointer (some (er (opErr o (↑c.when.length : Int)))))] 104 (0, 0))]) (p1 := fun nu3 => []) (W1 := []) (by kernel_rfl) (fun _ => by kernel_rfl) (fun _ => trivial) (fun nu3 => ?_)
          refine J_return [[]] (.iface 102 (.pointer (some (⟨nu3 0, 0, none⟩)))) (by kernel_rfl) (fun a w s => ?_)
          rw [hit _ (opErrAt_own ho he) he]
          exact .inr ⟨by simp only; omega, hi0, _, ((s.share 2 rfl).stp (stp_fact fun w S H => ptr_of_obj rfl rfl (H (_, _) (List.mem_of_getElem? (i := 7) rfl)))).ret (by simp) [] [8] rfl rfl⟩
    · have hend : i.toNat = 0 + c.ops.length := by simp at hlt; omega
      rw [(opsFault_from c.ops.length 0 i.toNat (Nat.zero_le _) hno).1 hend]
      refine J_exit rfl ?_
      refine J_seq ?_
      refine J_reg mixed [.rd 0 [] 0 0] [] [2] (E1 := fun _ => [(2, .val (.nilIface))]) (h1 := fun _ => [(nu1 0, .cells #[.slice (some (⟨b1, off1, none⟩)) c.when.length c1, .int .i64 c.place, .slice a2 c.ops.length c2] 28 (0, 0))]) (p1 := fun _ => []) (W1 := []) (by kernel_rfl) (fun _ => by kernel_rfl) (fun _ => trivial) (fun _ => ?_)
      refine J_return [[]] (.nilIface) (by kernel_rfl) (fun a w s => ?_)
      exact .inl ⟨rfl, _, s.ret (by simp) [] [] rfl rfl, .inl ⟨rfl, rfl⟩⟩
  · have e : comFault c = ⟨vecErr c.when, -1⟩ := by rw [comFault, if_pos hv0]
    try simp only [List.cons_append, List.nil_append, List.append_nil]
    refine JR_run (id := 1) (rest := []) [.rd 3 [] 0 0] [1, 2, 3] (E1 := fun _ => [(1, .val (.pointer (some (⟨nu1 0, 0, none⟩)))), (2, .val (.nilIface)), (3, .val (.iface 243 (.pointer (some (er (vecErr c.when))))))]) (h1 := fun _ => [(nu1 0, .cells #[.slice a1 c.when.length c1, .int .i64 c.place, .slice a2 c.ops.length c2] 28 (0, 0))]) (p1 := fun _ => []) (W1 := []) (fun _ => by kernel_rfl) (fun _ => trivial) (fun _ => ?_)
    refine JR_end ?_
    refine J_seq ?_
    refine J_reg mixed [.rd 0 [] 0 0, .rd 1 [] 0 0] [] [1, 2, 3, 11] (E1 := fun _ => [(1, .val (.pointer (some (⟨nu1 0, 0, none⟩)))), (2, .val (.nilIface)), (3, .val (.iface 243 (.pointer (some (er (vecErr c.when)))))), (11, .val (.bool true))]) (h1 := fun _ => [(nu1 0, .cells #[.slice a1 c.when.length c1, .int .i64 c.place, .slice a2 c.ops.length c2] 28 (0, 0))]) (p1 := fun _ => []) (W1 := []) (by kernel_rfl) (fun _ => by kernel_rfl) (fun _ => trivial) (fun _ => ?_)
    refine J_cond_t (by kernel_rfl) (by kernel_rfl) ?_
    refine J_seq ?_
    refine J_reg mixed [.rd 0 [] 0 0, .rd 1 [] 0 0] [] [1, 2] (E1 := fun _ => [(1, .val (.pointer (some (⟨nu1 0, 0, none⟩)))), (2, .val (.iface 243 (.pointer (some (er (vecErr c.when))))))]) (h1 := fun _ => [(nu1 0, .cells #[.slice a1 c.when.length c1, .int .i64 c.place, .slice a2 c.ops.length c2] 28 (0, 0))]) (p1 := fun _ => []) (W1 := []) (by kernel_rfl) (fun _ => by kernel_rfl) (fun _ => trivial) (fun _ => ?_)
    refine J_return [[]] (.iface 243 (.pointer (some (er (vecErr c.when))))) (by kernel_rfl) (fun a w s => ?_)
    rw [e]
    exact .inl ⟨rfl, _, s.ret (by simp) [] [] rfl rfl, .inr ⟨hv0, rfl⟩⟩
end Go.Proofs.YtpjkiomccpjboaaGreatDoor
