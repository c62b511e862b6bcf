/- vector: Most, Least, Within, Weight, Order; causewaylaw1.own. -/
import Derived.Test.YtpjkiomccpjboaaGreatDoorVec2
namespace Go.Proofs.YtpjkiomccpjboaaGreatDoor
open Go Go.Sx

theorem twoErr_fine {xs ys : List Int} (h : twoErr xs ys = 0) : vecErr xs = 0 ∧ vecErr ys = 0 ∧ xs.length = ys.length := by
  unfold twoErr at h
  split at h
  · exact absurd h ‹_›
  · split at h
    · exact absurd h ‹_›
    · split at h
      · cases h
      · rename_i h1 h2 h3
        exact ⟨by simpa using h1, by simpa using h2, by omega⟩

theorem vMost {w : World} {S : Nat → Prop} {er : Nat → Addr} {a b : Option Addr} {n m c d : Nat} {xs ys : List Int} (hE : AllG w S (globs er)) (ha : Rep w S (.slice a n c) (dInts xs)) (hb : Rep w S (.slice b m d) (dInts ys)) (hl : xs.length ≤ 1000000) (hl2 : ys.length ≤ 1000000) :
    Calls Tryz.prog 79 #[.slice a n c, .slice b m d] w fun e w' =>
      (twoErr xs ys ≠ 0 ∧ Ret [] w S w' e (.tuple #[.slice none 0 0, errV 243 er (twoErr xs ys)]) [] []) ∨
      (twoErr xs ys = 0 ∧ ∃ a' n' c', Ret [] w S w' e (.tuple #[.slice a' n' c', .nilIface]) [] [(.slice a' n' c', dInts (List.zipWith max xs ys))]) := by
  refine ep79 (args := [.slice a n c, .slice b m d]) (G := globs er ++ [(_, dInts xs), (_, dInts ys)]) (by kernel_rfl) (hE.app (.cons ha (.cons hb (.nil _ _)))) ?_
  try simp only [List.cons_append, List.nil_append, List.append_nil]
  refine J_seq ?_
  refine J_reg mixed [.rd 0 [] 0 0, .rd 1 [] 0 0] [] [0, 1, 4, 5] (E1 := fun _ => [(0, .val (.slice a n c)), (1, .val (.slice b m d)), (4, .val (.slice none 0 0)), (5, .val (.nilIface))]) (h1 := fun _ => []) (p1 := fun _ => []) (W1 := []) (by kernel_rfl) (fun _ => by kernel_rfl) (fun _ => trivial) (fun _ => ?_)
  refine J_seq ?_
  refine JR_begin mixed [(0, true), (1, true), (2, false), (3, true), (4, true), (5, true), (6, true)] [] (by kernel_rfl) (by kernel_rfl) ?_
  refine JR_run (id := 1) (rest := [(2, false), (3, true), (4, true), (5, true), (6, true)]) [.rd 0 [] 0 0, .rd 1 [] 0 0] [4, 5, 6, 7] (E1 := fun _ => [(4, .val (.slice none 0 0)), (5, .val (.nilIface)), (6, .val (.slice a n c)), (7, .val (.slice b m d))]) (h1 := fun _ => []) (p1 := fun _ => []) (W1 := []) (fun _ => by kernel_rfl) (fun _ => trivial) (fun _ => ?_)
  refine JR_callp [] 110 #[.slice a n c, .slice b m d, .func (.func 111) #[] #[]] (some 8) (by kernel_rfl) (fun w S hG => ?_)
  refine (eachMost (hG.pick [0, 1, 2] rfl) (hG.at 3 rfl) (hG.at 4 rfl) hl hl2).mono ?_
  rintro e w2 (⟨h2, hR⟩ | ⟨h2, a', n', c', hR⟩)
  · refine ⟨_, _, _, hR, ?_⟩
    try simp only [List.cons_append, List.nil_append, List.append_nil]
    refine JR_run (id := 1) (rest := []) [.rd 3 [] 0 0, .rd 4 [] 0 0, .rd 5 [] 0 0, .rd 6 [] 0 0] [4, 5] (E1 := fun _ => [(4, .val (.slice none 0 0)), (5, .val (.iface 243 (.pointer (some (er (twoErr xs ys))))))]) (h1 := fun _ => []) (p1 := fun _ => []) (W1 := []) (fun _ => by kernel_rfl) (fun _ => trivial) (fun _ => ?_)
    refine JR_end ?_
    refine J_return [[], []] (.tuple #[.slice none 0 0, .iface 243 (.pointer (some (er (twoErr xs ys))))]) (by kernel_rfl) (fun a w s => ?_)
    exact .inl ⟨h2, s.ret (by simp) [] [] rfl rfl⟩
  · refine ⟨_, _, _, hR, ?_⟩
    try simp only [List.cons_append, List.nil_append, List.append_nil]
    refine JR_run (id := 1) (rest := []) [.rd 3 [] 0 0, .rd 4 [] 0 0, .rd 5 [] 0 0, .rd 6 [] 0 0] [4, 5] (E1 := fun _ => [(4, .val (.slice a' n' c')), (5, .val (.nilIface))]) (h1 := fun _ => []) (p1 := fun _ => []) (W1 := []) (fun _ => by kernel_rfl) (fun _ => trivial) (fun _ => ?_)
    refine JR_end ?_
    refine J_return [[], []] (.tuple #[.slice a' n' c', .nilIface]) (by kernel_rfl) (fun a w s => ?_)
    exact .inr ⟨h2, a', n', c', s.ret (by simp) [] [5] rfl rfl⟩

theorem vwithin {w : World} {S : Nat → Prop} {er : Nat → Addr} {a b : Option Addr} {n m c d : Nat} {xs ys : List Int} (hE : AllG w S (globs er)) (ha : Rep w S (.slice a n c) (dInts xs)) (hb : Rep w S (.slice b m d) (dInts ys)) (hl : xs.length ≤ 1000000) (hl2 : ys.length ≤ 1000000) :
    Calls Tryz.prog 52 #[.slice a n c, .slice b m d] w fun e w' =>
      (twoErr xs ys ≠ 0 ∧ Ret [] w S w' e (.tuple #[.bool false, errV 243 er (twoErr xs ys)]) [] []) ∨
      (twoErr xs ys = 0 ∧ Ret [] w S w' e (.tuple #[.bool (inL xs ys), .nilIface]) [] []) := by
  refine ep52 (args := [.slice a n c, .slice b m d]) (G := globs er ++ [(_, dInts xs), (_, dInts ys)]) (by kernel_rfl) (hE.app (.cons ha (.cons hb (.nil _ _)))) ?_
  try simp only [List.cons_append, List.nil_append, List.append_nil]
  refine J_seq ?_
  refine J_reg mixed [.rd 0 [] 0 0, .rd 1 [] 0 0] [] [0, 1, 4, 5] (E1 := fun _ => [(0, .val (.slice a n c)), (1, .val (.slice b m d)), (4, .val (.bool false)), (5, .val (.nilIface))]) (h1 := fun _ => []) (p1 := fun _ => []) (W1 := []) (by kernel_rfl) (fun _ => by kernel_rfl) (fun _ => trivial) (fun _ => ?_)
  refine J_seq ?_
  refine J_seq ?_
  refine JR_begin mixed [(0, true), (1, true), (2, false), (3, true)] [] (by kernel_rfl) (by kernel_rfl) ?_
  refine JR_run (id := 1) (rest := [(2, false), (3, true)]) [.rd 0 [] 0 0, .rd 1 [] 0 0] [0, 1, 4, 5, 7, 8] (E1 := fun _ => [(0, .val (.slice a n c)), (1, .val (.slice b m d)), (4, .val (.bool false)), (5, .val (.nilIface)), (7, .val (.slice a n c)), (8, .val (.slice b m d))]) (h1 := fun _ => []) (p1 := fun _ => []) (W1 := []) (fun _ => by kernel_rfl) (fun _ => trivial) (fun _ => ?_)
  refine JR_callp [] 84 #[.slice a n c, .slice b m d] (some 9) (by kernel_rfl) (fun w S hG => ?_)
  refine (vtwo (hG.pick [0, 1, 2] rfl) (hG.at 3 rfl) (hG.at 4 rfl) hl hl2).mono ?_
  rintro e w2 ⟨v, hR, ⟨h2, rfl⟩ | ⟨h2, rfl⟩⟩
  · refine ⟨_, _, _, hR, ?_⟩
    try simp only [List.cons_append, List.nil_append, List.append_nil]
    refine JR_run (id := 1) (rest := []) [.rd 3 [] 0 0] [0, 1, 4, 5, 6] (E1 := fun _ => [(0, .val (.slice a n c)), (1, .val (.slice b m d)), (4, .val (.bool false)), (5, .val (.nilIface)), (6, .val (.nilIface))]) (h1 := fun _ => []) (p1 := fun _ => []) (W1 := []) (fun _ => by kernel_rfl) (fun _ => trivial) (fun _ => ?_)
    refine JR_end ?_
    refine J_seq ?_
    refine J_reg mixed [.rd 0 [] 0 0, .rd 1 [] 0 0] [] [0, 1, 4, 5, 6, 11] (E1 := fun _ => [(0, .val (.slice a n c)), (1, .val (.slice b m d)), (4, .val (.bool false)), (5, .val (.nilIface)), (6, .val (.nilIface)), (11, .val (.bool false))]) (h1 := fun _ => []) (p1 := fun _ => []) (W1 := []) (by kernel_rfl) (fun _ => by kernel_rfl) (fun _ => trivial) (fun _ => ?_)
    refine J_cond_f (by kernel_rfl) (by kernel_rfl) ?_
    refine J_skip ?_
    refine J_seq ?_
    refine JR_begin mixed [(0, true), (1, true), (2, false), (3, true), (4, true)] [] (by kernel_rfl) (by kernel_rfl) ?_
    refine JR_run (id := 4) (rest := [(2, false), (3, true), (4, true)]) [.rd 0 [] 0 0, .rd 1 [] 0 0] [4, 5, 13, 14] (E1 := fun _ => [(4, .val (.bool false)), (5, .val (.nilIface)), (13, .val (.slice a n c)), (14, .val (.slice b m d))]) (h1 := fun _ => []) (p1 := fun _ => []) (W1 := []) (fun _ => by kernel_rfl) (fun _ => trivial) (fun _ => ?_)
    refine JR_callp [] 85 #[.slice a n c, .slice b m d] (some 15) (by kernel_rfl) (fun w S hG => ?_)
    refine (vin (hG.at 3 rfl) (hG.at 4 rfl) hl (twoErr_fine h2).2.2).mono ?_
    rintro e w2 hR
    refine ⟨_, _, _, hR, ?_⟩
    try simp only [List.cons_append, List.nil_append, List.append_nil]
    refine JR_run (id := 4) (rest := []) [.rd 3 [] 0 0, .rd 4 [] 0 0] [4, 5] (E1 := fun _ => [(4, .val (.bool (inL xs ys))), (5, .val (.nilIface))]) (h1 := fun _ => []) (p1 := fun _ => []) (W1 := []) (fun _ => by kernel_rfl) (fun _ => trivial) (fun _ => ?_)
    refine JR_end ?_
    refine J_return [[], []] (.tuple #[.bool (inL xs ys), .nilIface]) (by kernel_rfl) (fun a w s => ?_)
    exact .inr ⟨h2, s.ret (by simp) [] [] rfl rfl⟩
  · refine ⟨_, _, _, hR, ?_⟩
    try simp only [List.cons_append, List.nil_append, List.append_nil]
    refine JR_run (id := 1) (rest := []) [.rd 3 [] 0 0] [0, 1, 4, 5, 6] (E1 := fun _ => [(0, .val (.slice a n c)), (1, .val (.slice b m d)), (4, .val (.bool false)), (5, .val (.nilIface)), (6, .val (.iface 243 (.pointer (some (er (twoErr xs ys))))))]) (h1 := fun _ => []) (p1 := fun _ => []) (W1 := []) (fun _ => by kernel_rfl) (fun _ => trivial) (fun _ => ?_)
    refine JR_end ?_
    refine J_seq ?_
    refine J_reg mixed [.rd 0 [] 0 0, .rd 1 [] 0 0] [] [0, 1, 4, 5, 6, 11] (E1 := fun _ => [(0, .val (.slice a n c)), (1, .val (.slice b m d)), (4, .val (.bool false)), (5, .val (.nilIface)), (6, .val (.iface 243 (.pointer (some (er (twoErr xs ys)))))), (11, .val (.bool true))]) (h1 := fun _ => []) (p1 := fun _ => []) (W1 := []) (by kernel_rfl) (fun _ => by kernel_rfl) (fun _ => trivial) (fun _ => ?_)
    refine J_cond_t (by kernel_rfl) (by kernel_rfl) ?_
    refine J_seq ?_
    refine J_reg mixed [.rd 0 [] 0 0, .rd 1 [] 0 0, .rd 2 [] 0 0] [] [0, 1, 4, 5] (E1 := fun _ => [(0, .val (.slice a n c)), (1, .val (.slice b m d)), (4, .val (.bool false)), (5, .val (.iface 243 (.pointer (some (er (twoErr xs ys))))))]) (h1 := fun _ => []) (p1 := fun _ => []) (W1 := []) (by kernel_rfl) (fun _ => by kernel_rfl) (fun _ => trivial) (fun _ => ?_)
    refine J_return [[], []] (.tuple #[.bool false, .iface 243 (.pointer (some (er (twoErr xs ys))))]) (by kernel_rfl) (fun a w s => ?_)
    exact .inl ⟨h2, s.ret (by simp) [] [] rfl rfl⟩

/-- All together. -/
def sumL (xs : List Int) : Int := xs.foldl (· + ·) 0
theorem sumL_snoc (xs : List Int) (x : Int) : sumL (xs ++ [x]) = sumL xs + x := by simp [sumL]
theorem sumL_le {xs : List Int} (h : ∀ t ∈ xs, 0 ≤ t ∧ t ≤ 1099511627776) (i : Nat) : 0 ≤ sumL (xs.take i) ∧ sumL (xs.take i) ≤ 1099511627776 * i := by
  induction i with
  | zero => simp [sumL]
  | succ i ih =>
    cases hx : xs[i]? with
    | none =>
      rw [List.take_add_one, hx]
      simp only [Option.toList_none, List.append_nil]
      omega
    | some x =>
      rw [List.take_add_one, hx]
      have := h x (List.mem_of_getElem? hx)
      simp only [Option.toList_some, sumL_snoc]
      omega

theorem vweight {w : World} {S : Nat → Prop} {er : Nat → Addr} {a : Option Addr} {n c : Nat} {xs : List Int} (hE : AllG w S (globs er)) (ha : Rep w S (.slice a n c) (dInts xs)) (hl : xs.length ≤ 1000000) :
    Calls Tryz.prog 94 #[.slice a n c] w fun e w' =>
      (vecErr xs ≠ 0 ∧ Ret [] w S w' e (.tuple #[.int .i64 0, errV 243 er (vecErr xs)]) [] []) ∨
      (vecErr xs = 0 ∧ Ret [] w S w' e (.tuple #[.int .i64 (sumL xs), .nilIface]) [] []) := by
  obtain rfl := rep_ints_len ha
  refine ep94 (args := [.slice a xs.length c]) (G := globs er ++ [(_, dInts xs)]) (by kernel_rfl) (hE.app (.cons ha (.nil _ _))) ?_
  try simp only [List.cons_append, List.nil_append, List.append_nil]
  refine J_seq ?_
  refine J_reg mixed [.rd 0 [] 0 0, .rd 1 [] 0 0] [] [0, 2, 3] (E1 := fun _ => [(0, .val (.slice a xs.length c)), (2, .val (.int .i64 0)), (3, .val (.nilIface))]) (h1 := fun _ => []) (p1 := fun _ => []) (W1 := []) (by kernel_rfl) (fun _ => by kernel_rfl) (fun _ => trivial) (fun _ => ?_)
  refine J_seq ?_
  refine J_seq ?_
  refine JR_begin mixed [(0, true), (1, false), (2, true)] [] (by kernel_rfl) (by kernel_rfl) ?_
  refine JR_run (id := 1) (rest := [(1, false), (2, true)]) [.rd 0 [] 0 0] [0, 2, 3, 8] (E1 := fun _ => [(0, .val (.slice a xs.length c)), (2, .val (.int .i64 0)), (3, .val (.nilIface)), (8, .val (.slice a xs.length c))]) (h1 := fun _ => []) (p1 := fun _ => []) (W1 := []) (fun _ => by kernel_rfl) (fun _ => trivial) (fun _ => ?_)
  refine JR_callp [] 59 #[.slice a xs.length c] (some 9) (by kernel_rfl) (fun w S hG => ?_)
  refine (vcheck (hG.pick [0, 1, 2] rfl) (hG.at 3 rfl) hl).mono ?_
  rintro e w2 ⟨v, hR, ⟨h2, rfl⟩ | ⟨h2, rfl⟩⟩
  · refine ⟨_, _, _, hR, ?_⟩
    have h6 := vecErr_len h2
    try simp only [List.cons_append, List.nil_append, List.append_nil]
    refine JR_run (id := 1) (rest := []) [.rd 2 [] 0 0] [0, 2, 3, 4] (E1 := fun _ => [(0, .val (.slice a xs.length c)), (2, .val (.int .i64 0)), (3, .val (.nilIface)), (4, .val (.nilIface))]) (h1 := fun _ => []) (p1 := fun _ => []) (W1 := []) (fun _ => by kernel_rfl) (fun _ => trivial) (fun _ => ?_)
    refine JR_end ?_
    refine J_seq ?_
    refine J_reg mixed [.rd 0 [] 0 0, .rd 1 [] 0 0] [] [0, 2, 3, 4, 11] (E1 := fun _ => [(0, .val (.slice a xs.length c)), (2, .val (.int .i64 0)), (3, .val (.nilIface)), (4, .val (.nilIface)), (11, .val (.bool false))]) (h1 := fun _ => []) (p1 := fun _ => []) (W1 := []) (by kernel_rfl) (fun _ => by kernel_rfl) (fun _ => trivial) (fun _ => ?_)
    refine J_cond_f (by kernel_rfl) (by kernel_rfl) ?_
    refine J_skip ?_
    refine J_seq ?_
    refine J_reg mixed [.rd 0 [] 0 0] [] [0, 2, 3, 5] (E1 := fun _ => [(0, .val (.slice a xs.length c)), (2, .val (.int .i64 0)), (3, .val (.nilIface)), (5, .val (.int .i64 0))]) (h1 := fun _ => []) (p1 := fun _ => []) (W1 := []) (by kernel_rfl) (fun _ => by kernel_rfl) (fun _ => trivial) (fun _ => ?_)
    refine J_seq ?_
    refine J_seq ?_
    refine J_reg mixed [.rd 0 [] 0 0, .rd 1 [] 0 0, .rd 2 [] 0 0] [] [2, 3, 5, 13, 14, 15] (E1 := fun _ => [(2, .val (.int .i64 0)), (3, .val (.nilIface)), (5, .val (.int .i64 0)), (13, .val (.slice a xs.length c)), (14, .val (.int .i64 (↑xs.length : Int))), (15, .val (.int .i64 0))]) (h1 := fun _ => []) (p1 := fun _ => []) (W1 := []) (by kernel_rfl) (fun _ => by kernel_rfl) (fun _ => trivial) (fun _ => ?_)
    refine J_block ?_
    refine J_loopx (fun i : Int => [(2, .val (.int .i64 0)), (3, .val (.nilIface)), (5, .val (.int .i64 (sumL (xs.take i.toNat)))), (13, .val (.slice a xs.length c)), (14, .val (.int .i64 (↑xs.length : Int))), (15, .val (.int .i64 i))]) (fun i : Int => []) (fun i : Int => []) (fun i : Int => [(.nilIface, (D.v Value.nilIface)), (.pointer (some (⟨0, 0, none⟩)), (D.ptr [D.v (Value.iface 243 (Value.pointer (some (er 2))))])), (.pointer (some (⟨3, 0, none⟩)), (D.ptr [D.v (Value.iface 243 (Value.pointer (some (er 3))))])), (.slice a xs.length c, (dInts xs))]) (fun i : Int => (xs.length - i).toNat) (fun i : Int => (0 ≤ i ∧ i ≤ xs.length)) 0 [2, 3, 5, 13, 14, 15] [] [] [0, 1, 2, 3] ?_ (by kernel_rfl) rfl rfl rfl ?_
    · exact ⟨by simp, by omega⟩
    rintro i ⟨hi0, hi⟩
    refine J_seq ?_
    refine J_reg mixed [.rd 0 [] 0 0] [] [2, 3, 5, 13, 14, 15, 16] (E1 := fun _ => [(2, .val (.int .i64 0)), (3, .val (.nilIface)), (5, .val (.int .i64 (sumL (List.take i.toNat xs)))), (13, .val (.slice a xs.length c)), (14, .val (.int .i64 (↑xs.length : Int))), (15, .val (.int .i64 i)), (16, .val (.bool (decide (i < (↑xs.length : Int)))))]) (h1 := fun _ => []) (p1 := fun _ => []) (W1 := []) (by kernel_rfl) (fun _ => by kernel_rfl) (fun _ => trivial) (fun _ => ?_)
    refine J_seq ?_
    refine J_cond (t := decide (i < (↑xs.length : Int))) (by kernel_rfl) (by kernel_rfl) (fun hlt => ?_) (fun hlt => ?_)
    · have hlt2 : i < xs.length := by simpa using hlt
      obtain ⟨x, hx⟩ : ∃ x, xs[i.toNat]? = some x := ⟨_, List.getElem?_eq_getElem (by omega)⟩
      have hs := sumL_le (vecErr_in h2) i.toNat
      have hs2 := vecErr_in h2 x (List.mem_of_getElem? hx)
      refine J_read0 3 rfl i.toNat (map_at hx) (by kernel_rfl) (fun b1 off1 cs1 ty1 fz1 ha1 hrd1 => ?_)
      cases ha1
      have hrd1_0 := rd0 (hrd1 0 _ rfl)
      try simp only [List.cons_append, List.nil_append, List.append_nil]
      refine J_skip ?_
      refine J_seq ?_
      refine J_block ?_
      refine J_seq ?_
      refine J_reg mixed [.rd 0 [] 0 2, .rd 1 [.r 0 (some (.int .i64 x))] 0 0, .rd 2 [] 0 0] [] [2, 3, 5, 7, 13, 14, 15] (E1 := fun _ => [(2, .val (.int .i64 0)), (3, .val (.nilIface)), (5, .val (.int .i64 (sumL (List.take i.toNat xs)))), (7, .val (.int .i64 x)), (13, .val (.slice (some (⟨b1, off1, none⟩)) xs.length c)), (14, .val (.int .i64 (↑xs.length : Int))), (15, .val (.int .i64 i))]) (h1 := fun _ => []) (p1 := fun _ => [(0 : Int) ≤ i, i < (↑xs.length : Int), cs1[off1 + i.toNat * (1 : Nat)]? = some (Value.int IntKind.i64 x)]) (W1 := []) (by kernel_rfl) (fun _ => by kernel_rfl) (fun _ => ⟨hi0, hlt2, hrd1_0, trivial⟩) (fun _ => ?_)
      refine J_reg mixed [.rd 0 [] 0 0, .rd 1 [] 0 0, .rd 2 [] 0 1, .rd 3 [] 0 0] [] [2, 3, 5, 7, 13, 14, 15] (E1 := fun _ => [(2, .val (.int .i64 0)), (3, .val (.nilIface)), (5, .val (.int .i64 (sumL (List.take i.toNat xs) + x))), (7, .val (.int .i64 x)), (13, .val (.slice (some (⟨b1, off1, none⟩)) xs.length c)), (14, .val (.int .i64 (↑xs.length : Int))), (15, .val (.int .i64 i))]) (h1 := fun _ => []) (p1 := fun _ => [IntKind.i64.wrap (sumL (List.take i.toNat xs) + x) = sumL (List.take i.toNat xs) + x]) (W1 := []) (by kernel_rfl) (fun _ => by kernel_rfl) (fun _ => ⟨wrap_i64 (by omega) (by omega), trivial⟩) (fun _ => ?_)
      refine J_eb ?_
      refine J_reg mixed [.rd 0 [] 0 1, .rd 1 [] 0 0] [] [2, 3, 5, 7, 13, 14, 15] (E1 := fun _ => [(2, .val (.int .i64 0)), (3, .val (.nilIface)), (5, .val (.int .i64 (sumL (List.take i.toNat xs) + x))), (7, .val (.int .i64 x)), (13, .val (.slice (some (⟨b1, off1, none⟩)) xs.length c)), (14, .val (.int .i64 (↑xs.length : Int))), (15, .val (.int .i64 (i + 1)))]) (h1 := fun _ => []) (p1 := fun _ => [IntKind.i64.wrap (i + (1 : Int)) = i + (1 : Int)]) (W1 := []) (by kernel_rfl) (fun _ => by kernel_rfl) (fun _ => ⟨wrap_i64 (by omega) (by omega), trivial⟩) (fun _ => ?_)
      rw [← sumL_snoc, take_snoc hi0 hx]
      refine J_backx (i + 1) [2, 3, 5, 13, 14, 15] [] [] [0, 1, 2, 3] ?_ ?_ (by kernel_rfl) rfl rfl rfl
      · exact ⟨by omega, by omega⟩
      · omega
    · have e : xs.take i.toNat = xs := List.take_of_length_le (by simp at hlt; omega)
      refine J_exit rfl ?_
      refine J_seq ?_
      refine J_reg mixed [.rd 0 [] 0 0, .rd 1 [] 0 0, .rd 2 [] 0 0] [] [2, 3] (E1 := fun _ => [(2, .val (.int .i64 (sumL (List.take i.toNat xs)))), (3, .val (.nilIface))]) (h1 := fun _ => []) (p1 := fun _ => []) (W1 := []) (by kernel_rfl) (fun _ => by kernel_rfl) (fun _ => trivial) (fun _ => ?_)
      refine J_return [[], []] (.tuple #[.int .i64 (sumL (List.take i.toNat xs)), .nilIface]) (by kernel_rfl) (fun a w s => ?_)
      rw [e]
      exact .inr ⟨h2, s.ret (by simp) [] [] rfl rfl⟩
  · refine ⟨_, _, _, hR, ?_⟩
    try simp only [List.cons_append, List.nil_append, List.append_nil]
    refine JR_run (id := 1) (rest := []) [.rd 2 [] 0 0] [0, 2, 3, 4] (E1 := fun _ => [(0, .val (.slice a xs.length c)), (2, .val (.int .i64 0)), (3, .val (.nilIface)), (4, .val (.iface 243 (.pointer (some (er (vecErr xs))))))]) (h1 := fun _ => []) (p1 := fun _ => []) (W1 := []) (fun _ => by kernel_rfl) (fun _ => trivial) (fun _ => ?_)
    refine JR_end ?_
    refine J_seq ?_
    refine J_reg mixed [.rd 0 [] 0 0, .rd 1 [] 0 0] [] [0, 2, 3, 4, 11] (E1 := fun _ => [(0, .val (.slice a xs.length c)), (2, .val (.int .i64 0)), (3, .val (.nilIface)), (4, .val (.iface 243 (.pointer (some (er (vecErr xs)))))), (11, .val (.bool true))]) (h1 := fun _ => []) (p1 := fun _ => []) (W1 := []) (by kernel_rfl) (fun _ => by kernel_rfl) (fun _ => trivial) (fun _ => ?_)
    refine J_cond_t (by kernel_rfl) (by kernel_rfl) ?_
    refine J_seq ?_
    refine J_reg mixed [.rd 0 [] 0 0, .rd 1 [] 0 0, .rd 2 [] 0 0] [] [0, 2, 3] (E1 := fun _ => [(0, .val (.slice a xs.length c)), (2, .val (.int .i64 0)), (3, .val (.iface 243 (.pointer (some (er (vecErr xs))))))]) (h1 := fun _ => []) (p1 := fun _ => []) (W1 := []) (by kernel_rfl) (fun _ => by kernel_rfl) (fun _ => trivial) (fun _ => ?_)
    refine J_return [[], []] (.tuple #[.int .i64 0, .iface 243 (.pointer (some (er (vecErr xs))))]) (by kernel_rfl) (fun a w s => ?_)
    exact .inl ⟨h2, s.ret (by simp) [] [] rfl rfl⟩

theorem vown {w : World} {S : Nat → Prop} {a : Option Addr} {n c : Nat} {xs : List Int} (ha : Rep w S (.slice a n c) (dInts xs)) (hl : xs.length ≤ 1000000) :
    Calls Tryz.prog 39 #[.slice a n c] w fun e w' => ∃ a' c', Ret [] w S w' e (.slice a' n c') [] [(.slice a' n c', dInts xs)] := by
  obtain rfl := rep_ints_len ha
  refine ep39 (args := [.slice a xs.length c]) (G := [(_, dInts xs)]) (by kernel_rfl) (.cons ha (.nil _ _)) ?_
  refine J_stp (stp_accm eI 3 1) ?_
  try simp only [List.cons_append, List.nil_append, List.append_nil]
  refine J_seq ?_
  refine J_reg mixed [.rd 0 [] 0 0] [] [0, 2] (E1 := fun _ => [(0, .val (.slice a xs.length c)), (2, .val (.slice none 0 0))]) (h1 := fun _ => []) (p1 := fun _ => []) (W1 := []) (by kernel_rfl) (fun _ => by kernel_rfl) (fun _ => trivial) (fun _ => ?_)
  refine J_seq ?_
  refine J_reg mixed [.rd 0 [] 0 0] [] [0, 2, 3] (E1 := fun _ => [(0, .val (.slice a xs.length c)), (2, .val (.slice none 0 0)), (3, .val (.slice none 0 0))]) (h1 := fun _ => []) (p1 := fun _ => []) (W1 := []) (by kernel_rfl) (fun _ => by kernel_rfl) (fun _ => trivial) (fun _ => ?_)
  refine J_seq ?_
  refine JR_begin mixed [(0, true), (1, true), (2, false), (3, true)] [] (by kernel_rfl) (by kernel_rfl) ?_
  refine JR_run (id := 2) (rest := [(2, false), (3, true)]) [.rd 0 [] 0 0, .rd 1 [] 0 0] [2, 4, 5] (E1 := fun _ => [(2, .val (.slice none 0 0)), (4, .val (.slice none 0 0)), (5, .val (.slice a xs.length c))]) (h1 := fun _ => []) (p1 := fun _ => []) (W1 := []) (fun _ => by kernel_rfl) (fun _ => trivial) (fun _ => ?_)
  refine JR_appm 0 25 3 1 8 (.int .i64 0) (a0 := none) (len := 0) (cap0 := 0) (ax := a) (m := xs.length) (c := c) (dst := (some 6)) xs (by kernel_rfl) (by kernel_rfl) (by kernel_rfl) (by kernel_rfl) rfl (by decide) rfl (fun _ _ _ s => src_fact s 0 rfl (by decide)) (by simp only [maxLen]; omega) (by omega) (fun av1 cv1 => ?_)
  rw [Nat.zero_add]
  try simp only [List.cons_append, List.nil_append, List.append_nil]
  refine JR_run (id := 2) (rest := []) [.rd 3 [] 0 0] [2] (E1 := fun _ => [(2, .val (.slice av1 xs.length cv1))]) (h1 := fun _ => []) (p1 := fun _ => []) (W1 := []) (fun _ => by kernel_rfl) (fun _ => trivial) (fun _ => ?_)
  try simp only [List.cons_append, List.nil_append, List.append_nil]
  refine JR_end ?_
  try simp only [List.cons_append, List.nil_append, List.append_nil]
  refine J_return [[]] (.slice av1 xs.length cv1) (by kernel_rfl) (fun a w s => ?_)
  exact ⟨av1, cv1, (s.stp (stp_freeze 0 rfl)).ret (by simp) [] [1] rfl rfl⟩
end Go.Proofs.YtpjkiomccpjboaaGreatDoor
