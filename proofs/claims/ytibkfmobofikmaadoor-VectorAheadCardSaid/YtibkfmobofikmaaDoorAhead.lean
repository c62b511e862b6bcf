/- cmp.Compare, cmp.Or at int; vector.Ahead. -/
import Derived.Test.YtibkfmobofikmaaDoorRefs
namespace Go.Proofs.YtibkfmobofikmaaDoor
open Go Go.Sx

def cmpI (x y : Int) : Int := if x < y then -1 else if y < x then 1 else 0
def orL : List Int → Int
  | [] => 0
  | x :: l => if x ≠ 0 then x else orL l
theorem orL_none : ∀ {l : List Int}, (∀ (j : Nat) t, l[j]? = some t → t = 0) → orL l = 0
  | [], _ => rfl
  | x :: l, h => by
    have h0 := h 0 x rfl
    rw [orL, if_neg (by simp [h0])]
    exact orL_none fun j t ht => h (j + 1) t (by simpa using ht)
theorem orL_at : ∀ {l : List Int} {i : Nat} {x : Int}, (∀ j : Nat, j < i → ∀ t, l[j]? = some t → t = 0) → l[i]? = some x → x ≠ 0 → orL l = x
  | [], _, _, _, h, _ => by simp at h
  | y :: l, 0, x, _, h, hx => by
    simp only [List.getElem?_cons_zero, Option.some.injEq] at h
    subst h
    rw [orL, if_pos hx]
  | y :: l, i + 1, x, hz, h, hx => by
    have h0 := hz 0 (by omega) y rfl
    rw [orL, if_neg (by simp [h0])]
    exact orL_at (i := i) (fun j hj t ht => hz (j + 1) (by omega) t (by simpa using ht)) (by simpa using h) hx
def aheadB (a b p q x y : Int) : Bool := decide (a < b ∨ (a = b ∧ (p < q ∨ (p = q ∧ x < y))))
theorem or_zero {a b p q : Int} (h : orL [cmpI a b, cmpI p q] = 0) : a = b ∧ p = q := by
  rcases Int.lt_trichotomy a b with h1 | h1 | h1
  · simp [orL, cmpI, h1] at h
  · subst h1
    rcases Int.lt_trichotomy p q with h2 | h2 | h2
    · simp [orL, cmpI, h2] at h
    · exact ⟨rfl, h2⟩
    · have : ¬ p < q := by omega
      simp [orL, cmpI, h2, this] at h
  · have : ¬ a < b := by omega
    simp [orL, cmpI, h1, this] at h
theorem or_neg {a b p q x y : Int} (h : orL [cmpI a b, cmpI p q] ≠ 0) : decide (orL [cmpI a b, cmpI p q] < 0) = aheadB a b p q x y := by
  unfold aheadB
  rw [decide_eq_decide]
  rcases Int.lt_trichotomy a b with h1 | h1 | h1
  · have e : orL [cmpI a b, cmpI p q] = -1 := by simp [orL, cmpI, h1]
    rw [e]
    constructor
    · intro _; exact .inl h1
    · intro _; decide
  · subst h1
    rcases Int.lt_trichotomy p q with h2 | h2 | h2
    · have e : orL [cmpI a a, cmpI p q] = -1 := by simp [orL, cmpI, h2]
      rw [e]
      constructor
      · intro _; exact .inr ⟨rfl, .inl h2⟩
      · intro _; decide
    · subst h2
      exact absurd (by simp [orL, cmpI]) h
    · have e : orL [cmpI a a, cmpI p q] = 1 := by
        have : ¬ p < q := by omega
        simp [orL, cmpI, h2, this]
      rw [e]
      constructor
      · intro h3; exact absurd h3 (by decide)
      · intro h3; omega
  · have e : orL [cmpI a b, cmpI p q] = 1 := by
      have : ¬ a < b := by omega
      simp [orL, cmpI, h1, this]
    rw [e]
    constructor
    · intro h3; exact absurd h3 (by decide)
    · intro h3; omega
theorem cmp_neg {a p x y : Int} : decide (cmpI x y < 0) = aheadB a a p p x y := by
  unfold aheadB cmpI
  rw [decide_eq_decide]
  split
  · constructor
    · intro _; exact .inr ⟨rfl, .inr ⟨rfl, by omega⟩⟩
    · intro _; decide
  · split
    · constructor
      · intro h; exact absurd h (by decide)
      · intro h; omega
    · constructor
      · intro h; exact absurd h (by decide)
      · intro h; omega

theorem isNaN {w : World} {S : Nat → Prop} {x : Int} : Calls Tryd.prog 81 #[.int .i64 x] w fun e w' => Ret [] w S w' e (.bool false) [] [] := by
  refine ep81 (args := [.int .i64 x]) (S := S) (G := []) (by kernel_rfl) (.nil _ _) ?_
  refine J_seq ?_
  refine J_reg mixed [.rd 0 [] 0 0] [] [0, 2] (E1 := fun _ => [(0, .val (.int .i64 x)), (2, .val (.bool false))]) (h1 := fun _ => []) (p1 := fun _ => []) (W1 := []) (by kernel_rfl) (fun _ => by kernel_rfl) (fun _ => trivial) (fun _ => ?_)
  refine J_seq ?_
  refine J_reg mixed [.rd 0 [] 0 0, .rd 1 [] 0 0, .rd 2 [] 0 0, .rd 3 [] 0 0] [] [2] (E1 := fun _ => [(2, .val (.bool (x != x)))]) (h1 := fun _ => []) (p1 := fun _ => []) (W1 := []) (by kernel_rfl) (fun _ => by kernel_rfl) (fun _ => trivial) (fun _ => ?_)
  refine J_return [[]] (.bool (x != x)) (by kernel_rfl) (fun a w s => ?_)
  have e1 : false = !decide (x = x) := by simp
  rw [e1]
  exact s.ret (by simp) [] [] rfl rfl
theorem cmpC {w : World} {S : Nat → Prop} {x y : Int} : Calls Tryd.prog 53 #[.int .i64 x, .int .i64 y] w fun e w' => Ret [] w S w' e (.int .i64 (cmpI x y)) [] [] := by
  refine ep53 (args := [.int .i64 x, .int .i64 y]) (S := S) (G := []) (by kernel_rfl) (.nil _ _) ?_
  refine J_seq ?_
  refine J_reg mixed [.rd 0 [] 0 0] [] [0, 1, 4] (E1 := fun _ => [(0, .val (.int .i64 x)), (1, .val (.int .i64 y)), (4, .val (.int .i64 0))]) (h1 := fun _ => []) (p1 := fun _ => []) (W1 := []) (by kernel_rfl) (fun _ => by kernel_rfl) (fun _ => trivial) (fun _ => ?_)
  refine J_seq ?_
  refine JR_begin mixed [(0, true), (1, false), (2, true)] [] (by kernel_rfl) (by kernel_rfl) ?_
  refine JR_run (id := 1) (rest := [(1, false), (2, true)]) [.rd 0 [] 0 0] [0, 1, 4, 7] (E1 := fun _ => [(0, .val (.int .i64 x)), (1, .val (.int .i64 y)), (4, .val (.int .i64 0)), (7, .val (.int .i64 x))]) (h1 := fun _ => []) (p1 := fun _ => []) (W1 := []) (fun _ => by kernel_rfl) (fun _ => trivial) (fun _ => ?_)
  refine JR_callp [] 81 #[.int .i64 x] (some 8) (by kernel_rfl) (fun w S hG => ?_)
  refine (isNaN (S := S)).mono ?_
  rintro e1 w1 hR
  refine ⟨_, _, _, hR, ?_⟩
  try simp only [List.cons_append, List.nil_append, List.append_nil]
  refine JR_run (id := 1) (rest := []) [.rd 2 [] 0 0] [0, 1, 4, 5] (E1 := fun _ => [(0, .val (.int .i64 x)), (1, .val (.int .i64 y)), (4, .val (.int .i64 0)), (5, .val (.bool false))]) (h1 := fun _ => []) (p1 := fun _ => []) (W1 := []) (fun _ => by kernel_rfl) (fun _ => trivial) (fun _ => ?_)
  refine JR_end ?_
  refine J_seq ?_
  refine JR_begin mixed [(0, true), (1, false), (2, true)] [] (by kernel_rfl) (by kernel_rfl) ?_
  refine JR_run (id := 2) (rest := [(1, false), (2, true)]) [.rd 0 [] 0 0] [0, 1, 4, 5, 9] (E1 := fun _ => [(0, .val (.int .i64 x)), (1, .val (.int .i64 y)), (4, .val (.int .i64 0)), (5, .val (.bool false)), (9, .val (.int .i64 y))]) (h1 := fun _ => []) (p1 := fun _ => []) (W1 := []) (fun _ => by kernel_rfl) (fun _ => trivial) (fun _ => ?_)
  refine JR_callp [] 81 #[.int .i64 y] (some 10) (by kernel_rfl) (fun w S hG => ?_)
  refine (isNaN (S := S)).mono ?_
  rintro e2 w2 hR
  refine ⟨_, _, _, hR, ?_⟩
  try simp only [List.cons_append, List.nil_append, List.append_nil]
  refine JR_run (id := 2) (rest := []) [.rd 2 [] 0 0] [0, 1, 4, 5, 6] (E1 := fun _ => [(0, .val (.int .i64 x)), (1, .val (.int .i64 y)), (4, .val (.int .i64 0)), (5, .val (.bool false)), (6, .val (.bool false))]) (h1 := fun _ => []) (p1 := fun _ => []) (W1 := []) (fun _ => by kernel_rfl) (fun _ => trivial) (fun _ => ?_)
  refine JR_end ?_
  refine J_seq ?_
  refine J_seq ?_
  refine J_reg mixed [.rd 0 [] 0 0] [] [0, 1, 4, 6, 11] (E1 := fun _ => [(0, .val (.int .i64 x)), (1, .val (.int .i64 y)), (4, .val (.int .i64 0)), (6, .val (.bool false)), (11, .val (.bool false))]) (h1 := fun _ => []) (p1 := fun _ => []) (W1 := []) (by kernel_rfl) (fun _ => by kernel_rfl) (fun _ => trivial) (fun _ => ?_)
  refine J_cond_f (by kernel_rfl) (by kernel_rfl) ?_
  refine J_skip ?_
  refine J_seq ?_
  refine J_seq ?_
  refine J_reg mixed [.rd 0 [] 0 0] [] [0, 1, 4, 13] (E1 := fun _ => [(0, .val (.int .i64 x)), (1, .val (.int .i64 y)), (4, .val (.int .i64 0)), (13, .val (.bool false))]) (h1 := fun _ => []) (p1 := fun _ => []) (W1 := []) (by kernel_rfl) (fun _ => by kernel_rfl) (fun _ => trivial) (fun _ => ?_)
  refine J_cond_f (by kernel_rfl) (by kernel_rfl) ?_
  refine J_skip ?_
  refine J_seq ?_
  refine J_seq ?_
  refine J_reg mixed [.rd 0 [] 0 0, .rd 1 [] 0 0, .rd 2 [] 0 0] [] [0, 1, 4, 16] (E1 := fun _ => [(0, .val (.int .i64 x)), (1, .val (.int .i64 y)), (4, .val (.int .i64 0)), (16, .val (.bool (decide (x < y))))]) (h1 := fun _ => []) (p1 := fun _ => []) (W1 := []) (by kernel_rfl) (fun _ => by kernel_rfl) (fun _ => trivial) (fun _ => ?_)
  refine J_cond (t := decide (x < y)) (by kernel_rfl) (by kernel_rfl) (fun h1 => ?_) (fun h1 => ?_)
  · refine J_seq ?_
    refine J_reg mixed [.rd 0 [] 0 0] [] [0, 1, 4] (E1 := fun _ => [(0, .val (.int .i64 x)), (1, .val (.int .i64 y)), (4, .val (.int .i64 (-1)))]) (h1 := fun _ => []) (p1 := fun _ => []) (W1 := []) (by kernel_rfl) (fun _ => by kernel_rfl) (fun _ => trivial) (fun _ => ?_)
    refine J_return [[]] (.int .i64 (-1)) (by kernel_rfl) (fun a w s => ?_)
    have e3 : cmpI x y = -1 := by simp at h1; simp [cmpI, h1]
    rw [e3]
    exact s.ret (by simp) [] [] rfl rfl
  · refine J_skip ?_
    refine J_seq ?_
    refine J_seq ?_
    refine J_reg mixed [.rd 0 [] 0 0, .rd 1 [] 0 0, .rd 2 [] 0 0] [] [4, 19] (E1 := fun _ => [(4, .val (.int .i64 0)), (19, .val (.bool (decide (x > y))))]) (h1 := fun _ => []) (p1 := fun _ => []) (W1 := []) (by kernel_rfl) (fun _ => by kernel_rfl) (fun _ => trivial) (fun _ => ?_)
    refine J_cond (t := decide (x > y)) (by kernel_rfl) (by kernel_rfl) (fun h2 => ?_) (fun h2 => ?_)
    · refine J_seq ?_
      refine J_reg mixed [.rd 0 [] 0 0] [] [4] (E1 := fun _ => [(4, .val (.int .i64 1))]) (h1 := fun _ => []) (p1 := fun _ => []) (W1 := []) (by kernel_rfl) (fun _ => by kernel_rfl) (fun _ => trivial) (fun _ => ?_)
      refine J_return [[]] (.int .i64 1) (by kernel_rfl) (fun a w s => ?_)
      have e3 : cmpI x y = 1 := by simp at h1 h2; rw [cmpI, if_neg (by omega), if_pos (by omega)]
      rw [e3]
      exact s.ret (by simp) [] [] rfl rfl
    · refine J_skip ?_
      refine J_seq ?_
      refine J_reg mixed [.rd 0 [] 0 0] [] [4] (E1 := fun _ => [(4, .val (.int .i64 0))]) (h1 := fun _ => []) (p1 := fun _ => []) (W1 := []) (by kernel_rfl) (fun _ => by kernel_rfl) (fun _ => trivial) (fun _ => ?_)
      refine J_return [[]] (.int .i64 0) (by kernel_rfl) (fun a w s => ?_)
      have e3 : cmpI x y = 0 := by simp at h1 h2; rw [cmpI, if_neg (by omega), if_neg (by omega)]
      rw [e3]
      exact s.ret (by simp) [] [] rfl rfl
theorem orC {w : World} {S : Nat → Prop} {a : Option Addr} {n c : Nat} {xs : List Int} (ha : Rep w S (.slice a n c) (dInts xs)) (hl : xs.length ≤ 1000000) :
    Calls Tryd.prog 52 #[.slice a n c] w fun e w' => Ret [] w S w' e (.int .i64 (orL xs)) [] [] := by
  obtain rfl := rep_ints_len ha
  refine ep52 (args := [.slice a xs.length c]) (G := [(_, dInts xs)]) (by kernel_rfl) (.cons ha (.nil _ _)) ?_
  refine J_seq ?_
  refine J_reg mixed [.rd 0 [] 0 0] [] [0, 2] (E1 := fun _ => [(0, .val (.slice a xs.length c)), (2, .val (.int .i64 0))]) (h1 := fun _ => []) (p1 := fun _ => []) (W1 := []) (by kernel_rfl) (fun _ => by kernel_rfl) (fun _ => trivial) (fun _ => ?_)
  refine J_seq ?_
  refine J_reg mixed [.rd 0 [] 0 0] [] [0, 2, 3] (E1 := fun _ => [(0, .val (.slice a xs.length c)), (2, .val (.int .i64 0)), (3, .val (.int .i64 0))]) (h1 := fun _ => []) (p1 := fun _ => []) (W1 := []) (by kernel_rfl) (fun _ => by kernel_rfl) (fun _ => trivial) (fun _ => ?_)
  refine J_seq ?_
  refine J_seq ?_
  refine J_reg mixed [.rd 0 [] 0 0, .rd 1 [] 0 0, .rd 2 [] 0 0] [] [2, 3, 6, 7, 8] (E1 := fun _ => [(2, .val (.int .i64 0)), (3, .val (.int .i64 0)), (6, .val (.slice a xs.length c)), (7, .val (.int .i64 (↑xs.length : Int))), (8, .val (.int .i64 0))]) (h1 := fun _ => []) (p1 := fun _ => []) (W1 := []) (by kernel_rfl) (fun _ => by kernel_rfl) (fun _ => trivial) (fun _ => ?_)
  refine J_block ?_
  refine J_loopx (fun i : Int => [(2, .val (.int .i64 0)), (3, .val (.int .i64 0)), (6, .val (.slice a xs.length c)), (7, .val (.int .i64 (↑xs.length : Int))), (8, .val (.int .i64 i))]) (fun i : Int => []) (fun i : Int => []) (fun i : Int => [(.slice a xs.length c, (dInts xs))]) (fun i : Int => (xs.length - i).toNat) (fun i : Int => (0 ≤ i ∧ i ≤ xs.length ∧ ∀ j : Nat, j < i.toNat → ∀ t, xs[j]? = some t → t = 0)) 0 [2, 3, 6, 7, 8] [] [] [0] ?_ (by kernel_rfl) rfl rfl rfl ?_
  · exact ⟨by simp, by omega, by simp⟩
  rintro i ⟨hi0, hi, hno⟩
  refine J_seq ?_
  refine J_reg mixed [.rd 0 [] 0 0] [] [2, 3, 6, 7, 8, 9] (E1 := fun _ => [(2, .val (.int .i64 0)), (3, .val (.int .i64 0)), (6, .val (.slice a xs.length c)), (7, .val (.int .i64 (↑xs.length : Int))), (8, .val (.int .i64 i)), (9, .val (.bool (decide (i < (↑xs.length : Int)))))]) (h1 := fun _ => []) (p1 := fun _ => []) (W1 := []) (by kernel_rfl) (fun _ => by kernel_rfl) (fun _ => trivial) (fun _ => ?_)
  refine J_seq ?_
  refine J_cond (t := decide (i < (↑xs.length : Int))) (by kernel_rfl) (by kernel_rfl) (fun hlt => ?_) (fun hlt => ?_)
  · have hlt2 : i < xs.length := by simpa using hlt
    obtain ⟨x, hx⟩ : ∃ x, xs[i.toNat]? = some x := ⟨_, List.getElem?_eq_getElem (by omega)⟩
    refine J_read0 0 rfl i.toNat (map_at hx) (by kernel_rfl) (fun b1 off1 cs1 ty1 fz1 ha1 hrd1 => ?_)
    cases ha1
    have hrd1_0 := rd0 (hrd1 0 _ rfl)
    try simp only [List.cons_append, List.nil_append, List.append_nil]
    refine J_skip ?_
    refine J_seq ?_
    refine J_block ?_
    refine J_seq ?_
    refine J_reg mixed [.rd 0 [] 0 2, .rd 1 [.r 0 (some (.int .i64 x))] 0 0, .rd 2 [] 0 0] [] [2, 3, 5, 6, 7, 8] (E1 := fun _ => [(2, .val (.int .i64 0)), (3, .val (.int .i64 0)), (5, .val (.int .i64 x)), (6, .val (.slice (some (⟨b1, off1, none⟩)) xs.length c)), (7, .val (.int .i64 (↑xs.length : Int))), (8, .val (.int .i64 i))]) (h1 := fun _ => []) (p1 := fun _ => [(0 : Int) ≤ i, i < (↑xs.length : Int), cs1[off1 + i.toNat * (1 : Nat)]? = some (Value.int IntKind.i64 x)]) (W1 := []) (by kernel_rfl) (fun _ => by kernel_rfl) (fun _ => ⟨hi0, hlt2, hrd1_0, trivial⟩) (fun _ => ?_)
    refine J_seq ?_
    refine J_reg mixed [.rd 0 [] 0 0, .rd 1 [] 0 0, .rd 2 [] 0 0] [] [2, 3, 5, 6, 7, 8, 14] (E1 := fun _ => [(2, .val (.int .i64 0)), (3, .val (.int .i64 0)), (5, .val (.int .i64 x)), (6, .val (.slice (some (⟨b1, off1, none⟩)) xs.length c)), (7, .val (.int .i64 (↑xs.length : Int))), (8, .val (.int .i64 i)), (14, .val (.bool (x != 0)))]) (h1 := fun _ => []) (p1 := fun _ => []) (W1 := []) (by kernel_rfl) (fun _ => by kernel_rfl) (fun _ => trivial) (fun _ => ?_)
    refine J_cond (t := x != 0) (by kernel_rfl) (by kernel_rfl) (fun hb => ?_) (fun hb => ?_)
    · refine J_seq ?_
      refine J_reg mixed [.rd 0 [] 0 0, .rd 1 [] 0 0] [] [2, 3, 5, 6, 7, 8] (E1 := fun _ => [(2, .val (.int .i64 x)), (3, .val (.int .i64 0)), (5, .val (.int .i64 x)), (6, .val (.slice (some (⟨b1, off1, none⟩)) xs.length c)), (7, .val (.int .i64 (↑xs.length : Int))), (8, .val (.int .i64 i))]) (h1 := fun _ => []) (p1 := fun _ => []) (W1 := []) (by kernel_rfl) (fun _ => by kernel_rfl) (fun _ => trivial) (fun _ => ?_)
      refine J_return [[]] (.int .i64 x) (by kernel_rfl) (fun a w s => ?_)
      rw [orL_at hno hx (by simpa using hb)]
      exact s.ret (by simp) [] [] rfl rfl
    · refine J_skip ?_
      refine J_eb ?_
      refine J_reg mixed [.rd 0 [] 0 1, .rd 1 [] 0 0] [] [2, 3, 5, 6, 7, 8] (E1 := fun _ => [(2, .val (.int .i64 0)), (3, .val (.int .i64 0)), (5, .val (.int .i64 x)), (6, .val (.slice (some (⟨b1, off1, none⟩)) xs.length c)), (7, .val (.int .i64 (↑xs.length : Int))), (8, .val (.int .i64 (i + 1)))]) (h1 := fun _ => []) (p1 := fun _ => [IntKind.i64.wrap (i + (1 : Int)) = i + (1 : Int)]) (W1 := []) (by kernel_rfl) (fun _ => by kernel_rfl) (fun _ => ⟨wrap_i64 (by omega) (by omega), trivial⟩) (fun _ => ?_)
      refine J_backx (i + 1) [2, 3, 6, 7, 8] [] [] [0] ?_ ?_ (by kernel_rfl) rfl rfl rfl
      · refine ⟨by omega, by omega, fun j hj t ht => ?_⟩
        by_cases hji : j = i.toNat
        · subst hji
          rw [hx] at ht
          cases ht
          simpa using hb
        · exact hno j (by omega) t ht
      · omega
  · refine J_exit rfl ?_
    refine J_seq ?_
    refine J_reg mixed [.rd 0 [] 0 0, .rd 1 [] 0 0] [] [2] (E1 := fun _ => [(2, .val (.int .i64 0))]) (h1 := fun _ => []) (p1 := fun _ => []) (W1 := []) (by kernel_rfl) (fun _ => by kernel_rfl) (fun _ => trivial) (fun _ => ?_)
    refine J_return [[]] (.int .i64 0) (by kernel_rfl) (fun a w s => ?_)
    rw [orL_none fun j t ht => hno j (by have := (List.getElem?_eq_some_iff.1 ht).1; simp at hlt; omega) t ht]
    exact s.ret (by simp) [] [] rfl rfl
theorem vahead {w : World} {S : Nat → Prop} {er : Nat → Addr} {a b : Option Addr} {n m c d : Nat} {xs ys : List Int} {p q : Int} (hE : AllG w S (globs er)) (ha : Rep w S (.slice a n c) (dInts xs)) (hb : Rep w S (.slice b m d) (dInts ys)) (hl : xs.length ≤ 1000000) (hl2 : ys.length ≤ 1000000) :
    Calls Tryd.prog 26 #[.slice a n c, .int .i64 p, .slice b m d, .int .i64 q] w fun e w' =>
      (twoErr xs ys ≠ 0 ∧ Ret [] w S w' e (.tuple #[.bool false, errV 94 er (twoErr xs ys)]) [] []) ∨
      (twoErr xs ys = 0 ∧ (p < 0 ∨ xs.length ≤ p ∨ q < 0 ∨ xs.length ≤ q) ∧ Ret [] w S w' e (.tuple #[.bool false, errV 94 er 2]) [] []) ∨
      (twoErr xs ys = 0 ∧ 0 ≤ p ∧ p < xs.length ∧ 0 ≤ q ∧ q < xs.length ∧ ∃ x y, xs[p.toNat]? = some x ∧ ys[p.toNat]? = some y ∧ Ret [] w S w' e (.tuple #[.bool (aheadB (sumL xs) (sumL ys) p q x y), .nilIface]) [] []) := by
  obtain rfl := rep_ints_len ha
  obtain rfl := rep_ints_len hb
  refine ep26 (args := [.slice a xs.length c, .int .i64 p, .slice b ys.length d, .int .i64 q]) (G := globs er ++ [(_, dInts xs), (_, dInts ys)]) (by kernel_rfl) (hE.app (.cons ha (.cons hb (.nil _ _)))) ?_
  refine J_glob 1 rfl (fun csg1 tyg1 fzg1 hglob1 => ?_)
  try simp only [List.cons_append, List.nil_append, List.append_nil]
  refine J_seq ?_
  refine J_reg mixed [.rd 0 [] 0 0, .rd 1 [] 0 0] [] [0, 1, 2, 3, 8, 9] (E1 := fun _ => [(0, .val (.slice a xs.length c)), (1, .val (.int .i64 p)), (2, .val (.slice b ys.length d)), (3, .val (.int .i64 q)), (8, .val (.bool false)), (9, .val (.nilIface))]) (h1 := fun _ => []) (p1 := fun _ => []) (W1 := []) (by kernel_rfl) (fun _ => by kernel_rfl) (fun _ => trivial) (fun _ => ?_)
  refine J_seq ?_
  refine J_seq ?_
  refine JR_begin mixed [(0, true), (1, true), (2, false), (3, true)] [] (by kernel_rfl) (by kernel_rfl) ?_
  refine JR_run (id := 1) (rest := [(2, false), (3, true)]) [.rd 0 [] 0 0, .rd 1 [] 0 0] [0, 1, 2, 3, 8, 9, 16, 17] (E1 := fun _ => [(0, .val (.slice a xs.length c)), (1, .val (.int .i64 p)), (2, .val (.slice b ys.length d)), (3, .val (.int .i64 q)), (8, .val (.bool false)), (9, .val (.nilIface)), (16, .val (.slice a xs.length c)), (17, .val (.slice b ys.length d))]) (h1 := fun _ => []) (p1 := fun _ => []) (W1 := []) (fun _ => by kernel_rfl) (fun _ => trivial) (fun _ => ?_)
  refine JR_callp [] 48 #[.slice a xs.length c, .slice b ys.length d] (some 18) (by kernel_rfl) (fun w S hG => ?_)
  refine (vtwo (hG.pick [0, 1, 2] rfl) (hG.at 3 rfl) (hG.at 4 rfl) hl hl2).mono ?_
  rintro e w2 ⟨v, hR, ⟨h2, rfl⟩ | ⟨h2, rfl⟩⟩
  · refine ⟨_, _, _, hR, ?_⟩
    obtain ⟨hx0, hy0, hxy⟩ := twoErr_fine h2
    try simp only [List.cons_append, List.nil_append, List.append_nil]
    refine JR_run (id := 1) (rest := []) [.rd 3 [] 0 0] [0, 1, 2, 3, 8, 9, 10] (E1 := fun _ => [(0, .val (.slice a xs.length c)), (1, .val (.int .i64 p)), (2, .val (.slice b ys.length d)), (3, .val (.int .i64 q)), (8, .val (.bool false)), (9, .val (.nilIface)), (10, .val (.nilIface))]) (h1 := fun _ => []) (p1 := fun _ => []) (W1 := []) (fun _ => by kernel_rfl) (fun _ => trivial) (fun _ => ?_)
    refine JR_end ?_
    refine J_seq ?_
    refine J_reg mixed [.rd 0 [] 0 0, .rd 1 [] 0 0] [] [0, 1, 2, 3, 8, 9, 10, 20] (E1 := fun _ => [(0, .val (.slice a xs.length c)), (1, .val (.int .i64 p)), (2, .val (.slice b ys.length d)), (3, .val (.int .i64 q)), (8, .val (.bool false)), (9, .val (.nilIface)), (10, .val (.nilIface)), (20, .val (.bool false))]) (h1 := fun _ => []) (p1 := fun _ => []) (W1 := []) (by kernel_rfl) (fun _ => by kernel_rfl) (fun _ => trivial) (fun _ => ?_)
    refine J_cond_f (by kernel_rfl) (by kernel_rfl) ?_
    refine J_skip ?_
    refine J_seq ?_
    refine J_seq ?_
    refine J_reg mixed [.rd 0 [] 0 0, .rd 1 [] 0 0, .rd 2 [] 0 0, .rd 3 [] 2 0, .rd 4 [] 2 0, .rd 5 [] 2 0, .rd 6 [] 2 0, .rd 7 [] 0 3, .rd 8 [] 0 0, .rd 9 [] 2 0, .rd 10 [] 2 0, .rd 11 [] 0 3, .rd 12 [] 0 0, .rd 13 [] 2 0, .rd 14 [] 2 0, .rd 15 [] 2 0, .rd 16 [] 2 0, .rd 17 [] 0 3] [] [0, 1, 2, 3, 8, 9, 39] (E1 := fun _ => [(0, .val (.slice a xs.length c)), (1, .val (.int .i64 p)), (2, .val (.slice b ys.length d)), (3, .val (.int .i64 q)), (8, .val (.bool false)), (9, .val (.nilIface)), (39, .val (.bool (decide (p < 0) || decide (p ≥ (↑xs.length : Int)) || decide (q < 0) || decide (q ≥ (↑xs.length : Int)))))]) (h1 := fun _ => []) (p1 := fun _ => []) (W1 := []) (by kernel_rfl) (fun _ => by kernel_rfl) (fun _ => trivial) (fun _ => ?_)
    refine J_cond (t := decide (p < 0) || decide (p ≥ (↑xs.length : Int)) || decide (q < 0) || decide (q ≥ (↑xs.length : Int))) (by kernel_rfl) (by kernel_rfl) (fun hb2 => ?_) (fun hb2 => ?_)
    · have hb3 : p < 0 ∨ xs.length ≤ p ∨ q < 0 ∨ xs.length ≤ q := by simp at hb2; omega
      refine J_seq ?_
      refine J_reg mixed [.rd 0 [.r 0 (some (.iface 94 (.pointer (some (er 2)))))] 0 0, .rd 1 [] 0 0, .rd 2 [] 0 0] [] [0, 1, 2, 3, 8, 9] (E1 := fun _ => [(0, .val (.slice a xs.length c)), (1, .val (.int .i64 p)), (2, .val (.slice b ys.length d)), (3, .val (.int .i64 q)), (8, .val (.bool false)), (9, .val (.iface 94 (.pointer (some (er 2)))))]) (h1 := fun _ => []) (p1 := fun _ => [csg1[(0 : Nat)]? = some (Value.iface (94 : Nat) (Value.pointer (some (er (2 : Nat)))))]) (W1 := []) (by kernel_rfl) (fun _ => by kernel_rfl) (fun _ => ⟨hglob1, trivial⟩) (fun _ => ?_)
      refine J_return [[], []] (.tuple #[.bool false, .iface 94 (.pointer (some (er 2)))]) (by kernel_rfl) (fun a w s => ?_)
      exact .inr (.inl ⟨h2, hb3, s.ret (by simp) [] [] rfl rfl⟩)
    · obtain ⟨hp0, hp1, hq0, hq1⟩ : 0 ≤ p ∧ p < xs.length ∧ 0 ≤ q ∧ q < xs.length := by simp at hb2; omega
      obtain ⟨x, hx⟩ : ∃ x, xs[p.toNat]? = some x := ⟨_, List.getElem?_eq_getElem (by omega)⟩
      obtain ⟨y, hy⟩ : ∃ y, ys[p.toNat]? = some y := ⟨_, List.getElem?_eq_getElem (by omega)⟩
      refine J_read0 3 rfl p.toNat (map_at hx) (by kernel_rfl) (fun b1 off1 cs1 ty1 fz1 ha1 hrd1 => ?_)
      cases ha1
      have hrd1_0 := rd0 (hrd1 0 _ rfl)
      refine J_read0 4 rfl p.toNat (map_at hy) (by kernel_rfl) (fun b2 off2 cs2 ty2 fz2 ha2 hrd2 => ?_)
      cases ha2
      have hrd2_0 := rd0 (hrd2 0 _ rfl)
      try simp only [List.cons_append, List.nil_append, List.append_nil]
      refine J_skip ?_
      refine J_seq ?_
      refine JR_begin mixed [(0, true), (1, false), (2, true), (3, true), (4, true), (5, true), (6, true)] [] (by kernel_rfl) (by kernel_rfl) ?_
      refine JR_run (id := 6) (rest := [(1, false), (2, true), (3, true), (4, true), (5, true), (6, true)]) [.rd 0 [] 0 0] [0, 1, 2, 3, 8, 9, 42] (E1 := fun _ => [(0, .val (.slice (some (⟨b1, off1, none⟩)) xs.length c)), (1, .val (.int .i64 p)), (2, .val (.slice (some (⟨b2, off2, none⟩)) ys.length d)), (3, .val (.int .i64 q)), (8, .val (.bool false)), (9, .val (.nilIface)), (42, .val (.slice (some (⟨b1, off1, none⟩)) xs.length c))]) (h1 := fun _ => []) (p1 := fun _ => []) (W1 := []) (fun _ => by kernel_rfl) (fun _ => trivial) (fun _ => ?_)
      refine JR_callp [] 17 #[.slice (some (⟨b1, off1, none⟩)) xs.length c] (some 43) (by kernel_rfl) (fun w S hG => ?_)
      refine (vweight (hG.pick [0, 1, 2] rfl) (hG.at 3 rfl) (by omega)).mono ?_
      rintro e3 w3 (⟨h3, hR⟩ | ⟨h3, hR⟩)
      · exact absurd hx0 h3
      refine ⟨_, _, _, hR, ?_⟩
      try simp only [List.cons_append, List.nil_append, List.append_nil]
      refine JR_run (id := 6) (rest := []) [.rd 2 [] 0 0, .rd 3 [] 0 0, .rd 4 [] 0 0, .rd 5 [] 0 0, .rd 6 [] 0 0] [0, 1, 2, 3, 8, 9, 11] (E1 := fun _ => [(0, .val (.slice (some (⟨b1, off1, none⟩)) xs.length c)), (1, .val (.int .i64 p)), (2, .val (.slice (some (⟨b2, off2, none⟩)) ys.length d)), (3, .val (.int .i64 q)), (8, .val (.bool false)), (9, .val (.nilIface)), (11, .val (.int .i64 (sumL xs)))]) (h1 := fun _ => []) (p1 := fun _ => []) (W1 := []) (fun _ => by kernel_rfl) (fun _ => trivial) (fun _ => ?_)
      refine JR_end ?_
      refine J_seq ?_
      refine JR_begin mixed [(0, true), (1, false), (2, true), (3, true), (4, true), (5, true), (6, true)] [] (by kernel_rfl) (by kernel_rfl) ?_
      refine JR_run (id := 7) (rest := [(1, false), (2, true), (3, true), (4, true), (5, true), (6, true)]) [.rd 0 [] 0 0] [0, 1, 2, 3, 8, 9, 11, 47] (E1 := fun _ => [(0, .val (.slice (some (⟨b1, off1, none⟩)) xs.length c)), (1, .val (.int .i64 p)), (2, .val (.slice (some (⟨b2, off2, none⟩)) ys.length d)), (3, .val (.int .i64 q)), (8, .val (.bool false)), (9, .val (.nilIface)), (11, .val (.int .i64 (sumL xs))), (47, .val (.slice (some (⟨b2, off2, none⟩)) ys.length d))]) (h1 := fun _ => []) (p1 := fun _ => []) (W1 := []) (fun _ => by kernel_rfl) (fun _ => trivial) (fun _ => ?_)
      refine JR_callp [] 17 #[.slice (some (⟨b2, off2, none⟩)) ys.length d] (some 48) (by kernel_rfl) (fun w S hG => ?_)
      refine (vweight (hG.pick [0, 1, 2] rfl) (hG.at 4 rfl) (by omega)).mono ?_
      rintro e4 w4 (⟨h3, hR⟩ | ⟨h3, hR⟩)
      · exact absurd hy0 h3
      refine ⟨_, _, _, hR, ?_⟩
      try simp only [List.cons_append, List.nil_append, List.append_nil]
      refine JR_run (id := 7) (rest := []) [.rd 2 [] 0 0, .rd 3 [] 0 0, .rd 4 [] 0 0, .rd 5 [] 0 0, .rd 6 [] 0 0] [0, 1, 2, 3, 8, 9, 11, 13] (E1 := fun _ => [(0, .val (.slice (some (⟨b1, off1, none⟩)) xs.length c)), (1, .val (.int .i64 p)), (2, .val (.slice (some (⟨b2, off2, none⟩)) ys.length d)), (3, .val (.int .i64 q)), (8, .val (.bool false)), (9, .val (.nilIface)), (11, .val (.int .i64 (sumL xs))), (13, .val (.int .i64 (sumL ys)))]) (h1 := fun _ => []) (p1 := fun _ => []) (W1 := []) (fun _ => by kernel_rfl) (fun _ => trivial) (fun _ => ?_)
      refine JR_end ?_
      refine J_seq ?_
      refine JR_begin mixed [(0, true), (1, true), (2, false), (3, true), (4, true), (5, false), (6, false), (7, false), (8, true)] [] (by kernel_rfl) (by kernel_rfl) ?_
      refine JR_run (id := 8) (rest := [(2, false), (3, true), (4, true), (5, false), (6, false), (7, false), (8, true)]) [.rd 0 [] 0 0, .rd 1 [] 0 0] [0, 1, 2, 3, 8, 9, 51, 52] (E1 := fun _ => [(0, .val (.slice (some (⟨b1, off1, none⟩)) xs.length c)), (1, .val (.int .i64 p)), (2, .val (.slice (some (⟨b2, off2, none⟩)) ys.length d)), (3, .val (.int .i64 q)), (8, .val (.bool false)), (9, .val (.nilIface)), (51, .val (.int .i64 (sumL xs))), (52, .val (.int .i64 (sumL ys)))]) (h1 := fun _ => []) (p1 := fun _ => []) (W1 := []) (fun _ => by kernel_rfl) (fun _ => trivial) (fun _ => ?_)
      refine JR_callp [] 53 #[.int .i64 (sumL xs), .int .i64 (sumL ys)] (some 53) (by kernel_rfl) (fun w S hG => ?_)
      refine (cmpC (S := S)).mono ?_
      rintro e5 w5 hR
      refine ⟨_, _, _, hR, ?_⟩
      try simp only [List.cons_append, List.nil_append, List.append_nil]
      refine JR_run (id := 8) (rest := [(5, false), (6, false), (7, false), (8, true)]) [.rd 3 [] 0 0, .rd 4 [] 0 0] [0, 1, 2, 8, 9, 53, 54, 55] (E1 := fun _ => [(0, .val (.slice (some (⟨b1, off1, none⟩)) xs.length c)), (1, .val (.int .i64 p)), (2, .val (.slice (some (⟨b2, off2, none⟩)) ys.length d)), (8, .val (.bool false)), (9, .val (.nilIface)), (53, .val (.int .i64 (cmpI (sumL xs) (sumL ys)))), (54, .val (.int .i64 p)), (55, .val (.int .i64 q))]) (h1 := fun _ => []) (p1 := fun _ => []) (W1 := []) (fun _ => by kernel_rfl) (fun _ => trivial) (fun _ => ?_)
      refine JR_callp [] 53 #[.int .i64 p, .int .i64 q] (some 56) (by kernel_rfl) (fun w S hG => ?_)
      refine (cmpC (S := S)).mono ?_
      rintro e6 w6 hR
      refine ⟨_, _, _, hR, ?_⟩
      try simp only [List.cons_append, List.nil_append, List.append_nil]
      refine JR_run (id := 8) (rest := [(7, false), (8, true)]) [.wr 6 [] 0] [0, 1, 2, 8, 9, 57] (E1 := fun nu1 => [(0, .val (.slice (some (⟨b1, off1, none⟩)) xs.length c)), (1, .val (.int .i64 p)), (2, .val (.slice (some (⟨b2, off2, none⟩)) ys.length d)), (8, .val (.bool false)), (9, .val (.nilIface)), (57, .val (.slice (some (⟨nu1 0, 0, none⟩)) 2 2))]) (h1 := fun nu1 => [(nu1 0, .cells #[.int .i64 (cmpI (sumL xs) (sumL ys)), .int .i64 (cmpI p q)] 3 (0, 0))]) (p1 := fun nu1 => []) (W1 := []) (fun _ => by kernel_rfl) (fun _ => trivial) (fun nu1 => ?_)
      refine JR_data (size := 1) 0 eI [cmpI (sumL xs) (sumL ys), cmpI p q] 2 rfl (by kernel_rfl) (by decide) (by intro x _; rfl) (by simp) ⟨.inl ⟨rfl, rfl⟩, ⟨.inl ⟨rfl, rfl⟩, trivial⟩⟩ ?_
      refine JR_callp [] 52 #[.slice (some (⟨nu1 0, 0, none⟩)) 2 2] (some 58) (by kernel_rfl) (fun w S hG => ?_)
      refine (orC (hG.at 5 rfl) (by simp)).mono ?_
      rintro e7 w7 hR
      refine ⟨_, _, _, hR, ?_⟩
      try simp only [List.cons_append, List.nil_append, List.append_nil]
      refine JR_run (id := 8) (rest := []) [.rd 8 [] 0 0] [0, 1, 2, 8, 9, 15] (E1 := fun _ => [(0, .val (.slice (some (⟨b1, off1, none⟩)) xs.length c)), (1, .val (.int .i64 p)), (2, .val (.slice (some (⟨b2, off2, none⟩)) ys.length d)), (8, .val (.bool false)), (9, .val (.nilIface)), (15, .val (.int .i64 (orL [cmpI (sumL xs) (sumL ys), cmpI p q])))]) (h1 := fun _ => []) (p1 := fun _ => []) (W1 := []) (fun _ => by kernel_rfl) (fun _ => trivial) (fun _ => ?_)
      refine JR_end ?_
      refine J_seq ?_
      refine J_seq ?_
      refine J_reg mixed [.rd 0 [] 0 0, .rd 1 [] 0 0] [] [0, 1, 2, 8, 9, 15, 60] (E1 := fun _ => [(0, .val (.slice (some (⟨b1, off1, none⟩)) xs.length c)), (1, .val (.int .i64 p)), (2, .val (.slice (some (⟨b2, off2, none⟩)) ys.length d)), (8, .val (.bool false)), (9, .val (.nilIface)), (15, .val (.int .i64 (orL [cmpI (sumL xs) (sumL ys), cmpI p q]))), (60, .val (.bool (orL [cmpI (sumL xs) (sumL ys), cmpI p q] == 0)))]) (h1 := fun _ => []) (p1 := fun _ => []) (W1 := []) (by kernel_rfl) (fun _ => by kernel_rfl) (fun _ => trivial) (fun _ => ?_)
      refine J_cond (t := orL [cmpI (sumL xs) (sumL ys), cmpI p q] == 0) (by kernel_rfl) (by kernel_rfl) (fun hc => ?_) (fun hc => ?_)
      · obtain ⟨h4, h5⟩ := or_zero (by simpa using hc)
        refine JR_begin mixed [(0, true), (1, true), (2, true), (3, true), (4, true), (5, true), (6, true), (7, true), (8, false), (9, true)] [] (by kernel_rfl) (by kernel_rfl) ?_
        refine JR_run (id := 10) (rest := [(8, false), (9, true)]) [.rd 0 [] 0 0, .rd 1 [] 0 0, .rd 2 [] 0 2, .rd 3 [.r 1 (some (.int .i64 x))] 0 0, .rd 4 [] 0 0, .rd 5 [] 0 0, .rd 6 [] 0 2, .rd 7 [.r 2 (some (.int .i64 y))] 0 0] [8, 9, 15, 64, 68] (E1 := fun _ => [(8, .val (.bool false)), (9, .val (.nilIface)), (15, .val (.int .i64 (orL [cmpI (sumL xs) (sumL ys), cmpI p q]))), (64, .val (.int .i64 x)), (68, .val (.int .i64 y))]) (h1 := fun _ => []) (p1 := fun _ => [(0 : Int) ≤ p, p < (↑xs.length : Int), cs1[off1 + p.toNat * (1 : Nat)]? = some (Value.int IntKind.i64 x), (0 : Int) ≤ p, p < (↑ys.length : Int), cs2[off2 + p.toNat * (1 : Nat)]? = some (Value.int IntKind.i64 y)]) (W1 := []) (fun _ => by kernel_rfl) (fun _ => ⟨hp0, hp1, hrd1_0, hp0, by omega, hrd2_0, trivial⟩) (fun _ => ?_)
        refine JR_callp [] 53 #[.int .i64 x, .int .i64 y] (some 69) (by kernel_rfl) (fun w S hG => ?_)
        refine (cmpC (S := S)).mono ?_
        rintro e8 w8 hR
        refine ⟨_, _, _, hR, ?_⟩
        try simp only [List.cons_append, List.nil_append, List.append_nil]
        refine JR_run (id := 10) (rest := []) [.rd 9 [] 0 0] [8, 9, 15] (E1 := fun _ => [(8, .val (.bool false)), (9, .val (.nilIface)), (15, .val (.int .i64 (cmpI x y)))]) (h1 := fun _ => []) (p1 := fun _ => []) (W1 := []) (fun _ => by kernel_rfl) (fun _ => trivial) (fun _ => ?_)
        refine JR_end ?_
        refine J_seq ?_
        refine J_reg mixed [.rd 0 [] 0 0, .rd 1 [] 0 0, .rd 2 [] 0 0, .rd 3 [] 0 0] [] [8, 9] (E1 := fun _ => [(8, .val (.bool (decide (cmpI x y < 0)))), (9, .val (.nilIface))]) (h1 := fun _ => []) (p1 := fun _ => []) (W1 := []) (by kernel_rfl) (fun _ => by kernel_rfl) (fun _ => trivial) (fun _ => ?_)
        refine J_return [[], []] (.tuple #[.bool (decide (cmpI x y < 0)), .nilIface]) (by kernel_rfl) (fun a w s => ?_)
        refine .inr (.inr ⟨h2, hp0, hp1, hq0, hq1, x, y, hx, hy, ?_⟩)
        rw [h4, h5, ← cmp_neg]
        exact s.ret (by simp) [] [] rfl rfl
      · refine J_skip ?_
        refine J_seq ?_
        refine J_reg mixed [.rd 0 [] 0 0, .rd 1 [] 0 0, .rd 2 [] 0 0, .rd 3 [] 0 0] [] [8, 9] (E1 := fun _ => [(8, .val (.bool (decide (orL [cmpI (sumL xs) (sumL ys), cmpI p q] < 0)))), (9, .val (.nilIface))]) (h1 := fun _ => []) (p1 := fun _ => []) (W1 := []) (by kernel_rfl) (fun _ => by kernel_rfl) (fun _ => trivial) (fun _ => ?_)
        refine J_return [[], []] (.tuple #[.bool (decide (orL [cmpI (sumL xs) (sumL ys), cmpI p q] < 0)), .nilIface]) (by kernel_rfl) (fun a w s => ?_)
        refine .inr (.inr ⟨h2, hp0, hp1, hq0, hq1, x, y, hx, hy, ?_⟩)
        rw [← or_neg (by simpa using hc)]
        exact s.ret (by simp) [] [] rfl rfl
  · refine ⟨_, _, _, hR, ?_⟩
    try simp only [List.cons_append, List.nil_append, List.append_nil]
    refine JR_run (id := 1) (rest := []) [.rd 3 [] 0 0] [0, 1, 2, 3, 8, 9, 10] (E1 := fun _ => [(0, .val (.slice a xs.length c)), (1, .val (.int .i64 p)), (2, .val (.slice b ys.length d)), (3, .val (.int .i64 q)), (8, .val (.bool false)), (9, .val (.nilIface)), (10, .val (.iface 94 (.pointer (some (er (twoErr xs ys))))))]) (h1 := fun _ => []) (p1 := fun _ => []) (W1 := []) (fun _ => by kernel_rfl) (fun _ => trivial) (fun _ => ?_)
    refine JR_end ?_
    refine J_seq ?_
    refine J_reg mixed [.rd 0 [] 0 0, .rd 1 [] 0 0] [] [0, 1, 2, 3, 8, 9, 10, 20] (E1 := fun _ => [(0, .val (.slice a xs.length c)), (1, .val (.int .i64 p)), (2, .val (.slice b ys.length d)), (3, .val (.int .i64 q)), (8, .val (.bool false)), (9, .val (.nilIface)), (10, .val (.iface 94 (.pointer (some (er (twoErr xs ys)))))), (20, .val (.bool true))]) (h1 := fun _ => []) (p1 := fun _ => []) (W1 := []) (by kernel_rfl) (fun _ => by kernel_rfl) (fun _ => trivial) (fun _ => ?_)
    refine J_cond_t (by kernel_rfl) (by kernel_rfl) ?_
    refine J_seq ?_
    refine J_reg mixed [.rd 0 [] 0 0, .rd 1 [] 0 0, .rd 2 [] 0 0] [] [0, 1, 2, 3, 8, 9] (E1 := fun _ => [(0, .val (.slice a xs.length c)), (1, .val (.int .i64 p)), (2, .val (.slice b ys.length d)), (3, .val (.int .i64 q)), (8, .val (.bool false)), (9, .val (.iface 94 (.pointer (some (er (twoErr xs ys))))))]) (h1 := fun _ => []) (p1 := fun _ => []) (W1 := []) (by kernel_rfl) (fun _ => by kernel_rfl) (fun _ => trivial) (fun _ => ?_)
    refine J_return [[], []] (.tuple #[.bool false, .iface 94 (.pointer (some (er (twoErr xs ys))))]) (by kernel_rfl) (fun a w s => ?_)
    exact .inl ⟨h2, s.ret (by simp) [] [] rfl rfl⟩
end Go.Proofs.YtibkfmobofikmaaDoor
