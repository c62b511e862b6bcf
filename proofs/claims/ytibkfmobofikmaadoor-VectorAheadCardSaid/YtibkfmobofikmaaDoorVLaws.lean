/- VectorLaws and VectorWeighs, walked. -/
import Derived.Test.YtibkfmobofikmaaDoorTimed
import Derived.Test.YtibkfmobofikmaaDoorSame
namespace Go.Proofs.YtibkfmobofikmaaDoor
open Go Go.Sx

/-! What the laws say, of lists. -/
theorem zip_len {g : Int → Int → Int} {xs ys : List Int} (h : xs.length = ys.length) : (List.zipWith g xs ys).length = xs.length := by simp [h]
theorem zip_at {g : Int → Int → Int} {xs ys : List Int} {j : Nat} {x y : Int} (hx : xs[j]? = some x) (hy : ys[j]? = some y) : (List.zipWith g xs ys)[j]? = some (g x y) := List.getElem?_zipWith_eq_some.2 ⟨x, y, hx, hy, rfl⟩
theorem zip_fine {g : Int → Int → Int} (hg : ∀ x y, g x y = x ∨ g x y = y) {xs ys : List Int} (hx : vecErr xs = 0) (hy : vecErr ys = 0) (h : xs.length = ys.length) : vecErr (List.zipWith g xs ys) = 0 := by
  have hl := vecErr_len hx
  unfold vecErr
  rw [zip_len h, if_neg (by omega), if_neg]
  rw [Bool.not_eq_true, List.any_eq_false]
  intro t ht
  obtain ⟨j, hj⟩ := List.getElem?_of_mem ht
  obtain ⟨x, y, hx1, hy1, rfl⟩ := List.getElem?_zipWith_eq_some.1 hj
  have h1 := vecErr_in hx x (List.mem_of_getElem? hx1)
  have h2 := vecErr_in hy y (List.mem_of_getElem? hy1)
  rcases hg x y with h | h <;> rw [h] <;> simp [badT] <;> omega
theorem two_of {xs ys : List Int} (hx : vecErr xs = 0) (hy : vecErr ys = 0) (h : xs.length = ys.length) : twoErr xs ys = 0 := by simp [twoErr, hx, hy, h]
theorem max_or (x y : Int) : max x y = x ∨ max x y = y := by omega
theorem min_or (x y : Int) : min x y = x ∨ min x y = y := by omega
theorem inL_iff {xs ys : List Int} (hl : xs.length = ys.length) : inL xs ys = true ↔ ∀ (j : Nat) x y, xs[j]? = some x → ys[j]? = some y → x ≤ y := by
  refine ⟨fun h j x y hx hy => ?_, inL_true hl⟩
  rcases Int.lt_or_le y x with hlt | hle
  · rw [inL_false hx hy hlt] at h; cases h
  · exact hle
theorem at_of {xs ys : List Int} (h : xs.length = ys.length) {j : Nat} {x : Int} (hx : xs[j]? = some x) : ∃ y, ys[j]? = some y :=
  ⟨_, List.getElem?_eq_getElem (by rw [← h]; exact (List.getElem?_eq_some_iff.1 hx).1)⟩
theorem in_most {xs ys : List Int} (h : xs.length = ys.length) : inL xs (List.zipWith max xs ys) = true ∧ inL ys (List.zipWith max xs ys) = true := by
  refine ⟨inL_true (by simp [h]) fun j x m hx hm => ?_, inL_true (by simp [h]) fun j y m hy hm => ?_⟩
  · obtain ⟨y, hy⟩ := at_of h hx
    rw [zip_at hx hy] at hm
    cases hm
    omega
  · obtain ⟨x, hx⟩ := at_of h.symm hy
    rw [zip_at hx hy] at hm
    cases hm
    omega
theorem in_join {xs ys zs : List Int} (h : xs.length = ys.length) (h2 : xs.length = zs.length) : (inL xs zs && inL ys zs) = inL (List.zipWith max xs ys) zs := by
  rw [Bool.eq_iff_iff, Bool.and_eq_true, inL_iff h2, inL_iff (h.symm.trans h2), inL_iff (by simp [h]; omega)]
  refine ⟨fun ⟨h3, h4⟩ j m z hm hz => ?_, fun h3 => ⟨fun j x z hx hz => ?_, fun j y z hy hz => ?_⟩⟩
  · obtain ⟨x, y, hx, hy, rfl⟩ := List.getElem?_zipWith_eq_some.1 hm
    have := h3 j x z hx hz
    have := h4 j y z hy hz
    omega
  · obtain ⟨y, hy⟩ := at_of h hx
    have := h3 j _ z (zip_at hx hy) hz
    omega
  · obtain ⟨x, hx⟩ := at_of h.symm hy
    have := h3 j _ z (zip_at hx hy) hz
    omega
theorem takes_up (g g' : Int → Int → Int) (hg : ∀ x y, g x (g' x y) = x) {xs ys : List Int} (h : xs.length = ys.length) : List.zipWith g xs (List.zipWith g' xs ys) = xs := by
  apply List.ext_getElem?
  intro j
  cases hx : xs[j]? with
  | none =>
    rw [List.getElem?_eq_none_iff] at hx ⊢
    simp
    omega
  | some x =>
    obtain ⟨y, hy⟩ := at_of h hx
    rw [zip_at hx (zip_at hx hy), hg]
theorem in_sum {xs ys : List Int} (h : xs.length = ys.length) (hi : inL xs ys = true) : sumL xs ≤ sumL ys ∧ (sumL xs < sumL ys ∨ xs = ys) := by
  induction xs generalizing ys with
  | nil =>
    cases ys with
    | nil => simp
    | cons y ys => simp at h
  | cons x xs ih =>
    cases ys with
    | nil => simp at h
    | cons y ys =>
      rw [inL_iff h] at hi
      have h0 := hi 0 x y rfl rfl
      have h1 := ih (by simpa using h) ((inL_iff (by simpa using h)).2 fun j a b ha hb => hi (j + 1) a b (by simpa using ha) (by simpa using hb))
      have e : ∀ (z : Int) (zs : List Int), sumL (z :: zs) = z + sumL zs := by
        intro z zs
        have key : ∀ (zs : List Int) (a : Int), zs.foldl (· + ·) a = a + zs.foldl (· + ·) 0 := by
          intro zs
          induction zs with
          | nil => simp
          | cons u zs ih =>
            intro a
            rw [List.foldl_cons, List.foldl_cons, ih, ih (0 + u)]
            omega
        unfold sumL
        rw [List.foldl_cons, key]
        omega
      rw [e, e]
      refine ⟨by omega, ?_⟩
      rcases h1.2 with h2 | h2
      · left; omega
      · subst h2
        by_cases hxy : x = y
        · right; rw [hxy]
        · left; omega
theorem sum_zip {xs ys : List Int} (h : xs.length = ys.length) : sumL xs + sumL ys = sumL (List.zipWith min xs ys) + sumL (List.zipWith max xs ys) := by
  have e : ∀ (z : Int) (zs : List Int), sumL (z :: zs) = z + sumL zs := by
    intro z zs
    have key : ∀ (zs : List Int) (a : Int), zs.foldl (· + ·) a = a + zs.foldl (· + ·) 0 := by
      intro zs
      induction zs with
      | nil => simp
      | cons u zs ih =>
        intro a
        rw [List.foldl_cons, List.foldl_cons, ih, ih (0 + u)]
        omega
    unfold sumL
    rw [List.foldl_cons, key]
    omega
  induction xs generalizing ys with
  | nil =>
    cases ys with
    | nil => simp [sumL]
    | cons y ys => simp at h
  | cons x xs ih =>
    cases ys with
    | nil => simp at h
    | cons y ys =>
      have h1 := ih (ys := ys) (by simpa using h)
      simp only [List.zipWith_cons_cons, e]
      omega
theorem weight_le {xs : List Int} (h : vecErr xs = 0) : 0 ≤ sumL xs ∧ sumL xs ≤ 6597069766656 := by
  have h1 := sumL_le (vecErr_in h) xs.length
  have h2 := vecErr_len h
  rw [List.take_length] at h1
  omega
 
set_option maxHeartbeats 8000000 in
theorem vlaws {w : World} {S : Nat → Prop} {er : Nat → Addr} {a b c : Option Addr} {n m k ca cb cc : Nat} {xs ys zs : List Int} (hE : AllG w S (globs er)) (ha : Rep w S (.slice a n ca) (dInts xs)) (hb : Rep w S (.slice b m cb) (dInts ys)) (hc : Rep w S (.slice c k cc) (dInts zs)) :
    Calls Tryd.prog 3 #[.slice a n ca, .slice b m cb, .slice c k cc] w fun e w' => Ret [] w S w' e (.bool true) [] [] := by
  obtain rfl := rep_ints_len ha
  obtain rfl := rep_ints_len hb
  obtain rfl := rep_ints_len hc
  refine ep3 (args := [.slice a xs.length ca, .slice b ys.length cb, .slice c zs.length cc]) (G := globs er ++ [(_, dInts xs), (_, dInts ys), (_, dInts zs)]) (by kernel_rfl) (hE.app (.cons ha (.cons hb (.cons hc (.nil _ _))))) ?_
  try simp only [List.cons_append, List.nil_append, List.append_nil]
  refine J_seq ?_
  refine J_reg mixed [.rd 0 [] 0 0] [] [0, 1, 2, 6] (E1 := fun _ => [(0, .val (.slice a xs.length ca)), (1, .val (.slice b ys.length cb)), (2, .val (.slice c zs.length cc)), (6, .val (.bool false))]) (h1 := fun _ => []) (p1 := fun _ => []) (W1 := []) (by kernel_rfl) (fun _ => by kernel_rfl) (fun _ => trivial) (fun _ => ?_)
  refine J_seq ?_
  refine JR_begin mixed [(0, false), (1, true)] [] (by kernel_rfl) (by kernel_rfl) ?_
  refine JR_callp [] 11 #[] (some 21) (by kernel_rfl) (fun w S hG => ?_)
  refine (vtimed (hG.pick [0, 1, 2] rfl)).mono ?_
  rintro e1 w1 hR
  refine ⟨_, _, _, hR, ?_⟩
  try simp only [List.cons_append, List.nil_append, List.append_nil]
  refine JR_run (id := 1) (rest := []) [.rd 1 [] 0 0] [0, 1, 2, 6, 7] (E1 := fun _ => [(0, .val (.slice a xs.length ca)), (1, .val (.slice b ys.length cb)), (2, .val (.slice c zs.length cc)), (6, .val (.bool false)), (7, .val (.bool true))]) (h1 := fun _ => []) (p1 := fun _ => []) (W1 := []) (fun _ => by kernel_rfl) (fun _ => trivial) (fun _ => ?_)
  refine JR_end ?_
  refine J_seq ?_
  refine J_seq ?_
  refine J_reg mixed [.rd 0 [] 0 0, .rd 1 [] 0 0, .rd 2 [] 0 0, .rd 3 [] 0 0, .rd 4 [] 0 0, .rd 5 [] 0 0, .rd 6 [] 0 0, .rd 7 [] 0 0, .rd 8 [] 2 0, .rd 9 [] 2 0, .rd 10 [] 2 0, .rd 11 [] 0 3, .rd 12 [] 0 0, .rd 13 [] 2 0, .rd 14 [] 2 0, .rd 15 [] 2 0, .rd 16 [] 0 3] [] [0, 1, 2, 6, 7, 38] (E1 := fun _ => [(0, .val (.slice a xs.length ca)), (1, .val (.slice b ys.length cb)), (2, .val (.slice c zs.length cc)), (6, .val (.bool false)), (7, .val (.bool true)), (38, .val (.bool (decide ((↑xs.length : Int) > 20) || decide ((↑ys.length : Int) > 20) || decide ((↑zs.length : Int) > 20))))]) (h1 := fun _ => []) (p1 := fun _ => []) (W1 := []) (by kernel_rfl) (fun _ => by kernel_rfl) (fun _ => trivial) (fun _ => ?_)
  refine J_cond (t := decide ((↑xs.length : Int) > 20) || decide ((↑ys.length : Int) > 20) || decide ((↑zs.length : Int) > 20)) (by kernel_rfl) (by kernel_rfl) (fun hbad => ?_) (fun hbad => ?_)
  · refine J_seq ?_
    refine J_reg mixed [.rd 0 [] 0 0, .rd 1 [] 0 0] [] [0, 1, 2, 6] (E1 := fun _ => [(0, .val (.slice a xs.length ca)), (1, .val (.slice b ys.length cb)), (2, .val (.slice c zs.length cc)), (6, .val (.bool true))]) (h1 := fun _ => []) (p1 := fun _ => []) (W1 := []) (by kernel_rfl) (fun _ => by kernel_rfl) (fun _ => trivial) (fun _ => ?_)
    refine J_return [[]] (.bool true) (by kernel_rfl) (fun a w s => ?_)
    exact s.ret (by simp) [] [] rfl rfl
  obtain ⟨hl1, hl2, hl3⟩ : xs.length ≤ 20 ∧ ys.length ≤ 20 ∧ zs.length ≤ 20 := by simp at hbad; omega
  refine J_skip ?_
  refine J_seq ?_
  refine JR_begin mixed [(0, true), (1, false), (2, true), (3, false), (4, false), (5, true), (6, true), (7, true), (8, true), (9, true)] [] (by kernel_rfl) (by kernel_rfl) ?_
  refine JR_run (id := 4) (rest := [(1, false), (2, true), (3, false), (4, false), (5, true), (6, true), (7, true), (8, true), (9, true)]) [.rd 0 [] 0 0] [0, 1, 2, 6, 41] (E1 := fun _ => [(0, .val (.slice a xs.length ca)), (1, .val (.slice b ys.length cb)), (2, .val (.slice c zs.length cc)), (6, .val (.bool false)), (41, .val (.slice a xs.length ca))]) (h1 := fun _ => []) (p1 := fun _ => []) (W1 := []) (fun _ => by kernel_rfl) (fun _ => trivial) (fun _ => ?_)
  by_cases hab : twoErr xs ys = 0
  rotate_left
  · skip
    refine JR_callp [] 13 #[.slice a xs.length ca] (some 42) (by kernel_rfl) (fun w S hG => ?_)
    refine (vown (hG.at 3 rfl) (by omega)).mono ?_
    rintro e1 w1 ⟨oa1, oc1, hR⟩
    refine ⟨_, _, _, hR, ?_⟩
    try simp only [List.cons_append, List.nil_append, List.append_nil]
    refine JR_run (id := 4) (rest := [(3, false), (4, false), (5, true), (6, true), (7, true), (8, true), (9, true)]) [.rd 2 [] 0 0] [0, 1, 2, 6, 42, 43] (E1 := fun _ => [(0, .val (.slice a xs.length ca)), (1, .val (.slice b ys.length cb)), (2, .val (.slice c zs.length cc)), (6, .val (.bool false)), (42, .val (.slice oa1 xs.length oc1)), (43, .val (.slice b ys.length cb))]) (h1 := fun _ => []) (p1 := fun _ => []) (W1 := []) (fun _ => by kernel_rfl) (fun _ => trivial) (fun _ => ?_)
    refine JR_callp [] 13 #[.slice b ys.length cb] (some 44) (by kernel_rfl) (fun w S hG => ?_)
    refine (vown (hG.at 4 rfl) (by omega)).mono ?_
    rintro e2 w2 ⟨oa2, oc2, hR⟩
    refine ⟨_, _, _, hR, ?_⟩
    try simp only [List.cons_append, List.nil_append, List.append_nil]
    refine JR_callp [] 12 #[.slice oa1 xs.length oc1, .slice oa2 ys.length oc2] (some 45) (by kernel_rfl) (fun w S hG => ?_)
    refine (vMost (hG.pick [0, 1, 2] rfl) (hG.at 6 rfl) (hG.at 7 rfl) (by omega) (by omega)).mono ?_
    rintro e3 w3 (⟨h2, hR⟩ | ⟨h2, ra3, rn3, rc3, hR⟩)
    rotate_left
    · exact absurd h2 hab
    refine ⟨_, _, _, hR, ?_⟩
    try simp only [List.cons_append, List.nil_append, List.append_nil]
    refine JR_run (id := 4) (rest := []) [.rd 5 [] 0 0, .rd 6 [] 0 0, .rd 7 [] 0 0, .rd 8 [] 0 0, .rd 9 [] 0 0] [0, 1, 2, 6, 8, 9] (E1 := fun _ => [(0, .val (.slice a xs.length ca)), (1, .val (.slice b ys.length cb)), (2, .val (.slice c zs.length cc)), (6, .val (.bool false)), (8, .val (.slice none 0 0)), (9, .val (.iface 94 (.pointer (some (er (twoErr xs ys))))))]) (h1 := fun _ => []) (p1 := fun _ => []) (W1 := []) (fun _ => by kernel_rfl) (fun _ => trivial) (fun _ => ?_)
    refine JR_end ?_
    refine J_seq ?_
    refine JR_begin mixed [(0, true), (1, false), (2, true), (3, false), (4, false), (5, true), (6, true), (7, true), (8, true), (9, true)] [] (by kernel_rfl) (by kernel_rfl) ?_
    refine JR_run (id := 5) (rest := [(1, false), (2, true), (3, false), (4, false), (5, true), (6, true), (7, true), (8, true), (9, true)]) [.rd 0 [] 0 0] [0, 1, 2, 6, 8, 9, 49] (E1 := fun _ => [(0, .val (.slice a xs.length ca)), (1, .val (.slice b ys.length cb)), (2, .val (.slice c zs.length cc)), (6, .val (.bool false)), (8, .val (.slice none 0 0)), (9, .val (.iface 94 (.pointer (some (er (twoErr xs ys)))))), (49, .val (.slice a xs.length ca))]) (h1 := fun _ => []) (p1 := fun _ => []) (W1 := []) (fun _ => by kernel_rfl) (fun _ => trivial) (fun _ => ?_)
    refine JR_callp [] 13 #[.slice a xs.length ca] (some 50) (by kernel_rfl) (fun w S hG => ?_)
    refine (vown (hG.at 3 rfl) (by omega)).mono ?_
    rintro e4 w4 ⟨oa4, oc4, hR⟩
    refine ⟨_, _, _, hR, ?_⟩
    try simp only [List.cons_append, List.nil_append, List.append_nil]
    refine JR_run (id := 5) (rest := [(3, false), (4, false), (5, true), (6, true), (7, true), (8, true), (9, true)]) [.rd 2 [] 0 0] [0, 1, 2, 6, 8, 9, 50, 51] (E1 := fun _ => [(0, .val (.slice a xs.length ca)), (1, .val (.slice b ys.length cb)), (2, .val (.slice c zs.length cc)), (6, .val (.bool false)), (8, .val (.slice none 0 0)), (9, .val (.iface 94 (.pointer (some (er (twoErr xs ys)))))), (50, .val (.slice oa4 xs.length oc4)), (51, .val (.slice b ys.length cb))]) (h1 := fun _ => []) (p1 := fun _ => []) (W1 := []) (fun _ => by kernel_rfl) (fun _ => trivial) (fun _ => ?_)
    refine JR_callp [] 13 #[.slice b ys.length cb] (some 52) (by kernel_rfl) (fun w S hG => ?_)
    refine (vown (hG.at 4 rfl) (by omega)).mono ?_
    rintro e5 w5 ⟨oa5, oc5, hR⟩
    refine ⟨_, _, _, hR, ?_⟩
    try simp only [List.cons_append, List.nil_append, List.append_nil]
    refine JR_callp [] 14 #[.slice oa4 xs.length oc4, .slice oa5 ys.length oc5] (some 53) (by kernel_rfl) (fun w S hG => ?_)
    refine (vLeast (hG.pick [0, 1, 2] rfl) (hG.at 8 rfl) (hG.at 9 rfl) (by omega) (by omega)).mono ?_
    rintro e6 w6 (⟨h2, hR⟩ | ⟨h2, ra6, rn6, rc6, hR⟩)
    rotate_left
    · exact absurd h2 hab
    refine ⟨_, _, _, hR, ?_⟩
    try simp only [List.cons_append, List.nil_append, List.append_nil]
    refine JR_run (id := 5) (rest := []) [.rd 5 [] 0 0, .rd 6 [] 0 0, .rd 7 [] 0 0, .rd 8 [] 0 0, .rd 9 [] 0 0] [0, 1, 2, 6, 8, 9, 10, 11] (E1 := fun _ => [(0, .val (.slice a xs.length ca)), (1, .val (.slice b ys.length cb)), (2, .val (.slice c zs.length cc)), (6, .val (.bool false)), (8, .val (.slice none 0 0)), (9, .val (.iface 94 (.pointer (some (er (twoErr xs ys)))))), (10, .val (.slice none 0 0)), (11, .val (.iface 94 (.pointer (some (er (twoErr xs ys))))))]) (h1 := fun _ => []) (p1 := fun _ => []) (W1 := []) (fun _ => by kernel_rfl) (fun _ => trivial) (fun _ => ?_)
    refine JR_end ?_
    refine J_seq ?_
    refine JR_begin mixed [(0, true), (1, false), (2, true), (3, false), (4, false), (5, true), (6, true), (7, true), (8, true), (9, true)] [] (by kernel_rfl) (by kernel_rfl) ?_
    refine JR_run (id := 6) (rest := [(1, false), (2, true), (3, false), (4, false), (5, true), (6, true), (7, true), (8, true), (9, true)]) [.rd 0 [] 0 0] [0, 1, 2, 6, 8, 9, 10, 11, 57] (E1 := fun _ => [(0, .val (.slice a xs.length ca)), (1, .val (.slice b ys.length cb)), (2, .val (.slice c zs.length cc)), (6, .val (.bool false)), (8, .val (.slice none 0 0)), (9, .val (.iface 94 (.pointer (some (er (twoErr xs ys)))))), (10, .val (.slice none 0 0)), (11, .val (.iface 94 (.pointer (some (er (twoErr xs ys)))))), (57, .val (.slice a xs.length ca))]) (h1 := fun _ => []) (p1 := fun _ => []) (W1 := []) (fun _ => by kernel_rfl) (fun _ => trivial) (fun _ => ?_)
    refine JR_callp [] 13 #[.slice a xs.length ca] (some 58) (by kernel_rfl) (fun w S hG => ?_)
    refine (vown (hG.at 3 rfl) (by omega)).mono ?_
    rintro e7 w7 ⟨oa7, oc7, hR⟩
    refine ⟨_, _, _, hR, ?_⟩
    try simp only [List.cons_append, List.nil_append, List.append_nil]
    refine JR_run (id := 6) (rest := [(3, false), (4, false), (5, true), (6, true), (7, true), (8, true), (9, true)]) [.rd 2 [] 0 0] [0, 1, 2, 6, 8, 9, 10, 11, 58, 59] (E1 := fun _ => [(0, .val (.slice a xs.length ca)), (1, .val (.slice b ys.length cb)), (2, .val (.slice c zs.length cc)), (6, .val (.bool false)), (8, .val (.slice none 0 0)), (9, .val (.iface 94 (.pointer (some (er (twoErr xs ys)))))), (10, .val (.slice none 0 0)), (11, .val (.iface 94 (.pointer (some (er (twoErr xs ys)))))), (58, .val (.slice oa7 xs.length oc7)), (59, .val (.slice c zs.length cc))]) (h1 := fun _ => []) (p1 := fun _ => []) (W1 := []) (fun _ => by kernel_rfl) (fun _ => trivial) (fun _ => ?_)
    refine JR_callp [] 13 #[.slice c zs.length cc] (some 60) (by kernel_rfl) (fun w S hG => ?_)
    refine (vown (hG.at 5 rfl) (by omega)).mono ?_
    rintro e8 w8 ⟨oa8, oc8, hR⟩
    refine ⟨_, _, _, hR, ?_⟩
    try simp only [List.cons_append, List.nil_append, List.append_nil]
    refine JR_callp [] 12 #[.slice oa7 xs.length oc7, .slice oa8 zs.length oc8] (some 61) (by kernel_rfl) (fun w S hG => ?_)
    refine (vMost (hG.pick [0, 1, 2] rfl) (hG.at 10 rfl) (hG.at 11 rfl) (by omega) (by omega)).mono ?_
    rintro e20 w20 (⟨h2, hR⟩ | ⟨h2, ra20, rn20, rc20, hR⟩)
    · refine ⟨_, _, _, hR, ?_⟩
      try simp only [List.cons_append, List.nil_append, List.append_nil]
      refine JR_run (id := 6) (rest := []) [.rd 5 [] 0 0, .rd 6 [] 0 0, .rd 7 [] 0 0, .rd 8 [] 0 0, .rd 9 [] 0 0] [0, 1, 2, 6, 8, 9, 10, 11, 13] (E1 := fun _ => [(0, .val (.slice a xs.length ca)), (1, .val (.slice b ys.length cb)), (2, .val (.slice c zs.length cc)), (6, .val (.bool false)), (8, .val (.slice none 0 0)), (9, .val (.iface 94 (.pointer (some (er (twoErr xs ys)))))), (10, .val (.slice none 0 0)), (11, .val (.iface 94 (.pointer (some (er (twoErr xs ys)))))), (13, .val (.iface 94 (.pointer (some (er (twoErr xs zs))))))]) (h1 := fun _ => []) (p1 := fun _ => []) (W1 := []) (fun _ => by kernel_rfl) (fun _ => trivial) (fun _ => ?_)
      refine JR_end ?_
      refine J_seq ?_
      refine J_seq ?_
      refine J_reg mixed [.rd 0 [] 0 0, .rd 1 [] 0 0, .rd 2 [] 0 0, .rd 3 [] 1 0, .rd 4 [] 1 0, .rd 5 [] 0 0, .rd 6 [] 0 0, .rd 7 [] 1 0, .rd 8 [] 1 0, .rd 9 [] 0 0] [] [0, 1, 2, 6, 8, 9, 10, 11, 13, 73] (E1 := fun _ => [(0, .val (.slice a xs.length ca)), (1, .val (.slice b ys.length cb)), (2, .val (.slice c zs.length cc)), (6, .val (.bool false)), (8, .val (.slice none 0 0)), (9, .val (.iface 94 (.pointer (some (er (twoErr xs ys)))))), (10, .val (.slice none 0 0)), (11, .val (.iface 94 (.pointer (some (er (twoErr xs ys)))))), (13, .val (.iface 94 (.pointer (some (er (twoErr xs zs)))))), (73, .val (.bool true))]) (h1 := fun _ => []) (p1 := fun _ => []) (W1 := []) (by kernel_rfl) (fun _ => by kernel_rfl) (fun _ => trivial) (fun _ => ?_)
      refine J_cond_t (by kernel_rfl) (by kernel_rfl) ?_
      refine J_seq ?_
      refine J_reg mixed [.rd 0 [] 0 0] [] [0, 1, 2, 6, 8, 9, 10, 11, 13] (E1 := fun _ => [(0, .val (.slice a xs.length ca)), (1, .val (.slice b ys.length cb)), (2, .val (.slice c zs.length cc)), (6, .val (.bool true)), (8, .val (.slice none 0 0)), (9, .val (.iface 94 (.pointer (some (er (twoErr xs ys)))))), (10, .val (.slice none 0 0)), (11, .val (.iface 94 (.pointer (some (er (twoErr xs ys)))))), (13, .val (.iface 94 (.pointer (some (er (twoErr xs zs))))))]) (h1 := fun _ => []) (p1 := fun _ => []) (W1 := []) (by kernel_rfl) (fun _ => by kernel_rfl) (fun _ => trivial) (fun _ => ?_)
      refine J_return [[]] (.bool true) (by kernel_rfl) (fun a w s => ?_)
      exact s.ret (by simp) [] [] rfl rfl
    · refine ⟨_, _, _, hR, ?_⟩
      try simp only [List.cons_append, List.nil_append, List.append_nil]
      refine JR_run (id := 6) (rest := []) [.rd 5 [] 0 0, .rd 6 [] 0 0, .rd 7 [] 0 0, .rd 8 [] 0 0, .rd 9 [] 0 0] [0, 1, 2, 6, 8, 9, 10, 11, 13] (E1 := fun _ => [(0, .val (.slice a xs.length ca)), (1, .val (.slice b ys.length cb)), (2, .val (.slice c zs.length cc)), (6, .val (.bool false)), (8, .val (.slice none 0 0)), (9, .val (.iface 94 (.pointer (some (er (twoErr xs ys)))))), (10, .val (.slice none 0 0)), (11, .val (.iface 94 (.pointer (some (er (twoErr xs ys)))))), (13, .val (.nilIface))]) (h1 := fun _ => []) (p1 := fun _ => []) (W1 := []) (fun _ => by kernel_rfl) (fun _ => trivial) (fun _ => ?_)
      refine JR_end ?_
      refine J_seq ?_
      refine J_seq ?_
      refine J_reg mixed [.rd 0 [] 0 0, .rd 1 [] 0 0, .rd 2 [] 0 0, .rd 3 [] 1 0, .rd 4 [] 1 0, .rd 5 [] 0 0, .rd 6 [] 0 0, .rd 7 [] 1 0, .rd 8 [] 1 0, .rd 9 [] 0 0] [] [0, 1, 2, 6, 8, 9, 10, 11, 13, 73] (E1 := fun _ => [(0, .val (.slice a xs.length ca)), (1, .val (.slice b ys.length cb)), (2, .val (.slice c zs.length cc)), (6, .val (.bool false)), (8, .val (.slice none 0 0)), (9, .val (.iface 94 (.pointer (some (er (twoErr xs ys)))))), (10, .val (.slice none 0 0)), (11, .val (.iface 94 (.pointer (some (er (twoErr xs ys)))))), (13, .val (.nilIface)), (73, .val (.bool true))]) (h1 := fun _ => []) (p1 := fun _ => []) (W1 := []) (by kernel_rfl) (fun _ => by kernel_rfl) (fun _ => trivial) (fun _ => ?_)
      refine J_cond_t (by kernel_rfl) (by kernel_rfl) ?_
      refine J_seq ?_
      refine J_reg mixed [.rd 0 [] 0 0] [] [0, 1, 2, 6, 8, 9, 10, 11, 13] (E1 := fun _ => [(0, .val (.slice a xs.length ca)), (1, .val (.slice b ys.length cb)), (2, .val (.slice c zs.length cc)), (6, .val (.bool true)), (8, .val (.slice none 0 0)), (9, .val (.iface 94 (.pointer (some (er (twoErr xs ys)))))), (10, .val (.slice none 0 0)), (11, .val (.iface 94 (.pointer (some (er (twoErr xs ys)))))), (13, .val (.nilIface))]) (h1 := fun _ => []) (p1 := fun _ => []) (W1 := []) (by kernel_rfl) (fun _ => by kernel_rfl) (fun _ => trivial) (fun _ => ?_)
      refine J_return [[]] (.bool true) (by kernel_rfl) (fun a w s => ?_)
      exact s.ret (by simp) [] [] rfl rfl
  obtain ⟨hx0, hy0, hxy⟩ := twoErr_fine hab
  refine JR_callp [] 13 #[.slice a xs.length ca] (some 42) (by kernel_rfl) (fun w S hG => ?_)
  refine (vown (hG.at 3 rfl) (by omega)).mono ?_
  rintro e9 w9 ⟨oa9, oc9, hR⟩
  refine ⟨_, _, _, hR, ?_⟩
  try simp only [List.cons_append, List.nil_append, List.append_nil]
  refine JR_run (id := 4) (rest := [(3, false), (4, false), (5, true), (6, true), (7, true), (8, true), (9, true)]) [.rd 2 [] 0 0] [0, 1, 2, 6, 42, 43] (E1 := fun _ => [(0, .val (.slice a xs.length ca)), (1, .val (.slice b ys.length cb)), (2, .val (.slice c zs.length cc)), (6, .val (.bool false)), (42, .val (.slice oa9 xs.length oc9)), (43, .val (.slice b ys.length cb))]) (h1 := fun _ => []) (p1 := fun _ => []) (W1 := []) (fun _ => by kernel_rfl) (fun _ => trivial) (fun _ => ?_)
  refine JR_callp [] 13 #[.slice b ys.length cb] (some 44) (by kernel_rfl) (fun w S hG => ?_)
  refine (vown (hG.at 4 rfl) (by omega)).mono ?_
  rintro e10 w10 ⟨oa10, oc10, hR⟩
  refine ⟨_, _, _, hR, ?_⟩
  try simp only [List.cons_append, List.nil_append, List.append_nil]
  refine JR_callp [] 12 #[.slice oa9 xs.length oc9, .slice oa10 ys.length oc10] (some 45) (by kernel_rfl) (fun w S hG => ?_)
  refine (vMost (hG.pick [0, 1, 2] rfl) (hG.at 6 rfl) (hG.at 7 rfl) (by omega) (by omega)).mono ?_
  rintro e11 w11 (⟨h2, hR⟩ | ⟨h2, ra11, rn11, rc11, hR⟩)
  · exact absurd hab h2
  refine ⟨_, _, _, hR, ?_⟩
  try simp only [List.cons_append, List.nil_append, List.append_nil]
  refine JR_run (id := 4) (rest := []) [.rd 5 [] 0 0, .rd 6 [] 0 0, .rd 7 [] 0 0, .rd 8 [] 0 0, .rd 9 [] 0 0] [0, 1, 2, 6, 8, 9] (E1 := fun _ => [(0, .val (.slice a xs.length ca)), (1, .val (.slice b ys.length cb)), (2, .val (.slice c zs.length cc)), (6, .val (.bool false)), (8, .val (.slice ra11 rn11 rc11)), (9, .val (.nilIface))]) (h1 := fun _ => []) (p1 := fun _ => []) (W1 := []) (fun _ => by kernel_rfl) (fun _ => trivial) (fun _ => ?_)
  refine JR_end ?_
  refine J_seq ?_
  refine JR_begin mixed [(0, true), (1, false), (2, true), (3, false), (4, false), (5, true), (6, true), (7, true), (8, true), (9, true)] [] (by kernel_rfl) (by kernel_rfl) ?_
  refine JR_run (id := 5) (rest := [(1, false), (2, true), (3, false), (4, false), (5, true), (6, true), (7, true), (8, true), (9, true)]) [.rd 0 [] 0 0] [0, 1, 2, 6, 8, 9, 49] (E1 := fun _ => [(0, .val (.slice a xs.length ca)), (1, .val (.slice b ys.length cb)), (2, .val (.slice c zs.length cc)), (6, .val (.bool false)), (8, .val (.slice ra11 rn11 rc11)), (9, .val (.nilIface)), (49, .val (.slice a xs.length ca))]) (h1 := fun _ => []) (p1 := fun _ => []) (W1 := []) (fun _ => by kernel_rfl) (fun _ => trivial) (fun _ => ?_)
  refine JR_callp [] 13 #[.slice a xs.length ca] (some 50) (by kernel_rfl) (fun w S hG => ?_)
  refine (vown (hG.at 3 rfl) (by omega)).mono ?_
  rintro e12 w12 ⟨oa12, oc12, hR⟩
  refine ⟨_, _, _, hR, ?_⟩
  try simp only [List.cons_append, List.nil_append, List.append_nil]
  refine JR_run (id := 5) (rest := [(3, false), (4, false), (5, true), (6, true), (7, true), (8, true), (9, true)]) [.rd 2 [] 0 0] [0, 1, 2, 6, 8, 9, 50, 51] (E1 := fun _ => [(0, .val (.slice a xs.length ca)), (1, .val (.slice b ys.length cb)), (2, .val (.slice c zs.length cc)), (6, .val (.bool false)), (8, .val (.slice ra11 rn11 rc11)), (9, .val (.nilIface)), (50, .val (.slice oa12 xs.length oc12)), (51, .val (.slice b ys.length cb))]) (h1 := fun _ => []) (p1 := fun _ => []) (W1 := []) (fun _ => by kernel_rfl) (fun _ => trivial) (fun _ => ?_)
  refine JR_callp [] 13 #[.slice b ys.length cb] (some 52) (by kernel_rfl) (fun w S hG => ?_)
  refine (vown (hG.at 4 rfl) (by omega)).mono ?_
  rintro e13 w13 ⟨oa13, oc13, hR⟩
  refine ⟨_, _, _, hR, ?_⟩
  try simp only [List.cons_append, List.nil_append, List.append_nil]
  refine JR_callp [] 14 #[.slice oa12 xs.length oc12, .slice oa13 ys.length oc13] (some 53) (by kernel_rfl) (fun w S hG => ?_)
  refine (vLeast (hG.pick [0, 1, 2] rfl) (hG.at 9 rfl) (hG.at 10 rfl) (by omega) (by omega)).mono ?_
  rintro e14 w14 (⟨h2, hR⟩ | ⟨h2, ra14, rn14, rc14, hR⟩)
  · exact absurd hab h2
  refine ⟨_, _, _, hR, ?_⟩
  try simp only [List.cons_append, List.nil_append, List.append_nil]
  refine JR_run (id := 5) (rest := []) [.rd 5 [] 0 0, .rd 6 [] 0 0, .rd 7 [] 0 0, .rd 8 [] 0 0, .rd 9 [] 0 0] [0, 1, 2, 6, 8, 9, 10, 11] (E1 := fun _ => [(0, .val (.slice a xs.length ca)), (1, .val (.slice b ys.length cb)), (2, .val (.slice c zs.length cc)), (6, .val (.bool false)), (8, .val (.slice ra11 rn11 rc11)), (9, .val (.nilIface)), (10, .val (.slice ra14 rn14 rc14)), (11, .val (.nilIface))]) (h1 := fun _ => []) (p1 := fun _ => []) (W1 := []) (fun _ => by kernel_rfl) (fun _ => trivial) (fun _ => ?_)
  refine JR_end ?_
  refine J_seq ?_
  refine JR_begin mixed [(0, true), (1, false), (2, true), (3, false), (4, false), (5, true), (6, true), (7, true), (8, true), (9, true)] [] (by kernel_rfl) (by kernel_rfl) ?_
  refine JR_run (id := 6) (rest := [(1, false), (2, true), (3, false), (4, false), (5, true), (6, true), (7, true), (8, true), (9, true)]) [.rd 0 [] 0 0] [0, 1, 2, 6, 8, 9, 10, 11, 57] (E1 := fun _ => [(0, .val (.slice a xs.length ca)), (1, .val (.slice b ys.length cb)), (2, .val (.slice c zs.length cc)), (6, .val (.bool false)), (8, .val (.slice ra11 rn11 rc11)), (9, .val (.nilIface)), (10, .val (.slice ra14 rn14 rc14)), (11, .val (.nilIface)), (57, .val (.slice a xs.length ca))]) (h1 := fun _ => []) (p1 := fun _ => []) (W1 := []) (fun _ => by kernel_rfl) (fun _ => trivial) (fun _ => ?_)
  refine JR_callp [] 13 #[.slice a xs.length ca] (some 58) (by kernel_rfl) (fun w S hG => ?_)
  refine (vown (hG.at 3 rfl) (by omega)).mono ?_
  rintro e15 w15 ⟨oa15, oc15, hR⟩
  refine ⟨_, _, _, hR, ?_⟩
  try simp only [List.cons_append, List.nil_append, List.append_nil]
  refine JR_run (id := 6) (rest := [(3, false), (4, false), (5, true), (6, true), (7, true), (8, true), (9, true)]) [.rd 2 [] 0 0] [0, 1, 2, 6, 8, 9, 10, 11, 58, 59] (E1 := fun _ => [(0, .val (.slice a xs.length ca)), (1, .val (.slice b ys.length cb)), (2, .val (.slice c zs.length cc)), (6, .val (.bool false)), (8, .val (.slice ra11 rn11 rc11)), (9, .val (.nilIface)), (10, .val (.slice ra14 rn14 rc14)), (11, .val (.nilIface)), (58, .val (.slice oa15 xs.length oc15)), (59, .val (.slice c zs.length cc))]) (h1 := fun _ => []) (p1 := fun _ => []) (W1 := []) (fun _ => by kernel_rfl) (fun _ => trivial) (fun _ => ?_)
  refine JR_callp [] 13 #[.slice c zs.length cc] (some 60) (by kernel_rfl) (fun w S hG => ?_)
  refine (vown (hG.at 5 rfl) (by omega)).mono ?_
  rintro e16 w16 ⟨oa16, oc16, hR⟩
  refine ⟨_, _, _, hR, ?_⟩
  try simp only [List.cons_append, List.nil_append, List.append_nil]
  by_cases hac : twoErr xs zs = 0
  rotate_left
  · skip
    refine JR_callp [] 12 #[.slice oa15 xs.length oc15, .slice oa16 zs.length oc16] (some 61) (by kernel_rfl) (fun w S hG => ?_)
    refine (vMost (hG.pick [0, 1, 2] rfl) (hG.at 12 rfl) (hG.at 13 rfl) (by omega) (by omega)).mono ?_
    rintro e17 w17 (⟨h2, hR⟩ | ⟨h2, ra17, rn17, rc17, hR⟩)
    rotate_left
    · exact absurd h2 hac
    refine ⟨_, _, _, hR, ?_⟩
    try simp only [List.cons_append, List.nil_append, List.append_nil]
    refine JR_run (id := 6) (rest := []) [.rd 5 [] 0 0, .rd 6 [] 0 0, .rd 7 [] 0 0, .rd 8 [] 0 0, .rd 9 [] 0 0] [0, 1, 2, 6, 8, 9, 10, 11, 13] (E1 := fun _ => [(0, .val (.slice a xs.length ca)), (1, .val (.slice b ys.length cb)), (2, .val (.slice c zs.length cc)), (6, .val (.bool false)), (8, .val (.slice ra11 rn11 rc11)), (9, .val (.nilIface)), (10, .val (.slice ra14 rn14 rc14)), (11, .val (.nilIface)), (13, .val (.iface 94 (.pointer (some (er (twoErr xs zs))))))]) (h1 := fun _ => []) (p1 := fun _ => []) (W1 := []) (fun _ => by kernel_rfl) (fun _ => trivial) (fun _ => ?_)
    refine JR_end ?_
    refine J_seq ?_
    refine J_seq ?_
    refine J_reg mixed [.rd 0 [] 0 0, .rd 1 [] 0 0, .rd 2 [] 0 0, .rd 3 [] 0 0, .rd 4 [] 0 0, .rd 5 [] 0 0, .rd 6 [] 0 0, .rd 7 [] 0 0, .rd 8 [] 0 0, .rd 9 [] 0 0] [] [0, 1, 2, 6, 8, 9, 10, 11, 13, 73] (E1 := fun _ => [(0, .val (.slice a xs.length ca)), (1, .val (.slice b ys.length cb)), (2, .val (.slice c zs.length cc)), (6, .val (.bool false)), (8, .val (.slice ra11 rn11 rc11)), (9, .val (.nilIface)), (10, .val (.slice ra14 rn14 rc14)), (11, .val (.nilIface)), (13, .val (.iface 94 (.pointer (some (er (twoErr xs zs)))))), (73, .val (.bool true))]) (h1 := fun _ => []) (p1 := fun _ => []) (W1 := []) (by kernel_rfl) (fun _ => by kernel_rfl) (fun _ => trivial) (fun _ => ?_)
    refine J_cond_t (by kernel_rfl) (by kernel_rfl) ?_
    refine J_seq ?_
    refine J_reg mixed [.rd 0 [] 0 0] [] [0, 1, 2, 6, 8, 9, 10, 11, 13] (E1 := fun _ => [(0, .val (.slice a xs.length ca)), (1, .val (.slice b ys.length cb)), (2, .val (.slice c zs.length cc)), (6, .val (.bool true)), (8, .val (.slice ra11 rn11 rc11)), (9, .val (.nilIface)), (10, .val (.slice ra14 rn14 rc14)), (11, .val (.nilIface)), (13, .val (.iface 94 (.pointer (some (er (twoErr xs zs))))))]) (h1 := fun _ => []) (p1 := fun _ => []) (W1 := []) (by kernel_rfl) (fun _ => by kernel_rfl) (fun _ => trivial) (fun _ => ?_)
    refine J_return [[]] (.bool true) (by kernel_rfl) (fun a w s => ?_)
    exact s.ret (by simp) [] [] rfl rfl
  refine JR_callp [] 12 #[.slice oa15 xs.length oc15, .slice oa16 zs.length oc16] (some 61) (by kernel_rfl) (fun w S hG => ?_)
  refine (vMost (hG.pick [0, 1, 2] rfl) (hG.at 12 rfl) (hG.at 13 rfl) (by omega) (by omega)).mono ?_
  rintro e18 w18 (⟨h2, hR⟩ | ⟨h2, ra18, rn18, rc18, hR⟩)
  · exact absurd hac h2
  refine ⟨_, _, _, hR, ?_⟩
  try simp only [List.cons_append, List.nil_append, List.append_nil]
  refine JR_run (id := 6) (rest := []) [.rd 5 [] 0 0, .rd 6 [] 0 0, .rd 7 [] 0 0, .rd 8 [] 0 0, .rd 9 [] 0 0] [0, 1, 2, 6, 8, 9, 10, 11, 13] (E1 := fun _ => [(0, .val (.slice a xs.length ca)), (1, .val (.slice b ys.length cb)), (2, .val (.slice c zs.length cc)), (6, .val (.bool false)), (8, .val (.slice ra11 rn11 rc11)), (9, .val (.nilIface)), (10, .val (.slice ra14 rn14 rc14)), (11, .val (.nilIface)), (13, .val (.nilIface))]) (h1 := fun _ => []) (p1 := fun _ => []) (W1 := []) (fun _ => by kernel_rfl) (fun _ => trivial) (fun _ => ?_)
  refine JR_end ?_
  refine J_seq ?_
  refine J_seq ?_
  refine J_reg mixed [.rd 0 [] 0 0, .rd 1 [] 0 0, .rd 2 [] 0 0, .rd 3 [] 0 0, .rd 4 [] 0 0, .rd 5 [] 0 0, .rd 6 [] 0 0, .rd 7 [] 0 0, .rd 8 [] 0 0, .rd 9 [] 0 0] [] [0, 1, 2, 6, 8, 9, 10, 11, 13, 73] (E1 := fun _ => [(0, .val (.slice a xs.length ca)), (1, .val (.slice b ys.length cb)), (2, .val (.slice c zs.length cc)), (6, .val (.bool false)), (8, .val (.slice ra11 rn11 rc11)), (9, .val (.nilIface)), (10, .val (.slice ra14 rn14 rc14)), (11, .val (.nilIface)), (13, .val (.nilIface)), (73, .val (.bool false))]) (h1 := fun _ => []) (p1 := fun _ => []) (W1 := []) (by kernel_rfl) (fun _ => by kernel_rfl) (fun _ => trivial) (fun _ => ?_)
  refine J_cond_f (by kernel_rfl) (by kernel_rfl) ?_
  refine J_skip ?_
  refine J_seq ?_
  refine JR_begin mixed [(0, true), (1, false), (2, true), (3, false), (4, false), (5, true), (6, true), (7, true), (8, true), (9, true)] [] (by kernel_rfl) (by kernel_rfl) ?_
  refine JR_run (id := 9) (rest := [(1, false), (2, true), (3, false), (4, false), (5, true), (6, true), (7, true), (8, true), (9, true)]) [.rd 0 [] 0 0] [0, 1, 2, 6, 8, 9, 10, 11, 13, 75] (E1 := fun _ => [(0, .val (.slice a xs.length ca)), (1, .val (.slice b ys.length cb)), (2, .val (.slice c zs.length cc)), (6, .val (.bool false)), (8, .val (.slice ra11 rn11 rc11)), (9, .val (.nilIface)), (10, .val (.slice ra14 rn14 rc14)), (11, .val (.nilIface)), (13, .val (.nilIface)), (75, .val (.slice a xs.length ca))]) (h1 := fun _ => []) (p1 := fun _ => []) (W1 := []) (fun _ => by kernel_rfl) (fun _ => trivial) (fun _ => ?_)
  obtain ⟨_, hz0, hxz⟩ := twoErr_fine hac
  have hm0 := zip_fine max_or hx0 hy0 hxy
  have hl0 := zip_fine min_or hx0 hy0 hxy
  have hml : (List.zipWith max xs ys).length = xs.length := zip_len hxy
  have hll : (List.zipWith min xs ys).length = xs.length := zip_len hxy
  have hin := in_most hxy
  have hjn := in_join hxy hxz
  refine JR_callp [] 13 #[.slice a xs.length ca] (some 76) (by kernel_rfl) (fun w S hG => ?_)
  refine (vown (hG.at 3 rfl) (by omega)).mono ?_
  rintro e19 w19 ⟨oa19, oc19, hR⟩
  refine ⟨_, _, _, hR, ?_⟩
  try simp only [List.cons_append, List.nil_append, List.append_nil]
  refine JR_run (id := 9) (rest := [(3, false), (4, false), (5, true), (6, true), (7, true), (8, true), (9, true)]) [.rd 2 [] 0 0] [0, 1, 2, 6, 8, 9, 10, 11, 13, 76, 77] (E1 := fun _ => [(0, .val (.slice a xs.length ca)), (1, .val (.slice b ys.length cb)), (2, .val (.slice c zs.length cc)), (6, .val (.bool false)), (8, .val (.slice ra11 rn11 rc11)), (9, .val (.nilIface)), (10, .val (.slice ra14 rn14 rc14)), (11, .val (.nilIface)), (13, .val (.nilIface)), (76, .val (.slice oa19 xs.length oc19)), (77, .val (.slice ra11 rn11 rc11))]) (h1 := fun _ => []) (p1 := fun _ => []) (W1 := []) (fun _ => by kernel_rfl) (fun _ => trivial) (fun _ => ?_)
  refine JR_callp [] 13 #[.slice ra11 rn11 rc11] (some 78) (by kernel_rfl) (fun w S hG => ?_)
  refine (vown (hG.at 8 rfl) (by omega)).mono ?_
  rintro e20 w20 ⟨oa20, oc20, hR⟩
  refine ⟨_, _, _, hR, ?_⟩
  try simp only [List.cons_append, List.nil_append, List.append_nil]
  refine JR_callp [] 15 #[.slice oa19 xs.length oc19, .slice oa20 rn11 oc20] (some 79) (by kernel_rfl) (fun w S hG => ?_)
  refine (vwithin (hG.pick [0, 1, 2] rfl) (hG.at 15 rfl) (hG.at 16 rfl) (by omega) (by omega)).mono ?_
  rintro e21 w21 (⟨h2, hR⟩ | ⟨h2, hR⟩)
  · exact absurd (two_of hx0 hm0 hml.symm) h2
  rw [hin.1] at hR
  refine ⟨_, _, _, hR, ?_⟩
  try simp only [List.cons_append, List.nil_append, List.append_nil]
  refine JR_run (id := 9) (rest := []) [.rd 5 [] 0 0, .rd 6 [] 0 0, .rd 7 [] 0 0, .rd 8 [] 0 0, .rd 9 [] 0 0] [0, 1, 2, 6, 8, 9, 10, 11, 13, 14] (E1 := fun _ => [(0, .val (.slice a xs.length ca)), (1, .val (.slice b ys.length cb)), (2, .val (.slice c zs.length cc)), (6, .val (.bool false)), (8, .val (.slice ra11 rn11 rc11)), (9, .val (.nilIface)), (10, .val (.slice ra14 rn14 rc14)), (11, .val (.nilIface)), (13, .val (.nilIface)), (14, .val (.bool true))]) (h1 := fun _ => []) (p1 := fun _ => []) (W1 := []) (fun _ => by kernel_rfl) (fun _ => trivial) (fun _ => ?_)
  refine JR_end ?_
  refine J_seq ?_
  refine JR_begin mixed [(0, true), (1, false), (2, true), (3, false), (4, false), (5, true), (6, true), (7, true), (8, true), (9, true)] [] (by kernel_rfl) (by kernel_rfl) ?_
  refine JR_run (id := 10) (rest := [(1, false), (2, true), (3, false), (4, false), (5, true), (6, true), (7, true), (8, true), (9, true)]) [.rd 0 [] 0 0] [0, 1, 2, 6, 8, 9, 10, 11, 13, 14, 83] (E1 := fun _ => [(0, .val (.slice a xs.length ca)), (1, .val (.slice b ys.length cb)), (2, .val (.slice c zs.length cc)), (6, .val (.bool false)), (8, .val (.slice ra11 rn11 rc11)), (9, .val (.nilIface)), (10, .val (.slice ra14 rn14 rc14)), (11, .val (.nilIface)), (13, .val (.nilIface)), (14, .val (.bool true)), (83, .val (.slice b ys.length cb))]) (h1 := fun _ => []) (p1 := fun _ => []) (W1 := []) (fun _ => by kernel_rfl) (fun _ => trivial) (fun _ => ?_)
  refine JR_callp [] 13 #[.slice b ys.length cb] (some 84) (by kernel_rfl) (fun w S hG => ?_)
  refine (vown (hG.at 4 rfl) (by omega)).mono ?_
  rintro e22 w22 ⟨oa22, oc22, hR⟩
  refine ⟨_, _, _, hR, ?_⟩
  try simp only [List.cons_append, List.nil_append, List.append_nil]
  refine JR_run (id := 10) (rest := [(3, false), (4, false), (5, true), (6, true), (7, true), (8, true), (9, true)]) [.rd 2 [] 0 0] [0, 1, 2, 6, 8, 9, 10, 11, 13, 14, 84, 85] (E1 := fun _ => [(0, .val (.slice a xs.length ca)), (1, .val (.slice b ys.length cb)), (2, .val (.slice c zs.length cc)), (6, .val (.bool false)), (8, .val (.slice ra11 rn11 rc11)), (9, .val (.nilIface)), (10, .val (.slice ra14 rn14 rc14)), (11, .val (.nilIface)), (13, .val (.nilIface)), (14, .val (.bool true)), (84, .val (.slice oa22 ys.length oc22)), (85, .val (.slice ra11 rn11 rc11))]) (h1 := fun _ => []) (p1 := fun _ => []) (W1 := []) (fun _ => by kernel_rfl) (fun _ => trivial) (fun _ => ?_)
  refine JR_callp [] 13 #[.slice ra11 rn11 rc11] (some 86) (by kernel_rfl) (fun w S hG => ?_)
  refine (vown (hG.at 8 rfl) (by omega)).mono ?_
  rintro e23 w23 ⟨oa23, oc23, hR⟩
  refine ⟨_, _, _, hR, ?_⟩
  try simp only [List.cons_append, List.nil_append, List.append_nil]
  refine JR_callp [] 15 #[.slice oa22 ys.length oc22, .slice oa23 rn11 oc23] (some 87) (by kernel_rfl) (fun w S hG => ?_)
  refine (vwithin (hG.pick [0, 1, 2] rfl) (hG.at 17 rfl) (hG.at 18 rfl) (by omega) (by omega)).mono ?_
  rintro e24 w24 (⟨h2, hR⟩ | ⟨h2, hR⟩)
  · exact absurd (two_of hy0 hm0 (by omega)) h2
  rw [hin.2] at hR
  refine ⟨_, _, _, hR, ?_⟩
  try simp only [List.cons_append, List.nil_append, List.append_nil]
  refine JR_run (id := 10) (rest := []) [.rd 5 [] 0 0, .rd 6 [] 0 0, .rd 7 [] 0 0, .rd 8 [] 0 0, .rd 9 [] 0 0] [0, 1, 2, 6, 8, 9, 10, 11, 13, 14, 15] (E1 := fun _ => [(0, .val (.slice a xs.length ca)), (1, .val (.slice b ys.length cb)), (2, .val (.slice c zs.length cc)), (6, .val (.bool false)), (8, .val (.slice ra11 rn11 rc11)), (9, .val (.nilIface)), (10, .val (.slice ra14 rn14 rc14)), (11, .val (.nilIface)), (13, .val (.nilIface)), (14, .val (.bool true)), (15, .val (.bool true))]) (h1 := fun _ => []) (p1 := fun _ => []) (W1 := []) (fun _ => by kernel_rfl) (fun _ => trivial) (fun _ => ?_)
  refine JR_end ?_
  refine J_seq ?_
  refine J_seq ?_
  refine J_reg mixed [.rd 0 [] 0 0, .rd 1 [] 0 0, .rd 2 [] 0 0, .rd 3 [] 0 0, .rd 4 [] 0 0, .rd 5 [] 0 0, .rd 6 [] 0 0, .rd 7 [] 0 0, .rd 8 [] 0 0, .rd 9 [] 0 0, .rd 10 [] 0 0, .rd 11 [] 0 0, .rd 12 [] 0 0, .rd 13 [] 0 0] [] [0, 1, 2, 6, 8, 9, 10, 11, 13, 103] (E1 := fun _ => [(0, .val (.slice a xs.length ca)), (1, .val (.slice b ys.length cb)), (2, .val (.slice c zs.length cc)), (6, .val (.bool false)), (8, .val (.slice ra11 rn11 rc11)), (9, .val (.nilIface)), (10, .val (.slice ra14 rn14 rc14)), (11, .val (.nilIface)), (13, .val (.nilIface)), (103, .val (.bool false))]) (h1 := fun _ => []) (p1 := fun _ => []) (W1 := []) (by kernel_rfl) (fun _ => by kernel_rfl) (fun _ => trivial) (fun _ => ?_)
  refine J_cond_f (by kernel_rfl) (by kernel_rfl) ?_
  refine J_skip ?_
  refine J_seq ?_
  refine JR_begin mixed [(0, true), (1, false), (2, true), (3, false), (4, false), (5, true), (6, true), (7, true), (8, true), (9, true)] [] (by kernel_rfl) (by kernel_rfl) ?_
  refine JR_run (id := 13) (rest := [(1, false), (2, true), (3, false), (4, false), (5, true), (6, true), (7, true), (8, true), (9, true)]) [.rd 0 [] 0 0] [0, 1, 2, 6, 8, 9, 10, 11, 13, 105] (E1 := fun _ => [(0, .val (.slice a xs.length ca)), (1, .val (.slice b ys.length cb)), (2, .val (.slice c zs.length cc)), (6, .val (.bool false)), (8, .val (.slice ra11 rn11 rc11)), (9, .val (.nilIface)), (10, .val (.slice ra14 rn14 rc14)), (11, .val (.nilIface)), (13, .val (.nilIface)), (105, .val (.slice a xs.length ca))]) (h1 := fun _ => []) (p1 := fun _ => []) (W1 := []) (fun _ => by kernel_rfl) (fun _ => trivial) (fun _ => ?_)
  refine JR_callp [] 13 #[.slice a xs.length ca] (some 106) (by kernel_rfl) (fun w S hG => ?_)
  refine (vown (hG.at 3 rfl) (by omega)).mono ?_
  rintro e25 w25 ⟨oa25, oc25, hR⟩
  refine ⟨_, _, _, hR, ?_⟩
  try simp only [List.cons_append, List.nil_append, List.append_nil]
  refine JR_run (id := 13) (rest := [(3, false), (4, false), (5, true), (6, true), (7, true), (8, true), (9, true)]) [.rd 2 [] 0 0] [0, 1, 2, 6, 8, 9, 10, 11, 13, 106, 107] (E1 := fun _ => [(0, .val (.slice a xs.length ca)), (1, .val (.slice b ys.length cb)), (2, .val (.slice c zs.length cc)), (6, .val (.bool false)), (8, .val (.slice ra11 rn11 rc11)), (9, .val (.nilIface)), (10, .val (.slice ra14 rn14 rc14)), (11, .val (.nilIface)), (13, .val (.nilIface)), (106, .val (.slice oa25 xs.length oc25)), (107, .val (.slice c zs.length cc))]) (h1 := fun _ => []) (p1 := fun _ => []) (W1 := []) (fun _ => by kernel_rfl) (fun _ => trivial) (fun _ => ?_)
  refine JR_callp [] 13 #[.slice c zs.length cc] (some 108) (by kernel_rfl) (fun w S hG => ?_)
  refine (vown (hG.at 5 rfl) (by omega)).mono ?_
  rintro e26 w26 ⟨oa26, oc26, hR⟩
  refine ⟨_, _, _, hR, ?_⟩
  try simp only [List.cons_append, List.nil_append, List.append_nil]
  refine JR_callp [] 15 #[.slice oa25 xs.length oc25, .slice oa26 zs.length oc26] (some 109) (by kernel_rfl) (fun w S hG => ?_)
  refine (vwithin (hG.pick [0, 1, 2] rfl) (hG.at 19 rfl) (hG.at 20 rfl) (by omega) (by omega)).mono ?_
  rintro e27 w27 (⟨h2, hR⟩ | ⟨h2, hR⟩)
  · exact absurd hac h2
  refine ⟨_, _, _, hR, ?_⟩
  try simp only [List.cons_append, List.nil_append, List.append_nil]
  refine JR_run (id := 13) (rest := []) [.rd 5 [] 0 0, .rd 6 [] 0 0, .rd 7 [] 0 0, .rd 8 [] 0 0, .rd 9 [] 0 0] [0, 1, 2, 6, 8, 9, 10, 11, 13, 16] (E1 := fun _ => [(0, .val (.slice a xs.length ca)), (1, .val (.slice b ys.length cb)), (2, .val (.slice c zs.length cc)), (6, .val (.bool false)), (8, .val (.slice ra11 rn11 rc11)), (9, .val (.nilIface)), (10, .val (.slice ra14 rn14 rc14)), (11, .val (.nilIface)), (13, .val (.nilIface)), (16, .val (.bool (inL xs zs)))]) (h1 := fun _ => []) (p1 := fun _ => []) (W1 := []) (fun _ => by kernel_rfl) (fun _ => trivial) (fun _ => ?_)
  refine JR_end ?_
  refine J_seq ?_
  refine JR_begin mixed [(0, true), (1, false), (2, true), (3, false), (4, false), (5, true), (6, true), (7, true), (8, true), (9, true)] [] (by kernel_rfl) (by kernel_rfl) ?_
  refine JR_run (id := 14) (rest := [(1, false), (2, true), (3, false), (4, false), (5, true), (6, true), (7, true), (8, true), (9, true)]) [.rd 0 [] 0 0] [0, 2, 6, 8, 9, 10, 11, 13, 16, 113] (E1 := fun _ => [(0, .val (.slice a xs.length ca)), (2, .val (.slice c zs.length cc)), (6, .val (.bool false)), (8, .val (.slice ra11 rn11 rc11)), (9, .val (.nilIface)), (10, .val (.slice ra14 rn14 rc14)), (11, .val (.nilIface)), (13, .val (.nilIface)), (16, .val (.bool (inL xs zs))), (113, .val (.slice b ys.length cb))]) (h1 := fun _ => []) (p1 := fun _ => []) (W1 := []) (fun _ => by kernel_rfl) (fun _ => trivial) (fun _ => ?_)
  refine JR_callp [] 13 #[.slice b ys.length cb] (some 114) (by kernel_rfl) (fun w S hG => ?_)
  refine (vown (hG.at 4 rfl) (by omega)).mono ?_
  rintro e28 w28 ⟨oa28, oc28, hR⟩
  refine ⟨_, _, _, hR, ?_⟩
  try simp only [List.cons_append, List.nil_append, List.append_nil]
  refine JR_run (id := 14) (rest := [(3, false), (4, false), (5, true), (6, true), (7, true), (8, true), (9, true)]) [.rd 2 [] 0 0] [0, 2, 6, 8, 9, 10, 11, 13, 16, 114, 115] (E1 := fun _ => [(0, .val (.slice a xs.length ca)), (2, .val (.slice c zs.length cc)), (6, .val (.bool false)), (8, .val (.slice ra11 rn11 rc11)), (9, .val (.nilIface)), (10, .val (.slice ra14 rn14 rc14)), (11, .val (.nilIface)), (13, .val (.nilIface)), (16, .val (.bool (inL xs zs))), (114, .val (.slice oa28 ys.length oc28)), (115, .val (.slice c zs.length cc))]) (h1 := fun _ => []) (p1 := fun _ => []) (W1 := []) (fun _ => by kernel_rfl) (fun _ => trivial) (fun _ => ?_)
  refine JR_callp [] 13 #[.slice c zs.length cc] (some 116) (by kernel_rfl) (fun w S hG => ?_)
  refine (vown (hG.at 5 rfl) (by omega)).mono ?_
  rintro e29 w29 ⟨oa29, oc29, hR⟩
  refine ⟨_, _, _, hR, ?_⟩
  try simp only [List.cons_append, List.nil_append, List.append_nil]
  refine JR_callp [] 15 #[.slice oa28 ys.length oc28, .slice oa29 zs.length oc29] (some 117) (by kernel_rfl) (fun w S hG => ?_)
  refine (vwithin (hG.pick [0, 1, 2] rfl) (hG.at 21 rfl) (hG.at 22 rfl) (by omega) (by omega)).mono ?_
  rintro e30 w30 (⟨h2, hR⟩ | ⟨h2, hR⟩)
  · exact absurd (two_of hy0 hz0 (by omega)) h2
  refine ⟨_, _, _, hR, ?_⟩
  try simp only [List.cons_append, List.nil_append, List.append_nil]
  refine JR_run (id := 14) (rest := []) [.rd 5 [] 0 0, .rd 6 [] 0 0, .rd 7 [] 0 0, .rd 8 [] 0 0, .rd 9 [] 0 0] [0, 2, 6, 8, 9, 10, 11, 13, 16, 17] (E1 := fun _ => [(0, .val (.slice a xs.length ca)), (2, .val (.slice c zs.length cc)), (6, .val (.bool false)), (8, .val (.slice ra11 rn11 rc11)), (9, .val (.nilIface)), (10, .val (.slice ra14 rn14 rc14)), (11, .val (.nilIface)), (13, .val (.nilIface)), (16, .val (.bool (inL xs zs))), (17, .val (.bool (inL ys zs)))]) (h1 := fun _ => []) (p1 := fun _ => []) (W1 := []) (fun _ => by kernel_rfl) (fun _ => trivial) (fun _ => ?_)
  refine JR_end ?_
  refine J_seq ?_
  refine JR_begin mixed [(0, true), (1, false), (2, true), (3, false), (4, false), (5, true), (6, true), (7, true), (8, true), (9, true)] [] (by kernel_rfl) (by kernel_rfl) ?_
  refine JR_run (id := 15) (rest := [(1, false), (2, true), (3, false), (4, false), (5, true), (6, true), (7, true), (8, true), (9, true)]) [.rd 0 [] 0 0] [0, 2, 6, 8, 9, 10, 11, 13, 16, 17, 121] (E1 := fun _ => [(0, .val (.slice a xs.length ca)), (2, .val (.slice c zs.length cc)), (6, .val (.bool false)), (8, .val (.slice ra11 rn11 rc11)), (9, .val (.nilIface)), (10, .val (.slice ra14 rn14 rc14)), (11, .val (.nilIface)), (13, .val (.nilIface)), (16, .val (.bool (inL xs zs))), (17, .val (.bool (inL ys zs))), (121, .val (.slice ra11 rn11 rc11))]) (h1 := fun _ => []) (p1 := fun _ => []) (W1 := []) (fun _ => by kernel_rfl) (fun _ => trivial) (fun _ => ?_)
  refine JR_callp [] 13 #[.slice ra11 rn11 rc11] (some 122) (by kernel_rfl) (fun w S hG => ?_)
  refine (vown (hG.at 8 rfl) (by omega)).mono ?_
  rintro e31 w31 ⟨oa31, oc31, hR⟩
  refine ⟨_, _, _, hR, ?_⟩
  try simp only [List.cons_append, List.nil_append, List.append_nil]
  refine JR_run (id := 15) (rest := [(3, false), (4, false), (5, true), (6, true), (7, true), (8, true), (9, true)]) [.rd 2 [] 0 0] [0, 6, 8, 9, 10, 11, 13, 16, 17, 122, 123] (E1 := fun _ => [(0, .val (.slice a xs.length ca)), (6, .val (.bool false)), (8, .val (.slice ra11 rn11 rc11)), (9, .val (.nilIface)), (10, .val (.slice ra14 rn14 rc14)), (11, .val (.nilIface)), (13, .val (.nilIface)), (16, .val (.bool (inL xs zs))), (17, .val (.bool (inL ys zs))), (122, .val (.slice oa31 rn11 oc31)), (123, .val (.slice c zs.length cc))]) (h1 := fun _ => []) (p1 := fun _ => []) (W1 := []) (fun _ => by kernel_rfl) (fun _ => trivial) (fun _ => ?_)
  refine JR_callp [] 13 #[.slice c zs.length cc] (some 124) (by kernel_rfl) (fun w S hG => ?_)
  refine (vown (hG.at 5 rfl) (by omega)).mono ?_
  rintro e32 w32 ⟨oa32, oc32, hR⟩
  refine ⟨_, _, _, hR, ?_⟩
  try simp only [List.cons_append, List.nil_append, List.append_nil]
  refine JR_callp [] 15 #[.slice oa31 rn11 oc31, .slice oa32 zs.length oc32] (some 125) (by kernel_rfl) (fun w S hG => ?_)
  refine (vwithin (hG.pick [0, 1, 2] rfl) (hG.at 23 rfl) (hG.at 24 rfl) (by omega) (by omega)).mono ?_
  rintro e33 w33 (⟨h2, hR⟩ | ⟨h2, hR⟩)
  · exact absurd (two_of hm0 hz0 (by omega)) h2
  rw [← hjn] at hR
  refine ⟨_, _, _, hR, ?_⟩
  try simp only [List.cons_append, List.nil_append, List.append_nil]
  refine JR_run (id := 15) (rest := []) [.rd 5 [] 0 0, .rd 6 [] 0 0, .rd 7 [] 0 0, .rd 8 [] 0 0, .rd 9 [] 0 0] [0, 6, 8, 9, 10, 11, 13, 16, 17, 18] (E1 := fun _ => [(0, .val (.slice a xs.length ca)), (6, .val (.bool false)), (8, .val (.slice ra11 rn11 rc11)), (9, .val (.nilIface)), (10, .val (.slice ra14 rn14 rc14)), (11, .val (.nilIface)), (13, .val (.nilIface)), (16, .val (.bool (inL xs zs))), (17, .val (.bool (inL ys zs))), (18, .val (.bool (inL xs zs && inL ys zs)))]) (h1 := fun _ => []) (p1 := fun _ => []) (W1 := []) (fun _ => by kernel_rfl) (fun _ => trivial) (fun _ => ?_)
  refine JR_end ?_
  refine J_seq ?_
  refine J_seq ?_
  refine J_reg mixed [.rd 0 [] 0 0, .rd 1 [] 0 0, .rd 2 [] 0 0, .rd 3 [] 0 0, .rd 4 [] 0 0, .rd 5 [] 0 0, .rd 6 [] 0 0, .rd 7 [] 0 0, .rd 8 [] 0 0, .rd 9 [] 0 0, .rd 10 [] 0 0, .rd 11 [] 0 0, .rd 12 [] 0 0, .rd 13 [] 2 0, .rd 14 [] 0 3, .rd 15 [] 0 0, .rd 16 [] 0 0, .rd 17 [] 0 0] [] [0, 6, 8, 9, 10, 11, 145] (E1 := fun _ => [(0, .val (.slice a xs.length ca)), (6, .val (.bool false)), (8, .val (.slice ra11 rn11 rc11)), (9, .val (.nilIface)), (10, .val (.slice ra14 rn14 rc14)), (11, .val (.nilIface)), (145, .val (.bool (!(inL xs zs && inL ys zs) == (inL xs zs && inL ys zs))))]) (h1 := fun _ => []) (p1 := fun _ => []) (W1 := []) (by kernel_rfl) (fun _ => by kernel_rfl) (fun _ => trivial) (fun _ => ?_)
  refine J_condF (!(inL xs zs && inL ys zs) == (inL xs zs && inL ys zs)) (by kernel_rfl) (by kernel_rfl) (by simp) ?_
  refine J_skip ?_
  refine J_seq ?_
  refine JR_begin mixed [(0, true), (1, false), (2, true), (3, false), (4, false), (5, true), (6, true), (7, true), (8, true), (9, true)] [] (by kernel_rfl) (by kernel_rfl) ?_
  refine JR_run (id := 18) (rest := [(1, false), (2, true), (3, false), (4, false), (5, true), (6, true), (7, true), (8, true), (9, true)]) [.rd 0 [] 0 0] [0, 6, 8, 9, 10, 11, 147] (E1 := fun _ => [(0, .val (.slice a xs.length ca)), (6, .val (.bool false)), (8, .val (.slice ra11 rn11 rc11)), (9, .val (.nilIface)), (10, .val (.slice ra14 rn14 rc14)), (11, .val (.nilIface)), (147, .val (.slice a xs.length ca))]) (h1 := fun _ => []) (p1 := fun _ => []) (W1 := []) (fun _ => by kernel_rfl) (fun _ => trivial) (fun _ => ?_)
  refine JR_callp [] 13 #[.slice a xs.length ca] (some 148) (by kernel_rfl) (fun w S hG => ?_)
  refine (vown (hG.at 3 rfl) (by omega)).mono ?_
  rintro e34 w34 ⟨oa34, oc34, hR⟩
  refine ⟨_, _, _, hR, ?_⟩
  try simp only [List.cons_append, List.nil_append, List.append_nil]
  refine JR_run (id := 18) (rest := [(3, false), (4, false), (5, true), (6, true), (7, true), (8, true), (9, true)]) [.rd 2 [] 0 0] [0, 6, 8, 9, 11, 148, 149] (E1 := fun _ => [(0, .val (.slice a xs.length ca)), (6, .val (.bool false)), (8, .val (.slice ra11 rn11 rc11)), (9, .val (.nilIface)), (11, .val (.nilIface)), (148, .val (.slice oa34 xs.length oc34)), (149, .val (.slice ra14 rn14 rc14))]) (h1 := fun _ => []) (p1 := fun _ => []) (W1 := []) (fun _ => by kernel_rfl) (fun _ => trivial) (fun _ => ?_)
  refine JR_callp [] 13 #[.slice ra14 rn14 rc14] (some 150) (by kernel_rfl) (fun w S hG => ?_)
  refine (vown (hG.at 11 rfl) (by omega)).mono ?_
  rintro e35 w35 ⟨oa35, oc35, hR⟩
  refine ⟨_, _, _, hR, ?_⟩
  try simp only [List.cons_append, List.nil_append, List.append_nil]
  refine JR_callp [] 12 #[.slice oa34 xs.length oc34, .slice oa35 rn14 oc35] (some 151) (by kernel_rfl) (fun w S hG => ?_)
  refine (vMost (hG.pick [0, 1, 2] rfl) (hG.at 25 rfl) (hG.at 26 rfl) (by omega) (by omega)).mono ?_
  rintro e36 w36 (⟨h2, hR⟩ | ⟨h2, ra36, rn36, rc36, hR⟩)
  · exact absurd (two_of hx0 hl0 hll.symm) h2
  refine ⟨_, _, _, hR, ?_⟩
  try simp only [List.cons_append, List.nil_append, List.append_nil]
  refine JR_run (id := 18) (rest := []) [.rd 5 [] 0 0, .rd 6 [] 0 0, .rd 7 [] 0 0, .rd 8 [] 0 0, .rd 9 [] 0 0] [0, 6, 8, 9, 11, 19] (E1 := fun _ => [(0, .val (.slice a xs.length ca)), (6, .val (.bool false)), (8, .val (.slice ra11 rn11 rc11)), (9, .val (.nilIface)), (11, .val (.nilIface)), (19, .val (.slice ra36 rn36 rc36))]) (h1 := fun _ => []) (p1 := fun _ => []) (W1 := []) (fun _ => by kernel_rfl) (fun _ => trivial) (fun _ => ?_)
  refine JR_end ?_
  refine J_seq ?_
  refine JR_begin mixed [(0, true), (1, false), (2, true), (3, false), (4, false), (5, true), (6, true), (7, true), (8, true), (9, true)] [] (by kernel_rfl) (by kernel_rfl) ?_
  refine JR_run (id := 19) (rest := [(1, false), (2, true), (3, false), (4, false), (5, true), (6, true), (7, true), (8, true), (9, true)]) [.rd 0 [] 0 0] [0, 6, 8, 9, 11, 19, 155] (E1 := fun _ => [(0, .val (.slice a xs.length ca)), (6, .val (.bool false)), (8, .val (.slice ra11 rn11 rc11)), (9, .val (.nilIface)), (11, .val (.nilIface)), (19, .val (.slice ra36 rn36 rc36)), (155, .val (.slice a xs.length ca))]) (h1 := fun _ => []) (p1 := fun _ => []) (W1 := []) (fun _ => by kernel_rfl) (fun _ => trivial) (fun _ => ?_)
  refine JR_callp [] 13 #[.slice a xs.length ca] (some 156) (by kernel_rfl) (fun w S hG => ?_)
  refine (vown (hG.at 3 rfl) (by omega)).mono ?_
  rintro e37 w37 ⟨oa37, oc37, hR⟩
  refine ⟨_, _, _, hR, ?_⟩
  try simp only [List.cons_append, List.nil_append, List.append_nil]
  refine JR_run (id := 19) (rest := [(3, false), (4, false), (5, true), (6, true), (7, true), (8, true), (9, true)]) [.rd 2 [] 0 0] [0, 6, 9, 11, 19, 156, 157] (E1 := fun _ => [(0, .val (.slice a xs.length ca)), (6, .val (.bool false)), (9, .val (.nilIface)), (11, .val (.nilIface)), (19, .val (.slice ra36 rn36 rc36)), (156, .val (.slice oa37 xs.length oc37)), (157, .val (.slice ra11 rn11 rc11))]) (h1 := fun _ => []) (p1 := fun _ => []) (W1 := []) (fun _ => by kernel_rfl) (fun _ => trivial) (fun _ => ?_)
  refine JR_callp [] 13 #[.slice ra11 rn11 rc11] (some 158) (by kernel_rfl) (fun w S hG => ?_)
  refine (vown (hG.at 8 rfl) (by omega)).mono ?_
  rintro e38 w38 ⟨oa38, oc38, hR⟩
  refine ⟨_, _, _, hR, ?_⟩
  try simp only [List.cons_append, List.nil_append, List.append_nil]
  refine JR_callp [] 14 #[.slice oa37 xs.length oc37, .slice oa38 rn11 oc38] (some 159) (by kernel_rfl) (fun w S hG => ?_)
  refine (vLeast (hG.pick [0, 1, 2] rfl) (hG.at 28 rfl) (hG.at 29 rfl) (by omega) (by omega)).mono ?_
  rintro e39 w39 (⟨h2, hR⟩ | ⟨h2, ra39, rn39, rc39, hR⟩)
  · exact absurd (two_of hx0 hm0 hml.symm) h2
  refine ⟨_, _, _, hR, ?_⟩
  try simp only [List.cons_append, List.nil_append, List.append_nil]
  refine JR_run (id := 19) (rest := []) [.rd 5 [] 0 0, .rd 6 [] 0 0, .rd 7 [] 0 0, .rd 8 [] 0 0, .rd 9 [] 0 0] [0, 6, 9, 11, 19, 20] (E1 := fun _ => [(0, .val (.slice a xs.length ca)), (6, .val (.bool false)), (9, .val (.nilIface)), (11, .val (.nilIface)), (19, .val (.slice ra36 rn36 rc36)), (20, .val (.slice ra39 rn39 rc39))]) (h1 := fun _ => []) (p1 := fun _ => []) (W1 := []) (fun _ => by kernel_rfl) (fun _ => trivial) (fun _ => ?_)
  refine JR_end ?_
  refine J_seq ?_
  refine JR_begin mixed [(0, true), (1, true), (2, true), (3, true), (4, true), (5, true), (6, true), (7, true), (8, true), (9, false), (10, true), (11, true), (12, true), (13, true), (14, false), (15, true), (16, true)] [] (by kernel_rfl) (by kernel_rfl) ?_
  refine JR_run (id := 20) (rest := [(9, false), (10, true), (11, true), (12, true), (13, true), (14, false), (15, true), (16, true)]) [.rd 0 [] 0 0, .rd 1 [] 0 0, .rd 2 [] 0 0, .rd 3 [] 0 0, .rd 4 [] 0 0, .rd 5 [] 0 0, .rd 6 [] 0 0, .rd 7 [] 0 0, .rd 8 [] 0 0] [0, 6, 20, 168, 169, 170] (E1 := fun _ => [(0, .val (.slice a xs.length ca)), (6, .val (.bool false)), (20, .val (.slice ra39 rn39 rc39)), (168, .val (.bool true)), (169, .val (.slice ra36 rn36 rc36)), (170, .val (.slice a xs.length ca))]) (h1 := fun _ => []) (p1 := fun _ => []) (W1 := []) (fun _ => by kernel_rfl) (fun _ => trivial) (fun _ => ?_)
  refine JR_callp [] 16 #[.slice ra36 rn36 rc36, .slice a xs.length ca] (some 171) (by kernel_rfl) (fun w S hG => ?_)
  refine (sameInts (hG.at 27 rfl) (hG.at 3 rfl) (by simp; omega)).mono ?_
  rintro e40 w40 hR
  rw [takes_up max min (by omega) hxy, decide_eq_true rfl] at hR
  refine ⟨_, _, _, hR, ?_⟩
  try simp only [List.cons_append, List.nil_append, List.append_nil]
  refine JR_run (id := 20) (rest := [(14, false), (15, true), (16, true)]) [.rd 10 [] 0 0, .rd 11 [] 0 0, .rd 12 [] 0 0, .rd 13 [] 0 0] [6, 173, 174, 175] (E1 := fun _ => [(6, .val (.bool false)), (173, .val (.bool true)), (174, .val (.slice ra39 rn39 rc39)), (175, .val (.slice a xs.length ca))]) (h1 := fun _ => []) (p1 := fun _ => []) (W1 := []) (fun _ => by kernel_rfl) (fun _ => trivial) (fun _ => ?_)
  refine JR_callp [] 16 #[.slice ra39 rn39 rc39, .slice a xs.length ca] (some 176) (by kernel_rfl) (fun w S hG => ?_)
  refine (sameInts (hG.at 30 rfl) (hG.at 3 rfl) (by simp; omega)).mono ?_
  rintro e41 w41 hR
  rw [takes_up min max (by omega) hxy, decide_eq_true rfl] at hR
  refine ⟨_, _, _, hR, ?_⟩
  try simp only [List.cons_append, List.nil_append, List.append_nil]
  refine JR_run (id := 20) (rest := []) [.rd 15 [] 0 0, .rd 16 [] 0 0] [6] (E1 := fun _ => [(6, .val (.bool true))]) (h1 := fun _ => []) (p1 := fun _ => []) (W1 := []) (fun _ => by kernel_rfl) (fun _ => trivial) (fun _ => ?_)
  refine JR_end ?_
  refine J_return [[]] (.bool true) (by kernel_rfl) (fun a w s => ?_)
  exact s.ret (by simp) [] [] rfl rfl

set_option maxHeartbeats 8000000 in
theorem vweighs {w : World} {S : Nat → Prop} {er : Nat → Addr} {a b : Option Addr} {n m ca cb : Nat} {xs ys : List Int} (hE : AllG w S (globs er)) (ha : Rep w S (.slice a n ca) (dInts xs)) (hb : Rep w S (.slice b m cb) (dInts ys)) :
    Calls Tryd.prog 4 #[.slice a n ca, .slice b m cb] w fun e w' => Ret [] w S w' e (.bool true) [] [] := by
  obtain rfl := rep_ints_len ha
  obtain rfl := rep_ints_len hb
  refine ep4 (args := [.slice a xs.length ca, .slice b ys.length cb]) (G := globs er ++ [(_, dInts xs), (_, dInts ys)]) (by kernel_rfl) (hE.app (.cons ha (.cons hb (.nil _ _)))) ?_
  try simp only [List.cons_append, List.nil_append, List.append_nil]
  refine J_seq ?_
  refine J_reg mixed [.rd 0 [] 0 0] [] [0, 1, 4] (E1 := fun _ => [(0, .val (.slice a xs.length ca)), (1, .val (.slice b ys.length cb)), (4, .val (.bool false))]) (h1 := fun _ => []) (p1 := fun _ => []) (W1 := []) (by kernel_rfl) (fun _ => by kernel_rfl) (fun _ => trivial) (fun _ => ?_)
  refine J_seq ?_
  refine JR_begin mixed [(0, false), (1, true)] [] (by kernel_rfl) (by kernel_rfl) ?_
  refine JR_callp [] 11 #[] (some 18) (by kernel_rfl) (fun w S hG => ?_)
  refine (vtimed (hG.pick [0, 1, 2] rfl)).mono ?_
  rintro e1 w1 hR
  refine ⟨_, _, _, hR, ?_⟩
  try simp only [List.cons_append, List.nil_append, List.append_nil]
  refine JR_run (id := 1) (rest := []) [.rd 1 [] 0 0] [0, 1, 4, 5] (E1 := fun _ => [(0, .val (.slice a xs.length ca)), (1, .val (.slice b ys.length cb)), (4, .val (.bool false)), (5, .val (.bool true))]) (h1 := fun _ => []) (p1 := fun _ => []) (W1 := []) (fun _ => by kernel_rfl) (fun _ => trivial) (fun _ => ?_)
  refine JR_end ?_
  refine J_seq ?_
  refine J_seq ?_
  refine J_reg mixed [.rd 0 [] 0 0, .rd 1 [] 0 0, .rd 2 [] 0 0, .rd 3 [] 0 0, .rd 4 [] 0 0, .rd 5 [] 0 0, .rd 6 [] 0 0, .rd 7 [] 0 0, .rd 8 [] 2 0, .rd 9 [] 2 0, .rd 10 [] 2 0, .rd 11 [] 0 3] [] [0, 1, 4, 5, 30] (E1 := fun _ => [(0, .val (.slice a xs.length ca)), (1, .val (.slice b ys.length cb)), (4, .val (.bool false)), (5, .val (.bool true)), (30, .val (.bool (decide ((↑xs.length : Int) > 20) || decide ((↑ys.length : Int) > 20))))]) (h1 := fun _ => []) (p1 := fun _ => []) (W1 := []) (by kernel_rfl) (fun _ => by kernel_rfl) (fun _ => trivial) (fun _ => ?_)
  refine J_cond (t := decide ((↑xs.length : Int) > 20) || decide ((↑ys.length : Int) > 20)) (by kernel_rfl) (by kernel_rfl) (fun hbad => ?_) (fun hbad => ?_)
  · refine J_seq ?_
    refine J_reg mixed [.rd 0 [] 0 0, .rd 1 [] 0 0] [] [0, 1, 4] (E1 := fun _ => [(0, .val (.slice a xs.length ca)), (1, .val (.slice b ys.length cb)), (4, .val (.bool true))]) (h1 := fun _ => []) (p1 := fun _ => []) (W1 := []) (by kernel_rfl) (fun _ => by kernel_rfl) (fun _ => trivial) (fun _ => ?_)
    refine J_return [[]] (.bool true) (by kernel_rfl) (fun a w s => ?_)
    exact s.ret (by simp) [] [] rfl rfl
  obtain ⟨hl1, hl2⟩ : xs.length ≤ 20 ∧ ys.length ≤ 20 := by simp at hbad; omega
  refine J_skip ?_
  refine J_seq ?_
  refine JR_begin mixed [(0, true), (1, false), (2, true), (3, false), (4, false), (5, true), (6, true), (7, true), (8, true), (9, true)] [] (by kernel_rfl) (by kernel_rfl) ?_
  refine JR_run (id := 4) (rest := [(1, false), (2, true), (3, false), (4, false), (5, true), (6, true), (7, true), (8, true), (9, true)]) [.rd 0 [] 0 0] [0, 1, 4, 33] (E1 := fun _ => [(0, .val (.slice a xs.length ca)), (1, .val (.slice b ys.length cb)), (4, .val (.bool false)), (33, .val (.slice a xs.length ca))]) (h1 := fun _ => []) (p1 := fun _ => []) (W1 := []) (fun _ => by kernel_rfl) (fun _ => trivial) (fun _ => ?_)
  by_cases hab : twoErr xs ys = 0
  rotate_left
  · skip
    refine JR_callp [] 13 #[.slice a xs.length ca] (some 34) (by kernel_rfl) (fun w S hG => ?_)
    refine (vown (hG.at 3 rfl) (by omega)).mono ?_
    rintro e1 w1 ⟨oa1, oc1, hR⟩
    refine ⟨_, _, _, hR, ?_⟩
    try simp only [List.cons_append, List.nil_append, List.append_nil]
    refine JR_run (id := 4) (rest := [(3, false), (4, false), (5, true), (6, true), (7, true), (8, true), (9, true)]) [.rd 2 [] 0 0] [0, 1, 4, 34, 35] (E1 := fun _ => [(0, .val (.slice a xs.length ca)), (1, .val (.slice b ys.length cb)), (4, .val (.bool false)), (34, .val (.slice oa1 xs.length oc1)), (35, .val (.slice b ys.length cb))]) (h1 := fun _ => []) (p1 := fun _ => []) (W1 := []) (fun _ => by kernel_rfl) (fun _ => trivial) (fun _ => ?_)
    refine JR_callp [] 13 #[.slice b ys.length cb] (some 36) (by kernel_rfl) (fun w S hG => ?_)
    refine (vown (hG.at 4 rfl) (by omega)).mono ?_
    rintro e2 w2 ⟨oa2, oc2, hR⟩
    refine ⟨_, _, _, hR, ?_⟩
    try simp only [List.cons_append, List.nil_append, List.append_nil]
    refine JR_callp [] 14 #[.slice oa1 xs.length oc1, .slice oa2 ys.length oc2] (some 37) (by kernel_rfl) (fun w S hG => ?_)
    refine (vLeast (hG.pick [0, 1, 2] rfl) (hG.at 5 rfl) (hG.at 6 rfl) (by omega) (by omega)).mono ?_
    rintro e3 w3 (⟨h2, hR⟩ | ⟨h2, ra3, rn3, rc3, hR⟩)
    rotate_left
    · exact absurd h2 hab
    refine ⟨_, _, _, hR, ?_⟩
    try simp only [List.cons_append, List.nil_append, List.append_nil]
    refine JR_run (id := 4) (rest := []) [.rd 5 [] 0 0, .rd 6 [] 0 0, .rd 7 [] 0 0, .rd 8 [] 0 0, .rd 9 [] 0 0] [0, 1, 4, 6, 7] (E1 := fun _ => [(0, .val (.slice a xs.length ca)), (1, .val (.slice b ys.length cb)), (4, .val (.bool false)), (6, .val (.slice none 0 0)), (7, .val (.iface 94 (.pointer (some (er (twoErr xs ys))))))]) (h1 := fun _ => []) (p1 := fun _ => []) (W1 := []) (fun _ => by kernel_rfl) (fun _ => trivial) (fun _ => ?_)
    refine JR_end ?_
    refine J_seq ?_
    refine JR_begin mixed [(0, true), (1, false), (2, true), (3, false), (4, false), (5, true), (6, true), (7, true), (8, true), (9, true)] [] (by kernel_rfl) (by kernel_rfl) ?_
    refine JR_run (id := 5) (rest := [(1, false), (2, true), (3, false), (4, false), (5, true), (6, true), (7, true), (8, true), (9, true)]) [.rd 0 [] 0 0] [0, 1, 4, 6, 7, 41] (E1 := fun _ => [(0, .val (.slice a xs.length ca)), (1, .val (.slice b ys.length cb)), (4, .val (.bool false)), (6, .val (.slice none 0 0)), (7, .val (.iface 94 (.pointer (some (er (twoErr xs ys)))))), (41, .val (.slice a xs.length ca))]) (h1 := fun _ => []) (p1 := fun _ => []) (W1 := []) (fun _ => by kernel_rfl) (fun _ => trivial) (fun _ => ?_)
    refine JR_callp [] 13 #[.slice a xs.length ca] (some 42) (by kernel_rfl) (fun w S hG => ?_)
    refine (vown (hG.at 3 rfl) (by omega)).mono ?_
    rintro e4 w4 ⟨oa4, oc4, hR⟩
    refine ⟨_, _, _, hR, ?_⟩
    try simp only [List.cons_append, List.nil_append, List.append_nil]
    refine JR_run (id := 5) (rest := [(3, false), (4, false), (5, true), (6, true), (7, true), (8, true), (9, true)]) [.rd 2 [] 0 0] [0, 1, 4, 6, 7, 42, 43] (E1 := fun _ => [(0, .val (.slice a xs.length ca)), (1, .val (.slice b ys.length cb)), (4, .val (.bool false)), (6, .val (.slice none 0 0)), (7, .val (.iface 94 (.pointer (some (er (twoErr xs ys)))))), (42, .val (.slice oa4 xs.length oc4)), (43, .val (.slice b ys.length cb))]) (h1 := fun _ => []) (p1 := fun _ => []) (W1 := []) (fun _ => by kernel_rfl) (fun _ => trivial) (fun _ => ?_)
    refine JR_callp [] 13 #[.slice b ys.length cb] (some 44) (by kernel_rfl) (fun w S hG => ?_)
    refine (vown (hG.at 4 rfl) (by omega)).mono ?_
    rintro e5 w5 ⟨oa5, oc5, hR⟩
    refine ⟨_, _, _, hR, ?_⟩
    try simp only [List.cons_append, List.nil_append, List.append_nil]
    refine JR_callp [] 12 #[.slice oa4 xs.length oc4, .slice oa5 ys.length oc5] (some 45) (by kernel_rfl) (fun w S hG => ?_)
    refine (vMost (hG.pick [0, 1, 2] rfl) (hG.at 7 rfl) (hG.at 8 rfl) (by omega) (by omega)).mono ?_
    rintro e6 w6 (⟨h2, hR⟩ | ⟨h2, ra6, rn6, rc6, hR⟩)
    rotate_left
    · exact absurd h2 hab
    refine ⟨_, _, _, hR, ?_⟩
    try simp only [List.cons_append, List.nil_append, List.append_nil]
    refine JR_run (id := 5) (rest := []) [.rd 5 [] 0 0, .rd 6 [] 0 0, .rd 7 [] 0 0, .rd 8 [] 0 0, .rd 9 [] 0 0] [0, 1, 4, 6, 7, 8, 9] (E1 := fun _ => [(0, .val (.slice a xs.length ca)), (1, .val (.slice b ys.length cb)), (4, .val (.bool false)), (6, .val (.slice none 0 0)), (7, .val (.iface 94 (.pointer (some (er (twoErr xs ys)))))), (8, .val (.slice none 0 0)), (9, .val (.iface 94 (.pointer (some (er (twoErr xs ys))))))]) (h1 := fun _ => []) (p1 := fun _ => []) (W1 := []) (fun _ => by kernel_rfl) (fun _ => trivial) (fun _ => ?_)
    refine JR_end ?_
    refine J_seq ?_
    refine J_seq ?_
    refine J_reg mixed [.rd 0 [] 0 0, .rd 1 [] 0 0, .rd 2 [] 0 0, .rd 3 [] 1 0, .rd 4 [] 1 0, .rd 5 [] 0 0] [] [0, 1, 4, 6, 7, 8, 9, 53] (E1 := fun _ => [(0, .val (.slice a xs.length ca)), (1, .val (.slice b ys.length cb)), (4, .val (.bool false)), (6, .val (.slice none 0 0)), (7, .val (.iface 94 (.pointer (some (er (twoErr xs ys)))))), (8, .val (.slice none 0 0)), (9, .val (.iface 94 (.pointer (some (er (twoErr xs ys)))))), (53, .val (.bool true))]) (h1 := fun _ => []) (p1 := fun _ => []) (W1 := []) (by kernel_rfl) (fun _ => by kernel_rfl) (fun _ => trivial) (fun _ => ?_)
    refine J_cond_t (by kernel_rfl) (by kernel_rfl) ?_
    refine J_seq ?_
    refine J_reg mixed [.rd 0 [] 0 0, .rd 1 [] 0 0, .rd 2 [] 0 0, .rd 3 [] 0 0, .rd 4 [] 0 0, .rd 5 [] 0 0, .rd 6 [] 0 0] [] [0, 1, 4, 6, 7, 8, 9] (E1 := fun _ => [(0, .val (.slice a xs.length ca)), (1, .val (.slice b ys.length cb)), (4, .val (.bool true)), (6, .val (.slice none 0 0)), (7, .val (.iface 94 (.pointer (some (er (twoErr xs ys)))))), (8, .val (.slice none 0 0)), (9, .val (.iface 94 (.pointer (some (er (twoErr xs ys))))))]) (h1 := fun _ => []) (p1 := fun _ => []) (W1 := []) (by kernel_rfl) (fun _ => by kernel_rfl) (fun _ => trivial) (fun _ => ?_)
    refine J_return [[]] (.bool true) (by kernel_rfl) (fun a w s => ?_)
    exact s.ret (by simp) [] [] rfl rfl
  obtain ⟨hx0, hy0, hxy⟩ := twoErr_fine hab
  refine JR_callp [] 13 #[.slice a xs.length ca] (some 34) (by kernel_rfl) (fun w S hG => ?_)
  refine (vown (hG.at 3 rfl) (by omega)).mono ?_
  rintro e7 w7 ⟨oa7, oc7, hR⟩
  refine ⟨_, _, _, hR, ?_⟩
  try simp only [List.cons_append, List.nil_append, List.append_nil]
  refine JR_run (id := 4) (rest := [(3, false), (4, false), (5, true), (6, true), (7, true), (8, true), (9, true)]) [.rd 2 [] 0 0] [0, 1, 4, 34, 35] (E1 := fun _ => [(0, .val (.slice a xs.length ca)), (1, .val (.slice b ys.length cb)), (4, .val (.bool false)), (34, .val (.slice oa7 xs.length oc7)), (35, .val (.slice b ys.length cb))]) (h1 := fun _ => []) (p1 := fun _ => []) (W1 := []) (fun _ => by kernel_rfl) (fun _ => trivial) (fun _ => ?_)
  refine JR_callp [] 13 #[.slice b ys.length cb] (some 36) (by kernel_rfl) (fun w S hG => ?_)
  refine (vown (hG.at 4 rfl) (by omega)).mono ?_
  rintro e8 w8 ⟨oa8, oc8, hR⟩
  refine ⟨_, _, _, hR, ?_⟩
  try simp only [List.cons_append, List.nil_append, List.append_nil]
  refine JR_callp [] 14 #[.slice oa7 xs.length oc7, .slice oa8 ys.length oc8] (some 37) (by kernel_rfl) (fun w S hG => ?_)
  refine (vLeast (hG.pick [0, 1, 2] rfl) (hG.at 5 rfl) (hG.at 6 rfl) (by omega) (by omega)).mono ?_
  rintro e9 w9 (⟨h2, hR⟩ | ⟨h2, ra9, rn9, rc9, hR⟩)
  · exact absurd hab h2
  refine ⟨_, _, _, hR, ?_⟩
  try simp only [List.cons_append, List.nil_append, List.append_nil]
  refine JR_run (id := 4) (rest := []) [.rd 5 [] 0 0, .rd 6 [] 0 0, .rd 7 [] 0 0, .rd 8 [] 0 0, .rd 9 [] 0 0] [0, 1, 4, 6, 7] (E1 := fun _ => [(0, .val (.slice a xs.length ca)), (1, .val (.slice b ys.length cb)), (4, .val (.bool false)), (6, .val (.slice ra9 rn9 rc9)), (7, .val (.nilIface))]) (h1 := fun _ => []) (p1 := fun _ => []) (W1 := []) (fun _ => by kernel_rfl) (fun _ => trivial) (fun _ => ?_)
  refine JR_end ?_
  refine J_seq ?_
  refine JR_begin mixed [(0, true), (1, false), (2, true), (3, false), (4, false), (5, true), (6, true), (7, true), (8, true), (9, true)] [] (by kernel_rfl) (by kernel_rfl) ?_
  refine JR_run (id := 5) (rest := [(1, false), (2, true), (3, false), (4, false), (5, true), (6, true), (7, true), (8, true), (9, true)]) [.rd 0 [] 0 0] [0, 1, 4, 6, 7, 41] (E1 := fun _ => [(0, .val (.slice a xs.length ca)), (1, .val (.slice b ys.length cb)), (4, .val (.bool false)), (6, .val (.slice ra9 rn9 rc9)), (7, .val (.nilIface)), (41, .val (.slice a xs.length ca))]) (h1 := fun _ => []) (p1 := fun _ => []) (W1 := []) (fun _ => by kernel_rfl) (fun _ => trivial) (fun _ => ?_)
  refine JR_callp [] 13 #[.slice a xs.length ca] (some 42) (by kernel_rfl) (fun w S hG => ?_)
  refine (vown (hG.at 3 rfl) (by omega)).mono ?_
  rintro e10 w10 ⟨oa10, oc10, hR⟩
  refine ⟨_, _, _, hR, ?_⟩
  try simp only [List.cons_append, List.nil_append, List.append_nil]
  refine JR_run (id := 5) (rest := [(3, false), (4, false), (5, true), (6, true), (7, true), (8, true), (9, true)]) [.rd 2 [] 0 0] [0, 1, 4, 6, 7, 42, 43] (E1 := fun _ => [(0, .val (.slice a xs.length ca)), (1, .val (.slice b ys.length cb)), (4, .val (.bool false)), (6, .val (.slice ra9 rn9 rc9)), (7, .val (.nilIface)), (42, .val (.slice oa10 xs.length oc10)), (43, .val (.slice b ys.length cb))]) (h1 := fun _ => []) (p1 := fun _ => []) (W1 := []) (fun _ => by kernel_rfl) (fun _ => trivial) (fun _ => ?_)
  refine JR_callp [] 13 #[.slice b ys.length cb] (some 44) (by kernel_rfl) (fun w S hG => ?_)
  refine (vown (hG.at 4 rfl) (by omega)).mono ?_
  rintro e11 w11 ⟨oa11, oc11, hR⟩
  refine ⟨_, _, _, hR, ?_⟩
  try simp only [List.cons_append, List.nil_append, List.append_nil]
  refine JR_callp [] 12 #[.slice oa10 xs.length oc10, .slice oa11 ys.length oc11] (some 45) (by kernel_rfl) (fun w S hG => ?_)
  refine (vMost (hG.pick [0, 1, 2] rfl) (hG.at 8 rfl) (hG.at 9 rfl) (by omega) (by omega)).mono ?_
  rintro e12 w12 (⟨h2, hR⟩ | ⟨h2, ra12, rn12, rc12, hR⟩)
  · exact absurd hab h2
  refine ⟨_, _, _, hR, ?_⟩
  try simp only [List.cons_append, List.nil_append, List.append_nil]
  refine JR_run (id := 5) (rest := []) [.rd 5 [] 0 0, .rd 6 [] 0 0, .rd 7 [] 0 0, .rd 8 [] 0 0, .rd 9 [] 0 0] [0, 1, 4, 6, 7, 8, 9] (E1 := fun _ => [(0, .val (.slice a xs.length ca)), (1, .val (.slice b ys.length cb)), (4, .val (.bool false)), (6, .val (.slice ra9 rn9 rc9)), (7, .val (.nilIface)), (8, .val (.slice ra12 rn12 rc12)), (9, .val (.nilIface))]) (h1 := fun _ => []) (p1 := fun _ => []) (W1 := []) (fun _ => by kernel_rfl) (fun _ => trivial) (fun _ => ?_)
  refine JR_end ?_
  refine J_seq ?_
  refine J_seq ?_
  refine J_reg mixed [.rd 0 [] 0 0, .rd 1 [] 0 0, .rd 2 [] 0 0, .rd 3 [] 0 0, .rd 4 [] 0 0, .rd 5 [] 0 0] [] [0, 1, 4, 6, 7, 8, 9, 53] (E1 := fun _ => [(0, .val (.slice a xs.length ca)), (1, .val (.slice b ys.length cb)), (4, .val (.bool false)), (6, .val (.slice ra9 rn9 rc9)), (7, .val (.nilIface)), (8, .val (.slice ra12 rn12 rc12)), (9, .val (.nilIface)), (53, .val (.bool false))]) (h1 := fun _ => []) (p1 := fun _ => []) (W1 := []) (by kernel_rfl) (fun _ => by kernel_rfl) (fun _ => trivial) (fun _ => ?_)
  refine J_cond_f (by kernel_rfl) (by kernel_rfl) ?_
  refine J_skip ?_
  refine J_seq ?_
  refine JR_begin mixed [(0, true), (1, false), (2, false), (3, true), (4, true), (5, true), (6, true), (7, true)] [] (by kernel_rfl) (by kernel_rfl) ?_
  refine JR_run (id := 8) (rest := [(1, false), (2, false), (3, true), (4, true), (5, true), (6, true), (7, true)]) [.rd 0 [] 0 0] [0, 1, 4, 6, 7, 8, 9, 61] (E1 := fun _ => [(0, .val (.slice a xs.length ca)), (1, .val (.slice b ys.length cb)), (4, .val (.bool false)), (6, .val (.slice ra9 rn9 rc9)), (7, .val (.nilIface)), (8, .val (.slice ra12 rn12 rc12)), (9, .val (.nilIface)), (61, .val (.slice a xs.length ca))]) (h1 := fun _ => []) (p1 := fun _ => []) (W1 := []) (fun _ => by kernel_rfl) (fun _ => trivial) (fun _ => ?_)
  have hm0 := zip_fine max_or hx0 hy0 hxy
  have hl0 := zip_fine min_or hx0 hy0 hxy
  have hml : (List.zipWith max xs ys).length = xs.length := zip_len hxy
  have hll : (List.zipWith min xs ys).length = xs.length := zip_len hxy
  have hsum := sum_zip hxy
  have hx0b := weight_le hx0
  have hy0b := weight_le hy0
  have hl0b := weight_le hl0
  have hm0b := weight_le hm0
  refine JR_callp [] 13 #[.slice a xs.length ca] (some 62) (by kernel_rfl) (fun w S hG => ?_)
  refine (vown (hG.at 3 rfl) (by omega)).mono ?_
  rintro e13 w13 ⟨oa13, oc13, hR⟩
  refine ⟨_, _, _, hR, ?_⟩
  try simp only [List.cons_append, List.nil_append, List.append_nil]
  refine JR_callp [] 17 #[.slice oa13 xs.length oc13] (some 63) (by kernel_rfl) (fun w S hG => ?_)
  refine (vweight (hG.pick [0, 1, 2] rfl) (hG.at 11 rfl) (by omega)).mono ?_
  rintro e14 w14 (⟨h2, hR⟩ | ⟨h2, hR⟩)
  · exact absurd hx0 h2
  refine ⟨_, _, _, hR, ?_⟩
  try simp only [List.cons_append, List.nil_append, List.append_nil]
  refine JR_run (id := 8) (rest := []) [.rd 3 [] 0 0, .rd 4 [] 0 0, .rd 5 [] 0 0, .rd 6 [] 0 0, .rd 7 [] 0 0] [0, 1, 4, 6, 7, 8, 9, 10] (E1 := fun _ => [(0, .val (.slice a xs.length ca)), (1, .val (.slice b ys.length cb)), (4, .val (.bool false)), (6, .val (.slice ra9 rn9 rc9)), (7, .val (.nilIface)), (8, .val (.slice ra12 rn12 rc12)), (9, .val (.nilIface)), (10, .val (.int .i64 (sumL xs)))]) (h1 := fun _ => []) (p1 := fun _ => []) (W1 := []) (fun _ => by kernel_rfl) (fun _ => trivial) (fun _ => ?_)
  refine JR_end ?_
  refine J_seq ?_
  refine JR_begin mixed [(0, true), (1, false), (2, false), (3, true), (4, true), (5, true), (6, true), (7, true)] [] (by kernel_rfl) (by kernel_rfl) ?_
  refine JR_run (id := 9) (rest := [(1, false), (2, false), (3, true), (4, true), (5, true), (6, true), (7, true)]) [.rd 0 [] 0 0] [0, 1, 4, 6, 7, 8, 9, 10, 67] (E1 := fun _ => [(0, .val (.slice a xs.length ca)), (1, .val (.slice b ys.length cb)), (4, .val (.bool false)), (6, .val (.slice ra9 rn9 rc9)), (7, .val (.nilIface)), (8, .val (.slice ra12 rn12 rc12)), (9, .val (.nilIface)), (10, .val (.int .i64 (sumL xs))), (67, .val (.slice b ys.length cb))]) (h1 := fun _ => []) (p1 := fun _ => []) (W1 := []) (fun _ => by kernel_rfl) (fun _ => trivial) (fun _ => ?_)
  refine JR_callp [] 13 #[.slice b ys.length cb] (some 68) (by kernel_rfl) (fun w S hG => ?_)
  refine (vown (hG.at 4 rfl) (by omega)).mono ?_
  rintro e15 w15 ⟨oa15, oc15, hR⟩
  refine ⟨_, _, _, hR, ?_⟩
  try simp only [List.cons_append, List.nil_append, List.append_nil]
  refine JR_callp [] 17 #[.slice oa15 ys.length oc15] (some 69) (by kernel_rfl) (fun w S hG => ?_)
  refine (vweight (hG.pick [0, 1, 2] rfl) (hG.at 12 rfl) (by omega)).mono ?_
  rintro e16 w16 (⟨h2, hR⟩ | ⟨h2, hR⟩)
  · exact absurd hy0 h2
  refine ⟨_, _, _, hR, ?_⟩
  try simp only [List.cons_append, List.nil_append, List.append_nil]
  refine JR_run (id := 9) (rest := []) [.rd 3 [] 0 0, .rd 4 [] 0 0, .rd 5 [] 0 0, .rd 6 [] 0 0, .rd 7 [] 0 0] [0, 1, 4, 6, 7, 8, 9, 10, 11] (E1 := fun _ => [(0, .val (.slice a xs.length ca)), (1, .val (.slice b ys.length cb)), (4, .val (.bool false)), (6, .val (.slice ra9 rn9 rc9)), (7, .val (.nilIface)), (8, .val (.slice ra12 rn12 rc12)), (9, .val (.nilIface)), (10, .val (.int .i64 (sumL xs))), (11, .val (.int .i64 (sumL ys)))]) (h1 := fun _ => []) (p1 := fun _ => []) (W1 := []) (fun _ => by kernel_rfl) (fun _ => trivial) (fun _ => ?_)
  refine JR_end ?_
  refine J_seq ?_
  refine JR_begin mixed [(0, true), (1, false), (2, true), (3, true), (4, true), (5, true), (6, true)] [] (by kernel_rfl) (by kernel_rfl) ?_
  refine JR_run (id := 10) (rest := [(1, false), (2, true), (3, true), (4, true), (5, true), (6, true)]) [.rd 0 [] 0 0] [0, 1, 4, 7, 8, 9, 10, 11, 73] (E1 := fun _ => [(0, .val (.slice a xs.length ca)), (1, .val (.slice b ys.length cb)), (4, .val (.bool false)), (7, .val (.nilIface)), (8, .val (.slice ra12 rn12 rc12)), (9, .val (.nilIface)), (10, .val (.int .i64 (sumL xs))), (11, .val (.int .i64 (sumL ys))), (73, .val (.slice ra9 rn9 rc9))]) (h1 := fun _ => []) (p1 := fun _ => []) (W1 := []) (fun _ => by kernel_rfl) (fun _ => trivial) (fun _ => ?_)
  refine JR_callp [] 17 #[.slice ra9 rn9 rc9] (some 74) (by kernel_rfl) (fun w S hG => ?_)
  refine (vweight (hG.pick [0, 1, 2] rfl) (hG.at 7 rfl) (by omega)).mono ?_
  rintro e17 w17 (⟨h2, hR⟩ | ⟨h2, hR⟩)
  · exact absurd hl0 h2
  refine ⟨_, _, _, hR, ?_⟩
  try simp only [List.cons_append, List.nil_append, List.append_nil]
  refine JR_run (id := 10) (rest := []) [.rd 2 [] 0 0, .rd 3 [] 0 0, .rd 4 [] 0 0, .rd 5 [] 0 0, .rd 6 [] 0 0] [0, 1, 4, 7, 8, 9, 10, 11, 12, 13] (E1 := fun _ => [(0, .val (.slice a xs.length ca)), (1, .val (.slice b ys.length cb)), (4, .val (.bool false)), (7, .val (.nilIface)), (8, .val (.slice ra12 rn12 rc12)), (9, .val (.nilIface)), (10, .val (.int .i64 (sumL xs))), (11, .val (.int .i64 (sumL ys))), (12, .val (.int .i64 (sumL (List.zipWith min xs ys)))), (13, .val (.nilIface))]) (h1 := fun _ => []) (p1 := fun _ => []) (W1 := []) (fun _ => by kernel_rfl) (fun _ => trivial) (fun _ => ?_)
  refine JR_end ?_
  refine J_seq ?_
  refine JR_begin mixed [(0, true), (1, false), (2, true), (3, true), (4, true), (5, true), (6, true)] [] (by kernel_rfl) (by kernel_rfl) ?_
  refine JR_run (id := 11) (rest := [(1, false), (2, true), (3, true), (4, true), (5, true), (6, true)]) [.rd 0 [] 0 0] [0, 1, 4, 7, 9, 10, 11, 12, 13, 78] (E1 := fun _ => [(0, .val (.slice a xs.length ca)), (1, .val (.slice b ys.length cb)), (4, .val (.bool false)), (7, .val (.nilIface)), (9, .val (.nilIface)), (10, .val (.int .i64 (sumL xs))), (11, .val (.int .i64 (sumL ys))), (12, .val (.int .i64 (sumL (List.zipWith min xs ys)))), (13, .val (.nilIface)), (78, .val (.slice ra12 rn12 rc12))]) (h1 := fun _ => []) (p1 := fun _ => []) (W1 := []) (fun _ => by kernel_rfl) (fun _ => trivial) (fun _ => ?_)
  refine JR_callp [] 17 #[.slice ra12 rn12 rc12] (some 79) (by kernel_rfl) (fun w S hG => ?_)
  refine (vweight (hG.pick [0, 1, 2] rfl) (hG.at 10 rfl) (by omega)).mono ?_
  rintro e18 w18 (⟨h2, hR⟩ | ⟨h2, hR⟩)
  · exact absurd hm0 h2
  refine ⟨_, _, _, hR, ?_⟩
  try simp only [List.cons_append, List.nil_append, List.append_nil]
  refine JR_run (id := 11) (rest := []) [.rd 2 [] 0 0, .rd 3 [] 0 0, .rd 4 [] 0 0, .rd 5 [] 0 0, .rd 6 [] 0 0] [0, 1, 4, 7, 9, 10, 11, 12, 13, 14, 15] (E1 := fun _ => [(0, .val (.slice a xs.length ca)), (1, .val (.slice b ys.length cb)), (4, .val (.bool false)), (7, .val (.nilIface)), (9, .val (.nilIface)), (10, .val (.int .i64 (sumL xs))), (11, .val (.int .i64 (sumL ys))), (12, .val (.int .i64 (sumL (List.zipWith min xs ys)))), (13, .val (.nilIface)), (14, .val (.int .i64 (sumL (List.zipWith max xs ys)))), (15, .val (.nilIface))]) (h1 := fun _ => []) (p1 := fun _ => []) (W1 := []) (fun _ => by kernel_rfl) (fun _ => trivial) (fun _ => ?_)
  refine JR_end ?_
  refine J_seq ?_
  refine J_seq ?_
  refine J_reg mixed [.rd 0 [] 0 0, .rd 1 [] 0 0, .rd 2 [] 0 0, .rd 3 [] 0 0, .rd 4 [] 0 0, .rd 5 [] 0 0, .rd 6 [] 0 0, .rd 7 [] 0 0, .rd 8 [] 0 0, .rd 9 [] 0 0, .rd 10 [] 0 0, .rd 11 [] 0 0, .rd 12 [] 0 0, .rd 13 [] 0 0, .rd 14 [] 0 0, .rd 15 [] 0 0, .rd 16 [] 0 0, .rd 17 [] 0 1, .rd 18 [] 0 0, .rd 19 [] 0 0, .rd 20 [] 0 1, .rd 21 [] 0 0, .rd 22 [] 0 0] [] [0, 1, 4, 10, 11, 104] (E1 := fun _ => [(0, .val (.slice a xs.length ca)), (1, .val (.slice b ys.length cb)), (4, .val (.bool false)), (10, .val (.int .i64 (sumL xs))), (11, .val (.int .i64 (sumL ys))), (104, .val (.bool (sumL xs + sumL ys != sumL (List.zipWith min xs ys) + sumL (List.zipWith max xs ys))))]) (h1 := fun _ => []) (p1 := fun _ => [IntKind.i64.wrap (sumL xs + sumL ys) = sumL xs + sumL ys, IntKind.i64.wrap (sumL (List.zipWith min xs ys) + sumL (List.zipWith max xs ys)) = sumL (List.zipWith min xs ys) + sumL (List.zipWith max xs ys)]) (W1 := []) (by kernel_rfl) (fun _ => by kernel_rfl) (fun _ => ⟨wrap_i64 (by omega) (by omega), wrap_i64 (by omega) (by omega), trivial⟩) (fun _ => ?_)
  refine J_condF (sumL xs + sumL ys != sumL (List.zipWith min xs ys) + sumL (List.zipWith max xs ys)) (by kernel_rfl) (by kernel_rfl) (by simpa using ‹_›) ?_
  refine J_skip ?_
  refine J_seq ?_
  refine JR_begin mixed [(0, true), (1, false), (2, true), (3, false), (4, false), (5, true), (6, true), (7, true), (8, true), (9, true)] [] (by kernel_rfl) (by kernel_rfl) ?_
  refine JR_run (id := 14) (rest := [(1, false), (2, true), (3, false), (4, false), (5, true), (6, true), (7, true), (8, true), (9, true)]) [.rd 0 [] 0 0] [0, 1, 4, 10, 11, 106] (E1 := fun _ => [(0, .val (.slice a xs.length ca)), (1, .val (.slice b ys.length cb)), (4, .val (.bool false)), (10, .val (.int .i64 (sumL xs))), (11, .val (.int .i64 (sumL ys))), (106, .val (.slice a xs.length ca))]) (h1 := fun _ => []) (p1 := fun _ => []) (W1 := []) (fun _ => by kernel_rfl) (fun _ => trivial) (fun _ => ?_)
  refine JR_callp [] 13 #[.slice a xs.length ca] (some 107) (by kernel_rfl) (fun w S hG => ?_)
  refine (vown (hG.at 3 rfl) (by omega)).mono ?_
  rintro e19 w19 ⟨oa19, oc19, hR⟩
  refine ⟨_, _, _, hR, ?_⟩
  try simp only [List.cons_append, List.nil_append, List.append_nil]
  refine JR_run (id := 14) (rest := [(3, false), (4, false), (5, true), (6, true), (7, true), (8, true), (9, true)]) [.rd 2 [] 0 0] [0, 1, 4, 10, 11, 107, 108] (E1 := fun _ => [(0, .val (.slice a xs.length ca)), (1, .val (.slice b ys.length cb)), (4, .val (.bool false)), (10, .val (.int .i64 (sumL xs))), (11, .val (.int .i64 (sumL ys))), (107, .val (.slice oa19 xs.length oc19)), (108, .val (.slice b ys.length cb))]) (h1 := fun _ => []) (p1 := fun _ => []) (W1 := []) (fun _ => by kernel_rfl) (fun _ => trivial) (fun _ => ?_)
  refine JR_callp [] 13 #[.slice b ys.length cb] (some 109) (by kernel_rfl) (fun w S hG => ?_)
  refine (vown (hG.at 4 rfl) (by omega)).mono ?_
  rintro e20 w20 ⟨oa20, oc20, hR⟩
  refine ⟨_, _, _, hR, ?_⟩
  try simp only [List.cons_append, List.nil_append, List.append_nil]
  have hws := in_sum hxy
  by_cases hin : inL xs ys = true
  · skip
    refine JR_callp [] 15 #[.slice oa19 xs.length oc19, .slice oa20 ys.length oc20] (some 110) (by kernel_rfl) (fun w S hG => ?_)
    refine (vwithin (hG.pick [0, 1, 2] rfl) (hG.at 13 rfl) (hG.at 14 rfl) (by omega) (by omega)).mono ?_
    rintro e22 w22 (⟨h2, hR⟩ | ⟨h2, hR⟩)
    · exact absurd hab h2
    rw [hin] at hR
    refine ⟨_, _, _, hR, ?_⟩
    obtain ⟨hle, hlt⟩ := hws hin
    by_cases hl : sumL xs < sumL ys
    · try simp only [List.cons_append, List.nil_append, List.append_nil]
      refine JR_run (id := 14) (rest := []) [.rd 5 [] 0 0, .rd 6 [] 0 0, .rd 7 [] 0 0, .rd 8 [] 0 0, .rd 9 [] 0 0] [0, 1, 4, 10, 11, 16, 17] (E1 := fun _ => [(0, .val (.slice a xs.length ca)), (1, .val (.slice b ys.length cb)), (4, .val (.bool false)), (10, .val (.int .i64 (sumL xs))), (11, .val (.int .i64 (sumL ys))), (16, .val (.bool true)), (17, .val (.nilIface))]) (h1 := fun _ => []) (p1 := fun _ => []) (W1 := []) (fun _ => by kernel_rfl) (fun _ => trivial) (fun _ => ?_)
      refine JR_end ?_
      refine J_seq ?_
      refine J_reg mixed [.rd 0 [] 0 0, .rd 1 [] 0 0, .rd 2 [] 0 0, .rd 3 [] 0 0, .rd 4 [] 0 0, .rd 5 [] 0 0, .rd 6 [] 0 0, .rd 7 [] 0 0, .rd 8 [] 0 6, .rd 9 [] 0 0, .rd 10 [] 0 0, .rd 11 [] 0 0, .rd 12 [] 0 0, .rd 13 [] 0 0, .rd 14 [] 0 0, .rd 15 [] 0 0, .rd 16 [] 0 0, .rd 17 [] 0 6, .rd 18 [] 0 0, .rd 19 [] 0 0, .rd 20 [] 1 0, .rd 21 [] 1 0, .wr 22 [] 1, .rd 23 [] 0 0, .rd 24 [] 0 0, .rd 25 [] 0 0] [] [4] (E1 := fun _ => [(4, .val (.bool true))]) (h1 := fun _ => []) (p1 := fun _ => [decide (sumL xs ≤ sumL ys) = true, decide (sumL xs < sumL ys) = true]) (W1 := []) (by kernel_rfl) (fun _ => by kernel_rfl) (fun _ => ⟨by simpa using ‹_›, by simpa using ‹_›, trivial⟩) (fun _ => ?_)
      refine J_return [[]] (.bool true) (by kernel_rfl) (fun a w s => ?_)
      exact s.ret (by simp) [] [] rfl rfl
    · have hxy2 := hlt.resolve_left hl
      try simp only [List.cons_append, List.nil_append, List.append_nil]
      refine JR_run (id := 14) (rest := []) [.rd 5 [] 0 0, .rd 6 [] 0 0, .rd 7 [] 0 0, .rd 8 [] 0 0, .rd 9 [] 0 0] [0, 1, 4, 10, 11, 16, 17] (E1 := fun _ => [(0, .val (.slice a xs.length ca)), (1, .val (.slice b ys.length cb)), (4, .val (.bool false)), (10, .val (.int .i64 (sumL xs))), (11, .val (.int .i64 (sumL ys))), (16, .val (.bool true)), (17, .val (.nilIface))]) (h1 := fun _ => []) (p1 := fun _ => []) (W1 := []) (fun _ => by kernel_rfl) (fun _ => trivial) (fun _ => ?_)
      refine JR_end ?_
      refine J_seq ?_
      refine JR_begin mixed [(0, true), (1, true), (2, true), (3, true), (4, true), (5, true), (6, true), (7, true), (8, true), (9, true), (10, true), (11, true), (12, true), (13, true), (14, true), (15, true), (16, true), (17, true), (18, true), (19, true), (20, true), (21, true), (22, false), (23, true), (24, true), (25, true)] [] (by kernel_rfl) (by kernel_rfl) ?_
      refine JR_run (id := 15) (rest := [(22, false), (23, true), (24, true), (25, true)]) [.rd 0 [] 0 0, .rd 1 [] 0 0, .rd 2 [] 0 0, .rd 3 [] 0 0, .rd 4 [] 0 0, .rd 5 [] 0 0, .rd 6 [] 0 0, .rd 7 [] 0 0, .rd 8 [] 0 6, .rd 9 [] 0 0, .rd 10 [] 0 0, .rd 11 [] 0 0, .rd 12 [] 0 0, .rd 13 [] 0 0, .rd 14 [] 0 0, .rd 15 [] 0 0, .rd 16 [] 0 0, .rd 17 [] 0 7, .rd 18 [] 0 0, .rd 19 [] 0 0, .rd 20 [] 0 0, .rd 21 [] 0 0] [4, 124, 132, 133, 134] (E1 := fun _ => [(4, .val (.bool false)), (124, .val (.bool true)), (132, .val (.bool false)), (133, .val (.slice a xs.length ca)), (134, .val (.slice b ys.length cb))]) (h1 := fun _ => []) (p1 := fun _ => [decide (sumL xs ≤ sumL ys) = true, decide (sumL xs < sumL ys) = false]) (W1 := []) (fun _ => by kernel_rfl) (fun _ => ⟨by simpa using ‹_›, by simp; omega, trivial⟩) (fun _ => ?_)
      refine JR_callp [] 16 #[.slice a xs.length ca, .slice b ys.length cb] (some 135) (by kernel_rfl) (fun w S hG => ?_)
      refine (sameInts (hG.at 3 rfl) (hG.at 4 rfl) (by omega)).mono ?_
      rintro e40 w40 hR
      rw [decide_eq_true hxy2] at hR
      refine ⟨_, _, _, hR, ?_⟩
      try simp only [List.cons_append, List.nil_append, List.append_nil]
      refine JR_run (id := 15) (rest := []) [.rd 23 [] 0 0, .rd 24 [] 0 0, .rd 25 [] 0 0] [4] (E1 := fun _ => [(4, .val (.bool true))]) (h1 := fun _ => []) (p1 := fun _ => []) (W1 := []) (fun _ => by kernel_rfl) (fun _ => trivial) (fun _ => ?_)
      refine JR_end ?_
      refine J_return [[]] (.bool true) (by kernel_rfl) (fun a w s => ?_)
      exact s.ret (by simp) [] [] rfl rfl
  · skip
    rw [Bool.not_eq_true] at hin
    refine JR_callp [] 15 #[.slice oa19 xs.length oc19, .slice oa20 ys.length oc20] (some 110) (by kernel_rfl) (fun w S hG => ?_)
    refine (vwithin (hG.pick [0, 1, 2] rfl) (hG.at 13 rfl) (hG.at 14 rfl) (by omega) (by omega)).mono ?_
    rintro e23 w23 (⟨h2, hR⟩ | ⟨h2, hR⟩)
    · exact absurd hab h2
    rw [hin] at hR
    refine ⟨_, _, _, hR, ?_⟩
    try simp only [List.cons_append, List.nil_append, List.append_nil]
    refine JR_run (id := 14) (rest := []) [.rd 5 [] 0 0, .rd 6 [] 0 0, .rd 7 [] 0 0, .rd 8 [] 0 0, .rd 9 [] 0 0] [0, 1, 4, 10, 11, 16, 17] (E1 := fun _ => [(0, .val (.slice a xs.length ca)), (1, .val (.slice b ys.length cb)), (4, .val (.bool false)), (10, .val (.int .i64 (sumL xs))), (11, .val (.int .i64 (sumL ys))), (16, .val (.bool false)), (17, .val (.nilIface))]) (h1 := fun _ => []) (p1 := fun _ => []) (W1 := []) (fun _ => by kernel_rfl) (fun _ => trivial) (fun _ => ?_)
    refine JR_end ?_
    refine J_seq ?_
    refine J_reg mixed [.rd 0 [] 0 0, .rd 1 [] 0 0, .rd 2 [] 0 0, .rd 3 [] 0 0, .rd 4 [] 0 0, .rd 5 [] 0 0, .rd 6 [] 1 0, .rd 7 [] 1 0, .rd 8 [] 1 0, .rd 9 [] 0 0, .rd 10 [] 0 0, .rd 11 [] 0 0, .rd 12 [] 0 0, .rd 13 [] 0 0, .rd 14 [] 0 0, .rd 15 [] 1 0, .rd 16 [] 1 0, .rd 17 [] 1 0, .rd 18 [] 0 0, .rd 19 [] 0 0, .rd 20 [] 1 0, .rd 21 [] 1 0, .wr 22 [] 1, .rd 23 [] 0 0, .rd 24 [] 0 0, .rd 25 [] 0 0] [] [4] (E1 := fun _ => [(4, .val (.bool true))]) (h1 := fun _ => []) (p1 := fun _ => []) (W1 := []) (by kernel_rfl) (fun _ => by kernel_rfl) (fun _ => trivial) (fun _ => ?_)
    refine J_return [[]] (.bool true) (by kernel_rfl) (fun a w s => ?_)
    exact s.ret (by simp) [] [] rfl rfl
end Go.Proofs.YtibkfmobofikmaaDoor
