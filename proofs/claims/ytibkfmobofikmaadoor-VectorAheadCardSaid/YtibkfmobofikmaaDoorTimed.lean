/- vector.Text at numbers below a hundred; the closed fact 'timed'. -/
import Derived.Test.YtibkfmobofikmaaDoorVec3
import Derived.Test.YtibkfmobofikmaaDoorShelf
namespace Go.Proofs.YtibkfmobofikmaaDoor
open Go Go.Sx Go.RowKit

/-- What the library's contracts leave. -/
theorem ret_below {w w' : World} {S : Nat → Prop} {e : Ending} {v : Value} (he : e = .returned v) (h : Below w.heap.size w w') : Ret [] w S w' e v [] [] :=
  ⟨he, ⟨h.os, h.tape, h.output, h.size, fun b hb _ => h.block b hb⟩, [], trivial, by simp, by simp, by simp⟩
theorem ret_same {w w' : World} {S : Nat → Prop} {e : Ending} {v : Value} (he : e = .returned v) (h : w' = w) : Ret [] w S w' e v [] [] := ret_below he (h ▸ Below.refl _ _)

theorem join_len (sep : List UInt8) (m : Nat) : ∀ xs : List (List UInt8), (∀ x ∈ xs, x.length ≤ m) → (Lib.join xs sep).length ≤ xs.length * (m + sep.length)
  | [], _ => by simp [Lib.join_nil]
  | x :: r, h => by
    rw [Lib.join_cons, List.length_append]
    have hx := h x (List.mem_cons_self ..)
    have key : ∀ r : List (List UInt8), (∀ y ∈ r, y.length ≤ m) → (Lib.joinTail sep r).length ≤ r.length * (m + sep.length) := by
      intro r
      induction r with
      | nil => intro _; simp [Lib.joinTail]
      | cons y r ih =>
        intro hr
        have h1 := ih fun z hz => hr z (List.mem_cons_of_mem _ hz)
        have h2 := hr y (List.mem_cons_self ..)
        unfold Lib.joinTail at h1 ⊢
        rw [List.map_cons, List.flatten_cons, List.length_append, List.length_append, List.length_cons, Nat.succ_mul]
        omega
    have := key r fun y hy => h y (List.mem_cons_of_mem _ hy)
    rw [List.length_cons, Nat.succ_mul]
    omega

theorem vjoin {w : World} {S : Nat → Prop} {a : Option Addr} {n c : Nat} {l : List ByteArray} {sep : ByteArray} (h : Rep w S (.slice a n c) (dStrs l)) (hl : l.length ≤ 1000) (hm : ∀ s ∈ l, s.data.toList.length ≤ 1000000) (hsep : sep.data.toList.length ≤ 1000) :
    Calls Tryd.prog 55 #[.slice a n c, .string sep] w fun e w' => Ret [] w S w' e (.string ⟨(Lib.join (l.map (·.data.toList)) sep.data.toList).toArray⟩) [] [] := by
  have hlen := h.slen
  rw [List.length_map] at hlen
  subst hlen
  by_cases hne : l = []
  · subst hne
    exact (Tryd.strings_Join_none a c sep w).mono fun e w' ⟨he, hw⟩ => ret_same he hw
  · obtain ⟨b, off, cap, cs, ety, fz, hx, hhb, hS, hle, hk, hl2, news, hnl, hnc, hn1, hnr⟩ := h.cells (by simpa using hne)
    rw [List.length_map] at hx hle
    injection hx with hx1 hx2 hx3
    subst hx1 hx3
    refine (Tryd.strings_Join b off c l sep w (fun j x hj => ?_) (Array.getElem?_eq_some_iff.1 hhb).1 (by omega) hle ?_).mono fun e w' ⟨he, hw⟩ => ret_below he hw
    · obtain ⟨u, hu, hr⟩ := hnr j 0 _ _ (map_at hj) rfl
      rw [Nat.mul_one, Nat.add_zero] at hu
      have := hnc j u hu
      obtain rfl := hr.plain
      exact cell_of rfl hhb rfl this
    · refine Nat.le_trans (join_len _ 1000000 _ fun y hy => ?_) ?_
      · obtain ⟨s, hs, rfl⟩ := List.mem_map.1 hy
        exact hm s hs
      · rw [List.length_map]
        calc l.length * (1000000 + sep.data.toList.length) ≤ 1000 * (1000000 + 1000) := Nat.mul_le_mul hl (by omega)
          _ ≤ 140737488355328 := by decide

def smallText (xs : List Int) : List ByteArray := xs.map fun t => ⟨(Lib.decDigits t.toNat).toArray⟩

theorem vtextSmall {w : World} {S : Nat → Prop} {er : Nat → Addr} {a : Option Addr} {n c : Nat} {xs : List Int} (hE : AllG w S (globs er)) (ha : Rep w S (.slice a n c) (dInts xs)) (h0 : vecErr xs = 0) (hsm : ∀ t ∈ xs, 0 ≤ t ∧ t < 100) :
    Calls Tryd.prog 28 #[.slice a n c] w fun e w' => Ret [] w S w' e (.tuple #[.string ⟨(Lib.join ((smallText xs).map (·.data.toList)) [46]).toArray⟩, .nilIface]) [] [] := by
  obtain rfl := rep_ints_len ha
  have h6 := vecErr_len h0
  refine ep28 (args := [.slice a xs.length c]) (G := globs er ++ [(_, dInts xs)]) (by kernel_rfl) (hE.app (.cons ha (.nil _ _))) ?_
  try simp only [List.cons_append, List.nil_append, List.append_nil]
  refine J_seq ?_
  refine J_reg mixed [.rd 0 [] 0 0, .rd 1 [] 0 0] [] [0, 2, 3] (E1 := fun _ => [(0, .val (.slice a xs.length c)), (2, .val (.string (ByteArray.mk #[]))), (3, .val (.nilIface))]) (h1 := fun _ => []) (p1 := fun _ => []) (W1 := []) (by kernel_rfl) (fun _ => by kernel_rfl) (fun _ => trivial) (fun _ => ?_)
  refine J_seq ?_
  refine J_seq ?_
  refine JR_begin mixed [(0, true), (1, false), (2, true)] [] (by kernel_rfl) (by kernel_rfl) ?_
  refine JR_run (id := 1) (rest := [(1, false), (2, true)]) [.rd 0 [] 0 0] [0, 2, 3, 8] (E1 := fun _ => [(0, .val (.slice a xs.length c)), (2, .val (.string (ByteArray.mk #[]))), (3, .val (.nilIface)), (8, .val (.slice a xs.length c))]) (h1 := fun _ => []) (p1 := fun _ => []) (W1 := []) (fun _ => by kernel_rfl) (fun _ => trivial) (fun _ => ?_)
  refine JR_callp [] 21 #[.slice a xs.length c] (some 9) (by kernel_rfl) (fun w S hG => ?_)
  refine (vcheck (hG.pick [0, 1, 2] rfl) (hG.at 3 rfl) (by omega)).mono ?_
  rintro e w2 ⟨v, hR, ⟨h2, rfl⟩ | ⟨h2, rfl⟩⟩
  · refine ⟨_, _, _, hR, ?_⟩
    try simp only [List.cons_append, List.nil_append, List.append_nil]
    refine JR_run (id := 1) (rest := []) [.rd 2 [] 0 0] [0, 2, 3, 4] (E1 := fun _ => [(0, .val (.slice a xs.length c)), (2, .val (.string (ByteArray.mk #[]))), (3, .val (.nilIface)), (4, .val (.nilIface))]) (h1 := fun _ => []) (p1 := fun _ => []) (W1 := []) (fun _ => by kernel_rfl) (fun _ => trivial) (fun _ => ?_)
    refine JR_end ?_
    refine J_seq ?_
    refine J_reg mixed [.rd 0 [] 0 0, .rd 1 [] 0 0] [] [0, 2, 3, 4, 11] (E1 := fun _ => [(0, .val (.slice a xs.length c)), (2, .val (.string (ByteArray.mk #[]))), (3, .val (.nilIface)), (4, .val (.nilIface)), (11, .val (.bool false))]) (h1 := fun _ => []) (p1 := fun _ => []) (W1 := []) (by kernel_rfl) (fun _ => by kernel_rfl) (fun _ => trivial) (fun _ => ?_)
    refine J_cond_f (by kernel_rfl) (by kernel_rfl) ?_
    refine J_skip ?_
    refine J_seq ?_
    refine J_reg mixed [.rd 0 [] 0 0] [] [0, 2, 3, 5] (E1 := fun _ => [(0, .val (.slice a xs.length c)), (2, .val (.string (ByteArray.mk #[]))), (3, .val (.nilIface)), (5, .val (.slice none 0 0))]) (h1 := fun _ => []) (p1 := fun _ => []) (W1 := []) (by kernel_rfl) (fun _ => by kernel_rfl) (fun _ => trivial) (fun _ => ?_)
    refine J_seq ?_
    refine J_seq ?_
    refine J_reg mixed [.rd 0 [] 0 0, .rd 1 [] 0 0, .rd 2 [] 0 0] [] [2, 3, 5, 13, 14, 15] (E1 := fun _ => [(2, .val (.string (ByteArray.mk #[]))), (3, .val (.nilIface)), (5, .val (.slice none 0 0)), (13, .val (.slice a xs.length c)), (14, .val (.int .i64 (↑xs.length : Int))), (15, .val (.int .i64 0))]) (h1 := fun _ => []) (p1 := fun _ => []) (W1 := []) (by kernel_rfl) (fun _ => by kernel_rfl) (fun _ => trivial) (fun _ => ?_)
    refine J_block ?_
    refine J_stp (stp_accm eS 9 1) ?_
    refine J_loopx (fun x : AccI => [(2, .val (.string (ByteArray.mk #[]))), (3, .val (.nilIface)), (5, .val (.slice x.a x.k x.c)), (13, .val (.slice a xs.length c)), (14, .val (.int .i64 (↑xs.length : Int))), (15, .val (.int .i64 x.i))]) (fun x : AccI => []) (fun x : AccI => [cAcc (.slice x.a x.k x.c) 9 1 ((List.take x.i.toNat (smallText xs)).map eS)]) (fun x : AccI => [(.nilIface, (D.v Value.nilIface)), (.pointer (some (⟨1, 0, none⟩)), (D.ptr [D.v (Value.iface 94 (Value.pointer (some (er 2))))])), (.pointer (some (⟨2, 0, none⟩)), (D.ptr [D.v (Value.iface 94 (Value.pointer (some (er 3))))])), (.slice a xs.length c, (dInts xs))]) (fun x : AccI => (xs.length - x.i).toNat) (fun x : AccI => (0 ≤ x.i ∧ x.i ≤ xs.length)) ⟨0, none, 0, 0⟩ [2, 3, 5, 13, 14, 15] [] [0] [0, 1, 2, 3] ?_ (by kernel_rfl) rfl rfl rfl ?_
    · exact ⟨by simp, by simp⟩
    rintro ⟨i, av, k, cv⟩ ⟨hi0, hi⟩
    dsimp only at hi0 hi ⊢
    refine J_stpx (stp_acclen 0 rfl) fun _ hk => ?_
    have hk2 : k ≤ 6 := by simp [smallText] at hk; omega
    refine J_seq ?_
    refine J_reg mixed [.rd 0 [] 0 0] [] [2, 3, 5, 13, 14, 15, 16] (E1 := fun _ => [(2, .val (.string (ByteArray.mk #[]))), (3, .val (.nilIface)), (5, .val (.slice av k cv)), (13, .val (.slice a xs.length c)), (14, .val (.int .i64 (↑xs.length : Int))), (15, .val (.int .i64 i)), (16, .val (.bool (decide (i < (↑xs.length : Int)))))]) (h1 := fun _ => []) (p1 := fun _ => []) (W1 := []) (by kernel_rfl) (fun _ => by kernel_rfl) (fun _ => trivial) (fun _ => ?_)
    refine J_seq ?_
    refine J_cond (t := decide (i < (↑xs.length : Int))) (by kernel_rfl) (by kernel_rfl) (fun hlt => ?_) (fun hlt => ?_)
    · have hlt2 : i < xs.length := by simpa using hlt
      obtain ⟨x, hx⟩ : ∃ x, xs[i.toNat]? = some x := ⟨_, List.getElem?_eq_getElem (by omega)⟩
      obtain ⟨hx0, hx1⟩ := hsm x (List.mem_of_getElem? hx)
      obtain ⟨y, rfl⟩ : ∃ y : Nat, x = y := ⟨x.toNat, by omega⟩
      refine J_read0 3 rfl i.toNat (map_at hx) (by kernel_rfl) (fun b1 off1 cs1 ty1 fz1 ha1 hrd1 => ?_)
      cases ha1
      have hrd1_0 := rd0 (hrd1 0 _ rfl)
      try simp only [List.cons_append, List.nil_append, List.append_nil]
      refine J_skip ?_
      refine J_seq ?_
      refine J_block ?_
      refine J_seq ?_
      refine J_reg mixed [.rd 0 [] 0 2, .rd 1 [.r 0 (some (.int .i64 (↑y : Int)))] 0 0, .rd 2 [] 0 0] [] [2, 3, 5, 7, 13, 14, 15] (E1 := fun _ => [(2, .val (.string (ByteArray.mk #[]))), (3, .val (.nilIface)), (5, .val (.slice av k cv)), (7, .val (.int .i64 (↑y : Int))), (13, .val (.slice (some (⟨b1, off1, none⟩)) xs.length c)), (14, .val (.int .i64 (↑xs.length : Int))), (15, .val (.int .i64 i))]) (h1 := fun _ => []) (p1 := fun _ => [(0 : Int) ≤ i, i < (↑xs.length : Int), cs1[off1 + i.toNat * (1 : Nat)]? = some (Value.int IntKind.i64 (↑y : Int))]) (W1 := []) (by kernel_rfl) (fun _ => by kernel_rfl) (fun _ => ⟨hi0, hlt2, hrd1_0, trivial⟩) (fun _ => ?_)
      refine JR_begin mixed [(0, true), (1, true), (2, false), (3, false), (4, false), (5, true)] [] (by kernel_rfl) (by kernel_rfl) ?_
      refine JR_run (id := 8) (rest := [(2, false), (3, false), (4, false), (5, true)]) [.rd 0 [] 0 0, .rd 1 [] 0 0] [2, 3, 5, 7, 13, 14, 15, 19, 20] (E1 := fun _ => [(2, .val (.string (ByteArray.mk #[]))), (3, .val (.nilIface)), (5, .val (.slice av k cv)), (7, .val (.int .i64 (↑y : Int))), (13, .val (.slice (some (⟨b1, off1, none⟩)) xs.length c)), (14, .val (.int .i64 (↑xs.length : Int))), (15, .val (.int .i64 i)), (19, .val (.slice av k cv)), (20, .val (.int .i64 (↑y : Int)))]) (h1 := fun _ => []) (p1 := fun _ => []) (W1 := []) (fun _ => by kernel_rfl) (fun _ => trivial) (fun _ => ?_)
      refine JR_callp [] 54 #[.int .i64 (↑y : Int)] (some 21) (by kernel_rfl) (fun w S hG => ?_)
      refine (Tryd.strconv_Itoa_small y (by omega) w).mono ?_
      rintro e w3 ⟨he, hw⟩
      refine ⟨_, _, _, ret_same he hw, ?_⟩
      try simp only [List.cons_append, List.nil_append, List.append_nil]
      refine JR_run (id := 8) (rest := [(4, false), (5, true)]) [.wr 3 [] 0] [2, 3, 5, 7, 13, 14, 15, 19, 22] (E1 := fun nu1 => [(2, .val (.string (ByteArray.mk #[]))), (3, .val (.nilIface)), (5, .val (.slice av k cv)), (7, .val (.int .i64 (↑y : Int))), (13, .val (.slice (some (⟨b1, off1, none⟩)) xs.length c)), (14, .val (.int .i64 (↑xs.length : Int))), (15, .val (.int .i64 i)), (19, .val (.slice av k cv)), (22, .val (.slice (some (⟨nu1 0, 0, none⟩)) 1 1))]) (h1 := fun nu1 => [(nu1 0, .cells #[.string (ByteArray.mk (Lib.decDigits y).toArray)] 9 (0, 0))]) (p1 := fun nu1 => []) (W1 := []) (fun _ => by kernel_rfl) (fun _ => trivial) (fun nu1 => ?_)
      refine JR_appm 0 85 9 1 16 (.string (ByteArray.mk #[])) (a0 := av) (len := k) (cap0 := cv) (ax := (some (⟨nu1 0, 0, none⟩))) (m := 1) (c := 1) (dst := (some 23)) [(⟨(Lib.decDigits y).toArray⟩ : ByteArray)] (by kernel_rfl) (by kernel_rfl) (by kernel_rfl) (by kernel_rfl) rfl (by decide) rfl (fun _ _ _ s => src_one s 0 rfl rfl ⟨.inl ⟨rfl, rfl⟩, trivial⟩) (by simp only [maxLen]; omega) (by omega) (fun av1 cv1 => ?_)
      try simp only [List.cons_append, List.nil_append, List.append_nil]
      refine JR_run (id := 8) (rest := []) [.rd 5 [] 0 0] [2, 3, 5, 7, 13, 14, 15] (E1 := fun _ => [(2, .val (.string (ByteArray.mk #[]))), (3, .val (.nilIface)), (5, .val (.slice av1 (k + 1) cv1)), (7, .val (.int .i64 (↑y : Int))), (13, .val (.slice (some (⟨b1, off1, none⟩)) xs.length c)), (14, .val (.int .i64 (↑xs.length : Int))), (15, .val (.int .i64 i))]) (h1 := fun _ => [(nu1 0, .cells #[.string (ByteArray.mk (Lib.decDigits y).toArray)] 9 (0, 0))]) (p1 := fun _ => []) (W1 := []) (fun _ => by kernel_rfl) (fun _ => trivial) (fun _ => ?_)
      try simp only [List.cons_append, List.nil_append, List.append_nil]
      refine JR_end ?_
      try simp only [List.cons_append, List.nil_append, List.append_nil]
      refine J_eb ?_
      try simp only [List.cons_append, List.nil_append, List.append_nil]
      refine J_reg mixed [.rd 0 [] 0 1, .rd 1 [] 0 0] [] [2, 3, 5, 7, 13, 14, 15] (E1 := fun _ => [(2, .val (.string (ByteArray.mk #[]))), (3, .val (.nilIface)), (5, .val (.slice av1 (k + 1) cv1)), (7, .val (.int .i64 (↑y : Int))), (13, .val (.slice (some (⟨b1, off1, none⟩)) xs.length c)), (14, .val (.int .i64 (↑xs.length : Int))), (15, .val (.int .i64 (i + 1)))]) (h1 := fun _ => [(nu1 0, .cells #[.string (ByteArray.mk (Lib.decDigits y).toArray)] 9 (0, 0))]) (p1 := fun _ => [IntKind.i64.wrap (i + (1 : Int)) = i + (1 : Int)]) (W1 := []) (by kernel_rfl) (fun _ => by kernel_rfl) (fun _ => ⟨wrap_i64 (by omega) (by omega), trivial⟩) (fun _ => ?_)
      try simp only [List.cons_append, List.nil_append, List.append_nil]
      rw [take_snoc (l := smallText xs) hi0 (by simp [smallText, hx])]
      refine J_backx ⟨i + 1, av1, k + 1, cv1⟩ [2, 3, 5, 13, 14, 15] [] [0] [0, 1, 2, 3] ?_ ?_ (by kernel_rfl) rfl rfl rfl
      · exact ⟨by simp only; omega, by simp only; omega⟩
      · simp only
        omega
    · have e1 : List.take i.toNat (smallText xs) = smallText xs := List.take_of_length_le (by simp [smallText] at hlt ⊢; omega)
      rw [e1]
      refine J_stp (stp_freeze 0 rfl) ?_
      try simp only [List.cons_append, List.nil_append, List.append_nil]
      refine J_exit rfl ?_
      refine J_seq ?_
      refine JR_begin mixed [(0, true), (1, false), (2, true), (3, true)] [] (by kernel_rfl) (by kernel_rfl) ?_
      refine JR_run (id := 10) (rest := [(1, false), (2, true), (3, true)]) [.rd 0 [] 0 0] [2, 3, 25] (E1 := fun _ => [(2, .val (.string (ByteArray.mk #[]))), (3, .val (.nilIface)), (25, .val (.slice av k cv))]) (h1 := fun _ => []) (p1 := fun _ => []) (W1 := []) (fun _ => by kernel_rfl) (fun _ => trivial) (fun _ => ?_)
      refine JR_callp [] 55 #[.slice av k cv, .string (ByteArray.mk #[46])] (some 26) (by kernel_rfl) (fun w S hG => ?_)
      refine (vjoin (hG.at 4 rfl) (by simp [smallText]; omega) (fun s hs => ?_) (by decide)).mono ?_
      · obtain ⟨t, ht, rfl⟩ := List.mem_map.1 hs
        obtain ⟨ht0, ht1⟩ := hsm t ht
        simp only [List.toList_toArray]
        by_cases h10 : t.toNat < 10
        · rw [Lib.decDigits_one h10]
          simp
        · rw [Lib.decDigits_two h10 (by omega)]
          simp
      · rintro e w3 hR
        refine ⟨_, _, _, hR, ?_⟩
        try simp only [List.cons_append, List.nil_append, List.append_nil]
        refine JR_run (id := 10) (rest := []) [.rd 2 [] 0 0, .rd 3 [] 0 0] [2, 3] (E1 := fun _ => [(2, .val (.string (ByteArray.mk (Lib.join (List.map (fun x => x.data.toList) (smallText xs)) [46]).toArray))), (3, .val (.nilIface))]) (h1 := fun _ => []) (p1 := fun _ => []) (W1 := []) (fun _ => by kernel_rfl) (fun _ => trivial) (fun _ => ?_)
        refine JR_end ?_
        refine J_return [[], []] (.tuple #[.string (ByteArray.mk (Lib.join (List.map (fun x => x.data.toList) (smallText xs)) [46]).toArray), .nilIface]) (by kernel_rfl) (fun a w s => ?_)
        exact s.ret (by simp) [] [] rfl rfl
  · exact absurd h0 h2

theorem vtimed {w : World} {S : Nat → Prop} {er : Nat → Addr} (hE : AllG w S (globs er)) :
    Calls Tryd.prog 11 #[] w fun e w' => Ret [] w S w' e (.bool true) [] [] := by
  refine ep11 (args := []) (G := globs er) (by kernel_rfl) hE ?_
  refine J_seq ?_
  refine J_reg mixed [.rd 0 [] 0 0] [] [0] (E1 := fun _ => [(0, .val (.bool false))]) (h1 := fun _ => []) (p1 := fun _ => []) (W1 := []) (by kernel_rfl) (fun _ => by kernel_rfl) (fun _ => trivial) (fun _ => ?_)
  refine J_seq ?_
  refine JR_begin mixed [(0, false), (1, false), (2, true), (3, true), (4, true), (5, true), (6, true)] [] (by kernel_rfl) (by kernel_rfl) ?_
  refine JR_run (id := 1) (rest := [(1, false), (2, true), (3, true), (4, true), (5, true), (6, true)]) [.wr 0 [] 0] [0, 4] (E1 := fun nu1 => [(0, .val (.bool false)), (4, .val (.slice (some (⟨nu1 0, 0, none⟩)) 3 3))]) (h1 := fun nu1 => [(nu1 0, .cells #[.int .i64 1, .int .i64 0, .int .i64 25] 3 (0, 0))]) (p1 := fun nu1 => []) (W1 := []) (fun _ => by kernel_rfl) (fun _ => trivial) (fun nu1 => ?_)
  refine JR_data (size := 1) 0 eI [1, 0, 25] 3 rfl (by kernel_rfl) (by decide) (by intro x _; rfl) (by decide) ⟨.inl ⟨rfl, rfl⟩, ⟨.inl ⟨rfl, rfl⟩, ⟨.inl ⟨rfl, rfl⟩, trivial⟩⟩⟩ ?_
  refine JR_callp [] 28 #[.slice (some (⟨nu1 0, 0, none⟩)) 3 3] (some 5) (by kernel_rfl) (fun w S hG => ?_)
  refine (vtextSmall (hG.pick [0, 1, 2] rfl) (hG.at 3 rfl) (by decide) (by decide)).mono ?_
  rintro e w3 hR
  have e1 : (⟨(Lib.join ((smallText [1, 0, 25]).map (·.data.toList)) [46]).toArray⟩ : ByteArray) = ⟨#[49, 46, 48, 46, 50, 53]⟩ := by decide +kernel
  rw [e1] at hR
  refine ⟨_, _, _, hR, ?_⟩
  try simp only [List.cons_append, List.nil_append, List.append_nil]
  refine JR_run (id := 1) (rest := []) [.rd 2 [] 0 0, .rd 3 [] 0 0, .rd 4 [] 0 0, .rd 5 [] 0 0, .rd 6 [] 0 0] [0, 1, 2] (E1 := fun _ => [(0, .val (.bool false)), (1, .val (.string (ByteArray.mk #[49, 46, 48, 46, 50, 53]))), (2, .val (.nilIface))]) (h1 := fun _ => []) (p1 := fun _ => []) (W1 := []) (fun _ => by kernel_rfl) (fun _ => trivial) (fun _ => ?_)
  refine JR_end ?_
  refine J_seq ?_
  refine JR_begin mixed [(0, true), (1, true), (2, true), (3, true), (4, true), (5, true), (6, true), (7, false), (8, false), (9, true), (10, true), (11, true)] [] (by kernel_rfl) (by kernel_rfl) ?_
  refine JR_run (id := 2) (rest := [(8, false), (9, true), (10, true), (11, true)]) [.rd 0 [] 0 0, .rd 1 [] 0 0, .rd 2 [] 0 0, .rd 3 [] 0 0, .rd 4 [] 0 0, .rd 5 [] 0 0, .rd 6 [] 0 0, .wr 7 [] 0] [0, 14, 15] (E1 := fun nu2 => [(0, .val (.bool false)), (14, .val (.bool true)), (15, .val (.slice (some (⟨nu2 0, 0, none⟩)) 1 1))]) (h1 := fun nu2 => [(nu2 0, .cells #[.int .i64 0] 3 (0, 0))]) (p1 := fun nu2 => []) (W1 := []) (fun _ => by kernel_rfl) (fun _ => trivial) (fun nu2 => ?_)
  refine JR_data (size := 1) 0 eI [0] 1 rfl (by kernel_rfl) (by decide) (by intro x _; rfl) (by decide) ⟨.inl ⟨rfl, rfl⟩, trivial⟩ ?_
  refine JR_callp [] 21 #[.slice (some (⟨nu2 0, 0, none⟩)) 1 1] (some 16) (by kernel_rfl) (fun w S hG => ?_)
  refine (vcheck (hG.pick [0, 1, 2] rfl) (hG.at 4 rfl) (by decide)).mono ?_
  rintro e w2 ⟨v, hR, ⟨h2, rfl⟩ | ⟨h2, rfl⟩⟩
  · refine ⟨_, _, _, hR, ?_⟩
    try simp only [List.cons_append, List.nil_append, List.append_nil]
    refine JR_run (id := 2) (rest := []) [.rd 9 [] 0 0, .rd 10 [] 0 0, .rd 11 [] 0 0] [0] (E1 := fun _ => [(0, .val (.bool true))]) (h1 := fun _ => []) (p1 := fun _ => []) (W1 := []) (fun _ => by kernel_rfl) (fun _ => trivial) (fun _ => ?_)
    refine JR_end ?_
    refine J_return [[]] (.bool true) (by kernel_rfl) (fun a w s => ?_)
    exact s.ret (by simp) [] [] rfl rfl
  · exact absurd (by decide) h2
end Go.Proofs.YtibkfmobofikmaaDoor
