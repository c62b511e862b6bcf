/- StreamHears, walked. -/
import Derived.Test.YtgelnbgjabpdbaaDoorRHear
import Derived.Test.YtgelnbgjabpdbaaDoorHear
import Derived.Test.YtgelnbgjabpdbaaDoorSent
import Derived.Test.YtgelnbgjabpdbaaDoorMsgs
import Derived.Test.YtgelnbgjabpdbaaDoorBacks
import Derived.Test.YtgelnbgjabpdbaaDoorCode
namespace Go.Proofs.YtgelnbgjabpdbaaDoor
open Go Go.Sx

theorem fit_of {m : MsgT} (h : heavyC m.c = 0) : Fit m := by
  unfold heavyC at h
  split at h
  · cases h
  · split at h
    · cases h
    · rename_i h1 h2
      refine ⟨by omega, by omega, fun o ho => ?_⟩
      have h3 : heavyOp o = false := by
        cases h4 : heavyOp o with
        | false => rfl
        | true => exact absurd (List.any_eq_true.2 ⟨o, ho, h4⟩) h2
      simp [heavyOp] at h3
      omega

theorem drain_ok : ∀ (n : Nat) (L : List MsgT) (q t : Int), (∀ y ∈ (Go.Sx.drain n L q t).1, y ∈ L) ∧ (Go.Sx.drain n L q t).2.1.Sublist L ∧ q ≤ (Go.Sx.drain n L q t).2.2.1 ∧ (Go.Sx.drain n L q t).2.2.1 + (Go.Sx.drain n L q t).2.1.length = q + L.length ∧ (Go.Sx.drain n L q t).1.length ≤ L.length
  | 0, L, q, t => by simp [Go.Sx.drain]
  | n + 1, L, q, t => by
    unfold Go.Sx.drain
    cases hk : kept L (q + 1) with
    | none => simp
    | some m =>
      obtain ⟨h1, h2, h3, h4, h5⟩ := drain_ok n (dropK L (q + 1)) (q + 1) m.time
      have hl := dropK_len hk
      refine ⟨fun y hy => ?_, h2.trans (dropK_sub _ _), by simp only; omega, by simp only; omega, by simp; omega⟩
      rcases List.mem_cons.1 hy with rfl | hy
      · exact kept_mem hk
      · exact (dropK_sub _ _).subset (h1 y hy)
theorem hearT_ok {fm to sh : Int} {L : List MsgT} {q t : Int} {m : MsgT} (hd : Dist L) (hq : 0 ≤ q) {p : MsgT → Prop} (hL : ∀ y ∈ L, p y) (hm : p m) :
    Dist (hearT fm to sh ⟨L, q, t⟩ m).2.2.L ∧ 0 ≤ (hearT fm to sh ⟨L, q, t⟩ m).2.2.q ∧ (hearT fm to sh ⟨L, q, t⟩ m).2.2.q + (hearT fm to sh ⟨L, q, t⟩ m).2.2.L.length ≤ q + L.length + 1 ∧ (∀ y ∈ (hearT fm to sh ⟨L, q, t⟩ m).2.2.L, p y) ∧ (∀ y ∈ (hearT fm to sh ⟨L, q, t⟩ m).2.1, p y) ∧ (hearT fm to sh ⟨L, q, t⟩ m).2.1.length ≤ L.length + 1 ∧ (hearT fm to sh ⟨L, q, t⟩ m).1 ≤ 12 := by
  have triv : ∀ k : Nat, k ≤ 12 → Dist L ∧ 0 ≤ q ∧ q + L.length ≤ q + L.length + 1 ∧ (∀ y ∈ L, p y) ∧ (∀ y ∈ ([] : List MsgT), p y) ∧ ([] : List MsgT).length ≤ L.length + 1 ∧ k ≤ 12 := fun k hk => ⟨hd, hq, by omega, hL, by simp, by simp, hk⟩
  have fin : ∀ L1 : List MsgT, Dist L1 → L1.length ≤ L.length + 1 → (∀ y ∈ L1, p y) → Dist (drainAll L1 q t).2.1 ∧ 0 ≤ (drainAll L1 q t).2.2.1 ∧ (drainAll L1 q t).2.2.1 + (drainAll L1 q t).2.1.length ≤ q + L.length + 1 ∧ (∀ y ∈ (drainAll L1 q t).2.1, p y) ∧ (∀ y ∈ (drainAll L1 q t).1, p y) ∧ (drainAll L1 q t).1.length ≤ L.length + 1 ∧ 0 ≤ 12 := fun L1 h1 h2 h3 => by
    obtain ⟨k1, k2, k3, k4, k5⟩ := drain_ok (L1.length + 1) L1 q t
    refine ⟨(k2.map _).nodup h1, ?_, ?_, fun y hy => h3 y (k2.subset hy), fun y hy => h3 y (k1 y hy), ?_, by omega⟩
    · exact Int.le_trans hq k3
    · show (Go.Sx.drain (L1.length + 1) L1 q t).2.2.1 + (Go.Sx.drain (L1.length + 1) L1 q t).2.1.length ≤ _
      omega
    · exact Nat.le_trans k5 h2
  unfold hearT
  split
  · exact triv 3 (by omega)
  split
  · exact triv 2 (by omega)
  split
  · exact triv 0 (by omega)
  split
  · exact triv 7 (by omega)
  cases hk : kept L m.seq with
  | none =>
    exact fin (L ++ [m]) (hd.app hk) (by simp) fun y hy => by
      rcases List.mem_append.1 hy with hy | hy
      · exact hL y hy
      · rw [List.mem_singleton] at hy
        subst hy
        exact hm
  | some x => exact fin L hd (by omega) hL

structure HS where
  i : Int
  L : List MsgT
  q : Int
  t : Int
  a : Option Addr
  k : Nat
  c : Nat
set_option maxHeartbeats 4000000 in
theorem streamHears {w : World} {S : Nat → Prop} {er : Nat → Addr} {eb : Nat → Array Value × TypeId} {a : Option Addr} {n c : Nat} {fm to sh : Int} {l : List MsgT} (hC : Rep w S .nilIface (dC er eb)) (hI : Inj er) (ha : Rep w S (.slice a n c) (.sl 9 (l.map eMsg)))
    (hok : ∀ x ∈ l, -9223372036854775808 ≤ x.seq ∧ x.seq ≤ 9223372036854775807) :
    Calls Tryd.prog 5 #[.int .i64 fm, .int .i64 to, .int .i64 sh, .slice a n c] w fun e w' => Ret [] w S w' e (.bool true) [] [] := by
  have e1 := ha.slen
  rw [List.length_map] at e1
  subst e1
  refine ep5 (args := [.int .i64 fm, .int .i64 to, .int .i64 sh, .slice a l.length c]) (S := S) (G := [(_, dC er eb), (_, .sl 9 (l.map eMsg))]) (by kernel_rfl) (.cons hC (.cons ha (.nil _ _))) ?_
  refine J_seq ?_
  refine J_reg mixed [.rd 0 [] 0 0] [] [0, 1, 2, 3, 8] (E1 := fun _ => [(0, .val (.int .i64 fm)), (1, .val (.int .i64 to)), (2, .val (.int .i64 sh)), (3, .val (.slice a l.length c)), (8, .val (.bool false))]) (h1 := fun _ => []) (p1 := fun _ => []) (W1 := []) (by kernel_rfl) (fun _ => by kernel_rfl) (fun _ => trivial) (fun _ => ?_)
  refine J_seq ?_
  refine JR_begin mixed [(0, false), (1, true)] [] (by kernel_rfl) (by kernel_rfl) ?_
  refine JR_callp [] 7 #[] (some 18) (by kernel_rfl) (fun w S hG => ?_)
  refine (sent (hG.at 0 rfl)).mono ?_
  rintro e1 w1 hR
  refine ⟨_, _, _, hR, ?_⟩
  try simp only [List.cons_append, List.nil_append, List.append_nil]
  refine JR_run (id := 1) (rest := []) [.rd 1 [] 0 0] [0, 1, 2, 3, 8, 9] (E1 := fun _ => [(0, .val (.int .i64 fm)), (1, .val (.int .i64 to)), (2, .val (.int .i64 sh)), (3, .val (.slice a l.length c)), (8, .val (.bool false)), (9, .val (.bool true))]) (h1 := fun _ => []) (p1 := fun _ => []) (W1 := []) (fun _ => by kernel_rfl) (fun _ => trivial) (fun _ => ?_)
  refine JR_end ?_
  refine J_seq ?_
  refine J_seq ?_
  refine JR_begin mixed [(0, true), (1, true), (2, true), (3, true), (4, false), (5, true), (6, true), (7, true), (8, true), (9, true), (10, true), (11, false), (12, true), (13, true)] [] (by kernel_rfl) (by kernel_rfl) ?_
  refine JR_run (id := 2) (rest := [(4, false), (5, true), (6, true), (7, true), (8, true), (9, true), (10, true), (11, false), (12, true), (13, true)]) [.rd 0 [] 0 0, .rd 1 [] 0 0, .rd 2 [] 0 0, .rd 3 [] 0 0] [0, 1, 2, 3, 8, 9, 21, 22] (E1 := fun _ => [(0, .val (.int .i64 fm)), (1, .val (.int .i64 to)), (2, .val (.int .i64 sh)), (3, .val (.slice a l.length c)), (8, .val (.bool false)), (9, .val (.bool true)), (21, .val (.bool false)), (22, .val (.slice a l.length c))]) (h1 := fun _ => []) (p1 := fun _ => []) (W1 := []) (fun _ => by kernel_rfl) (fun _ => trivial) (fun _ => ?_)
  refine JR_callp [] 15 #[.slice a l.length c, .int .i64 60] (some 23) (by kernel_rfl) (fun w S hG => ?_)
  refine (fitMessages (hG.at 1 rfl) (by decide)).mono ?_
  rintro e1 w1 ⟨r, hR, hfit⟩
  refine ⟨_, _, _, hR, ?_⟩
  cases r with
  | false =>
    try simp only [List.cons_append, List.nil_append, List.append_nil]
    refine JR_run (id := 2) (rest := []) [.rd 5 [] 0 0, .rd 6 [] 0 0, .rd 7 [] 0 0, .rd 8 [] 1 0, .rd 9 [] 1 0, .rd 10 [] 1 0, .wr 11 [] 1, .rd 12 [] 1 0, .rd 13 [] 0 0] [0, 1, 2, 3, 8, 9, 32] (E1 := fun _ => [(0, .val (.int .i64 fm)), (1, .val (.int .i64 to)), (2, .val (.int .i64 sh)), (3, .val (.slice a l.length c)), (8, .val (.bool false)), (9, .val (.bool true)), (32, .val (.bool true))]) (h1 := fun _ => []) (p1 := fun _ => []) (W1 := []) (fun _ => by kernel_rfl) (fun _ => trivial) (fun _ => ?_)
    refine JR_end ?_
    refine J_cond_t (by kernel_rfl) (by kernel_rfl) ?_
    refine J_seq ?_
    refine J_reg mixed [.rd 0 [] 0 0, .rd 1 [] 0 0] [] [0, 1, 2, 3, 8] (E1 := fun _ => [(0, .val (.int .i64 fm)), (1, .val (.int .i64 to)), (2, .val (.int .i64 sh)), (3, .val (.slice a l.length c)), (8, .val (.bool true))]) (h1 := fun _ => []) (p1 := fun _ => []) (W1 := []) (by kernel_rfl) (fun _ => by kernel_rfl) (fun _ => trivial) (fun _ => ?_)
    refine J_return [[]] (.bool true) (by kernel_rfl) (fun a w s => ?_)
    exact s.ret (by simp) [] [] rfl rfl
  | true =>
    obtain ⟨hlen, hhv⟩ := hfit rfl
    try simp only [List.cons_append, List.nil_append, List.append_nil]
    refine JR_run (id := 2) (rest := [(11, false), (12, true), (13, true)]) [.rd 5 [] 0 0, .rd 6 [] 0 0, .rd 7 [] 0 0, .rd 8 [] 0 0, .rd 9 [] 0 0, .rd 10 [] 0 0] [0, 1, 2, 3, 8, 9, 26, 27, 28, 29] (E1 := fun _ => [(0, .val (.int .i64 fm)), (1, .val (.int .i64 to)), (2, .val (.int .i64 sh)), (3, .val (.slice a l.length c)), (8, .val (.bool false)), (9, .val (.bool true)), (26, .val (.bool false)), (27, .val (.int .i64 fm)), (28, .val (.int .i64 to)), (29, .val (.int .i64 sh))]) (h1 := fun _ => []) (p1 := fun _ => []) (W1 := []) (fun _ => by kernel_rfl) (fun _ => trivial) (fun _ => ?_)
    refine JR_callp [] 16 #[.int .i64 fm, .int .i64 to, .int .i64 sh] (some 30) (by kernel_rfl) (fun w S hG => ?_)
    refine (wayError (w0 := w) (S := S)).mono ?_
    rintro e1 w1 hR
    refine ⟨_, _, _, hR, ?_⟩
    try simp only [List.cons_append, List.nil_append, List.append_nil]
    refine JR_run (id := 2) (rest := []) [.rd 12 [] 0 0, .rd 13 [] 0 0] [0, 1, 2, 3, 8, 9, 32] (E1 := fun _ => [(0, .val (.int .i64 fm)), (1, .val (.int .i64 to)), (2, .val (.int .i64 sh)), (3, .val (.slice a l.length c)), (8, .val (.bool false)), (9, .val (.bool true)), (32, .val (.bool (decide ((↑(wayErr fm to sh) : Int) > 0))))]) (h1 := fun _ => []) (p1 := fun _ => []) (W1 := []) (fun _ => by kernel_rfl) (fun _ => trivial) (fun _ => ?_)
    refine JR_end ?_
    refine J_cond (t := decide ((↑(wayErr fm to sh) : Int) > 0)) (by kernel_rfl) (by kernel_rfl) (fun hw => ?_) (fun hw => ?_)
    · refine J_seq ?_
      refine J_reg mixed [.rd 0 [] 0 0, .rd 1 [] 0 0] [] [0, 1, 2, 3, 8] (E1 := fun _ => [(0, .val (.int .i64 fm)), (1, .val (.int .i64 to)), (2, .val (.int .i64 sh)), (3, .val (.slice a l.length c)), (8, .val (.bool true))]) (h1 := fun _ => []) (p1 := fun _ => []) (W1 := []) (by kernel_rfl) (fun _ => by kernel_rfl) (fun _ => trivial) (fun _ => ?_)
      refine J_return [[]] (.bool true) (by kernel_rfl) (fun a w s => ?_)
      exact s.ret (by simp) [] [] rfl rfl
    · have hw0 : wayErr fm to sh = 0 := by
        simp at hw
        omega
      refine J_skip ?_
      refine J_seq ?_
      refine JR_begin mixed [(0, true), (1, true), (2, true), (3, false), (4, true), (5, true), (6, true), (7, true), (8, true)] [] (by kernel_rfl) (by kernel_rfl) ?_
      refine JR_run (id := 4) (rest := [(3, false), (4, true), (5, true), (6, true), (7, true), (8, true)]) [.rd 0 [] 0 0, .rd 1 [] 0 0, .rd 2 [] 0 0] [0, 1, 2, 3, 8, 35, 36, 37] (E1 := fun _ => [(0, .val (.int .i64 fm)), (1, .val (.int .i64 to)), (2, .val (.int .i64 sh)), (3, .val (.slice a l.length c)), (8, .val (.bool false)), (35, .val (.int .i64 fm)), (36, .val (.int .i64 to)), (37, .val (.int .i64 sh))]) (h1 := fun _ => []) (p1 := fun _ => []) (W1 := []) (fun _ => by kernel_rfl) (fun _ => trivial) (fun _ => ?_)
      refine JR_callp [] 9 #[.int .i64 fm, .int .i64 to, .int .i64 sh] (some 38) (by kernel_rfl) (fun w S hG => ?_)
      refine (newReceiver (globs_of (hG.at 0 rfl)) hw0).mono ?_
      rintro e1 w1 ⟨b, mb, hR⟩
      refine ⟨_, _, _, hR, ?_⟩
      try simp only [List.cons_append, List.nil_append, List.append_nil]
      refine JR_run (id := 4) (rest := []) [.rd 4 [] 0 0, .rd 5 [] 0 0, .rd 6 [] 0 0, .rd 7 [] 0 0, .rd 8 [] 0 0] [0, 1, 2, 3, 8, 10, 11] (E1 := fun _ => [(0, .val (.int .i64 fm)), (1, .val (.int .i64 to)), (2, .val (.int .i64 sh)), (3, .val (.slice a l.length c)), (8, .val (.bool false)), (10, .val (.pointer (some (⟨b, 0, none⟩)))), (11, .val (.nilIface))]) (h1 := fun _ => []) (p1 := fun _ => []) (W1 := []) (fun _ => by kernel_rfl) (fun _ => trivial) (fun _ => ?_)
      refine JR_end ?_
      refine J_seq ?_
      refine J_seq ?_
      refine J_reg mixed [.rd 0 [] 0 0, .rd 1 [] 0 0, .rd 2 [] 0 0, .rd 3 [] 0 0, .rd 4 [] 0 0, .rd 5 [] 0 0] [] [0, 1, 2, 3, 8, 10, 46] (E1 := fun _ => [(0, .val (.int .i64 fm)), (1, .val (.int .i64 to)), (2, .val (.int .i64 sh)), (3, .val (.slice a l.length c)), (8, .val (.bool false)), (10, .val (.pointer (some (⟨b, 0, none⟩)))), (46, .val (.bool false))]) (h1 := fun _ => []) (p1 := fun _ => []) (W1 := []) (by kernel_rfl) (fun _ => by kernel_rfl) (fun _ => trivial) (fun _ => ?_)
      refine J_cond_f (by kernel_rfl) (by kernel_rfl) ?_
      refine J_skip ?_
      refine J_seq ?_
      refine J_reg mixed [.rd 0 [] 0 0, .rd 1 [] 0 0, .rd 2 [] 0 0, .rd 3 [] 0 0, .wr 4 [] 0, .rd 5 [] 0 0] [] [3, 8, 10, 12] (E1 := fun nu1 => [(3, .val (.slice a l.length c)), (8, .val (.bool false)), (10, .val (.pointer (some (⟨b, 0, none⟩)))), (12, .val (.pointer (some (⟨nu1 0, 0, none⟩))))]) (h1 := fun nu1 => [(nu1 0, .cells #[.int .i64 fm, .int .i64 to, .int .i64 sh, .int .i64 0, .int .i64 0, .slice none 0 0] 53 (0, 0))]) (p1 := fun nu1 => []) (W1 := []) (by kernel_rfl) (fun _ => by kernel_rfl) (fun _ => trivial) (fun nu1 => ?_)
      refine J_seq ?_
      refine J_seq ?_
      refine J_reg mixed [.rd 0 [] 0 0] [] [3, 8, 10, 12, 13] (E1 := fun _ => [(3, .val (.slice a l.length c)), (8, .val (.bool false)), (10, .val (.pointer (some (⟨b, 0, none⟩)))), (12, .val (.pointer (some (⟨nu1 0, 0, none⟩)))), (13, .val (.int .i64 0))]) (h1 := fun _ => [(nu1 0, .cells #[.int .i64 fm, .int .i64 to, .int .i64 sh, .int .i64 0, .int .i64 0, .slice none 0 0] 53 (0, 0))]) (p1 := fun _ => []) (W1 := []) (by kernel_rfl) (fun _ => by kernel_rfl) (fun _ => trivial) (fun _ => ?_)
      refine J_block ?_
      refine J_stp (stp_accm eMsg 55 9) ?_
      refine J_hide 0 rfl ?_
      refine J_loopx (fun x : HS => [(3, .val (.slice a l.length c)), (8, .val (.bool false)), (10, .val (.pointer (some (⟨b, 0, none⟩)))), (12, .val (.pointer (some (⟨nu1 0, 0, none⟩)))), (13, .val (.int .i64 x.i))]) (fun x : HS => []) (fun x : HS => [cObj b (rCells fm to sh x.q x.t mb), cMap mb (.int .i64) (KL x.L), cAcc (.slice x.a x.k x.c) 55 9 (x.L.map eMsg), cObj (nu1 0) (mCells fm to sh x.q x.t (.slice x.a x.k x.c))]) (fun x : HS => [(.nilIface, (dC er eb)), (.slice a l.length c, (D.sl 9 (List.map eMsg l)))]) (fun x : HS => (l.length - x.i).toNat) (fun x : HS => (0 ≤ x.i ∧ x.i ≤ l.length ∧ Dist x.L ∧ 0 ≤ x.q ∧ x.q + x.L.length ≤ x.i ∧ ∀ y ∈ x.L, Fit y)) ⟨0, [], 0, 0, none, 0, 0⟩ [3, 8, 10, 12, 13] [] [0, 1, 2, 3] [0, 1] ?_ (by kernel_rfl) rfl rfl rfl ?_
      · exact ⟨by simp, by simp, by simp [Dist], by simp, by simp, by simp⟩
      rintro ⟨i, L, q, t, a5, k5, c5⟩ ⟨hi0, hi, hd, hq, hqL, hfit⟩
      dsimp only at hi0 hi hd hq hqL hfit ⊢
      refine J_seq ?_
      refine J_seq ?_
      refine J_reg mixed [.rd 0 [] 0 0, .rd 1 [] 0 0, .rd 2 [] 0 0, .rd 3 [] 0 0] [] [3, 8, 10, 12, 13, 55] (E1 := fun _ => [(3, .val (.slice a l.length c)), (8, .val (.bool false)), (10, .val (.pointer (some (⟨b, 0, none⟩)))), (12, .val (.pointer (some (⟨nu1 0, 0, none⟩)))), (13, .val (.int .i64 i)), (55, .val (.bool (decide (i < (↑l.length : Int)))))]) (h1 := fun _ => []) (p1 := fun _ => []) (W1 := []) (by kernel_rfl) (fun _ => by kernel_rfl) (fun _ => trivial) (fun _ => ?_)
      refine J_cond (t := decide (i < (↑l.length : Int))) (by kernel_rfl) (by kernel_rfl) (fun hlt => ?_) (fun hlt => ?_)
      · have hlt2 : i < l.length := by simpa using hlt
        obtain ⟨x, hx⟩ : ∃ x, l[i.toNat]? = some x := ⟨_, List.getElem?_eq_getElem (by omega)⟩
        have hxf : Fit x := fit_of (hhv x (List.mem_of_getElem? hx))
        obtain ⟨f1, f2, f3⟩ := hxf
        have hsq := hok x (List.mem_of_getElem? hx)
        refine J_read2 1 rfl i.toNat (map_at hx) (by kernel_rfl) (fun b1 off1 cs1 ty1 fz1 a1_0 c1_0 a1_1 c1_1 ha1 hrd1 => ?_)
        cases ha1
        have hrd1_0 := rd0 (hrd1 0 _ rfl)
        have hrd1_1 := hrd1 1 _ rfl
        have hrd1_2 := hrd1 2 _ rfl
        have hrd1_3 := hrd1 3 _ rfl
        have hrd1_4 := hrd1 4 _ rfl
        have hrd1_5 := hrd1 5 _ rfl
        have hrd1_6 := hrd1 6 _ rfl
        have hrd1_7 := hrd1 7 _ rfl
        have hrd1_8 := hrd1 8 _ rfl
        try simp only [List.cons_append, List.nil_append, List.append_nil]
        refine J_skip ?_
        refine J_seq ?_
        refine J_block ?_
        refine J_seq ?_
        refine JR_begin mixed [(0, true), (1, true), (2, true), (3, true), (4, true), (5, false), (6, false), (7, true), (8, true), (9, true), (10, true), (11, true)] [] (by kernel_rfl) (by kernel_rfl) ?_
        refine JR_run (id := 11) (rest := [(5, false), (6, false), (7, true), (8, true), (9, true), (10, true), (11, true)]) [.rd 0 [] 0 0, .rd 1 [] 0 0, .rd 2 [] 0 0, .rd 3 [] 0 2, .rd 4 [.r 0 (some (.int .i64 x.fm)), .r 0 (some (.int .i64 x.to)), .r 0 (some (.int .i64 x.shard)), .r 0 (some (.int .i64 x.seq)), .r 0 (some (.int .i64 x.time)), .r 0 (some (.bool x.beat)), .r 0 (some (.slice (a1_0, c1_0).fst ((List.map eI x.c.when).length) c1_0)), .r 0 (some (.int .i64 x.c.place)), .r 0 (some (.slice (a1_1, c1_1).fst ((List.map eOp x.c.ops).length) c1_1))] 0 0] [3, 8, 10, 12, 13, 59, 63] (E1 := fun _ => [(3, .val (.slice (some (⟨b1, off1, none⟩)) l.length c)), (8, .val (.bool false)), (10, .val (.pointer (some (⟨b, 0, none⟩)))), (12, .val (.pointer (some (⟨nu1 0, 0, none⟩)))), (13, .val (.int .i64 i)), (59, .val (.pointer (some (⟨b, 0, none⟩)))), (63, .val (.agg #[.int .i64 x.fm, .int .i64 x.to, .int .i64 x.shard, .int .i64 x.seq, .int .i64 x.time, .bool x.beat, .slice (a1_0, c1_0).fst ((List.map eI x.c.when).length) c1_0, .int .i64 x.c.place, .slice (a1_1, c1_1).fst ((List.map eOp x.c.ops).length) c1_1]))]) (h1 := fun _ => []) (p1 := fun _ => [(0 : Int) ≤ i, i < (↑l.length : Int), cs1[off1 + i.toNat * (9 : Nat)]? = some (Value.int IntKind.i64 x.fm), cs1[off1 + i.toNat * (9 : Nat) + (1 : Nat)]? = some (Value.int IntKind.i64 x.to), cs1[off1 + i.toNat * (9 : Nat) + (2 : Nat)]? = some (Value.int IntKind.i64 x.shard), cs1[off1 + i.toNat * (9 : Nat) + (3 : Nat)]? = some (Value.int IntKind.i64 x.seq), cs1[off1 + i.toNat * (9 : Nat) + (4 : Nat)]? = some (Value.int IntKind.i64 x.time), cs1[off1 + i.toNat * (9 : Nat) + (5 : Nat)]? = some (Value.bool x.beat), cs1[off1 + i.toNat * (9 : Nat) + (6 : Nat)]? = some (Value.slice (a1_0, c1_0).fst (List.map eI x.c.when).length (a1_0, c1_0).snd), cs1[off1 + i.toNat * (9 : Nat) + (7 : Nat)]? = some (Value.int IntKind.i64 x.c.place), cs1[off1 + i.toNat * (9 : Nat) + (8 : Nat)]? = some (Value.slice (a1_1, c1_1).fst (List.map eOp x.c.ops).length (a1_1, c1_1).snd)]) (W1 := []) (fun _ => by kernel_rfl) (fun _ => ⟨hi0, hlt2, hrd1_0, hrd1_1, hrd1_2, hrd1_3, hrd1_4, hrd1_5, hrd1_6, hrd1_7, hrd1_8, trivial⟩) (fun _ => ?_)
        refine JR_callp [] 17 #[.agg #[.int .i64 x.fm, .int .i64 x.to, .int .i64 x.shard, .int .i64 x.seq, .int .i64 x.time, .bool x.beat, .slice (a1_0, c1_0).fst ((List.map eI x.c.when).length) c1_0, .int .i64 x.c.place, .slice (a1_1, c1_1).fst ((List.map eOp x.c.ops).length) c1_1]] (some 64) (by kernel_rfl) (fun w S hG => ?_)
        refine (wireOf (m := x) (hG.at 2 rfl) (hG.at 3 rfl) f1 f2 f3).mono ?_
        rintro e2 w2 ⟨u1, k1, d1, u2, k2, d2, hR⟩
        refine ⟨_, _, _, hR, ?_⟩
        try simp only [List.cons_append, List.nil_append, List.append_nil]
        refine JR_call [] [0, 1] 11 #[.pointer (some (⟨b, 0, none⟩)), .agg #[.int .i64 x.fm, .int .i64 x.to, .int .i64 x.shard, .int .i64 x.seq, .int .i64 x.time, .bool x.beat, .slice u1 k1 d1, .int .i64 x.c.place, .slice u2 k2 d2]] (some 65) (by kernel_rfl) (by kernel_rfl) (by decide) (fun w S M hP hG _ => ?_)
        refine (hear (m := x) (hG.at 0 rfl) hP hd (hG.at 4 rfl) (hG.at 5 rfl) f1 f2 f3 hq (by omega) hsq).mono ?_
        rintro e2 w2 ⟨u3, n3, d3, v3, hR, hv3⟩
        obtain ⟨o1, o2, o3, o4, o5, o6, o7⟩ := hearT_ok (fm := fm) (to := to) (sh := sh) (t := t) (m := x) hd hq hfit ⟨f1, f2, f3⟩
        obtain ⟨T, hT⟩ : ∃ T, T = hearT fm to sh ⟨L, q, t⟩ x := ⟨_, rfl⟩
        rw [← hT] at hR hv3 o1 o2 o3 o4 o5 o6 o7
        refine ⟨_, _, _, hR, ?_⟩
        try simp only [List.cons_append, List.nil_append, List.append_nil]
        refine JR_run (id := 11) (rest := []) [.rd 7 [] 0 0, .rd 8 [] 0 0, .rd 9 [] 0 0, .rd 10 [] 0 0, .rd 11 [] 0 0] [3, 8, 10, 12, 13, 14, 15] (E1 := fun _ => [(3, .val (.slice (some (⟨b1, off1, none⟩)) l.length c)), (8, .val (.bool false)), (10, .val (.pointer (some (⟨b, 0, none⟩)))), (12, .val (.pointer (some (⟨nu1 0, 0, none⟩)))), (13, .val (.int .i64 i)), (14, .val (.slice u3 n3 d3)), (15, .val (v3))]) (h1 := fun _ => []) (p1 := fun _ => []) (W1 := []) (fun _ => by kernel_rfl) (fun _ => trivial) (fun _ => ?_)
        try simp only [List.cons_append, List.nil_append, List.append_nil]
        refine JR_end ?_
        try simp only [List.cons_append, List.nil_append, List.append_nil]
        refine J_seq ?_
        try simp only [List.cons_append, List.nil_append, List.append_nil]
        refine JR_begin mixed [(0, true), (1, true), (2, true), (3, true), (4, true), (5, false), (6, true), (7, true), (8, true), (9, true), (10, true)] [] (by kernel_rfl) (by kernel_rfl) ?_
        refine JR_run (id := 12) (rest := [(5, false), (6, true), (7, true), (8, true), (9, true), (10, true)]) [.rd 0 [] 0 0, .rd 1 [] 0 0, .rd 2 [] 0 0, .rd 3 [] 0 2, .rd 4 [.r 0 (some (.int .i64 x.fm)), .r 0 (some (.int .i64 x.to)), .r 0 (some (.int .i64 x.shard)), .r 0 (some (.int .i64 x.seq)), .r 0 (some (.int .i64 x.time)), .r 0 (some (.bool x.beat)), .r 0 (some (.slice (a1_0, c1_0).fst ((List.map eI x.c.when).length) c1_0)), .r 0 (some (.int .i64 x.c.place)), .r 0 (some (.slice (a1_1, c1_1).fst ((List.map eOp x.c.ops).length) c1_1))] 0 0] [3, 8, 10, 12, 13, 14, 15, 69, 73] (E1 := fun _ => [(3, .val (.slice (some (⟨b1, off1, none⟩)) l.length c)), (8, .val (.bool false)), (10, .val (.pointer (some (⟨b, 0, none⟩)))), (12, .val (.pointer (some (⟨nu1 0, 0, none⟩)))), (13, .val (.int .i64 i)), (14, .val (.slice u3 n3 d3)), (15, .val (v3)), (69, .val (.pointer (some (⟨nu1 0, 0, none⟩)))), (73, .val (.agg #[.int .i64 x.fm, .int .i64 x.to, .int .i64 x.shard, .int .i64 x.seq, .int .i64 x.time, .bool x.beat, .slice (a1_0, c1_0).fst ((List.map eI x.c.when).length) c1_0, .int .i64 x.c.place, .slice (a1_1, c1_1).fst ((List.map eOp x.c.ops).length) c1_1]))]) (h1 := fun _ => []) (p1 := fun _ => [(0 : Int) ≤ i, i < (↑l.length : Int), cs1[off1 + i.toNat * (9 : Nat)]? = some (Value.int IntKind.i64 x.fm), cs1[off1 + i.toNat * (9 : Nat) + (1 : Nat)]? = some (Value.int IntKind.i64 x.to), cs1[off1 + i.toNat * (9 : Nat) + (2 : Nat)]? = some (Value.int IntKind.i64 x.shard), cs1[off1 + i.toNat * (9 : Nat) + (3 : Nat)]? = some (Value.int IntKind.i64 x.seq), cs1[off1 + i.toNat * (9 : Nat) + (4 : Nat)]? = some (Value.int IntKind.i64 x.time), cs1[off1 + i.toNat * (9 : Nat) + (5 : Nat)]? = some (Value.bool x.beat), cs1[off1 + i.toNat * (9 : Nat) + (6 : Nat)]? = some (Value.slice (a1_0, c1_0).fst (List.map eI x.c.when).length (a1_0, c1_0).snd), cs1[off1 + i.toNat * (9 : Nat) + (7 : Nat)]? = some (Value.int IntKind.i64 x.c.place), cs1[off1 + i.toNat * (9 : Nat) + (8 : Nat)]? = some (Value.slice (a1_1, c1_1).fst (List.map eOp x.c.ops).length (a1_1, c1_1).snd)]) (W1 := []) (fun _ => by kernel_rfl) (fun _ => ⟨hi0, hlt2, hrd1_0, hrd1_1, hrd1_2, hrd1_3, hrd1_4, hrd1_5, hrd1_6, hrd1_7, hrd1_8, trivial⟩) (fun _ => ?_)
        refine JR_call [] [1, 0] 18 #[.pointer (some (⟨nu1 0, 0, none⟩)), .agg #[.int .i64 x.fm, .int .i64 x.to, .int .i64 x.shard, .int .i64 x.seq, .int .i64 x.time, .bool x.beat, .slice (a1_0, c1_0).fst ((List.map eI x.c.when).length) c1_0, .int .i64 x.c.place, .slice (a1_1, c1_1).fst ((List.map eOp x.c.ops).length) c1_1]] (some 74) (by kernel_rfl) (by kernel_rfl) (by decide) (fun w S M hP hG _ => ?_)
        refine (refHear (m := x) hP hd (hG.at 2 rfl) (hG.at 3 rfl) hq (by omega)).mono ?_
        rintro e2 w2 ⟨u4, n4, d4, u5, n5, d5, hR⟩
        rw [← hT] at hR
        refine ⟨_, _, _, hR, ?_⟩
        try simp only [List.cons_append, List.nil_append, List.append_nil]
        refine JR_run (id := 12) (rest := []) [.rd 6 [] 0 0, .rd 7 [] 0 0, .rd 8 [] 0 0, .rd 9 [] 0 0, .rd 10 [] 0 0] [3, 8, 10, 12, 13, 14, 15, 16, 17] (E1 := fun _ => [(3, .val (.slice (some (⟨b1, off1, none⟩)) l.length c)), (8, .val (.bool false)), (10, .val (.pointer (some (⟨b, 0, none⟩)))), (12, .val (.pointer (some (⟨nu1 0, 0, none⟩)))), (13, .val (.int .i64 i)), (14, .val (.slice u3 n3 d3)), (15, .val (v3)), (16, .val (.slice u4 n4 d4)), (17, .val (.int .i64 (↑T.fst : Int)))]) (h1 := fun _ => []) (p1 := fun _ => []) (W1 := []) (fun _ => by kernel_rfl) (fun _ => trivial) (fun _ => ?_)
        try simp only [List.cons_append, List.nil_append, List.append_nil]
        refine JR_end ?_
        try simp only [List.cons_append, List.nil_append, List.append_nil]
        refine J_seq ?_
        try simp only [List.cons_append, List.nil_append, List.append_nil]
        refine J_show 2 rfl ?_
        refine J_norm (C' := [cObj b (.cells #[.int .i64 fm, .int .i64 to, .int .i64 sh, .int .i64 T.snd.snd.q, .int .i64 T.snd.snd.t, .map (some mb)] 89 (0, 0)), (cMap mb (TypeDesc.int IntKind.i64) (KL T.snd.snd.L)), cAcc (.slice u5 n5 d5) 55 9 (List.map eMsg T.snd.snd.L)]) (G' := [(.nilIface, (dC er eb)), (.slice (some (⟨b1, off1, none⟩)) l.length c, (D.sl 9 (List.map eMsg l))), (.slice (a1_0, c1_0).fst ((List.map eI x.c.when).length) c1_0, (D.sl 1 (List.map eI x.c.when))), (.slice (a1_1, c1_1).fst ((List.map eOp x.c.ops).length) c1_1, (D.sl 7 (List.map eOp x.c.ops))), (.slice u1 k1 d1, (dInts x.c.when)), (.slice u2 k2 d2, (D.sl 7 (List.map eOp x.c.ops))), (.slice u3 n3 d3, (D.sl 9 (List.map eMsg T.snd.fst))), (.slice u4 n4 d4, (D.sl 9 (List.map eMsg T.snd.fst)))]) (by kernel_rfl) (by kernel_rfl) ?_
        refine JR_begin mixed [(0, true), (1, true), (2, false), (3, true), (4, true), (5, true), (7, true), (6, false), (8, false), (9, true), (10, true), (11, true), (12, true), (14, true), (15, true), (16, true), (17, true), (13, false), (18, true), (19, true), (20, true), (21, true), (23, true), (24, true), (25, true), (26, true), (22, false), (27, true), (28, true)] [(13, []), (22, [])] (by kernel_rfl) (by kernel_rfl) ?_
        refine JR_run (id := 13) (rest := [(2, false), (3, true), (4, true), (5, true), (7, true), (6, false), (8, false), (9, true), (10, true), (11, true), (12, true), (14, true), (15, true), (16, true), (17, true), (13, false), (18, true), (19, true), (20, true), (21, true), (23, true), (24, true), (25, true), (26, true), (22, false), (27, true), (28, true)]) [.rd 0 [] 0 0, .rd 1 [] 0 0] [3, 8, 10, 12, 13, 14, 15, 16, 17, 77, 78] (E1 := fun _ => [(3, .val (.slice (some (⟨b1, off1, none⟩)) l.length c)), (8, .val (.bool false)), (10, .val (.pointer (some (⟨b, 0, none⟩)))), (12, .val (.pointer (some (⟨nu1 0, 0, none⟩)))), (13, .val (.int .i64 i)), (14, .val (.slice u3 n3 d3)), (15, .val (v3)), (16, .val (.slice u4 n4 d4)), (17, .val (.int .i64 (↑T.fst : Int))), (77, .val (v3)), (78, .val (.int .i64 (↑T.fst : Int)))]) (h1 := fun _ => [(nu1 0, .cells #[.int .i64 fm, .int .i64 to, .int .i64 sh, .int .i64 T.snd.snd.q, .int .i64 T.snd.snd.t, .slice u5 n5 d5] 53 (0, 0))]) (p1 := fun _ => []) (W1 := [(13, []), (22, [])]) (fun _ => by kernel_rfl) (fun _ => trivial) (fun _ => ?_)
        refine JR_callp [] 19 #[v3, .int .i64 (↑T.fst : Int)] (some 79) (by kernel_rfl) (fun w S hG => ?_)
        refine (codedErr (c := T.1) (hG.at 0 rfl) hI o7 hv3).mono ?_
        rintro e2 w2 hR
        rw [decide_eq_true rfl] at hR
        refine ⟨_, _, _, hR, ?_⟩
        try simp only [List.cons_append, List.nil_append, List.append_nil]
        refine JR_run (id := 13) (rest := [(6, false), (8, false), (9, true), (10, true), (11, true), (12, true), (14, true), (15, true), (16, true), (17, true), (13, false), (18, true), (19, true), (20, true), (21, true), (23, true), (24, true), (25, true), (26, true), (22, false), (27, true), (28, true)]) [.rd 3 [] 0 0, .rd 4 [] 0 0, .rd 5 [] 0 0, .rd 7 [] 0 0] [3, 8, 10, 12, 13, 14, 15, 16, 17, 81, 82, 84] (E1 := fun _ => [(3, .val (.slice (some (⟨b1, off1, none⟩)) l.length c)), (8, .val (.bool false)), (10, .val (.pointer (some (⟨b, 0, none⟩)))), (12, .val (.pointer (some (⟨nu1 0, 0, none⟩)))), (13, .val (.int .i64 i)), (14, .val (.slice u3 n3 d3)), (15, .val (v3)), (16, .val (.slice u4 n4 d4)), (17, .val (.int .i64 (↑T.fst : Int))), (81, .val (.bool false)), (82, .val (.slice u3 n3 d3)), (84, .val (.slice u4 n4 d4))]) (h1 := fun _ => [(nu1 0, .cells #[.int .i64 fm, .int .i64 to, .int .i64 sh, .int .i64 T.snd.snd.q, .int .i64 T.snd.snd.t, .slice u5 n5 d5] 53 (0, 0))]) (p1 := fun _ => []) (W1 := [(13, []), (22, [])]) (fun _ => by kernel_rfl) (fun _ => trivial) (fun _ => ?_)
        refine JR_callp [] 21 #[.slice u3 n3 d3] (some 83) (by kernel_rfl) (fun w S hG => ?_)
        refine (backWires (hG.at 6 rfl) (by omega)).mono ?_
        rintro e2 w2 ⟨u6, n6, d6, hR⟩
        refine ⟨_, _, _, hR, ?_⟩
        try simp only [List.cons_append, List.nil_append, List.append_nil]
        refine JR_callp [] 20 #[.slice u6 n6 d6, .slice u4 n4 d4] (some 85) (by kernel_rfl) (fun w S hG => ?_)
        refine (sameMessages_eq (hG.at 8 rfl) (hG.at 7 rfl) (by omega) o5).mono ?_
        rintro e2 w2 hR
        refine ⟨_, _, _, hR, ?_⟩
        try simp only [List.cons_append, List.nil_append, List.append_nil]
        refine JR_run (id := 13) (rest := [(13, false), (18, true), (19, true), (20, true), (21, true), (23, true), (24, true), (25, true), (26, true), (22, false), (27, true), (28, true)]) [.rd 9 [] 0 0, .rd 10 [] 0 0, .rd 11 [] 0 0, .rd 12 [] 0 0, .rd 14 [] 0 0, .rd 15 [] 0 0, .rd 16 [] 0 0, .rd 17 [.o 0 none] 0 0] [3, 8, 10, 12, 13, 14, 15, 16, 17, 88, 89, 94] (E1 := fun _ => [(3, .val (.slice (some (⟨b1, off1, none⟩)) l.length c)), (8, .val (.bool false)), (10, .val (.pointer (some (⟨b, 0, none⟩)))), (12, .val (.pointer (some (⟨nu1 0, 0, none⟩)))), (13, .val (.int .i64 i)), (14, .val (.slice u3 n3 d3)), (15, .val (v3)), (16, .val (.slice u4 n4 d4)), (17, .val (.int .i64 (↑T.fst : Int))), (88, .val (.bool false)), (89, .val (.pointer (some (⟨b, 0, none⟩)))), (94, .val (.int .i64 T.snd.snd.q))]) (h1 := fun _ => [(nu1 0, .cells #[.int .i64 fm, .int .i64 to, .int .i64 sh, .int .i64 T.snd.snd.q, .int .i64 T.snd.snd.t, .slice u5 n5 d5] 53 (0, 0))]) (p1 := fun _ => []) (W1 := [(13, []), (22, [])]) (fun _ => by kernel_rfl) (fun _ => trivial) (fun _ => ?_)
        refine JR_call [] [0] 13 #[.pointer (some (⟨b, 0, none⟩))] (some 90) (by kernel_rfl) (by kernel_rfl) (by decide) (fun w S M hP hG _ => ?_)
        refine (rSeq hP).mono ?_
        rintro e2 w2 hR
        refine ⟨_, _, _, hR, ?_⟩
        try simp only [List.cons_append, List.nil_append, List.append_nil]
        refine JR_run (id := 13) (rest := [(22, false), (27, true), (28, true)]) [.rd 18 [] 0 7, .rd 19 [] 0 0, .rd 20 [] 0 0, .rd 21 [] 0 0, .rd 23 [] 0 0, .rd 24 [] 0 0, .rd 25 [] 0 0, .rd 26 [.o 0 none] 0 0] [3, 8, 10, 12, 13, 14, 15, 16, 17, 97, 98, 103] (E1 := fun _ => [(3, .val (.slice (some (⟨b1, off1, none⟩)) l.length c)), (8, .val (.bool false)), (10, .val (.pointer (some (⟨b, 0, none⟩)))), (12, .val (.pointer (some (⟨nu1 0, 0, none⟩)))), (13, .val (.int .i64 i)), (14, .val (.slice u3 n3 d3)), (15, .val (v3)), (16, .val (.slice u4 n4 d4)), (17, .val (.int .i64 (↑T.fst : Int))), (97, .val (.bool false)), (98, .val (.pointer (some (⟨b, 0, none⟩)))), (103, .val (.int .i64 T.snd.snd.t))]) (h1 := fun _ => [(nu1 0, .cells #[.int .i64 fm, .int .i64 to, .int .i64 sh, .int .i64 T.snd.snd.q, .int .i64 T.snd.snd.t, .slice u5 n5 d5] 53 (0, 0))]) (p1 := fun _ => [(T.snd.snd.q != T.snd.snd.q) = false]) (W1 := [(22, [])]) (fun _ => by kernel_rfl) (fun _ => ⟨by simp, trivial⟩) (fun _ => ?_)
        try simp only [List.cons_append, List.nil_append, List.append_nil]
        refine JR_call [] [2] 22 #[.pointer (some (⟨b, 0, none⟩))] (some 99) (by kernel_rfl) (by kernel_rfl) (by decide) (fun w S M hP hG _ => ?_)
        refine (rTime hP).mono ?_
        rintro e2 w2 hR
        refine ⟨_, _, _, hR, ?_⟩
        try simp only [List.cons_append, List.nil_append, List.append_nil]
        refine JR_run (id := 13) (rest := []) [.rd 27 [] 0 7, .rd 28 [] 0 0] [3, 8, 10, 12, 13, 14, 15, 16, 17, 105] (E1 := fun _ => [(3, .val (.slice (some (⟨b1, off1, none⟩)) l.length c)), (8, .val (.bool false)), (10, .val (.pointer (some (⟨b, 0, none⟩)))), (12, .val (.pointer (some (⟨nu1 0, 0, none⟩)))), (13, .val (.int .i64 i)), (14, .val (.slice u3 n3 d3)), (15, .val (v3)), (16, .val (.slice u4 n4 d4)), (17, .val (.int .i64 (↑T.fst : Int))), (105, .val (.bool false))]) (h1 := fun _ => [(nu1 0, .cells #[.int .i64 fm, .int .i64 to, .int .i64 sh, .int .i64 T.snd.snd.q, .int .i64 T.snd.snd.t, .slice u5 n5 d5] 53 (0, 0))]) (p1 := fun _ => [(T.snd.snd.t != T.snd.snd.t) = false]) (W1 := []) (fun _ => by kernel_rfl) (fun _ => ⟨by simp, trivial⟩) (fun _ => ?_)
        try simp only [List.cons_append, List.nil_append, List.append_nil]
        refine JR_end ?_
        try simp only [List.cons_append, List.nil_append, List.append_nil]
        refine J_cond_f (by kernel_rfl) (by kernel_rfl) ?_
        try simp only [List.cons_append, List.nil_append, List.append_nil]
        refine J_skip ?_
        try simp only [List.cons_append, List.nil_append, List.append_nil]
        refine J_eb ?_
        try simp only [List.cons_append, List.nil_append, List.append_nil]
        refine J_reg mixed [.rd 0 [] 0 0, .rd 1 [] 0 1, .rd 2 [] 0 0] [] [3, 8, 10, 12, 13, 14, 15, 16, 17] (E1 := fun _ => [(3, .val (.slice (some (⟨b1, off1, none⟩)) l.length c)), (8, .val (.bool false)), (10, .val (.pointer (some (⟨b, 0, none⟩)))), (12, .val (.pointer (some (⟨nu1 0, 0, none⟩)))), (13, .val (.int .i64 (i + 1))), (14, .val (.slice u3 n3 d3)), (15, .val (v3)), (16, .val (.slice u4 n4 d4)), (17, .val (.int .i64 (↑T.fst : Int)))]) (h1 := fun _ => [(nu1 0, .cells #[.int .i64 fm, .int .i64 to, .int .i64 sh, .int .i64 T.snd.snd.q, .int .i64 T.snd.snd.t, .slice u5 n5 d5] 53 (0, 0))]) (p1 := fun _ => [IntKind.i64.wrap (i + (1 : Int)) = i + (1 : Int)]) (W1 := []) (by kernel_rfl) (fun _ => by kernel_rfl) (fun _ => ⟨wrap_i64 (by omega) (by omega), trivial⟩) (fun _ => ?_)
        try simp only [List.cons_append, List.nil_append, List.append_nil]
        refine J_hide 0 rfl ?_
        refine J_norm (C' := [(cMap mb (TypeDesc.int IntKind.i64) (KL T.snd.snd.L)), cAcc (.slice u5 n5 d5) 55 9 (List.map eMsg T.snd.snd.L), cObj b (.cells #[.int .i64 fm, .int .i64 to, .int .i64 sh, .int .i64 T.snd.snd.q, .int .i64 T.snd.snd.t, .map (some mb)] 89 (0, 0)), cObj (nu1 0) (.cells #[.int .i64 fm, .int .i64 to, .int .i64 sh, .int .i64 T.snd.snd.q, .int .i64 T.snd.snd.t, .slice u5 n5 d5] 53 (0, 0))]) (G' := [(.nilIface, (dC er eb)), (.slice (some (⟨b1, off1, none⟩)) l.length c, (D.sl 9 (List.map eMsg l))), (.slice a1_0 ((List.map eI x.c.when).length) c1_0, (D.sl 1 (List.map eI x.c.when))), (.slice a1_1 ((List.map eOp x.c.ops).length) c1_1, (D.sl 7 (List.map eOp x.c.ops))), (.slice u1 k1 d1, (dInts x.c.when)), (.slice u2 k2 d2, (D.sl 7 (List.map eOp x.c.ops))), (.slice u3 n3 d3, (D.sl 9 (List.map eMsg T.snd.fst))), (.slice u4 n4 d4, (D.sl 9 (List.map eMsg T.snd.fst))), (.slice u6 n6 d6, (D.sl 9 (List.map eMsg T.snd.fst)))]) (by kernel_rfl) (by kernel_rfl) ?_
        refine J_backx ⟨i + 1, T.2.2.L, T.2.2.q, T.2.2.t, u5, n5, d5⟩ [3, 8, 10, 12, 13] [] [2, 0, 1, 3] [0, 1] ?_ ?_ (by kernel_rfl) rfl rfl rfl
        · exact ⟨by simp only; omega, by simp only; omega, o1, o2, by simp only; omega, o4⟩
        · simp only
          omega
      · refine J_exit rfl ?_
        refine J_seq ?_
        refine J_reg mixed [.rd 0 [] 0 0] [] [8] (E1 := fun _ => [(8, .val (.bool true))]) (h1 := fun _ => []) (p1 := fun _ => []) (W1 := []) (by kernel_rfl) (fun _ => by kernel_rfl) (fun _ => trivial) (fun _ => ?_)
        refine J_return [[]] (.bool true) (by kernel_rfl) (fun a w s => ?_)
        exact s.ret (by simp) [] [] rfl rfl
end Go.Proofs.YtgelnbgjabpdbaaDoor
