/- The law's own, the document's errors; the document's numbers and texts; 'timed'. -/
import Derived.Test.YtahbmdchcbnolaaDoorVtX
import Derived.Test.YtahbmdchcbnolaaDoorMz
namespace Go.Proofs.YtahbmdchcbnolaaDoor
open Go Go.Sx Go.RowKit

set_option maxHeartbeats 4000000 in
theorem vown {w : World} {S : Nat → Prop} {a : Option Addr} {n c : Nat} {xs : List Int} (ha : Rep w S (.slice a n c) (dInts xs)) (hl : xs.length ≤ 1000000) :
    Calls Tryd.prog 6 #[.slice a n c] w fun e w' => ∃ a' c', Ret [] w S w' e (.slice a' n c') [] [(.slice a' n c', dInts xs)] := by
  obtain rfl := rep_ints_len ha
  refine ep6 (args := [.slice a xs.length c]) (G := [(_, dInts xs)]) (by kernel_rfl) (.cons ha (.nil _ _)) ?_
  refine J_stp (stp_accm eI 3 1) ?_
  try simp only [aQ]
  refine J_seq ?_
  refine Za [.rd 0 [] 0 0] [] [(2, .val (.slice none 0 0))] ?_
  refine J_seq ?_
  refine Za [.rd 0 [] 0 0] [] [(3, .val (.slice none 0 0))] ?_
  refine J_seq ?_
  refine jT [(0, true), (1, true), (2, false), (3, true)] [] ?_
  refine Ya [.rd 0 [] 0 0, .rd 1 [] 0 0] [3, 0] [(4, .val (.slice none 0 0)), (5, .val (.slice a xs.length c))] ?_
  refine JR_appm 0 22 3 1 8 (.int .i64 0) (a0 := none) (len := 0) (cap0 := 0) (ax := a) (m := xs.length) (c := c) (dst := (some 6)) xs (by kernel_rfl) (by kernel_rfl) (by kernel_rfl) (by kernel_rfl) rfl (by decide) rfl (fun _ _ _ s => src_fact s 0 rfl (by decide)) (by simp only [maxLen]; omega) (by omega) (fun av1 cv1 => ?_)
  rw [Nat.zero_add]
  try simp only [aQ]
  refine Ya [.rd 3 [] 0 0] [6, 4, 5] [(2, .val (.slice av1 xs.length cv1))] ?_
  try simp only [aQ]
  refine JR_end ?_
  try simp only [aQ]
  refine Yr [[]] (.slice av1 xs.length cv1) fun a w s => ?_
  exact ⟨av1, cv1, (s.stp (stp_freeze 0 rfl)).ret (by simp) [] [1] rfl rfl⟩
set_option maxHeartbeats 4000000 in
theorem rVecErr {w : World} {S : Nat → Prop} {a : Option Addr} {n c : Nat} {xs : List Int} (ha : Rep w S (.slice a n c) (dInts xs)) (hl : xs.length ≤ 1000000) :
    Calls Tryd.prog 7 #[.slice a n c] w fun e w' => Ret [] w S w' e (.int .i64 (vecErr xs)) [] [] := by
  obtain rfl := rep_ints_len ha
  refine ep7 (args := [.slice a xs.length c]) (G := [(_, dInts xs)]) (by kernel_rfl) (.cons ha (.nil _ _)) ?_
  refine J_seq ?_
  refine Za [.rd 0 [] 0 0] [] [(2, .val (.int .i64 0))] ?_
  refine J_seq ?_
  refine J_seq ?_
  refine Za (Rds 0 4 ++ [.rd 4 [] 2 0, .rd 5 [] 2 0, .rd 6 [] 2 0, .rd 7 [] 0 3]) [] [(11, .val (.bool (decide ((↑xs.length : Int) < 1) || decide ((↑xs.length : Int) > 6))))] ?_
  refine J_cond (t := decide ((↑xs.length : Int) < 1) || decide ((↑xs.length : Int) > 6)) (by kernel_rfl) (by kernel_rfl) (fun hn => ?_) (fun hn => ?_)
  · refine J_seq ?_
    refine Za [.rd 0 [] 0 0] [11] [(2, .val (.int .i64 3))] ?_
    refine Yr [[]] (.int .i64 3) fun a w s => ?_
    have e1 : vecErr xs = 3 := by rw [vecErr, if_pos (by simp at hn; omega)]
    rw [e1]
    exact s.ret (by simp) [] [] rfl rfl
  · have hn2 : ¬ (xs.length < 1 ∨ 6 < xs.length) := by simp at hn; omega
    refine J_skip ?_
    refine J_seq ?_
    refine J_seq ?_
    refine Za [.rd 0 [] 0 0] [11] [(3, .val (.int .i64 0))] ?_
    refine J_block ?_
    refine J_loopx (fun i : Int => [(0, .val (.slice a xs.length c)), (2, .val (.int .i64 0)), (3, .val (.int .i64 i))]) (fun i : Int => []) (fun i : Int => []) (fun i : Int => [(.slice a xs.length c, (dInts xs))]) (fun i : Int => (xs.length - i).toNat) (fun i : Int => (0 ≤ i ∧ i ≤ xs.length ∧ ∀ j : Nat, j < i.toNat → ∀ t, xs[j]? = some t → badT t = false)) 0 [0, 2, 3] [] [] [0] ?_ (by kernel_rfl) rfl rfl rfl ?_
    · exact ⟨by simp, by omega, by simp⟩
    rintro i ⟨hi0, hi, hno⟩
    refine J_seq ?_
    refine J_seq ?_
    refine Za (Rds 0 4) [] [(15, .val (.bool (decide (i < (↑xs.length : Int)))))] ?_
    refine J_cond (t := decide (i < (↑xs.length : Int))) (by kernel_rfl) (by kernel_rfl) (fun hlt => ?_) (fun hlt => ?_)
    · have hlt2 : i < xs.length := by simpa using hlt
      obtain ⟨x, hx⟩ : ∃ x, xs[i.toNat]? = some x := ⟨_, List.getElem?_eq_getElem (by omega)⟩
      refine J_read0 0 rfl i.toNat (map_at hx) (by kernel_rfl) (fun b1 off1 cs1 ty1 fz1 ha1 hrd1 => ?_)
      cases ha1
      have hrd1_0 := rd0 (hrd1 0 _ rfl)
      try simp only [aQ]
      refine J_skip ?_
      refine J_seq ?_
      refine J_block ?_
      refine J_seq ?_
      refine Zp [.rd 0 [] 0 0, .rd 1 [] 0 0, .rd 2 [] 0 2, .rd 3 [.r 0 (some (.int .i64 x))] 0 0, .rd 4 [] 0 0, .rd 5 [] 0 0, .rd 6 [] 2 0, .rd 7 [] 2 0, .rd 8 [] 2 2, .rd 9 [.r 0 (some (.int .i64 x))] 2 0, .rd 10 [] 2 0, .rd 11 [] 0 3] [15] [(29, .val (.bool (decide (x < 0) || decide (x > 1099511627776))))] (oC hi0 (oC hlt2 (oC hrd1_0 (oC (show (decide (x < 0)) = false → (0 : Int) ≤ i from (fun _ => hi0)) (oC (show (decide (x < 0)) = false → i < (↑xs.length : Int) from (fun _ => hlt2)) (oC (show (decide (x < 0)) = false → cs1[off1 + i.toNat * (1 : Nat)]? = some (Value.int IntKind.i64 x) from (fun _ => hrd1_0)) oN)))))) ?_
      refine J_cond (t := decide (x < 0) || decide (x > 1099511627776)) (by kernel_rfl) (by kernel_rfl) (fun hb => ?_) (fun hb => ?_)
      · refine J_seq ?_
        refine Za [.rd 0 [] 0 0] [29] [(2, .val (.int .i64 2))] ?_
        refine Yr [[]] (.int .i64 2) fun a w s => ?_
        have e1 : vecErr xs = 2 := by rw [vecErr, if_neg hn2, if_pos (List.any_eq_true.2 ⟨x, List.mem_of_getElem? hx, hb⟩)]
        rw [e1]
        exact s.ret (by simp) [] [] rfl rfl
      · refine J_skip ?_
        refine J_eb ?_
        refine Zp [.rd 0 [] 0 0, .rd 1 [] 0 1, .rd 2 [] 0 0] [29] [(3, .val (.int .i64 (i + 1)))] (oC (show IntKind.i64.wrap (i + (1 : Int)) = i + (1 : Int) from wrap_i64 (by omega) (by omega)) oN) ?_
        refine J_backx (i + 1) [0, 2, 3] [] [] [0] ?_ ?_ (by kernel_rfl) rfl rfl rfl
        · refine ⟨by omega, by omega, fun j hj t ht => ?_⟩
          by_cases hji : j = i.toNat
          · subst hji
            rw [hx] at ht
            cases ht
            exact hb
          · exact hno j (by omega) t ht
        · omega
    · refine J_exit rfl ?_
      refine J_seq ?_
      refine Za [.rd 0 [] 0 0] [15, 0, 3] [] ?_
      refine Yr [[]] (.int .i64 0) fun a w s => ?_
      have e1 : vecErr xs = 0 := by
        rw [vecErr, if_neg hn2, if_neg]
        rw [Bool.not_eq_true, List.any_eq_false]
        intro t ht
        obtain ⟨j, hj⟩ := List.getElem?_of_mem ht
        have hjl := (List.getElem?_eq_some_iff.1 hj).1
        simp [hno j (by simp at hlt; omega) t hj]
      rw [e1]
      exact s.ret (by simp) [] [] rfl rfl
set_option maxHeartbeats 4000000 in
theorem vtimed {w : World} {S : Nat → Prop} {er : Nat → Addr} {o : Obj} {e1 e2 : Value} (hE : AllG w S (globs er)) (hT : Rep w S .nilIface (dT o e1 e2)) (ho : TabO o e1 e2) :
    Calls Tryd.prog 4 #[] w fun e w' => Ret [] (zero w) S w' e (.bool true) [] [] := by
  refine ep4 (args := []) (G := globs er ++ [(_, dT o e1 e2)]) (by kernel_rfl) (hE.app (.cons hT (.nil _ _))) ?_
  refine J_zero ?_
  try simp only [aQ]
  refine J_seq ?_
  refine Za [.rd 0 [] 0 0] [] [(0, .val (.bool false))] ?_
  refine J_seq ?_
  refine jT [(0, false), (1, false), (2, true), (3, true), (4, true), (5, true), (6, true)] [] ?_
  refine Ym [.wr 0 [] 0] [] (fun nu1 => [(4, .val (.slice (some (⟨nu1 0, 0, none⟩)) 3 3))]) o0 (fun nu1 => [(nu1 0, .cells #[.int .i64 1, .int .i64 0, .int .i64 25] 3 (0, 0))]) [] (fun nu1 => ?_)
  refine JR_data (size := 1) 0 eI [1, 0, 25] 3 rfl (by kernel_rfl) (by decide) (by intro x _; rfl) (by simp) ⟨.inl ⟨rfl, rfl⟩, ⟨.inl ⟨rfl, rfl⟩, ⟨.inl ⟨rfl, rfl⟩, trivial⟩⟩⟩ ?_
  refine JR_callzp [] 5 #[.slice (some (⟨nu1 0, 0, none⟩)) 3 3] (some 5) zero_all (by kernel_rfl) (fun w S hG => ?_)
  refine (vtext (hG.pick [0, 1, 2] rfl) (hG.at 3 rfl) ho (hG.at 4 rfl) (by decide)).mono ?_
  rintro e w3 ⟨v, hR, ⟨h2, rfl⟩ | ⟨h2, rfl⟩⟩
  · have e1 : (if vecErr [1, 0, 25] = 0 then textB [1, 0, 25] else ⟨#[]⟩ : ByteArray) = ⟨#[49, 46, 48, 46, 50, 53]⟩ := by decide +kernel
    rw [e1] at hR
    refine ⟨_, _, _, hR, ?_⟩
    try simp only [aQ]
    refine Ya (Rds 2 7) [5, 4] [(1, .val (.string (ByteArray.mk #[49, 46, 48, 46, 50, 53]))), (2, .val (.nilIface))] ?_
    refine JR_end ?_
    refine J_seq ?_
    refine jT [(0, true), (1, true), (2, true), (3, true), (4, true), (5, true), (6, true), (7, false), (8, false), (9, true), (10, true), (11, true)] [] ?_
    refine Ym (Rds 0 7 ++ [.wr 7 [] 0]) [1, 2] (fun nu2 => [(14, .val (.bool true)), (15, .val (.slice (some (⟨nu2 0, 0, none⟩)) 1 1))]) o0 (fun nu2 => [(nu2 0, .cells #[.int .i64 0] 3 (0, 0))]) [] (fun nu2 => ?_)
    refine JR_data (size := 1) 0 eI [0] 1 rfl (by kernel_rfl) (by decide) (by intro x _; rfl) (by simp) ⟨.inl ⟨rfl, rfl⟩, trivial⟩ ?_
    refine Yc 13 #[.slice (some (⟨nu2 0, 0, none⟩)) 1 1] (some 16) fun w S hG => ?_
    refine (vcheck (hG.pick [0, 1, 2] rfl) (hG.at 5 rfl) (by decide)).mono ?_
    rintro e w2 ⟨v, hR, ⟨h2, rfl⟩ | ⟨h2, rfl⟩⟩
    · refine ⟨_, _, _, hR, ?_⟩
      try simp only [aQ]
      refine Ya (Rds 9 12) [16, 14, 15] [(0, .val (.bool true))] ?_
      refine JR_end ?_
      refine Yr [[]] (.bool true) fun a w s => ?_
      exact s.retz (by simp) [] [] rfl rfl
    · exact absurd (by decide) h2
  · exact absurd (by decide) h2

theorem u8wrap (x : Int) : IntKind.u8.wrap x = x % 256 := by
  simp [IntKind.wrap, IntKind.signed, IntKind.bits]
set_option maxHeartbeats 4000000 in
theorem byteW {w : World} {S : Nat → Prop} {x : Int} {d : Nat} (hx : x = 48 + d) (hd : d < 10) : Calls Tryd.prog 50 #[.int .i64 x] w fun e w' => Ret [] w S w' e (.string ⟨#[UInt8.ofNat (48 + d)]⟩) [] [] := by
  refine ep50 (args := [.int .i64 x]) (G := []) (by kernel_rfl) (AllG.nil w S) ?_
  refine J_seq ?_
  refine Za [.rd 0 [] 0 0] [] [(2, .val (.string (ByteArray.mk #[])))] ?_
  refine J_seq ?_
  refine jT [(0, true), (1, true), (2, false), (3, false), (4, true)] [] ?_
  refine Ym [.rd 0 [] 0 0, .rd 1 [] 0 0, .wr 2 [] 0] [0] (fun nu1 => [(5, .val (.slice (some (⟨nu1 0, 0, none⟩)) 1 1))]) o0 (fun nu1 => [(nu1 0, .cells #[.int .u8 (IntKind.u8.wrap x)] 5 (0, 0))]) [] (fun nu1 => ?_)
  refine JR_strb (cap := 1) 0 52 9 5 [UInt8.ofNat (48 + d)] (some 6) (by kernel_rfl) (by kernel_rfl) (by kernel_rfl) (by kernel_rfl) rfl ?_ ?_
  · intro j hj
    match j, hj with
    | 0, _ =>
      refine congrArg (fun x => some (Value.int .u8 x)) ?_
      rw [u8wrap]
      show _ = (((UInt8.ofNat (48 + d)).toNat : Nat) : Int)
      rw [UInt8.toNat_ofNat']
      omega
  refine Ya [.rd 4 [] 0 0] [6, 5] [(2, .val (.string (ByteArray.mk #[UInt8.ofNat (48 + d)])))] ?_
  refine JR_end ?_
  refine Yr [[]] (.string (ByteArray.mk #[UInt8.ofNat (48 + d)])) fun a w s => ?_
  exact s.ret (by simp) [] [] rfl rfl
theorem decDigits_step {u : Nat} (h : ¬ u < 10) : Lib.decDigits u = Lib.decDigits (u / 10) ++ [UInt8.ofNat (48 + u % 10)] := by
  rw [Lib.decDigits, dif_neg h]
theorem tdiv_neg10 {m : Nat} {x : Int} (hx : x = -(m : Int)) (hm : m ≤ 1099511627776) : IntKind.i64.wrap (x.tdiv 10) = -((m / 10 : Nat) : Int) := by
  subst hx
  rw [Int.neg_tdiv, Int.tdiv_eq_ediv_of_nonneg (by omega)]
  simp [IntKind.wrap, IntKind.signed, IntKind.bits]
  omega
theorem tmod_neg10 {m : Nat} {x : Int} (hx : x = -(m : Int)) : x.tmod 10 = -((m % 10 : Nat) : Int) := by
  subst hx
  rw [Int.neg_tmod, Int.tmod_eq_emod_of_nonneg (by omega)]
  omega
theorem decN_len {m : Nat} (h : m ≤ 1099511627776) : (Lib.decDigits m).length ≤ 21 := by
  have := decB_len (t := (m : Int)) (by omega) (by omega)
  simpa [decB] using this
theorem tmod_wrap {m : Nat} {x : Int} (hx : x = -(m : Int)) : IntKind.i64.wrap (48 - x.tmod 10) = 48 + (m % 10 : Nat) := by
  rw [tmod_neg10 hx]
  simp [IntKind.wrap, IntKind.signed, IntKind.bits]
  omega
theorem neg_wrap {n : Int} (h0 : 0 ≤ n) (h1 : n ≤ 1099511627776) : IntKind.i64.wrap (0 - n) = -(n.toNat : Int) := by
  simp [IntKind.wrap, IntKind.signed, IntKind.bits]
  omega
set_option maxHeartbeats 4000000 in
theorem rBelow : ∀ (m : Nat), m ≤ 1099511627776 → ∀ {x : Int}, x = -(m : Int) → ∀ {w : World} {S : Nat → Prop}, Calls Tryd.prog 31 #[.int .i64 x] w fun e w' => Ret [] w S w' e (.string ⟨(Lib.decDigits m).toArray⟩) [] [] := by
  intro m
  induction m using Nat.strongRecOn with
  | ind m ih =>
  intro hm x hx w S
  have hx1 : x ≤ 0 := by omega
  have hx2 : -1099511627776 ≤ x := by omega
  refine ep31 (args := [.int .i64 x]) (G := []) (by kernel_rfl) (AllG.nil w S) ?_
  refine J_seq ?_
  refine Za [.rd 0 [] 0 0] [] [(2, .val (.string (ByteArray.mk #[])))] ?_
  refine J_seq ?_
  refine J_seq ?_
  refine Za [.rd 0 [] 0 0, .rd 1 [] 0 0] [] [(4, .val (.bool (decide (x > -10))))] ?_
  refine J_cond (t := decide (x > -10)) (by kernel_rfl) (by kernel_rfl) (fun h => ?_) (fun h => ?_)
  · have h2 : m < 10 := by simp at h; omega
    refine J_seq ?_
    refine jT [(0, true), (1, true), (2, false), (3, true)] [] ?_
    refine Yp [.rd 0 [] 0 0, .rd 1 [] 0 1] [4] [(6, .val (.int .i64 (48 - x)))] (oC (show IntKind.i64.wrap ((48 : Int) - x) = (48 : Int) - x from wrap_i64 (by omega) (by omega)) oN) ?_
    refine Yc 50 #[.int .i64 (48 - x)] (some 7) fun w S hG => ?_
    refine (byteW (S := S) (d := m) (by omega) h2).mono ?_
    rintro e w2 hR
    refine ⟨_, _, _, hR, ?_⟩
    try simp only [aQ]
    refine Ya [.rd 3 [] 0 0] [7, 6] [(2, .val (.string (ByteArray.mk #[UInt8.ofNat (48 + m)])))] ?_
    refine JR_end ?_
    refine Yr [[]] (.string (ByteArray.mk #[UInt8.ofNat (48 + m)])) fun a w s => ?_
    rw [Lib.decDigits_one h2]
    exact s.ret (by simp) [] [] rfl rfl
  · have h2 : ¬ m < 10 := by simp at h; omega
    have hw := tdiv_neg10 hx hm
    have hln := decN_len (m := m / 10) (by omega)
    refine J_skip ?_
    refine J_seq ?_
    refine jT [(0, true), (1, true), (2, false), (3, true), (4, true), (5, true), (6, false), (7, true), (8, true)] [] ?_
    refine Ya [.rd 0 [] 0 0, .rd 1 [] 0 0] [4] [(9, .val (.int .i64 (IntKind.i64.wrap (x.tdiv 10))))] ?_
    refine Yc 31 #[.int .i64 (IntKind.i64.wrap (x.tdiv 10))] (some 10) fun w S hG => ?_
    refine (@ih (m / 10) (by omega) (by omega) _ hw _ S).mono ?_
    rintro e w2 hR
    refine ⟨_, _, _, hR, ?_⟩
    try simp only [aQ]
    refine Ya (Rds 3 6) [9, 0] [(13, .val (.int .i64 (IntKind.i64.wrap (48 - x.tmod 10))))] ?_
    refine Yc 50 #[.int .i64 (IntKind.i64.wrap (48 - x.tmod 10))] (some 14) fun w S hG => ?_
    refine (byteW (S := S) (d := m % 10) (tmod_wrap hx) (by omega)).mono ?_
    rintro e w3 hR
    refine ⟨_, _, _, hR, ?_⟩
    try simp only [aQ]
    refine Yp [.rd 7 [.r 0 (some (.string (ByteArray.mk (Lib.decDigits (m / 10) ++ [UInt8.ofNat (48 + m % 10)]).toArray)))] 0 10, .rd 8 [] 0 0] [14, 13, 10] [(2, .val (.string (ByteArray.mk (Lib.decDigits (m / 10) ++ [UInt8.ofNat (48 + m % 10)]).toArray)))] (oC (show eqRun Tryd.prog .add 9 (Operand.tmp 10) (Operand.tmp 14) (.string (ByteArray.mk (Lib.decDigits (m / 10)).toArray)) (.string (ByteArray.mk #[UInt8.ofNat (48 + m % 10)])) (.string (ByteArray.mk (Lib.decDigits (m / 10) ++ [UInt8.ofNat (48 + m % 10)]).toArray)) from eqRun_cat _ _ (by simp only [List.length_cons, List.length_nil]; omega)) oN) ?_
    refine JR_end ?_
    refine Yr [[]] (.string (ByteArray.mk (Lib.decDigits (m / 10) ++ [UInt8.ofNat (48 + m % 10)]).toArray)) fun a w s => ?_
    rw [decDigits_step h2]
    exact s.ret (by simp) [] [] rfl rfl
set_option maxHeartbeats 4000000 in
theorem rDecimal {w : World} {S : Nat → Prop} {n : Int} (h0 : 0 ≤ n) (h1 : n ≤ 1099511627776) : Calls Tryd.prog 19 #[.int .i64 n] w fun e w' => Ret [] w S w' e (.string (decB n)) [] [] := by
  refine ep19 (args := [.int .i64 n]) (G := []) (by kernel_rfl) (AllG.nil w S) ?_
  refine J_seq ?_
  refine Za [.rd 0 [] 0 0] [] [(2, .val (.string (ByteArray.mk #[])))] ?_
  refine J_seq ?_
  refine J_seq ?_
  refine Za [.rd 0 [] 0 0, .rd 1 [] 0 0] [] [(4, .val (.bool (decide (n < 0))))] ?_
  refine J_condF (decide (n < 0)) (by kernel_rfl) (by kernel_rfl) (by simpa using ‹_›) ?_
  refine J_skip ?_
  refine J_seq ?_
  refine jT [(0, true), (1, true), (2, false), (3, true)] [] ?_
  refine Ya [.rd 0 [] 0 0, .rd 1 [] 0 0] [4, 0] [(9, .val (.int .i64 (IntKind.i64.wrap (0 - n))))] ?_
  refine Yc 31 #[.int .i64 (IntKind.i64.wrap (0 - n))] (some 10) fun w S hG => ?_
  refine (rBelow n.toNat (by omega) (S := S) (neg_wrap h0 h1)).mono ?_
  rintro e w2 hR
  refine ⟨_, _, _, hR, ?_⟩
  try simp only [aQ]
  refine Ya [.rd 3 [] 0 0] [10, 9] [(2, .val (.string (ByteArray.mk (Lib.decDigits n.toNat).toArray)))] ?_
  refine JR_end ?_
  refine Yr [[]] (.string (ByteArray.mk (Lib.decDigits n.toNat).toArray)) fun a w s => ?_
  exact s.ret (by simp) [] [] rfl rfl
/-- The pieces one behind the other, a sign between them. -/
def joinB : List ByteArray → List UInt8
  | [] => []
  | x :: l => x.data.toList ++ (l.flatMap fun y => 46 :: y.data.toList)
theorem joinB_snoc (l : List ByteArray) (x : ByteArray) : joinB (l ++ [x]) = joinB l ++ (if l = [] then x.data.toList else 46 :: x.data.toList) := by
  cases l with
  | nil => simp [joinB]
  | cons y l => simp [joinB]
theorem joinB_eq (l : List ByteArray) : (⟨(Lib.join (l.map (·.data.toList)) [46]).toArray⟩ : ByteArray) = ⟨(joinB l).toArray⟩ := by
  cases l with
  | nil => simp [joinB, Lib.join_nil]
  | cons x l =>
    rw [List.map_cons, Lib.join_cons, joinB]
    congr 3
    rw [Lib.joinTail, List.map_map, List.flatMap_def]
    rfl
theorem joinB_len : ∀ {l : List ByteArray}, (∀ x ∈ l, x.data.toList.length ≤ 21) → (joinB l).length ≤ 22 * l.length
  | [], _ => by simp [joinB]
  | x :: l, h => by
    have hx := h x (List.mem_cons_self ..)
    have key : ∀ l : List ByteArray, (∀ x ∈ l, x.data.toList.length ≤ 21) → (l.flatMap fun y => (46 : UInt8) :: y.data.toList).length ≤ 22 * l.length := by
      intro l
      induction l with
      | nil => intro _; simp
      | cons y l ih =>
        intro hl
        have h1 := hl y (List.mem_cons_self ..)
        have h2 := ih fun z hz => hl z (List.mem_cons_of_mem _ hz)
        rw [List.flatMap_cons, List.length_append, List.length_cons, List.length_cons]
        omega
    have := key l fun z hz => h z (List.mem_cons_of_mem _ hz)
    rw [joinB, List.length_append, List.length_cons]
    omega
set_option maxHeartbeats 4000000 in
theorem rVecText {w : World} {S : Nat → Prop} {a : Option Addr} {n c : Nat} {xs : List Int} (ha : Rep w S (.slice a n c) (dInts xs)) (h2 : vecErr xs = 0) :
    Calls Tryd.prog 10 #[.slice a n c] w fun e w' => Ret [] w S w' e (.string (textB xs)) [] [] := by
  obtain rfl := rep_ints_len ha
  have h6 := vecErr_len h2
  refine ep10 (args := [.slice a xs.length c]) (G := [(_, dInts xs)]) (by kernel_rfl) (.cons ha (.nil _ _)) ?_
  refine J_seq ?_
  refine Za [.rd 0 [] 0 0] [] [(2, .val (.string (ByteArray.mk #[])))] ?_
  refine J_seq ?_
  refine Za [.rd 0 [] 0 0] [] [(3, .val (.string (ByteArray.mk #[])))] ?_
  refine J_seq ?_
  refine J_seq ?_
  refine Za [.rd 0 [] 0 0] [] [(4, .val (.int .i64 0))] ?_
  refine J_block ?_
  refine J_loopx (fun x : Int × List UInt8 => [(0, .val (.slice a xs.length c)), (2, .val (.string (ByteArray.mk #[]))), (3, .val (.string ⟨x.2.toArray⟩)), (4, .val (.int .i64 x.1))]) (fun x : Int × List UInt8 => []) (fun x : Int × List UInt8 => []) (fun x : Int × List UInt8 => [(.slice a xs.length c, (dInts xs))]) (fun x : Int × List UInt8 => (xs.length - x.1).toNat) (fun x : Int × List UInt8 => (0 ≤ x.1 ∧ x.1 ≤ xs.length ∧ x.2 = joinB ((txts xs).take x.1.toNat))) (0, []) [0, 2, 3, 4] [] [] [0] ?_ (by kernel_rfl) rfl rfl rfl ?_
  · exact ⟨by simp, by omega, by simp [joinB]⟩
  rintro ⟨i, t⟩ ⟨hi0, hi, ht⟩
  dsimp only at hi0 hi ht ⊢
  refine J_seq ?_
  refine J_seq ?_
  refine Za (Rds 0 4) [] [(8, .val (.bool (decide (i < (↑xs.length : Int)))))] ?_
  refine J_cond (t := decide (i < (↑xs.length : Int))) (by kernel_rfl) (by kernel_rfl) (fun hlt => ?_) (fun hlt => ?_)
  · have hlt2 : i < xs.length := by simpa using hlt
    obtain ⟨x, hx⟩ : ∃ x, xs[i.toNat]? = some x := ⟨_, List.getElem?_eq_getElem (by omega)⟩
    obtain ⟨hx0, hx1⟩ := vecErr_in h2 x (List.mem_of_getElem? hx)
    have htk : (txts xs).take i.toNat ++ [decB x] = (txts xs).take (i + 1).toNat := take_snoc (l := txts xs) hi0 (by simp [txts, hx])
    have htl : t.length ≤ 200 := by
      have h7 := joinB_len (l := (txts xs).take i.toNat) fun y hy => by
        obtain ⟨z, hz, rfl⟩ := List.mem_map.1 (List.mem_of_mem_take hy)
        exact decB_len (vecErr_in h2 z hz).1 (vecErr_in h2 z hz).2
      rw [← ht] at h7
      have := List.length_take_le i.toNat (txts xs)
      omega
    have hdl := decB_len hx0 hx1
    refine J_skip ?_
    refine J_seq ?_
    refine J_block ?_
    refine J_seq ?_
    refine J_seq ?_
    refine Za [.rd 0 [] 0 0, .rd 1 [] 0 0] [8] [(12, .val (.bool (decide (i > 0))))] ?_
    refine J_cond (t := decide (i > 0)) (by kernel_rfl) (by kernel_rfl) (fun hpos => ?_) (fun hpos => ?_)
    · refine J_read0 0 rfl i.toNat (map_at hx) (by kernel_rfl) (fun b1 off1 cs1 ty1 fz1 ha1 hrd1 => ?_)
      cases ha1
      have hrd1_0 := rd0 (hrd1 0 _ rfl)
      try simp only [aQ]
      refine Zp [.rd 0 [] 0 0, .rd 1 [.r 0 (some (.string (ByteArray.mk (t ++ [46]).toArray)))] 0 10, .rd 2 [] 0 0] [12] [(3, .val (.string (ByteArray.mk (t ++ [46]).toArray)))] (oC (show eqRun Tryd.prog .add 9 (Operand.tmp 13) (Operand.const (Value.string (ByteArray.mk #[46]))) (.string (ByteArray.mk t.toArray)) (.string (ByteArray.mk #[46])) (.string (ByteArray.mk (t ++ [46]).toArray)) from eqRun_cat _ _ (by simp only [List.length_cons, List.length_nil]; omega)) oN) ?_
      refine jT [(0, true), (1, true), (2, true), (3, true), (4, true), (5, false), (6, true), (7, true)] [] ?_
      refine Yp (Rds 0 3 ++ [.rd 3 [] 0 2, .rd 4 [.r 0 (some (.int .i64 x))] 0 0]) [] [(15, .val (.string (ByteArray.mk (t ++ [46]).toArray))), (19, .val (.int .i64 x))] (oC hi0 (oC hlt2 (oC hrd1_0 oN))) ?_
      refine Yc 19 #[.int .i64 x] (some 20) fun w S hG => ?_
      refine (rDecimal (S := S) hx0 hx1).mono ?_
      rintro e w2 hR
      refine ⟨_, _, _, hR, ?_⟩
      try simp only [aQ]
      refine Yp [.rd 6 [.r 0 (some (.string (ByteArray.mk (t ++ [46] ++ (decB x).data.toList).toArray)))] 0 10, .rd 7 [] 0 0] [20, 15, 19] [(3, .val (.string (ByteArray.mk (t ++ [46] ++ (decB x).data.toList).toArray)))] (oC (show eqRun Tryd.prog .add 9 (Operand.tmp 15) (Operand.tmp 20) (.string (ByteArray.mk (t ++ [46]).toArray)) (.string (ByteArray.mk (decB x).data.toList.toArray)) (.string (ByteArray.mk (t ++ [46] ++ (decB x).data.toList).toArray)) from eqRun_cat _ _ (by simp only [List.length_append, List.length_cons, List.length_nil]; omega)) oN) ?_
      refine JR_end ?_
      refine J_eb ?_
      refine Zp [.rd 0 [] 0 0, .rd 1 [] 0 1, .rd 2 [] 0 0] [] [(4, .val (.int .i64 (i + 1)))] (oC (show IntKind.i64.wrap (i + (1 : Int)) = i + (1 : Int) from wrap_i64 (by omega) (by omega)) oN) ?_
      have e9 : t ++ [46] ++ (decB x).data.toList = joinB ((txts xs).take (i + 1).toNat) := by
        rw [← htk, joinB_snoc, ht, if_neg fun h => ?_]
        · simp
        · have := congrArg List.length h
          rw [List.length_take, txts_len, List.length_nil] at this
          have hp2 : 0 < i := by simpa using hpos
          omega
      rw [e9]
      refine J_backx (i + 1, joinB ((txts xs).take (i + 1).toNat)) [0, 2, 3, 4] [] [] [0] ?_ ?_ (by kernel_rfl) rfl rfl rfl
      · exact ⟨by omega, by omega, rfl⟩
      · omega
    · refine J_read0 0 rfl i.toNat (map_at hx) (by kernel_rfl) (fun b1 off1 cs1 ty1 fz1 ha1 hrd1 => ?_)
      cases ha1
      have hrd1_0 := rd0 (hrd1 0 _ rfl)
      try simp only [aQ]
      refine J_skip ?_
      refine jT [(0, true), (1, true), (2, true), (3, true), (4, true), (5, false), (6, true), (7, true)] [] ?_
      refine Yp (Rds 0 3 ++ [.rd 3 [] 0 2, .rd 4 [.r 0 (some (.int .i64 x))] 0 0]) [12] [(15, .val (.string (ByteArray.mk t.toArray))), (19, .val (.int .i64 x))] (oC hi0 (oC hlt2 (oC hrd1_0 oN))) ?_
      refine Yc 19 #[.int .i64 x] (some 20) fun w S hG => ?_
      refine (rDecimal (S := S) hx0 hx1).mono ?_
      rintro e w2 hR
      refine ⟨_, _, _, hR, ?_⟩
      try simp only [aQ]
      refine Yp [.rd 6 [.r 0 (some (.string (ByteArray.mk (t ++ (decB x).data.toList).toArray)))] 0 10, .rd 7 [] 0 0] [20, 15, 19] [(3, .val (.string (ByteArray.mk (t ++ (decB x).data.toList).toArray)))] (oC (show eqRun Tryd.prog .add 9 (Operand.tmp 15) (Operand.tmp 20) (.string (ByteArray.mk t.toArray)) (.string (ByteArray.mk (decB x).data.toList.toArray)) (.string (ByteArray.mk (t ++ (decB x).data.toList).toArray)) from eqRun_cat _ _ (by omega)) oN) ?_
      refine JR_end ?_
      refine J_eb ?_
      refine Zp [.rd 0 [] 0 0, .rd 1 [] 0 1, .rd 2 [] 0 0] [] [(4, .val (.int .i64 (i + 1)))] (oC (show IntKind.i64.wrap (i + (1 : Int)) = i + (1 : Int) from wrap_i64 (by omega) (by omega)) oN) ?_
      have e9 : t ++ (decB x).data.toList = joinB ((txts xs).take (i + 1).toNat) := by
        rw [← htk, joinB_snoc, ht, if_pos]
        have : i.toNat = 0 := by simp at hpos; omega
        rw [this]
        rfl
      rw [e9]
      refine J_backx (i + 1, joinB ((txts xs).take (i + 1).toNat)) [0, 2, 3, 4] [] [] [0] ?_ ?_ (by kernel_rfl) rfl rfl rfl
      · exact ⟨by omega, by omega, rfl⟩
      · omega
  · refine J_exit rfl ?_
    refine J_seq ?_
    refine Za [.rd 0 [] 0 0, .rd 1 [] 0 0] [8, 0, 3, 4] [(2, .val (.string (ByteArray.mk t.toArray)))] ?_
    refine Yr [[]] (.string (ByteArray.mk t.toArray)) fun a w s => ?_
    have e1 : List.take i.toNat (txts xs) = txts xs := List.take_of_length_le (by rw [txts_len]; simp at hlt; omega)
    rw [ht, e1, ← joinB_eq]
    exact s.ret (by simp) [] [] rfl rfl
end Go.Proofs.YtahbmdchcbnolaaDoor
