/- vector.Text at any vector; the closed fact 'timed'; the document's numbers and texts. -/
import Derived.Test.YtahbmdchcbnolaaDoorCode
import Derived.Test.YtahbmdchcbnolaaDoorSame
import Derived.Test.YtahbmdchcbnolaaDoorTx23
import Derived.Test.YtahbmdchcbnolaaDoorShelf
import Derived.Lib.ItoaMem
import Derived.Lib.ItoaLen
import Derived.Lib.AppendIntMem
import Derived.Test.YtahbmdchcbnolaaDoorMz
namespace Go.Sx
open Go
theorem St.retz {n : Nat} {E : Env} {h r : List (Nat × Obj)} {F : List (List Nat × World)} {C C' : List Chunk} {G G' : List (Value × D)} {S : Nat → Prop} {M : List Nat} {w0 : World} {a : Act} {w : World} {v : Value} (s : St n E h r F ⟨newS S M w0, C, G⟩ a w) (hF : (M, zero w0) ∈ F) (cs gs : List Nat)
    (hC : pick C cs = C') (hG : pick G gs = G') (hcs : cs.Nodup := by decide) : Ret M (zero w0) S w (.returned v) v C' G' := St.ret (w0 := zero w0) s hF cs gs hC hG hcs
end Go.Sx
namespace Go.Proofs.YtahbmdchcbnolaaDoor
open Go Go.Sx Go.RowKit

theorem vecErr_len {xs : List Int} (h : vecErr xs = 0) : 1 ≤ xs.length ∧ xs.length ≤ 6 := by
  unfold vecErr at h
  split at h
  · cases h
  · omega
theorem vecErr_in {xs : List Int} (h : vecErr xs = 0) : ∀ t ∈ xs, 0 ≤ t ∧ t ≤ 1099511627776 := by
  unfold vecErr at h
  split at h
  · cases h
  · split at h
    · cases h
    · rename_i hb
      intro t ht
      simp only [Bool.not_eq_true, List.any_eq_false] at hb
      have := hb t ht
      simp [badT] at this
      omega
/-- The table of powers, the two errors of strconv. -/
abbrev dT (o : Obj) (e1 e2 : Value) : D := .all [(.pointer (some ⟨15, 0, none⟩), .obj o), (.pointer (some ⟨13, 0, none⟩), .ptr [.v e1]), (.pointer (some ⟨14, 0, none⟩), .ptr [.v e2])]
structure TabO (o : Obj) (e1 e2 : Value) : Prop where
  tab : ∀ w : World, w.heap[15]? = some o → Lib.TabIs Tryd.prog w "internal/strconv.uint64pow10" .u64 Lib.pow10Tab
  one : ∃ te pe, e1 = .iface te pe
  two : ∃ te pe, e2 = .iface te pe
set_option maxHeartbeats 4000000 in
theorem itoaW {w : World} {S : Nat → Prop} {o : Obj} {e1 e2 : Value} {n : Int} (hT : Rep w S .nilIface (dT o e1 e2)) (ho : TabO o e1 e2) (h0 : -9223372036854775808 ≤ n) (h1 : n ≤ 9223372036854775807) :
    Calls Tryd.prog 14 #[.int .i64 n] w fun e w' => Ret [] w S w' e (.string ⟨(Lib.itoa n).toArray⟩) [] [] :=
  (Tryd.strconv_Itoa n h0 h1 w (ho.tab w (blk_of (hT.part _ (List.mem_of_getElem? (i := 0) rfl))))).mono fun e w' ⟨he, k, os, hw⟩ => ret_below he (hw ▸ Lib.below_grow _ w (Nat.le_refl _) k os) (by rw [hw]; exact Nat.le_add_right _ _)

theorem join_len (sep : List UInt8) (m : Nat) : ∀ xs : List (List UInt8), (∀ x ∈ xs, x.length ≤ m) → (Lib.join xs sep).length ≤ xs.length * (m + sep.length)
  | [], _ => by simp [Lib.join_nil]
  | x :: r, h => by
    rw [Lib.join_cons, List.length_append]
    have hx := h x (List.mem_cons_self ..)
    have key : ∀ r : List (List UInt8), (∀ y ∈ r, y.length ≤ m) → (Lib.joinTail sep r).length ≤ r.length * (m + sep.length) := by
      intro r
      induction r with
      | nil => intro _; simp [Lib.joinTail]
      | cons y r ih =>
        intro hr
        have h1 := ih fun z hz => hr z (List.mem_cons_of_mem _ hz)
        have h2 := hr y (List.mem_cons_self ..)
        unfold Lib.joinTail at h1 ⊢
        rw [List.map_cons, List.flatten_cons, List.length_append, List.length_append, List.length_cons, Nat.succ_mul]
        omega
    have := key r fun y hy => h y (List.mem_cons_of_mem _ hy)
    rw [List.length_cons, Nat.succ_mul]
    omega
set_option maxHeartbeats 4000000 in
theorem vjoin {w : World} {S : Nat → Prop} {a : Option Addr} {n c : Nat} {l : List ByteArray} {sep : ByteArray} (h : Rep w S (.slice a n c) (dStrs l)) (hl : l.length ≤ 1000) (hm : ∀ s ∈ l, s.data.toList.length ≤ 1000000) (hsep : sep.data.toList.length ≤ 1000) :
    Calls Tryd.prog 15 #[.slice a n c, .string sep] w fun e w' => Ret [] (zero w) S w' e (.string ⟨(Lib.join (l.map (·.data.toList)) sep.data.toList).toArray⟩) [] [] := by
  have hlen := h.slen
  rw [List.length_map] at hlen
  subst hlen
  by_cases hne : l = []
  · subst hne
    exact (Tryd.strings_Join_none a c sep w).mono fun e w' ⟨he, hw⟩ => ret_below (w := zero w) he (by rw [hw]; exact ⟨rfl, rfl, rfl, Nat.le_refl _, fun _ _ => rfl⟩) (Nat.zero_le _)
  · obtain ⟨b, off, cap, cs, ety, fz, hx, hhb, hS, hle, hk, hl2, news, hnl, hnc, hn1, hnr⟩ := h.cells (by simpa using hne)
    rw [List.length_map] at hx hle
    injection hx with hx1 hx2 hx3
    subst hx1 hx3
    refine (Tryd.strings_Join b off c l sep w (fun j x hj => ?_) (Array.getElem?_eq_some_iff.1 hhb).1 (by omega) hle ?_).mono fun e w' ⟨he, hw⟩ => ret_below (w := zero w) he ⟨hw.os, hw.tape, hw.output, hw.size, hw.block⟩ (Nat.zero_le _)
    · obtain ⟨u, hu, hr⟩ := hnr j 0 _ _ (map_at hj) rfl
      rw [Nat.mul_one, Nat.add_zero] at hu
      have := hnc j u hu
      obtain rfl := hr.plain
      exact cell_of rfl hhb rfl this
    · refine Nat.le_trans (join_len _ 1000000 _ fun y hy => ?_) ?_
      · obtain ⟨s, hs, rfl⟩ := List.mem_map.1 hy
        exact hm s hs
      · rw [List.length_map]
        calc l.length * (1000000 + sep.data.toList.length) ≤ 1000 * (1000000 + 1000) := Nat.mul_le_mul hl (by omega)
          _ ≤ 140737488355328 := by decide

/-- The vector's numbers, as texts; the vector's text. -/
def decB (t : Int) : ByteArray := ⟨(Lib.decDigits t.toNat).toArray⟩
def txts (xs : List Int) : List ByteArray := xs.map decB
def textB (xs : List Int) : ByteArray := ⟨(Lib.join ((txts xs).map (·.data.toList)) [46]).toArray⟩
theorem txts_len (xs : List Int) : (txts xs).length = xs.length := by simp [txts]
theorem itoa_dec {t : Int} (h : 0 ≤ t) : (⟨(Lib.itoa t).toArray⟩ : ByteArray) = decB t := by
  obtain ⟨m, rfl⟩ : ∃ m : Nat, t = m := ⟨t.toNat, by omega⟩
  rw [Lib.itoa_nonneg]
  rfl
theorem decB_len {t : Int} (h0 : 0 ≤ t) (h1 : t ≤ 1099511627776) : (decB t).data.toList.length ≤ 21 := by
  rw [← itoa_dec h0]
  exact Lib.itoa_length_le t (by omega) (by omega)

set_option maxHeartbeats 4000000 in
theorem vtext {w : World} {S : Nat → Prop} {er : Nat → Addr} {o : Obj} {e1 e2 : Value} {a : Option Addr} {n c : Nat} {xs : List Int} (hE : AllG w S (globs er)) (hT : Rep w S .nilIface (dT o e1 e2)) (ho : TabO o e1 e2) (ha : Rep w S (.slice a n c) (dInts xs)) (hl : xs.length ≤ 1000000) :
    Calls Tryd.prog 5 #[.slice a n c] w fun e w' => ∃ v, Ret [] (zero w) S w' e (.tuple #[.string (if vecErr xs = 0 then textB xs else ⟨#[]⟩), v]) [] [] ∧ ErrIs 135 er (vecErr xs) v := by
  obtain rfl := rep_ints_len ha
  refine ep5 (args := [.slice a xs.length c]) (G := globs er ++ [(_, dInts xs), (_, dT o e1 e2)]) (by kernel_rfl) (hE.app (.cons ha (.cons hT (.nil _ _)))) ?_
  refine J_zero ?_
  try simp only [aQ]
  refine J_seq ?_
  refine Za [.rd 0 [] 0 0, .rd 1 [] 0 0] [] [(2, .val (.string (ByteArray.mk #[]))), (3, .val (.nilIface))] ?_
  refine J_seq ?_
  refine J_seq ?_
  refine jT [(0, true), (1, false), (2, true)] [] ?_
  refine Ya [.rd 0 [] 0 0] [] [(8, .val (.slice a xs.length c))] ?_
  refine Yc 13 #[.slice a xs.length c] (some 9) fun w S hG => ?_
  refine (vcheck (hG.pick [0, 1, 2] rfl) (hG.at 3 rfl) hl).mono ?_
  rintro e w2 ⟨v, hR, ⟨h2, rfl⟩ | ⟨h2, rfl⟩⟩
  · refine ⟨_, _, _, hR, ?_⟩
    have h6 := vecErr_len h2
    rw [if_pos h2]
    try simp only [aQ]
    refine Ya [.rd 2 [] 0 0] [9, 8] [(4, .val (.nilIface))] ?_
    refine JR_end ?_
    refine J_seq ?_
    refine Za [.rd 0 [] 0 0, .rd 1 [] 0 0] [] [(11, .val (.bool false))] ?_
    refine J_cond_f (by kernel_rfl) (by kernel_rfl) ?_
    refine J_skip ?_
    refine J_seq ?_
    refine Za [.rd 0 [] 0 0] [11, 4] [(5, .val (.slice none 0 0))] ?_
    refine J_seq ?_
    refine J_seq ?_
    refine Za (Rds 0 3) [0] [(13, .val (.slice a xs.length c)), (14, .val (.int .i64 (↑xs.length : Int))), (15, .val (.int .i64 0))] ?_
    refine J_block ?_
    refine J_stp (stp_accm eS 9 1) ?_
    refine J_loopx (fun x : AccI => [(2, .val (.string (ByteArray.mk #[]))), (3, .val (.nilIface)), (5, .val (.slice x.a x.k x.c)), (13, .val (.slice a xs.length c)), (14, .val (.int .i64 (↑xs.length : Int))), (15, .val (.int .i64 x.i))]) (fun x : AccI => []) (fun x : AccI => [cAcc (.slice x.a x.k x.c) 9 1 ((List.take x.i.toNat (txts xs)).map eS)]) (fun x : AccI => [(.nilIface, (D.v Value.nilIface)), (.pointer (some (⟨2, 0, none⟩)), (D.ptr [D.v (Value.iface 135 (Value.pointer (some (er 2))))])), (.pointer (some (⟨1, 0, none⟩)), (D.ptr [D.v (Value.iface 135 (Value.pointer (some (er 3))))])), (.slice a xs.length c, (dInts xs)), (.nilIface, (dT o e1 e2))]) (fun x : AccI => (xs.length - x.i).toNat) (fun x : AccI => (0 ≤ x.i ∧ x.i ≤ xs.length)) ⟨0, none, 0, 0⟩ [2, 3, 5, 13, 14, 15] [] [0] [0, 1, 2, 3, 4] ?_ (by kernel_rfl) rfl rfl rfl ?_
    · exact ⟨by simp, by simp⟩
    rintro ⟨i, av, k, cv⟩ ⟨hi0, hi⟩
    dsimp only at hi0 hi ⊢
    refine J_stpx (stp_acclen 0 rfl) fun _ hk => ?_
    have hk2 : k ≤ 6 := by simp [txts] at hk; omega
    refine J_seq ?_
    refine Za [.rd 0 [] 0 0] [] [(16, .val (.bool (decide (i < (↑xs.length : Int)))))] ?_
    refine J_seq ?_
    refine J_cond (t := decide (i < (↑xs.length : Int))) (by kernel_rfl) (by kernel_rfl) (fun hlt => ?_) (fun hlt => ?_)
    · have hlt2 : i < xs.length := by simpa using hlt
      obtain ⟨x, hx⟩ : ∃ x, xs[i.toNat]? = some x := ⟨_, List.getElem?_eq_getElem (by omega)⟩
      obtain ⟨hx0, hx1⟩ := vecErr_in h2 x (List.mem_of_getElem? hx)
      refine J_read0 3 rfl i.toNat (map_at hx) (by kernel_rfl) (fun b1 off1 cs1 ty1 fz1 ha1 hrd1 => ?_)
      cases ha1
      have hrd1_0 := rd0 (hrd1 0 _ rfl)
      try simp only [aQ]
      refine J_skip ?_
      refine J_seq ?_
      refine J_block ?_
      refine J_seq ?_
      refine Zp [.rd 0 [] 0 2, .rd 1 [.r 0 (some (.int .i64 x))] 0 0, .rd 2 [] 0 0] [16] [(7, .val (.int .i64 x))] (oC hi0 (oC hlt2 (oC hrd1_0 oN))) ?_
      refine jT [(0, true), (1, true), (2, false), (3, false), (4, false), (5, true)] [] ?_
      refine Ya [.rd 0 [] 0 0, .rd 1 [] 0 0] [] [(19, .val (.slice av k cv)), (20, .val (.int .i64 x))] ?_
      refine Yc 14 #[.int .i64 x] (some 21) fun w S hG => ?_
      refine (itoaW (n := x) (hG.at 4 rfl) ho (by omega) (by omega)).mono ?_
      rintro e w3 hR
      rw [itoa_dec hx0] at hR
      refine ⟨_, _, _, hR, ?_⟩
      try simp only [aQ]
      refine Ym [.wr 3 [] 0] [21, 20] (fun nu1 => [(22, .val (.slice (some (⟨nu1 0, 0, none⟩)) 1 1))]) o0 (fun nu1 => [(nu1 0, .cells #[.string (decB x)] 9 (0, 0))]) [] (fun nu1 => ?_)
      refine JR_appm 0 39 9 1 16 (.string (ByteArray.mk #[])) (a0 := av) (len := k) (cap0 := cv) (ax := (some (⟨nu1 0, 0, none⟩))) (m := 1) (c := 1) (dst := (some 23)) [(decB x)] (by kernel_rfl) (by kernel_rfl) (by kernel_rfl) (by kernel_rfl) rfl (by decide) rfl (fun _ _ _ s => src_one s 0 rfl rfl ⟨.inl ⟨rfl, rfl⟩, trivial⟩) (by simp only [maxLen]; omega) (by omega) (fun av1 cv1 => ?_)
      try simp only [aQ]
      refine Ya [.rd 5 [] 0 0] [23, 22, 19] [(5, .val (.slice av1 (k + 1) cv1))] ?_
      try simp only [aQ]
      refine JR_end ?_
      try simp only [aQ]
      refine J_eb ?_
      try simp only [aQ]
      refine Zp [.rd 0 [] 0 1, .rd 1 [] 0 0] [] [(15, .val (.int .i64 (i + 1)))] (oC (show IntKind.i64.wrap (i + (1 : Int)) = i + (1 : Int) from wrap_i64 (by omega) (by omega)) oN) ?_
      try simp only [aQ]
      rw [take_snoc (l := txts xs) hi0 (by simp [txts, hx])]
      refine J_backx ⟨i + 1, av1, k + 1, cv1⟩ [2, 3, 5, 13, 14, 15] [] [0] [0, 1, 2, 3, 4] ?_ ?_ (by kernel_rfl) rfl rfl rfl
      · exact ⟨by simp only; omega, by simp only; omega⟩
      · simp only
        omega
    · have e1 : List.take i.toNat (txts xs) = txts xs := List.take_of_length_le (by rw [txts_len]; simp at hlt; omega)
      rw [e1]
      refine J_stp (stp_freeze 0 rfl) ?_
      try simp only [aQ]
      refine J_exit rfl ?_
      refine J_seq ?_
      refine jT [(0, true), (1, false), (2, true), (3, true)] [] ?_
      refine Ya [.rd 0 [] 0 0] [16, 5, 13, 14, 15] [(25, .val (.slice av k cv))] ?_
      refine JR_callzp [] 15 #[.slice av k cv, .string (ByteArray.mk #[46])] (some 26) zero_all (by kernel_rfl) (fun w S hG => ?_)
      refine (vjoin (hG.at 5 rfl) (by rw [txts_len]; omega) (fun s hs => ?_) (by decide)).mono ?_
      · obtain ⟨t, ht, rfl⟩ := List.mem_map.1 hs
        obtain ⟨ht0, ht1⟩ := vecErr_in h2 t ht
        have := decB_len ht0 ht1
        omega
      · rintro e w3 hR
        refine ⟨_, _, _, hR, ?_⟩
        try simp only [aQ]
        refine Ya [.rd 2 [] 0 0, .rd 3 [] 0 0] [26, 25] [(2, .val (.string (ByteArray.mk (Lib.join (List.map (fun x => x.data.toList) (txts xs)) [46]).toArray)))] ?_
        refine JR_end ?_
        refine Yr [[], []] (.tuple #[.string (ByteArray.mk (Lib.join (List.map (fun x => x.data.toList) (txts xs)) [46]).toArray), .nilIface]) fun a w s => ?_
        exact ⟨_, s.retz (by simp) [] [] rfl rfl, .inl ⟨h2, rfl⟩⟩
  · refine ⟨_, _, _, hR, ?_⟩
    rw [if_neg h2]
    try simp only [aQ]
    refine Ya [.rd 2 [] 0 0] [9, 8] [(4, .val (.iface 135 (.pointer (some (er (vecErr xs))))))] ?_
    refine JR_end ?_
    refine J_seq ?_
    refine Za [.rd 0 [] 0 0, .rd 1 [] 0 0] [] [(11, .val (.bool true))] ?_
    refine J_cond_t (by kernel_rfl) (by kernel_rfl) ?_
    refine J_seq ?_
    refine Za (Rds 0 3) [11, 4] [(3, .val (.iface 135 (.pointer (some (er (vecErr xs))))))] ?_
    refine Yr [[], []] (.tuple #[.string (ByteArray.mk #[]), .iface 135 (.pointer (some (er (vecErr xs))))]) fun a w s => ?_
    exact ⟨_, s.retz (by simp) [] [] rfl rfl, .inr ⟨h2, rfl⟩⟩
end Go.Proofs.YtahbmdchcbnolaaDoor
