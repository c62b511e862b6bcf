/- Part 6 of the texts of a claim: Eye Eye2 Dec0. -/
import Derived.Test.YtonhcoeneahpaaaDoorTb5
section
namespace Go.Proofs.YtonhcoeneahpaaaDoor
open Go Go.Sx
abbrev blind : List PanicEntry := [{ v := .iface 70 (.agg #[]), recovered := false }]
abbrev eyeC (s : ByteArray) : Obj := .cells #[.string s] 74 (0, 0)
def hornI (n : Int) (b : UInt8) : Int := IntKind.i64.wrap ((BitVec.ofInt IntKind.i64.bits (IntKind.i64.wrap (n * 2 ^ min (Int.toNat 8) IntKind.i64.bits)) ||| BitVec.ofInt IntKind.i64.bits (IntKind.i64.wrap (b.toNat : Int))).toNat : Int)
theorem hornI_num (l : List UInt8) (b : UInt8) : hornI (numOf l) b = numOf (l ++ [b]) := by
  have hb := b.toNat_lt
  have e0 : natOf (l ++ [b]) = 256 * natOf l + b.toNat := by simp [natOf, List.foldl_append, hornN]
  have e1 : (BitVec.ofInt 64 (IntKind.i64.wrap (numOf l * 2 ^ min (Int.toNat 8) IntKind.i64.bits))).toNat = 256 * natOf l % 18446744073709551616 := by
    rw [BitVec.toNat_ofInt]
    show (IntKind.i64.wrap (numOf l * 256) % 18446744073709551616).toNat = _
    unfold numOf
    rw [wrap_if, wrap_if]
    omega
  have e2 : (BitVec.ofInt 64 (IntKind.i64.wrap (b.toNat : Int))).toNat = b.toNat := by
    rw [BitVec.toNat_ofInt, wrap_if]
    show (_ % 18446744073709551616 : Int).toNat = _
    omega
  have e3 : (BitVec.ofInt IntKind.i64.bits (IntKind.i64.wrap (numOf l * 2 ^ min (Int.toNat 8) IntKind.i64.bits)) ||| BitVec.ofInt IntKind.i64.bits (IntKind.i64.wrap (b.toNat : Int))).toNat = 256 * natOf l % 18446744073709551616 + b.toNat := by
    rw [BitVec.toNat_or]
    refine (congr (congrArg HOr.hOr e1) e2).trans ?_
    have h1 : 256 * natOf l % 18446744073709551616 = 2 ^ 8 * (natOf l % 72057594037927936) := by omega
    rw [h1, ← Nat.two_pow_add_eq_or_of_lt (i := 8) (by omega)]
  unfold hornI
  rw [e3]
  unfold numOf
  rw [wrap_if, wrap_if, e0]
  omega
theorem num_snoc {l : List UInt8} {i : Int} {b : UInt8} (h0 : 0 ≤ i) (hb : l[i.toNat]? = some b) : numOf (l.take (i + 1).toNat) = hornI (numOf (l.take i.toNat)) b := by
  rw [hornI_num, take_snoc h0 hb]
theorem ext_drop (s : ByteArray) (k : Nat) : (s.extract k s.size).data.toList = s.data.toList.drop k := by
  rw [ByteArray.data_extract, Array.toList_extract, List.extract_eq_drop_take', List.take_of_length_le (by simp)]
theorem ext_take (s : ByteArray) (k : Nat) : (s.extract 0 k).data.toList = s.data.toList.take k := by
  rw [ByteArray.data_extract, Array.toList_extract, List.extract_eq_drop_take', List.drop_zero]
set_option maxHeartbeats 4000000 in
theorem mustW {w : World} {S : Nat → Prop} {b : Bool} : Calls Tryd.prog 31 #[.bool b] w fun e w' => (b = true ∧ Ret [] w S w' e (.tuple #[]) [] []) ∨ (b = false ∧ Pn [] w w' e blind) := by
  refine calls_JP (args := [.bool b]) (S := S) (C := []) (G := []) Tryd.func31 bd31 rfl (by kernel_rfl) (Pre.none _ _) (AllG.nil w S) fun pn hpn => ?_
  refine J_seq ?_
  refine Za [.rd 0 [] 0 0, .rd 1 [] 0 0] [0] [(3, .val (.bool !b))] ?_
  refine J_cond (f := Tryd.f31) (t := !b) (by kernel_rfl) (by kernel_rfl) (fun hb => ?_) (fun hb => ?_)
  · have hb2 : b = false := by simpa using hb
    refine jT [(0, true), (1, true), (2, false)] [] ?_
    refine Ya (f := Tryd.f31) (id := 1) (rest := [(2, false)]) [.rd 0 [] 0 0, .rd 1 [] 0 0] [3] [(5, .val (.iface 70 (.agg #[])))] ?_
    refine JR_panic 70 (.agg #[]) none (by kernel_rfl) ?_
    intro a w s
    exact hpn _ _ _ s.ag.defers (.inr ⟨hb2, rfl, s.fr _ (List.mem_singleton.2 rfl)⟩)
  · have hb2 : b = true := by simpa using hb
    refine J_skip ?_
    refine J_fall [] (.tuple #[]) (by kernel_rfl) (fun a w s => ?_)
    exact .inl ⟨hb2, s.ret (by simp) [] [] rfl rfl⟩
set_option maxHeartbeats 4000000 in
theorem eyeNumber {w0 : World} {S : Nat → Prop} {M : List Nat} {pb : Nat} {s0 : ByteArray} (hs : s0.size ≤ 1000000) (hP : Pre w0 S M [cObj pb (eyeC s0)]) :
    Calls Tryd.prog 27 #[.pointer (some ⟨pb, 0, none⟩)] w0 fun e w' => (∃ n s1, rdN s0.data.toList = some (n, s1.data.toList) ∧ Ret M w0 S w' e (.int .i64 n) [cObj pb (eyeC s1)] []) ∨ (rdN s0.data.toList = none ∧ Pn M w0 w' e blind) := by
  have hz : s0.data.toList.length = s0.size := by simp
  refine calls_JP (args := [.pointer (some ⟨pb, 0, none⟩)]) (S := S) (C := [cObj pb (eyeC s0)]) (G := []) Tryd.func27 bd27 rfl (by kernel_rfl) hP (AllG.nil w0 S) fun pn hpn => ?_
  refine J_show 0 rfl ?_
  refine J_seq ?_
  refine Za [.rd 0 [] 0 0] [] [(2, .val (.int .i64 0))] ?_
  refine J_seq ?_
  refine jT [(0, true), (1, true), (2, true), (3, true), (4, true), (5, true), (6, false)] [] ?_
  refine Ya (f := Tryd.f27) (id := 1) (rest := [(6, false)]) (Rds 0 3 ++ [.rd 3 [.o 0 none] 0 0, .rd 4 [] 0 0, .rd 5 [] 0 0]) [] [(10, .val (.bool (decide ((↑s0.size : Int) ≥ 8))))] ?_
  refine JR_callpanp [] 31 #[.bool (decide ((↑s0.size : Int) ≥ 8))] (some 11) (by kernel_rfl) (fun w S hG => ?_)
  refine (mustW (S := S)).mono ?_
  rintro e1 w1 (⟨hb, hR⟩ | ⟨hb, hR⟩)
  · refine .inl ⟨_, _, _, hR, ?_⟩
    have hb8 : 8 ≤ s0.size := by simp at hb; omega
    try simp only [aQ]
    refine JR_end ?_
    refine J_seq ?_
    refine Za [.rd 0 [] 0 0] [11, 10] [(3, .val (.int .i64 0))] ?_
    refine J_seq ?_
    refine J_seq ?_
    refine Za [.rd 0 [] 0 0] [] [(12, .val (.int .i64 0))] ?_
    refine J_block ?_
    refine J_loopx (fun x : Int × Int => [(0, .val (.pointer (some (⟨pb, 0, none⟩)))), (2, .val (.int .i64 0)), (3, .val (.int .i64 x.2)), (12, .val (.int .i64 x.1))]) (fun x : Int × Int => [(pb, .cells #[.string s0] 74 (0, 0))]) (fun x : Int × Int => []) (fun x : Int × Int => []) (fun x : Int × Int => (8 - x.1).toNat) (fun x : Int × Int => (0 ≤ x.1 ∧ x.1 ≤ 8 ∧ x.2 = numOf (s0.data.toList.take x.1.toNat))) (0, 0) [0, 2, 3, 12] [0] [] [] ?_ (by kernel_rfl) rfl rfl rfl ?_
    · exact ⟨by simp, by simp, rfl⟩
    rintro ⟨i, n⟩ ⟨hi0, hi, hn⟩
    dsimp only at hi0 hi hn ⊢
    refine J_seq ?_
    refine Za [.rd 0 [] 0 0] [] [(13, .val (.bool (decide (i < 8))))] ?_
    refine J_seq ?_
    refine J_cond (f := Tryd.f27) (t := decide (i < 8)) (by kernel_rfl) (by kernel_rfl) (fun hlt => ?_) (fun hlt => ?_)
    · have hlt2 : i < 8 := by simpa using hlt
      obtain ⟨b, hb⟩ : ∃ x, s0.data.toList[i.toNat]? = some x := ⟨_, List.getElem?_eq_getElem (by omega)⟩
      refine J_skip ?_
      refine J_seq ?_
      refine J_block ?_
      refine J_seq ?_
      refine Za [.rd 0 [] 0 0, .rd 1 [] 0 0] [13] [(4, .val (.int .i64 i))] ?_
      refine jT [(0, true), (1, true), (2, true), (3, true), (4, true), (5, true), (6, true), (7, false), (8, true), (9, true), (10, true)] [] ?_
      refine Ya (f := Tryd.f27) (id := 6) (rest := [(7, false), (8, true), (9, true), (10, true)]) (Rds 0 5 ++ [.rd 5 [.o 0 none] 0 0, .rd 6 [] 0 0]) [] [(16, .val (.int .i64 (IntKind.i64.wrap (n * 2 ^ min (Int.toNat 8) IntKind.i64.bits)))), (20, .val (.string s0)), (21, .val (.int .i64 i))] ?_
      refine JR_idx 9 s0 i _ (some 22) (by kernel_rfl) (by kernel_rfl) hi0 hb ?_
      refine Ya (f := Tryd.f27) (id := 6) (rest := []) (Rds 8 11) [22, 16, 20, 21] [(3, .val (.int .i64 (IntKind.i64.wrap (↑(BitVec.ofInt IntKind.i64.bits (IntKind.i64.wrap (n * 2 ^ min (Int.toNat 8) IntKind.i64.bits)) ||| BitVec.ofInt IntKind.i64.bits (IntKind.i64.wrap (↑b.toNat : Int))).toNat : Int))))] ?_
      refine JR_end ?_
      refine J_eb ?_
      refine Zp [.rd 0 [] 0 1, .rd 1 [] 0 0] [] [(12, .val (.int .i64 (i + 1)))] [IntKind.i64.wrap (i + (1 : Int)) = i + (1 : Int)] ⟨wrap_i64 (by omega) (by omega), trivial⟩ ?_
      refine J_backx (i + 1, hornI n b) [0, 2, 3, 12] [0] [] [] ?_ ?_ (by kernel_rfl) rfl rfl rfl
      · refine ⟨by simp only; omega, by simp only; omega, ?_⟩
        simp only
        rw [num_snoc hi0 hb, ← hn]
      · simp only
        omega
    · obtain rfl : i = 8 := by simp at hlt; omega
      refine J_exit rfl ?_
      refine J_seq ?_
      refine Zn (Rds 0 4 ++ [.rd 4 [.o 0 none] 0 0, .rd 5 [] 0 4, .rd 6 [] 0 0, .rd 7 [] 0 0, .wr 8 [.o 0 none] 0]) [(8, [0])] [13, 0, 12] (fun _ => []) (fun _ => [(pb, .cells #[.string (s0.extract (Int.toNat 8) s0.size)] 74 (0, 0))]) (fun _ => [(0 : Int) ≤ (8 : Int), (8 : Int) ≤ (↑s0.size : Int)]) (fun _ => ⟨hi0, by omega, trivial⟩) (fun _ => ?_)
      refine J_seq ?_
      refine Za [.rd 0 [] 0 0, .rd 1 [] 0 0] [3] [(2, .val (.int .i64 n))] ?_
      refine Yr [[]] (.int .i64 n) fun a w s => ?_
      refine .inl ⟨n, _, ?_, (s.hide 0 rfl).ret (by simp) [0] [] rfl rfl⟩
      unfold rdN
      rw [if_pos (by rw [hz]; exact hb8), hn, ext_drop]
      rfl
  · refine .inr ⟨_, hR, fun a w s => hpn _ _ _ s.ag.defers (.inr ⟨?_, rfl, s.fr _ (List.mem_singleton.2 rfl)⟩)⟩
    unfold rdN
    rw [if_neg (by simp at hb; omega)]
theorem _root_.Go.Sx.Codec.le {α : Type} {en : α → List UInt8} {rd : Rd α} {ok : α → Prop} (h : Codec en rd ok) {l l' : List UInt8} {x : α} (he : rd l = some (x, l')) : l'.length ≤ l.length := by
  rw [h.forth _ _ _ he, List.length_append]
  omega
theorem many_quo {z len K : Nat} {k : Int} (hk : k = (K : Int)) (hz : len = z) (hb : z ≤ 1000000) : IntKind.i64.wrap ((z : Int).tdiv k) = ((len / K : Nat) : Int) := by
  subst hk hz
  rw [Int.tdiv_eq_ediv_of_nonneg (by omega), ← Int.natCast_ediv, wrap_if]
  have := Nat.div_le_self len K
  generalize len / K = q at *
  omega
set_option maxHeartbeats 4000000 in
theorem eyeMany1 {w0 : World} {S : Nat → Prop} {M : List Nat} {pb : Nat} {s0 : ByteArray} (hs : s0.size ≤ 1000000) (hP : Pre w0 S M [cObj pb (eyeC s0)]) :
    Calls Tryd.prog 29 #[.pointer (some ⟨pb, 0, none⟩), .int .i64 1] w0 fun e w' => (∃ n s1, rdMany 1 s0.data.toList = some (n, s1.data.toList) ∧ Ret M w0 S w' e (.int .i64 n) [cObj pb (eyeC s1)] []) ∨ (rdMany 1 s0.data.toList = none ∧ Pn M w0 w' e blind) := by
  refine calls_JP (args := [.pointer (some ⟨pb, 0, none⟩), .int .i64 1]) (S := S) (C := [cObj pb (eyeC s0)]) (G := []) Tryd.func29 bd29 rfl (by kernel_rfl) hP (AllG.nil w0 S) fun pn hpn => ?_
  refine J_seq ?_
  refine Za [.rd 0 [] 0 0] [] [(4, .val (.int .i64 0))] ?_
  refine J_seq ?_
  refine jT [(0, true), (1, false), (2, true)] [] ?_
  refine Ya (f := Tryd.f29) (id := 1) (rest := [(1, false), (2, true)]) [.rd 0 [] 0 0] [] [(6, .val (.pointer (some (⟨pb, 0, none⟩))))] ?_
  refine JR_callpan [] [0] 27 #[.pointer (some (⟨pb, 0, none⟩))] (some 7) (by kernel_rfl) (by kernel_rfl) (by decide) (fun w S M hP hG _ => ?_)
  refine (eyeNumber hs hP).mono ?_
  rintro e1 w1 (⟨n, s1, hn, hR⟩ | ⟨hn, hR⟩)
  · refine .inl ⟨_, _, _, hR, ?_⟩
    have hle : s1.data.toList.length ≤ s0.data.toList.length := codecN.le hn
    have hz1 : s1.data.toList.length = s1.size := by simp
    have hz0 : s0.data.toList.length = s0.size := by simp
    try simp only [aQ]
    refine Ya (f := Tryd.f29) (id := 1) (rest := []) [.rd 2 [] 0 0] [7, 6] [(5, .val (.int .i64 n))] ?_
    try simp only [aQ]
    refine JR_end ?_
    try simp only [aQ]
    refine J_seq ?_
    try simp only [aQ]
    refine Nm [cObj pb (.cells #[.string s1] 74 (0, 0))] ?_
    refine J_show 0 rfl ?_
    refine jT [(0, true), (1, true), (2, true), (3, true), (4, true), (5, true), (6, true), (7, true), (8, true), (9, true), (10, true), (11, true), (12, true), (13, false)] [] ?_
    refine Ya (f := Tryd.f29) (id := 2) (rest := [(13, false)]) (Rds 0 3 ++ [.rd 3 [] 2 0, .rd 4 [] 2 0, .rd 5 [] 2 0, .rd 6 [] 2 0, .rd 7 [.o 0 none] 2 0, .rd 8 [] 2 0, .rd 9 [] 2 0, .rd 10 [] 2 0, .rd 11 [] 2 0, .rd 12 [] 0 3]) [0, 1] [(20, .val (.bool (decide (n ≥ 0) && decide (n ≤ IntKind.i64.wrap ((↑s1.size : Int).tdiv 1)))))] ?_
    refine JR_callpanp [] 31 #[.bool (decide (n ≥ 0) && decide (n ≤ IntKind.i64.wrap ((↑s1.size : Int).tdiv 1)))] (some 21) (by kernel_rfl) (fun w S hG => ?_)
    refine (mustW (S := S)).mono ?_
    rintro e2 w2 (⟨hb, hR⟩ | ⟨hb, hR⟩)
    · refine .inl ⟨_, _, _, hR, ?_⟩
      try simp only [aQ]
      refine JR_end ?_
      refine J_seq ?_
      refine Za [.rd 0 [] 0 0, .rd 1 [] 0 0] [21, 20, 5] [(4, .val (.int .i64 n))] ?_
      refine Yr [[]] (.int .i64 n) fun a w s => ?_
      refine .inl ⟨n, s1, ?_, (s.hide 0 rfl).ret (by simp) [0] [] rfl rfl⟩
      rw [rdMany, hn]
      simp only [Option.bind_some]
      rw [if_pos]
      rw [many_quo (k := 1) (K := 1) rfl hz1 (by omega)] at hb
      simp only [Bool.and_eq_true, decide_eq_true_eq] at hb
      exact hb
    · refine .inr ⟨_, hR, fun a w s => hpn _ _ _ s.ag.defers (.inr ⟨?_, rfl, s.fr _ (List.mem_singleton.2 rfl)⟩)⟩
      rw [rdMany, hn]
      simp only [Option.bind_some]
      rw [if_neg]
      intro hc
      rw [many_quo (k := 1) (K := 1) rfl hz1 (by omega)] at hb
      have ht : (decide (n ≥ 0) && decide (n ≤ ((s1.data.toList.length / 1 : Nat) : Int))) = true := by
        simp only [Bool.and_eq_true, decide_eq_true_eq]
        exact hc
      rw [ht] at hb
      cases hb
  · refine .inr ⟨_, hR, fun a w s => hpn _ _ _ s.ag.defers (.inr ⟨?_, rfl, s.fr _ (List.mem_singleton.2 rfl)⟩)⟩
    rw [rdMany, hn]
    rfl
set_option maxHeartbeats 4000000 in
theorem eyeMany8 {w0 : World} {S : Nat → Prop} {M : List Nat} {pb : Nat} {s0 : ByteArray} (hs : s0.size ≤ 1000000) (hP : Pre w0 S M [cObj pb (eyeC s0)]) :
    Calls Tryd.prog 29 #[.pointer (some ⟨pb, 0, none⟩), .int .i64 8] w0 fun e w' => (∃ n s1, rdMany 8 s0.data.toList = some (n, s1.data.toList) ∧ Ret M w0 S w' e (.int .i64 n) [cObj pb (eyeC s1)] []) ∨ (rdMany 8 s0.data.toList = none ∧ Pn M w0 w' e blind) := by
  refine calls_JP (args := [.pointer (some ⟨pb, 0, none⟩), .int .i64 8]) (S := S) (C := [cObj pb (eyeC s0)]) (G := []) Tryd.func29 bd29 rfl (by kernel_rfl) hP (AllG.nil w0 S) fun pn hpn => ?_
  refine J_seq ?_
  refine Za [.rd 0 [] 0 0] [] [(4, .val (.int .i64 0))] ?_
  refine J_seq ?_
  refine jT [(0, true), (1, false), (2, true)] [] ?_
  refine Ya (f := Tryd.f29) (id := 1) (rest := [(1, false), (2, true)]) [.rd 0 [] 0 0] [] [(6, .val (.pointer (some (⟨pb, 0, none⟩))))] ?_
  refine JR_callpan [] [0] 27 #[.pointer (some (⟨pb, 0, none⟩))] (some 7) (by kernel_rfl) (by kernel_rfl) (by decide) (fun w S M hP hG _ => ?_)
  refine (eyeNumber hs hP).mono ?_
  rintro e1 w1 (⟨n, s1, hn, hR⟩ | ⟨hn, hR⟩)
  · refine .inl ⟨_, _, _, hR, ?_⟩
    have hle : s1.data.toList.length ≤ s0.data.toList.length := codecN.le hn
    have hz1 : s1.data.toList.length = s1.size := by simp
    have hz0 : s0.data.toList.length = s0.size := by simp
    try simp only [aQ]
    refine Ya (f := Tryd.f29) (id := 1) (rest := []) [.rd 2 [] 0 0] [7, 6] [(5, .val (.int .i64 n))] ?_
    try simp only [aQ]
    refine JR_end ?_
    try simp only [aQ]
    refine J_seq ?_
    try simp only [aQ]
    refine Nm [cObj pb (.cells #[.string s1] 74 (0, 0))] ?_
    refine J_show 0 rfl ?_
    refine jT [(0, true), (1, true), (2, true), (3, true), (4, true), (5, true), (6, true), (7, true), (8, true), (9, true), (10, true), (11, true), (12, true), (13, false)] [] ?_
    refine Ya (f := Tryd.f29) (id := 2) (rest := [(13, false)]) (Rds 0 3 ++ [.rd 3 [] 2 0, .rd 4 [] 2 0, .rd 5 [] 2 0, .rd 6 [] 2 0, .rd 7 [.o 0 none] 2 0, .rd 8 [] 2 0, .rd 9 [] 2 0, .rd 10 [] 2 0, .rd 11 [] 2 0, .rd 12 [] 0 3]) [0, 1] [(20, .val (.bool (decide (n ≥ 0) && decide (n ≤ IntKind.i64.wrap ((↑s1.size : Int).tdiv 8)))))] ?_
    refine JR_callpanp [] 31 #[.bool (decide (n ≥ 0) && decide (n ≤ IntKind.i64.wrap ((↑s1.size : Int).tdiv 8)))] (some 21) (by kernel_rfl) (fun w S hG => ?_)
    refine (mustW (S := S)).mono ?_
    rintro e2 w2 (⟨hb, hR⟩ | ⟨hb, hR⟩)
    · refine .inl ⟨_, _, _, hR, ?_⟩
      try simp only [aQ]
      refine JR_end ?_
      refine J_seq ?_
      refine Za [.rd 0 [] 0 0, .rd 1 [] 0 0] [21, 20, 5] [(4, .val (.int .i64 n))] ?_
      refine Yr [[]] (.int .i64 n) fun a w s => ?_
      refine .inl ⟨n, s1, ?_, (s.hide 0 rfl).ret (by simp) [0] [] rfl rfl⟩
      rw [rdMany, hn]
      simp only [Option.bind_some]
      rw [if_pos]
      rw [many_quo (k := 8) (K := 8) rfl hz1 (by omega)] at hb
      simp only [Bool.and_eq_true, decide_eq_true_eq] at hb
      exact hb
    · refine .inr ⟨_, hR, fun a w s => hpn _ _ _ s.ag.defers (.inr ⟨?_, rfl, s.fr _ (List.mem_singleton.2 rfl)⟩)⟩
      rw [rdMany, hn]
      simp only [Option.bind_some]
      rw [if_neg]
      intro hc
      rw [many_quo (k := 8) (K := 8) rfl hz1 (by omega)] at hb
      have ht : (decide (n ≥ 0) && decide (n ≤ ((s1.data.toList.length / 8 : Nat) : Int))) = true := by
        simp only [Bool.and_eq_true, decide_eq_true_eq]
        exact hc
      rw [ht] at hb
      cases hb
  · refine .inr ⟨_, hR, fun a w s => hpn _ _ _ s.ag.defers (.inr ⟨?_, rfl, s.fr _ (List.mem_singleton.2 rfl)⟩)⟩
    rw [rdMany, hn]
    rfl
set_option maxHeartbeats 4000000 in
theorem eyeMany24 {w0 : World} {S : Nat → Prop} {M : List Nat} {pb : Nat} {s0 : ByteArray} (hs : s0.size ≤ 1000000) (hP : Pre w0 S M [cObj pb (eyeC s0)]) :
    Calls Tryd.prog 29 #[.pointer (some ⟨pb, 0, none⟩), .int .i64 24] w0 fun e w' => (∃ n s1, rdMany 24 s0.data.toList = some (n, s1.data.toList) ∧ Ret M w0 S w' e (.int .i64 n) [cObj pb (eyeC s1)] []) ∨ (rdMany 24 s0.data.toList = none ∧ Pn M w0 w' e blind) := by
  refine calls_JP (args := [.pointer (some ⟨pb, 0, none⟩), .int .i64 24]) (S := S) (C := [cObj pb (eyeC s0)]) (G := []) Tryd.func29 bd29 rfl (by kernel_rfl) hP (AllG.nil w0 S) fun pn hpn => ?_
  refine J_seq ?_
  refine Za [.rd 0 [] 0 0] [] [(4, .val (.int .i64 0))] ?_
  refine J_seq ?_
  refine jT [(0, true), (1, false), (2, true)] [] ?_
  refine Ya (f := Tryd.f29) (id := 1) (rest := [(1, false), (2, true)]) [.rd 0 [] 0 0] [] [(6, .val (.pointer (some (⟨pb, 0, none⟩))))] ?_
  refine JR_callpan [] [0] 27 #[.pointer (some (⟨pb, 0, none⟩))] (some 7) (by kernel_rfl) (by kernel_rfl) (by decide) (fun w S M hP hG _ => ?_)
  refine (eyeNumber hs hP).mono ?_
  rintro e1 w1 (⟨n, s1, hn, hR⟩ | ⟨hn, hR⟩)
  · refine .inl ⟨_, _, _, hR, ?_⟩
    have hle : s1.data.toList.length ≤ s0.data.toList.length := codecN.le hn
    have hz1 : s1.data.toList.length = s1.size := by simp
    have hz0 : s0.data.toList.length = s0.size := by simp
    try simp only [aQ]
    refine Ya (f := Tryd.f29) (id := 1) (rest := []) [.rd 2 [] 0 0] [7, 6] [(5, .val (.int .i64 n))] ?_
    try simp only [aQ]
    refine JR_end ?_
    try simp only [aQ]
    refine J_seq ?_
    try simp only [aQ]
    refine Nm [cObj pb (.cells #[.string s1] 74 (0, 0))] ?_
    refine J_show 0 rfl ?_
    refine jT [(0, true), (1, true), (2, true), (3, true), (4, true), (5, true), (6, true), (7, true), (8, true), (9, true), (10, true), (11, true), (12, true), (13, false)] [] ?_
    refine Ya (f := Tryd.f29) (id := 2) (rest := [(13, false)]) (Rds 0 3 ++ [.rd 3 [] 2 0, .rd 4 [] 2 0, .rd 5 [] 2 0, .rd 6 [] 2 0, .rd 7 [.o 0 none] 2 0, .rd 8 [] 2 0, .rd 9 [] 2 0, .rd 10 [] 2 0, .rd 11 [] 2 0, .rd 12 [] 0 3]) [0, 1] [(20, .val (.bool (decide (n ≥ 0) && decide (n ≤ IntKind.i64.wrap ((↑s1.size : Int).tdiv 24)))))] ?_
    refine JR_callpanp [] 31 #[.bool (decide (n ≥ 0) && decide (n ≤ IntKind.i64.wrap ((↑s1.size : Int).tdiv 24)))] (some 21) (by kernel_rfl) (fun w S hG => ?_)
    refine (mustW (S := S)).mono ?_
    rintro e2 w2 (⟨hb, hR⟩ | ⟨hb, hR⟩)
    · refine .inl ⟨_, _, _, hR, ?_⟩
      try simp only [aQ]
      refine JR_end ?_
      refine J_seq ?_
      refine Za [.rd 0 [] 0 0, .rd 1 [] 0 0] [21, 20, 5] [(4, .val (.int .i64 n))] ?_
      refine Yr [[]] (.int .i64 n) fun a w s => ?_
      refine .inl ⟨n, s1, ?_, (s.hide 0 rfl).ret (by simp) [0] [] rfl rfl⟩
      rw [rdMany, hn]
      simp only [Option.bind_some]
      rw [if_pos]
      rw [many_quo (k := 24) (K := 24) rfl hz1 (by omega)] at hb
      simp only [Bool.and_eq_true, decide_eq_true_eq] at hb
      exact hb
    · refine .inr ⟨_, hR, fun a w s => hpn _ _ _ s.ag.defers (.inr ⟨?_, rfl, s.fr _ (List.mem_singleton.2 rfl)⟩)⟩
      rw [rdMany, hn]
      simp only [Option.bind_some]
      rw [if_neg]
      intro hc
      rw [many_quo (k := 24) (K := 24) rfl hz1 (by omega)] at hb
      have ht : (decide (n ≥ 0) && decide (n ≤ ((s1.data.toList.length / 24 : Nat) : Int))) = true := by
        simp only [Bool.and_eq_true, decide_eq_true_eq]
        exact hc
      rw [ht] at hb
      cases hb
  · refine .inr ⟨_, hR, fun a w s => hpn _ _ _ s.ag.defers (.inr ⟨?_, rfl, s.fr _ (List.mem_singleton.2 rfl)⟩)⟩
    rw [rdMany, hn]
    rfl
set_option maxHeartbeats 4000000 in
theorem eyeMany56 {w0 : World} {S : Nat → Prop} {M : List Nat} {pb : Nat} {s0 : ByteArray} (hs : s0.size ≤ 1000000) (hP : Pre w0 S M [cObj pb (eyeC s0)]) :
    Calls Tryd.prog 29 #[.pointer (some ⟨pb, 0, none⟩), .int .i64 56] w0 fun e w' => (∃ n s1, rdMany 56 s0.data.toList = some (n, s1.data.toList) ∧ Ret M w0 S w' e (.int .i64 n) [cObj pb (eyeC s1)] []) ∨ (rdMany 56 s0.data.toList = none ∧ Pn M w0 w' e blind) := by
  refine calls_JP (args := [.pointer (some ⟨pb, 0, none⟩), .int .i64 56]) (S := S) (C := [cObj pb (eyeC s0)]) (G := []) Tryd.func29 bd29 rfl (by kernel_rfl) hP (AllG.nil w0 S) fun pn hpn => ?_
  refine J_seq ?_
  refine Za [.rd 0 [] 0 0] [] [(4, .val (.int .i64 0))] ?_
  refine J_seq ?_
  refine jT [(0, true), (1, false), (2, true)] [] ?_
  refine Ya (f := Tryd.f29) (id := 1) (rest := [(1, false), (2, true)]) [.rd 0 [] 0 0] [] [(6, .val (.pointer (some (⟨pb, 0, none⟩))))] ?_
  refine JR_callpan [] [0] 27 #[.pointer (some (⟨pb, 0, none⟩))] (some 7) (by kernel_rfl) (by kernel_rfl) (by decide) (fun w S M hP hG _ => ?_)
  refine (eyeNumber hs hP).mono ?_
  rintro e1 w1 (⟨n, s1, hn, hR⟩ | ⟨hn, hR⟩)
  · refine .inl ⟨_, _, _, hR, ?_⟩
    have hle : s1.data.toList.length ≤ s0.data.toList.length := codecN.le hn
    have hz1 : s1.data.toList.length = s1.size := by simp
    have hz0 : s0.data.toList.length = s0.size := by simp
    try simp only [aQ]
    refine Ya (f := Tryd.f29) (id := 1) (rest := []) [.rd 2 [] 0 0] [7, 6] [(5, .val (.int .i64 n))] ?_
    try simp only [aQ]
    refine JR_end ?_
    try simp only [aQ]
    refine J_seq ?_
    try simp only [aQ]
    refine Nm [cObj pb (.cells #[.string s1] 74 (0, 0))] ?_
    refine J_show 0 rfl ?_
    refine jT [(0, true), (1, true), (2, true), (3, true), (4, true), (5, true), (6, true), (7, true), (8, true), (9, true), (10, true), (11, true), (12, true), (13, false)] [] ?_
    refine Ya (f := Tryd.f29) (id := 2) (rest := [(13, false)]) (Rds 0 3 ++ [.rd 3 [] 2 0, .rd 4 [] 2 0, .rd 5 [] 2 0, .rd 6 [] 2 0, .rd 7 [.o 0 none] 2 0, .rd 8 [] 2 0, .rd 9 [] 2 0, .rd 10 [] 2 0, .rd 11 [] 2 0, .rd 12 [] 0 3]) [0, 1] [(20, .val (.bool (decide (n ≥ 0) && decide (n ≤ IntKind.i64.wrap ((↑s1.size : Int).tdiv 56)))))] ?_
    refine JR_callpanp [] 31 #[.bool (decide (n ≥ 0) && decide (n ≤ IntKind.i64.wrap ((↑s1.size : Int).tdiv 56)))] (some 21) (by kernel_rfl) (fun w S hG => ?_)
    refine (mustW (S := S)).mono ?_
    rintro e2 w2 (⟨hb, hR⟩ | ⟨hb, hR⟩)
    · refine .inl ⟨_, _, _, hR, ?_⟩
      try simp only [aQ]
      refine JR_end ?_
      refine J_seq ?_
      refine Za [.rd 0 [] 0 0, .rd 1 [] 0 0] [21, 20, 5] [(4, .val (.int .i64 n))] ?_
      refine Yr [[]] (.int .i64 n) fun a w s => ?_
      refine .inl ⟨n, s1, ?_, (s.hide 0 rfl).ret (by simp) [0] [] rfl rfl⟩
      rw [rdMany, hn]
      simp only [Option.bind_some]
      rw [if_pos]
      rw [many_quo (k := 56) (K := 56) rfl hz1 (by omega)] at hb
      simp only [Bool.and_eq_true, decide_eq_true_eq] at hb
      exact hb
    · refine .inr ⟨_, hR, fun a w s => hpn _ _ _ s.ag.defers (.inr ⟨?_, rfl, s.fr _ (List.mem_singleton.2 rfl)⟩)⟩
      rw [rdMany, hn]
      simp only [Option.bind_some]
      rw [if_neg]
      intro hc
      rw [many_quo (k := 56) (K := 56) rfl hz1 (by omega)] at hb
      have ht : (decide (n ≥ 0) && decide (n ≤ ((s1.data.toList.length / 56 : Nat) : Int))) = true := by
        simp only [Bool.and_eq_true, decide_eq_true_eq]
        exact hc
      rw [ht] at hb
      cases hb
  · refine .inr ⟨_, hR, fun a w s => hpn _ _ _ s.ag.defers (.inr ⟨?_, rfl, s.fr _ (List.mem_singleton.2 rfl)⟩)⟩
    rw [rdMany, hn]
    rfl
end Go.Proofs.YtonhcoeneahpaaaDoor
end
section
namespace Go.Proofs.YtonhcoeneahpaaaDoor
open Go Go.Sx
set_option maxHeartbeats 4000000 in
theorem eyeText {w0 : World} {S : Nat → Prop} {M : List Nat} {pb : Nat} {s0 : ByteArray} (hs : s0.size ≤ 1000000) (hP : Pre w0 S M [cObj pb (eyeC s0)]) :
    Calls Tryd.prog 39 #[.pointer (some ⟨pb, 0, none⟩)] w0 fun e w' => (∃ t s1, rdT s0.data.toList = some (t, s1.data.toList) ∧ Ret M w0 S w' e (.string t) [cObj pb (eyeC s1)] []) ∨ (rdT s0.data.toList = none ∧ Pn M w0 w' e blind) := by
  refine calls_JP (args := [.pointer (some ⟨pb, 0, none⟩)]) (S := S) (C := [cObj pb (eyeC s0)]) (G := []) Tryd.func39 bd39 rfl (by kernel_rfl) hP (AllG.nil w0 S) fun pn hpn => ?_
  refine J_seq ?_
  refine Za [.rd 0 [] 0 0] [] [(2, .val (.string (ByteArray.mk #[])))] ?_
  refine J_seq ?_
  refine jT [(0, true), (1, false), (2, true)] [] ?_
  refine Ya (f := Tryd.f39) (id := 1) (rest := [(1, false), (2, true)]) [.rd 0 [] 0 0] [] [(5, .val (.pointer (some (⟨pb, 0, none⟩))))] ?_
  refine JR_callpan [] [0] 29 #[.pointer (some (⟨pb, 0, none⟩)), .int .i64 1] (some 6) (by kernel_rfl) (by kernel_rfl) (by decide) (fun w S M hP hG _ => ?_)
  refine (eyeMany1 hs hP).mono ?_
  rintro e1 w1 (⟨n, s1, hn, hR⟩ | ⟨hn, hR⟩)
  · refine .inl ⟨_, _, _, hR, ?_⟩
    obtain ⟨_, h0, h1⟩ := rdMany_some hn
    have h2 : n ≤ s1.size := by simpa using h1
    try simp only [aQ]
    refine Ya (f := Tryd.f39) (id := 1) (rest := []) [.rd 2 [] 0 0] [6, 5] [(3, .val (.int .i64 n))] ?_
    try simp only [aQ]
    refine JR_end ?_
    try simp only [aQ]
    refine J_seq ?_
    try simp only [aQ]
    refine Nm [cObj pb (.cells #[.string s1] 74 (0, 0))] ?_
    refine J_show 0 rfl ?_
    refine Zp (Rds 0 3 ++ [.rd 3 [.o 0 none] 0 0, .rd 4 [] 0 0, .rd 5 [] 0 4, .rd 6 [] 0 0]) [] [(4, .val (.string (s1.extract 0 n.toNat)))] [(0 : Int) ≤ n, n ≤ (↑s1.size : Int)] ⟨h0, h2, trivial⟩ ?_
    refine J_seq ?_
    refine Zn (Rds 0 4 ++ [.rd 4 [.o 0 none] 0 0, .rd 5 [] 0 0, .rd 6 [] 0 4, .rd 7 [] 0 0, .rd 8 [] 0 0, .wr 9 [.o 0 none] 0]) [(9, [0])] [3, 0] (fun _ => []) (fun _ => [(pb, .cells #[.string (s1.extract n.toNat s1.size)] 74 (0, 0))]) (fun _ => [(0 : Int) ≤ n, n ≤ (↑s1.size : Int)]) (fun _ => ⟨h0, h2, trivial⟩) (fun _ => ?_)
    refine J_seq ?_
    refine Za [.rd 0 [] 0 0, .rd 1 [] 0 0] [4] [(2, .val (.string (s1.extract 0 n.toNat)))] ?_
    refine Yr [[]] (.string (s1.extract 0 n.toNat)) fun a w s => ?_
    refine .inl ⟨_, _, ?_, (s.hide 0 rfl).ret (by simp) [0] [] rfl rfl⟩
    rw [rdT, hn]
    simp only [Option.bind_some]
    rw [ext_drop, ← ext_take, ← ba_of rfl]
  · refine .inr ⟨_, hR, fun a w s => hpn _ _ _ s.ag.defers (.inr ⟨?_, rfl, s.fr _ (List.mem_singleton.2 rfl)⟩)⟩
    rw [rdT, hn]
    rfl
set_option maxHeartbeats 4000000 in
theorem eyeFlag {w0 : World} {S : Nat → Prop} {M : List Nat} {pb : Nat} {s0 : ByteArray} (hs : s0.size ≤ 1000000) (hP : Pre w0 S M [cObj pb (eyeC s0)]) :
    Calls Tryd.prog 28 #[.pointer (some ⟨pb, 0, none⟩)] w0 fun e w' => (∃ b s1, rdF s0.data.toList = some (b, s1.data.toList) ∧ Ret M w0 S w' e (.bool b) [cObj pb (eyeC s1)] []) ∨ (rdF s0.data.toList = none ∧ Pn M w0 w' e blind) := by
  refine calls_JP (args := [.pointer (some ⟨pb, 0, none⟩)]) (S := S) (C := [cObj pb (eyeC s0)]) (G := []) Tryd.func28 bd28 rfl (by kernel_rfl) hP (AllG.nil w0 S) fun pn hpn => ?_
  refine J_seq ?_
  refine Za [.rd 0 [] 0 0] [] [(2, .val (.bool false))] ?_
  refine J_seq ?_
  refine jT [(0, true), (1, false), (2, true)] [] ?_
  refine Ya (f := Tryd.f28) (id := 1) (rest := [(1, false), (2, true)]) [.rd 0 [] 0 0] [0] [(4, .val (.pointer (some (⟨pb, 0, none⟩))))] ?_
  refine JR_callpan [] [0] 27 #[.pointer (some (⟨pb, 0, none⟩))] (some 5) (by kernel_rfl) (by kernel_rfl) (by decide) (fun w S M hP hG _ => ?_)
  refine (eyeNumber hs hP).mono ?_
  rintro e1 w1 (⟨n, s1, hn, hR⟩ | ⟨hn, hR⟩)
  · refine .inl ⟨_, _, _, hR, ?_⟩
    try simp only [aQ]
    refine Ya (f := Tryd.f28) (id := 1) (rest := []) [.rd 2 [] 0 0] [5, 4] [(3, .val (.int .i64 n))] ?_
    try simp only [aQ]
    refine JR_end ?_
    try simp only [aQ]
    refine J_seq ?_
    try simp only [aQ]
    refine Nm [cObj pb (.cells #[.string s1] 74 (0, 0))] ?_
    refine jT [(0, true), (1, true), (2, true), (3, true), (4, true), (5, true), (6, false)] [] ?_
    refine Ya (f := Tryd.f28) (id := 2) (rest := [(6, false)]) (Rds 0 3 ++ [.rd 3 [] 2 0, .rd 4 [] 2 0, .rd 5 [] 0 3]) [] [(11, .val (.bool (n == 0 || n == 1)))] ?_
    refine JR_callpanp [] 31 #[.bool (n == 0 || n == 1)] (some 12) (by kernel_rfl) (fun w S hG => ?_)
    refine (mustW (S := S)).mono ?_
    rintro e2 w2 (⟨hb, hR⟩ | ⟨hb, hR⟩)
    · refine .inl ⟨_, _, _, hR, ?_⟩
      try simp only [aQ]
      refine JR_end ?_
      refine J_seq ?_
      refine Za (Rds 0 3) [12, 11, 3] [(2, .val (.bool (n == 1)))] ?_
      refine Yr [[]] (.bool (n == 1)) fun a w s => ?_
      refine .inl ⟨_, s1, ?_, s.ret (by simp) [0] [] rfl rfl⟩
      rw [rdF, hn]
      simp only [Option.bind_some]
      rw [if_pos (by simpa using hb)]
    · refine .inr ⟨_, hR, fun a w s => hpn _ _ _ s.ag.defers (.inr ⟨?_, rfl, s.fr _ (List.mem_singleton.2 rfl)⟩)⟩
      rw [rdF, hn]
      simp only [Option.bind_some]
      rw [if_neg (by simpa using hb)]
  · refine .inr ⟨_, hR, fun a w s => hpn _ _ _ s.ag.defers (.inr ⟨?_, rfl, s.fr _ (List.mem_singleton.2 rfl)⟩)⟩
    rw [rdF, hn]
    rfl
theorem rep_step {α : Type} {rd : Rd α} {n i : Int} {l l1 : List UInt8} {x : α} (hi : i < n) (h0 : 0 ≤ i) (h : rd l = some (x, l1)) : rdRep rd (n - i).toNat l = (rdRep rd (n - (i + 1)).toNat l1).map fun q => (x :: q.1, q.2) := by
  have e : (n - i).toNat = (n - (i + 1)).toNat + 1 := by omega
  rw [e]
  simp only [rdRep, h, Option.bind_some]
  cases rdRep rd (n - (i + 1)).toNat l1 <;> rfl
theorem rep_none {α : Type} {rd : Rd α} {n i : Int} {l : List UInt8} (hi : i < n) (h0 : 0 ≤ i) (h : rd l = none) : rdRep rd (n - i).toNat l = none := by
  have e : (n - i).toNat = (n - (i + 1)).toNat + 1 := by omega
  rw [e]
  simp only [rdRep, h, Option.bind_none]
structure EyeI (α : Type) where
  i : Int
  a : Option Addr
  k : Nat
  c : Nat
  s : ByteArray
  l : List α
set_option maxHeartbeats 4000000 in
theorem eyeOp {w0 : World} {S : Nat → Prop} {M : List Nat} {pb : Nat} {s0 : ByteArray} (hs : s0.size ≤ 1000000) (hP : Pre w0 S M [cObj pb (eyeC s0)]) :
    Calls Tryd.prog 30 #[.pointer (some ⟨pb, 0, none⟩)] w0 fun e w' => (∃ o s1 a n c, rdOp 24 s0.data.toList = some (o, s1.data.toList) ∧ Ret M w0 S w' e (.agg #[.int .i64 o.no, .string o.key, .int .i64 o.kind, .string o.text, .int .i64 o.n, .bool o.remove, .slice a n c]) [cObj pb (eyeC s1)] [(.slice a n c, .sl 3 (o.dots.map eDot))]) ∨ (rdOp 24 s0.data.toList = none ∧ Pn M w0 w' e blind) := by
  refine calls_JP (args := [.pointer (some ⟨pb, 0, none⟩)]) (S := S) (C := [cObj pb (eyeC s0)]) (G := []) Tryd.func30 bd30 rfl (by kernel_rfl) hP (AllG.nil w0 S) fun pn hpn => ?_
  have hz0 : s0.data.toList.length = s0.size := by simp
  refine J_seq ?_
  refine Zm [.wr 0 [] 0] [] [] (fun nu1 => [(2, .val (.pointer (some (⟨nu1 0, 0, none⟩))))]) (fun nu1 => [(nu1 0, .cells #[.int .i64 0, .string (ByteArray.mk #[]), .int .i64 0, .string (ByteArray.mk #[]), .int .i64 0, .bool false, .slice none 0 0] 52 (0, 0))]) (fun nu1 => ?_)
  refine J_seq ?_
  refine jT [(0, true), (1, false), (2, true), (3, false), (4, true), (5, false), (6, true), (7, false), (8, true), (9, false), (10, true), (11, false), (12, true), (13, false), (14, false)] [] ?_
  refine Ya (f := Tryd.f30) (id := 1) (rest := [(1, false), (2, true), (3, false), (4, true), (5, false), (6, true), (7, false), (8, true), (9, false), (10, true), (11, false), (12, true), (13, false), (14, false)]) [.rd 0 [] 0 0] [] [(4, .val (.pointer (some (⟨pb, 0, none⟩))))] ?_
  refine JR_callpan [] [0] 27 #[.pointer (some (⟨pb, 0, none⟩))] (some 5) (by kernel_rfl) (by kernel_rfl) (by decide) (fun w S M hP hG _ => ?_)
  refine (eyeNumber (s0 := s0) (by omega) hP).mono ?_
  rintro e1 w1 (⟨no, s1, h1, hR⟩ | ⟨h1, hR⟩)
  · refine .inl ⟨_, _, _, hR, ?_⟩
    have hz1 : s1.data.toList.length = s1.size := by simp
    have hle1 := codecN.le h1
    refine JN [cObj pb (.cells #[.string s1] 74 (0, 0))] ?_
    try simp only [aQ]
    refine Ya (f := Tryd.f30) (id := 1) (rest := [(3, false), (4, true), (5, false), (6, true), (7, false), (8, true), (9, false), (10, true), (11, false), (12, true), (13, false), (14, false)]) [.rd 2 [] 0 0] [4] [(6, .val (.pointer (some (⟨pb, 0, none⟩))))] ?_
    refine JR_callpan [] [0] 39 #[.pointer (some (⟨pb, 0, none⟩))] (some 7) (by kernel_rfl) (by kernel_rfl) (by decide) (fun w S M hP hG _ => ?_)
    refine (eyeText (s0 := s1) (by omega) hP).mono ?_
    rintro e2 w2 (⟨key, s2, h2, hR⟩ | ⟨h2, hR⟩)
    · refine .inl ⟨_, _, _, hR, ?_⟩
      have hz2 : s2.data.toList.length = s2.size := by simp
      have hle2 := codecT.le h2
      refine JN [cObj pb (.cells #[.string s2] 74 (0, 0))] ?_
      try simp only [aQ]
      refine Ya (f := Tryd.f30) (id := 1) (rest := [(5, false), (6, true), (7, false), (8, true), (9, false), (10, true), (11, false), (12, true), (13, false), (14, false)]) [.rd 4 [] 0 0] [6] [(8, .val (.pointer (some (⟨pb, 0, none⟩))))] ?_
      refine JR_callpan [] [0] 27 #[.pointer (some (⟨pb, 0, none⟩))] (some 9) (by kernel_rfl) (by kernel_rfl) (by decide) (fun w S M hP hG _ => ?_)
      refine (eyeNumber (s0 := s2) (by omega) hP).mono ?_
      rintro e3 w3 (⟨kind, s3, h3, hR⟩ | ⟨h3, hR⟩)
      · refine .inl ⟨_, _, _, hR, ?_⟩
        have hz3 : s3.data.toList.length = s3.size := by simp
        have hle3 := codecN.le h3
        refine JN [cObj pb (.cells #[.string s3] 74 (0, 0))] ?_
        try simp only [aQ]
        refine Ya (f := Tryd.f30) (id := 1) (rest := [(7, false), (8, true), (9, false), (10, true), (11, false), (12, true), (13, false), (14, false)]) [.rd 6 [] 0 0] [8] [(10, .val (.pointer (some (⟨pb, 0, none⟩))))] ?_
        refine JR_callpan [] [0] 39 #[.pointer (some (⟨pb, 0, none⟩))] (some 11) (by kernel_rfl) (by kernel_rfl) (by decide) (fun w S M hP hG _ => ?_)
        refine (eyeText (s0 := s3) (by omega) hP).mono ?_
        rintro e4 w4 (⟨text, s4, h4, hR⟩ | ⟨h4, hR⟩)
        · refine .inl ⟨_, _, _, hR, ?_⟩
          have hz4 : s4.data.toList.length = s4.size := by simp
          have hle4 := codecT.le h4
          refine JN [cObj pb (.cells #[.string s4] 74 (0, 0))] ?_
          try simp only [aQ]
          refine Ya (f := Tryd.f30) (id := 1) (rest := [(9, false), (10, true), (11, false), (12, true), (13, false), (14, false)]) [.rd 8 [] 0 0] [10] [(12, .val (.pointer (some (⟨pb, 0, none⟩))))] ?_
          refine JR_callpan [] [0] 27 #[.pointer (some (⟨pb, 0, none⟩))] (some 13) (by kernel_rfl) (by kernel_rfl) (by decide) (fun w S M hP hG _ => ?_)
          refine (eyeNumber (s0 := s4) (by omega) hP).mono ?_
          rintro e5 w5 (⟨nn, s5, h5, hR⟩ | ⟨h5, hR⟩)
          · refine .inl ⟨_, _, _, hR, ?_⟩
            have hz5 : s5.data.toList.length = s5.size := by simp
            have hle5 := codecN.le h5
            refine JN [cObj pb (.cells #[.string s5] 74 (0, 0))] ?_
            try simp only [aQ]
            refine Ya (f := Tryd.f30) (id := 1) (rest := [(11, false), (12, true), (13, false), (14, false)]) [.rd 10 [] 0 0] [12] [(14, .val (.pointer (some (⟨pb, 0, none⟩))))] ?_
            refine JR_callpan [] [0] 28 #[.pointer (some (⟨pb, 0, none⟩))] (some 15) (by kernel_rfl) (by kernel_rfl) (by decide) (fun w S M hP hG _ => ?_)
            refine (eyeFlag (s0 := s5) (by omega) hP).mono ?_
            rintro e6 w6 (⟨rem, s6, h6, hR⟩ | ⟨h6, hR⟩)
            · refine .inl ⟨_, _, _, hR, ?_⟩
              have hz6 : s6.data.toList.length = s6.size := by simp
              have hle6 := codecF.le h6
              refine JN [cObj pb (.cells #[.string s6] 74 (0, 0))] ?_
              try simp only [aQ]
              refine Ym (f := Tryd.f30) (id := 1) (rest := []) [.rd 12 [] 0 0, .wr 13 [] 0, .wr 14 [.o 1 none, .o 1 none, .o 1 none, .o 1 none, .o 1 none, .o 1 none, .o 1 none] 0] [15, 14, 13, 11, 9, 7, 5] (fun nu2 => [(3, .val (.pointer (some (⟨nu2 0, 0, none⟩))))]) (fun nu2 => [(nu1 0, .cells #[.int .i64 0, .string (ByteArray.mk #[]), .int .i64 0, .string (ByteArray.mk #[]), .int .i64 0, .bool false, .slice none 0 0] 52 (0, 0)), (nu2 0, .cells #[.int .i64 no, .string key, .int .i64 kind, .string text, .int .i64 nn, .bool rem, .slice none 0 0] 52 (0, 0))]) [] (fun nu2 => ?_)
              refine JR_end ?_
              refine J_seq ?_
              refine J_seq ?_
              refine Nm [cObj pb (.cells #[.string s6] 74 (0, 0))] ?_
              refine jT [(0, true), (1, false), (2, true)] [] ?_
              refine Ya (f := Tryd.f30) (id := 2) (rest := [(1, false), (2, true)]) [.rd 0 [] 0 0] [] [(17, .val (.pointer (some (⟨pb, 0, none⟩))))] ?_
              refine JR_callpan [] [0] 29 #[.pointer (some (⟨pb, 0, none⟩)), .int .i64 24] (some 18) (by kernel_rfl) (by kernel_rfl) (by decide) (fun w S M hP hG _ => ?_)
              refine (eyeMany24 (s0 := s6) (by omega) hP).mono ?_
              rintro e7 w7 (⟨n, s7, h7, hR⟩ | ⟨h7, hR⟩)
              · refine .inl ⟨_, _, _, hR, ?_⟩
                have hz7 : s7.data.toList.length = s7.size := by simp
                obtain ⟨hm1, hm2, hm3⟩ := rdMany_some h7
                have hle7 := codecN.le hm1
                have hm4 : n ≤ 1000000 := by
                  have := Nat.div_le_self s7.data.toList.length 24
                  omega
                try simp only [aQ]
                refine Ya (f := Tryd.f30) (id := 2) (rest := []) [.rd 2 [] 0 0] [17] [(19, .val (.int .i64 0))] ?_
                try simp only [aQ]
                refine JR_end ?_
                try simp only [aQ]
                refine J_block ?_
                try simp only [aQ]
                refine Nm [cObj pb (.cells #[.string s7] 74 (0, 0))] ?_
                refine J_stp (stp_accm eDot 61 3) ?_
                refine J_loopx (fun x : EyeI DotT => [(0, .val (.pointer (some (⟨pb, 0, none⟩)))), (2, .val (.pointer (some (⟨nu1 0, 0, none⟩)))), (3, .val (.pointer (some (⟨nu2 0, 0, none⟩)))), (18, .val (.int .i64 n)), (19, .val (.int .i64 x.i))]) (fun x : EyeI DotT => [(nu1 0, .cells #[.int .i64 0, .string (ByteArray.mk #[]), .int .i64 0, .string (ByteArray.mk #[]), .int .i64 0, .bool false, .slice none 0 0] 52 (0, 0)), (nu2 0, .cells #[.int .i64 no, .string key, .int .i64 kind, .string text, .int .i64 nn, .bool rem, .slice x.a x.k x.c] 52 (0, 0))]) (fun x : EyeI DotT => [cObj pb (eyeC x.s), cAcc (.slice x.a x.k x.c) 61 3 (x.l.map eDot)]) (fun x : EyeI DotT => []) (fun x : EyeI DotT => (n - x.i).toNat) (fun x : EyeI DotT => (0 ≤ x.i ∧ x.i ≤ n ∧ x.s.size ≤ 1000000 ∧ (x.l.length : Int) = x.i ∧ rdRep rdDot n.toNat s7.data.toList = (rdRep rdDot (n - x.i).toNat x.s.data.toList).map fun q => (x.l ++ q.1, q.2))) ⟨0, none, 0, 0, s7, []⟩ [0, 2, 3, 18, 19] [0, 1] [0, 1] [] ?_ (by kernel_rfl) rfl rfl rfl ?_
                · refine ⟨by simp, hm2, by simp only; omega, by simp, ?_⟩
                  simp only [Int.sub_zero]
                  cases rdRep rdDot n.toNat s7.data.toList <;> rfl
                rintro ⟨i, av, k, cv, sx0, l⟩ ⟨hi0, hi, hsz, hll, hr⟩
                dsimp only at hi0 hi hsz hll hr ⊢
                refine J_stpx (stp_acclen 1 rfl) fun _ hk => ?_
                rw [List.length_map] at hk
                have hx0 : sx0.data.toList.length = sx0.size := by simp
                refine J_seq ?_
                refine Za [.rd 0 [] 0 0] [] [(20, .val (.bool (decide (i < n))))] ?_
                refine J_seq ?_
                refine J_cond (f := Tryd.f30) (t := decide (i < n)) (by kernel_rfl) (by kernel_rfl) (fun hlt => ?_) (fun hlt => ?_)
                · have hlt2 : i < n := by simpa using hlt
                  refine J_skip ?_
                  refine J_seq ?_
                  refine J_block ?_
                  refine jT [(0, true), (1, true), (2, true), (4, true), (6, true), (3, false), (5, false), (7, false), (8, true), (9, false), (10, false), (11, true), (12, false)] [(3, []), (5, []), (7, []), (10, []), (12, [1])] ?_
                  refine Ya (f := Tryd.f30) (id := 4) (rest := [(3, false), (5, false), (7, false), (8, true), (9, false), (10, false), (11, true), (12, false)]) [.rd 0 [] 0 0, .rd 1 [.o 1 none] 0 0, .rd 2 [] 0 0, .rd 4 [] 0 0, .rd 6 [] 0 0] [20] [(22, .val (.slice av k cv)), (23, .val (.pointer (some (⟨pb, 0, none⟩)))), (25, .val (.pointer (some (⟨pb, 0, none⟩)))), (27, .val (.pointer (some (⟨pb, 0, none⟩))))] ?_
                  refine JR_callpan [] [0] 27 #[.pointer (some (⟨pb, 0, none⟩))] (some 24) (by kernel_rfl) (by kernel_rfl) (by decide) (fun w S M hP hG _ => ?_)
                  refine (eyeNumber (s0 := sx0) (by omega) hP).mono ?_
                  rintro e8 w8 (⟨d1, s8, g1, hR⟩ | ⟨g1, hR⟩)
                  · refine .inl ⟨_, _, _, hR, ?_⟩
                    have hz8 : s8.data.toList.length = s8.size := by simp
                    have hle8 := codecN.le g1
                    refine JN [cAcc (.slice av k cv) 61 3 (List.map eDot l), cObj pb (.cells #[.string s8] 74 (0, 0))] ?_
                    try simp only [aQ]
                    refine JR_callpan [] [1] 27 #[.pointer (some (⟨pb, 0, none⟩))] (some 26) (by kernel_rfl) (by kernel_rfl) (by decide) (fun w S M hP hG _ => ?_)
                    refine (eyeNumber (s0 := s8) (by omega) hP).mono ?_
                    rintro e9 w9 (⟨d2, s9, g2, hR⟩ | ⟨g2, hR⟩)
                    · refine .inl ⟨_, _, _, hR, ?_⟩
                      have hz9 : s9.data.toList.length = s9.size := by simp
                      have hle9 := codecN.le g2
                      refine JN [cAcc (.slice av k cv) 61 3 (List.map eDot l), cObj pb (.cells #[.string s9] 74 (0, 0))] ?_
                      try simp only [aQ]
                      refine JR_callpan [] [1] 27 #[.pointer (some (⟨pb, 0, none⟩))] (some 28) (by kernel_rfl) (by kernel_rfl) (by decide) (fun w S M hP hG _ => ?_)
                      refine (eyeNumber (s0 := s9) (by omega) hP).mono ?_
                      rintro e10 w10 (⟨d3, s10, g3, hR⟩ | ⟨g3, hR⟩)
                      · refine .inl ⟨_, _, _, hR, ?_⟩
                        have hz10 : s10.data.toList.length = s10.size := by simp
                        have hle10 := codecN.le g3
                        have hd : rdDot sx0.data.toList = some (⟨d1, d2, d3⟩, s10.data.toList) := by
                          simp only [rdDot, andR, g1, g2, g3, Option.bind_some]
                        refine JN [cAcc (.slice av k cv) 61 3 (List.map eDot l), cObj pb (.cells #[.string s10] 74 (0, 0))] ?_
                        try simp only [aQ]
                        refine Ym (f := Tryd.f30) (id := 4) (rest := [(10, false), (11, true), (12, false)]) [.rd 8 [] 0 0, .wr 9 [] 0] [28, 26, 24, 23, 25, 27] (fun nu3 => [(30, .val (.slice (some (⟨nu3 0, 0, none⟩)) 1 1))]) (fun nu3 => [(nu1 0, .cells #[.int .i64 0, .string (ByteArray.mk #[]), .int .i64 0, .string (ByteArray.mk #[]), .int .i64 0, .bool false, .slice none 0 0] 52 (0, 0)), (nu2 0, .cells #[.int .i64 no, .string key, .int .i64 kind, .string text, .int .i64 nn, .bool rem, .slice av k cv] 52 (0, 0)), (nu3 0, .cells #[.int .i64 d1, .int .i64 d2, .int .i64 d3] 61 (0, 0))]) [(10, []), (12, [1])] (fun nu3 => ?_)
                        refine JR_appm (f := Tryd.f30) 0 50 61 3 24 (.agg #[.int .i64 0, .int .i64 0, .int .i64 0]) (a0 := av) (len := k) (cap0 := cv) (ax := (some (⟨nu3 0, 0, none⟩))) (m := 1) (c := 1) (dst := (some 31)) [(⟨d1, d2, d3⟩ : DotT)] (by kernel_rfl) (by kernel_rfl) (by kernel_rfl) (by kernel_rfl) rfl (by decide) rfl (fun _ _ _ s => src_one s 2 rfl rfl ⟨.inl ⟨rfl, rfl⟩, ⟨.inl ⟨rfl, rfl⟩, ⟨.inl ⟨rfl, rfl⟩, trivial⟩⟩⟩) (by simp only [maxLen]; omega) (by omega) (fun av1 cv1 => ?_)
                        try simp only [aQ]
                        refine Ym (f := Tryd.f30) (id := 4) (rest := []) [.rd 11 [] 0 0, .wr 12 [.o 1 none] 0] [31, 30, 22] (fun _ => []) (fun _ => [(nu1 0, .cells #[.int .i64 0, .string (ByteArray.mk #[]), .int .i64 0, .string (ByteArray.mk #[]), .int .i64 0, .bool false, .slice none 0 0] 52 (0, 0)), (nu2 0, .cells #[.int .i64 no, .string key, .int .i64 kind, .string text, .int .i64 nn, .bool rem, .slice av1 (k + 1) cv1] 52 (0, 0)), (nu3 0, .cells #[.int .i64 d1, .int .i64 d2, .int .i64 d3] 61 (0, 0))]) [] (fun _ => ?_)
                        try simp only [aQ]
                        refine JR_end ?_
                        try simp only [aQ]
                        refine J_eb ?_
                        try simp only [aQ]
                        refine Zp [.rd 0 [] 0 1, .rd 1 [] 0 0] [] [(19, .val (.int .i64 (i + 1)))] [IntKind.i64.wrap (i + (1 : Int)) = i + (1 : Int)] ⟨wrap_i64 (by omega) (by omega), trivial⟩ ?_
                        try simp only [aQ]
                        refine J_backx ⟨i + 1, av1, k + 1, cv1, s10, l ++ [⟨d1, d2, d3⟩]⟩ [0, 2, 3, 18, 19] [0, 1] [0, 1] [] ?_ ?_ (by kernel_rfl) rfl rfl rfl
                        · refine ⟨by simp only; omega, by simp only; omega, by simp only; omega, by simp; omega, ?_⟩
                          simp only
                          rw [hr, rep_step hlt2 hi0 hd, Option.map_map]
                          congr 1
                          funext q
                          simp
                        · simp only
                          omega
                      · refine .inr ⟨_, hR, fun a w s => hpn _ _ _ s.ag.defers (.inr ⟨?_, rfl, s.fr _ (List.mem_singleton.2 rfl)⟩)⟩
                        have hd : rdDot sx0.data.toList = none := by
                          simp only [rdDot, andR, g1, g2, g3, Option.bind_some, Option.bind_none]
                        simp only [rdOp, andR, rdL, h1, h2, h3, h4, h5, h6, h7, Option.bind_some]
                        rw [hr, rep_none hlt2 hi0 hd]
                        rfl
                    · refine .inr ⟨_, hR, fun a w s => hpn _ _ _ s.ag.defers (.inr ⟨?_, rfl, s.fr _ (List.mem_singleton.2 rfl)⟩)⟩
                      have hd : rdDot sx0.data.toList = none := by
                        simp only [rdDot, andR, g1, g2, Option.bind_some, Option.bind_none]
                      simp only [rdOp, andR, rdL, h1, h2, h3, h4, h5, h6, h7, Option.bind_some]
                      rw [hr, rep_none hlt2 hi0 hd]
                      rfl
                  · refine .inr ⟨_, hR, fun a w s => hpn _ _ _ s.ag.defers (.inr ⟨?_, rfl, s.fr _ (List.mem_singleton.2 rfl)⟩)⟩
                    have hd : rdDot sx0.data.toList = none := by
                      simp only [rdDot, andR, g1, Option.bind_none]
                    simp only [rdOp, andR, rdL, h1, h2, h3, h4, h5, h6, h7, Option.bind_some]
                    rw [hr, rep_none hlt2 hi0 hd]
                    rfl
                · obtain rfl : i = n := by simp at hlt; omega
                  refine J_stp (stp_freeze 1 rfl) ?_
                  try simp only [aQ]
                  refine J_exit rfl ?_
                  refine J_seq ?_
                  refine Zm [.rd 0 [.o 1 none, .o 1 none, .o 1 none, .o 1 none, .o 1 none, .o 1 none, .o 1 none] 0 0, .wr 1 [.o 0 none, .o 0 none, .o 0 none, .o 0 none, .o 0 none, .o 0 none, .o 0 none] 0] [(1, [0])] [20, 0, 3, 18, 19] (fun _ => []) (fun _ => [(nu1 0, .cells #[.int .i64 no, .string key, .int .i64 kind, .string text, .int .i64 nn, .bool rem, .slice av k cv] 52 (0, 0)), (nu2 0, .cells #[.int .i64 no, .string key, .int .i64 kind, .string text, .int .i64 nn, .bool rem, .slice av k cv] 52 (0, 0))]) (fun _ => ?_)
                  refine Yr [[.o 0 none, .o 0 none, .o 0 none, .o 0 none, .o 0 none, .o 0 none, .o 0 none]] (.agg #[.int .i64 no, .string key, .int .i64 kind, .string text, .int .i64 nn, .bool rem, .slice av k cv]) fun a w s => ?_
                  refine .inl ⟨⟨no, key, kind, text, nn, rem, l⟩, sx0, av, k, cv, ?_, s.ret (by simp) [0] [0] rfl rfl⟩
                  simp only [rdOp, andR, rdL, h1, h2, h3, h4, h5, h6, h7, Option.bind_some]
                  rw [hr, Int.sub_self]
                  simp [rdRep]
              · refine .inr ⟨_, hR, fun a w s => hpn _ _ _ s.ag.defers (.inr ⟨?_, rfl, s.fr _ (List.mem_singleton.2 rfl)⟩)⟩
                simp only [rdOp, andR, rdL, h1, h2, h3, h4, h5, h6, h7, Option.bind_some, Option.bind_none]
            · refine .inr ⟨_, hR, fun a w s => hpn _ _ _ s.ag.defers (.inr ⟨?_, rfl, s.fr _ (List.mem_singleton.2 rfl)⟩)⟩
              simp only [rdOp, andR, h1, h2, h3, h4, h5, h6, Option.bind_some, Option.bind_none]
          · refine .inr ⟨_, hR, fun a w s => hpn _ _ _ s.ag.defers (.inr ⟨?_, rfl, s.fr _ (List.mem_singleton.2 rfl)⟩)⟩
            simp only [rdOp, andR, h1, h2, h3, h4, h5, Option.bind_some, Option.bind_none]
        · refine .inr ⟨_, hR, fun a w s => hpn _ _ _ s.ag.defers (.inr ⟨?_, rfl, s.fr _ (List.mem_singleton.2 rfl)⟩)⟩
          simp only [rdOp, andR, h1, h2, h3, h4, Option.bind_some, Option.bind_none]
      · refine .inr ⟨_, hR, fun a w s => hpn _ _ _ s.ag.defers (.inr ⟨?_, rfl, s.fr _ (List.mem_singleton.2 rfl)⟩)⟩
        simp only [rdOp, andR, h1, h2, h3, Option.bind_some, Option.bind_none]
    · refine .inr ⟨_, hR, fun a w s => hpn _ _ _ s.ag.defers (.inr ⟨?_, rfl, s.fr _ (List.mem_singleton.2 rfl)⟩)⟩
      simp only [rdOp, andR, h1, h2, Option.bind_some, Option.bind_none]
  · refine .inr ⟨_, hR, fun a w s => hpn _ _ _ s.ag.defers (.inr ⟨?_, rfl, s.fr _ (List.mem_singleton.2 rfl)⟩)⟩
    simp only [rdOp, andR, h1, Option.bind_some, Option.bind_none]
end Go.Proofs.YtonhcoeneahpaaaDoor
end
section
namespace Go.Proofs.YtonhcoeneahpaaaDoor
open Go Go.Sx
abbrev cDec (mb eb : Nat) : Array Value := #[.pointer (some ⟨mb, 0, none⟩), .pointer (some ⟨eb, 0, none⟩)]
set_option maxHeartbeats 4000000 in
theorem inv26 (cap : Array Value) (w : World) : (invoke (.fn (.func 26) cap) #[]).run Tryd.prog w = .ok (.enter 26 cap) w := by
  have e : Tryd.prog.funcs[26]? = some Tryd.f26 := Tryd.func26
  have e1 : (Tryd.f26.name == "runtime.NumGoroutine") = false := by kernel_rfl
  have e2 : Tryd.f26.body.isNone = false := by kernel_rfl
  have n1 : ¬ Tryd.f26.name = "runtime.NumGoroutine" := fun h => by rw [h] at e1; simp at e1
  have n2 : ¬ Tryd.f26.body = none := fun h => by rw [h] at e2; simp at e2
  simp [invoke, callFunc, e, n1, n2]
theorem _root_.Go.Sx.Ag.start {n : Nat} {args : List Value} (hle : Nat.ble args.length n = true) : Ag n (envOf 0 args) { tmps := args.toArray ++ Array.replicate (n - args.toArray.size) undef, defers := [] } := by
  have hle := Nat.le_of_ble_eq_true hle
  refine ⟨rfl, by simp; omega, fun t ev he => ?_⟩
  obtain ⟨j, v, h1, h2, h3⟩ := envOf_look args 0 t ev he
  obtain rfl : t = j := by omega
  subst h3
  have hj : t < args.length := (List.getElem?_eq_some_iff.1 h2).1
  simp [Array.getElem?_append, hj, EV.now]
  simpa [List.getElem?_eq_getElem hj] using h2
theorem act26 (mb eb : Nat) : Ag Tryd.f26.ntmps (envOf 0 [.pointer (some ⟨mb, 0, none⟩), .pointer (some ⟨eb, 0, none⟩)]) { tmps := cDec mb eb ++ Array.replicate (Tryd.f26.ntmps - (cDec mb eb).size) undef, defers := [] } := Ag.start (args := [.pointer (some ⟨mb, 0, none⟩), .pointer (some ⟨eb, 0, none⟩)]) (by kernel_rfl)
theorem size26 : (rgOf Tryd.f26 0).size = 2 := by kernel_rfl
theorem op26a : ((rgOf Tryd.f26 0)[0]?.map fun o => (o.guard, o.dst, o.op)) = some (none, some 5, .call ⟨.builtin .recover, #[], #[]⟩) := by kernel_rfl
theorem op26b : ((rgOf Tryd.f26 0)[1]?.map fun o => (o.guard, o.dst, o.op)) = some (none, some 2, .assign (.tmp 5)) := by kernel_rfl
def tail26 : Sk := .seq (.rg 1 false) (.cond (.tmp 7) (.seq (.seq (.rg 2 false) (.seq (.rg 3 false) (.cond (.tmp 14) (.rg 4 false) .skip))) (.rg 5 false)) .skip)
theorem body26 : Tryd.f26.body = some (.seq (.region 0 (rgOf Tryd.f26 0) false) (tail26.code Tryd.f26)) := bd26
set_option maxHeartbeats 4000000 in
theorem res26 (tmps : Array Value) (w : World) : (results Tryd.f26 tmps).run Tryd.prog w = .ok (.tuple #[]) w := by
  have e : Tryd.f26.results = #[] := by kernel_rfl
  unfold results
  rw [e]
  simp
set_option maxHeartbeats 4000000 in
theorem clos0 {n : Nat} {inst : Dfr n} {E : Env} {F : List (List Nat × World)} {S0 : Nat → Prop} {G0 : List (Value × D)} {a : Act} {w : World} {mb eb : Nat} {x0 x1 x2 x3 x4 x5 x6 x7 x8 y : Value} (s : @St n inst E [(mb, .cells #[x0, x1, x2, x3, x4, x5, x6, x7, x8] 34 (0, 0)), (eb, .cells #[y] 31 (0, 0))] [] F ⟨S0, [], G0⟩ a w) :
    CallsD Tryd.prog 26 (cDec mb eb) .returning w fun e u w' => (∃ v, e = .returned v) ∧ settle u = .returning ∧ ∃ E' a', St Tryd.f26.ntmps E' [(mb, .cells #[x0, x1, x2, x3, x4, x5, x6, x7, x8] 34 (0, 0)), (eb, .cells #[y] 31 (0, 0))] [] F ⟨S0, [], G0⟩ a' w' := by
  have hJ : J Tryd.prog Tryd.f26 (fun a' w' => a'.defers = [] ∧ ∃ E' a2, St Tryd.f26.ntmps E' [(mb, .cells #[x0, x1, x2, x3, x4, x5, x6, x7, x8] 34 (0, 0)), (eb, .cells #[y] 31 (0, 0))] [] F ⟨S0, [], G0⟩ a2 w') Tryd.f26.ntmps [.c tail26] (((envOf 0 [.pointer (some ⟨mb, 0, none⟩), .pointer (some ⟨eb, 0, none⟩)]).put (some 5) (.val (.nilIface))).put (some 2) (.val (.nilIface))) [(mb, .cells #[x0, x1, x2, x3, x4, x5, x6, x7, x8] 34 (0, 0)), (eb, .cells #[y] 31 (0, 0))] [] F ⟨S0, [], G0⟩ := by
    refine J_seq ?_
    refine Za [.rd 0 [] 0 0, .rd 1 [] 0 0] [5] [(7, .val (.bool false))] ?_
    refine J_cond_f (by kernel_rfl) (by kernel_rfl) ?_
    refine J_skip ?_
    refine J_nil fun a w s => ⟨s.ag.defers, _, _, s⟩
  refine callsD_of_wpS (fn := Tryd.f26) Tryd.func26 body26 fun c₀ cs hc => ?_
  generalize hX : ({ tmps := cDec mb eb ++ Array.replicate (Tryd.f26.ntmps - (cDec mb eb).size) undef, defers := [] } : Act) = a0
  have hA0 : Ag Tryd.f26.ntmps (envOf 0 [.pointer (some ⟨mb, 0, none⟩), .pointer (some ⟨eb, 0, none⟩)]) a0 := hX ▸ act26 mb eb
  refine wpS_seq (wpS_region ?_)
  rw [size26]
  show wpOpsS _ _ _ [0, 1] _ _ _
  obtain ⟨o0, h0, g0⟩ := Option.map_eq_some_iff.1 op26a
  obtain ⟨o1, h1, g1⟩ := Option.map_eq_some_iff.1 op26b
  simp only [Prod.mk.injEq] at g0 g1
  refine opsS_recover h0 g0.1 g0.2.2 rfl ?_
  have e0 : recoverD (c₀ :: cs) = none := by simp [recoverD, hc]
  rw [e0]
  refine opsS_assign h1 g1.1 g1.2.2 ?_
  rw [g0.2.1, g1.2.1]
  have hA : Ag Tryd.f26.ntmps ((envOf 0 [.pointer (some ⟨mb, 0, none⟩), .pointer (some ⟨eb, 0, none⟩)]).put (some 5) (.val (.nilIface))) (a0.put (some 5) (.nilIface)) := hA0.put (dst := some 5) (by kernel_rfl) (.val (.nilIface))
  have hv : Act.eval (a0.put (some 5) (.nilIface)) (.tmp 5) = .nilIface := opsOk_sound hA (cd := none) (fun c w h => by cases h) [.tmp 5] [] rfl trivial (.tmp 5) (List.mem_singleton.2 rfl)
  rw [hv]
  have hA2 : Ag Tryd.f26.ntmps (((envOf 0 [.pointer (some ⟨mb, 0, none⟩), .pointer (some ⟨eb, 0, none⟩)]).put (some 5) (.val (.nilIface))).put (some 2) (.val (.nilIface))) ((a0.put (some 5) (.nilIface)).put (some 2) (.nilIface)) := hA.put (dst := some 2) (by kernel_rfl) (.val (.nilIface))
  generalize (a0.put (some 5) (.nilIface)).put (some 2) (.nilIface) = a1 at hA2
  have hw := hJ a1 w (@St.frame n _ inst _ _ _ _ _ _ _ _ _ _ s hA2)
  simp only [wpK] at hw
  show (tail26.code Tryd.f26).wpS Tryd.prog _ a1 _ w
  refine wpS_of_wp ?_
  refine wp_mono hw fun e a' w' hq => ?_
  cases e with
  | normal => exact ⟨hq.1, .returning, by rw [← hc], _, res26 _ _, ⟨_, rfl⟩, rfl, hq.2⟩
  | ret => exact ⟨hq.1, .returning, by rw [← hc], _, res26 _ _, ⟨_, rfl⟩, rfl, hq.2⟩
  | exit id => exact absurd hq (by simp [wpK])
  | goto l => exact absurd hq (by simp [wpK])
  | panic c => exact absurd hq (wpK_panic [] c a' w')
  | outgrown => exact absurd hq (by simp [wpK])
set_option maxHeartbeats 4000000 in
theorem clos1 {n : Nat} {inst : Dfr n} {E : Env} {F : List (List Nat × World)} {S0 : Nat → Prop} {er : Nat → Addr} {ebs : Nat → Array Value × TypeId} {a : Act} {w : World} {mb eb : Nat} {x0 x1 x2 x3 x4 x5 x6 x7 x8 y : Value} (s : @St n inst E [(mb, .cells #[x0, x1, x2, x3, x4, x5, x6, x7, x8] 34 (0, 0)), (eb, .cells #[y] 31 (0, 0))] [] F ⟨S0, [], [(.nilIface, dC er ebs)]⟩ a w) :
    CallsD Tryd.prog 26 (cDec mb eb) (.panicking blind) w fun e u w' => (∃ v, e = .returned v) ∧ settle u = .returning ∧ ∃ E' a', St Tryd.f26.ntmps E' [(mb, .cells #[.int .i64 0, .int .i64 0, .int .i64 0, .int .i64 0, .int .i64 0, .bool false, .slice none 0 0, .int .i64 0, .slice none 0 0] 34 (0, 0)), (eb, .cells #[.iface 122 (.pointer (some (er 1)))] 31 (0, 0))] [] F ⟨S0, [], []⟩ a' w' := by
  have hJ : J Tryd.prog Tryd.f26 (fun a' w' => a'.defers = [] ∧ ∃ E' a2, St Tryd.f26.ntmps E' [(mb, .cells #[.int .i64 0, .int .i64 0, .int .i64 0, .int .i64 0, .int .i64 0, .bool false, .slice none 0 0, .int .i64 0, .slice none 0 0] 34 (0, 0)), (eb, .cells #[.iface 122 (.pointer (some (er 1)))] 31 (0, 0))] [] F ⟨S0, [], []⟩ a2 w') Tryd.f26.ntmps [.c tail26] (((envOf 0 [.pointer (some ⟨mb, 0, none⟩), .pointer (some ⟨eb, 0, none⟩)]).put (some 5) (.val (.iface 70 (.agg #[])))).put (some 2) (.val (.iface 70 (.agg #[])))) [(mb, .cells #[x0, x1, x2, x3, x4, x5, x6, x7, x8] 34 (0, 0)), (eb, .cells #[y] 31 (0, 0))] [] F ⟨S0, [], [(.nilIface, dC er ebs)]⟩ := by
    refine J_stp (stp_all 0 [0] rfl rfl) ?_
    refine J_glob 1 rfl (fun csg1 tyg1 fzg1 hglob1 => ?_)
    try simp only [aQ]
    refine J_seq ?_
    refine Za [.rd 0 [] 0 0, .rd 1 [] 0 0] [5] [(7, .val (.bool true))] ?_
    refine J_cond_t (by kernel_rfl) (by kernel_rfl) ?_
    refine J_seq ?_
    refine J_seq ?_
    refine Zm (Rds 0 5 ++ [.wr 5 [] 0, .wr 6 [] 0, .rd 7 [] 0 0]) [] [7] (fun nu1 => [(4, .val (.bool true))]) (fun nu1 => [(mb, .cells #[x0, x1, x2, x3, x4, x5, x6, x7, x8] 34 (0, 0)), (eb, .cells #[y] 31 (0, 0)), (nu1 0, .cells #[] 70 (0, 0))]) (fun nu1 => ?_)
    refine J_seq ?_
    refine Za [.rd 0 [] 0 0, .rd 1 [] 0 0] [4] [(14, .val (.bool false))] ?_
    refine J_cond_f (by kernel_rfl) (by kernel_rfl) ?_
    refine J_skip ?_
    refine Zn [.rd 0 [] 0 0, .rd 1 [.r 0 (some (.iface 122 (.pointer (some (er 1)))))] 0 0, .wr 2 [.o 0 none, .o 0 none, .o 0 none, .o 0 none, .o 0 none, .o 0 none, .o 0 none, .o 0 none, .o 0 none] 0, .wr 3 [.o 1 none] 0] [(2, [0]), (3, [1])] [14, 2, 0, 1] (fun _ => []) (fun _ => [(mb, .cells #[.int .i64 0, .int .i64 0, .int .i64 0, .int .i64 0, .int .i64 0, .bool false, .slice none 0 0, .int .i64 0, .slice none 0 0] 34 (0, 0)), (eb, .cells #[.iface 122 (.pointer (some (er 1)))] 31 (0, 0)), (nu1 0, .cells #[] 70 (0, 0))]) (fun _ => [csg1[(0 : Nat)]? = some (Value.iface (122 : Nat) (Value.pointer (some (er (1 : Nat)))))]) (fun _ => ⟨hglob1, trivial⟩) (fun _ => ?_)
    refine J_cut [] [0, 1] [] [] rfl rfl rfl rfl ?_
    refine J_nil fun a w s => ⟨s.ag.defers, _, _, s⟩
  refine callsD_of_wpS (fn := Tryd.f26) Tryd.func26 body26 fun c₀ cs hc => ?_
  generalize hX : ({ tmps := cDec mb eb ++ Array.replicate (Tryd.f26.ntmps - (cDec mb eb).size) undef, defers := [] } : Act) = a0
  have hA0 : Ag Tryd.f26.ntmps (envOf 0 [.pointer (some ⟨mb, 0, none⟩), .pointer (some ⟨eb, 0, none⟩)]) a0 := hX ▸ act26 mb eb
  refine wpS_seq (wpS_region ?_)
  rw [size26]
  show wpOpsS _ _ _ [0, 1] _ _ _
  obtain ⟨o0, h0, g0⟩ := Option.map_eq_some_iff.1 op26a
  obtain ⟨o1, h1, g1⟩ := Option.map_eq_some_iff.1 op26b
  simp only [Prod.mk.injEq] at g0 g1
  refine opsS_recover h0 g0.1 g0.2.2 rfl ?_
  have e0 : recoverD (c₀ :: cs) = some (.iface 70 (.agg #[]), { c₀ with mode := .panicking [{ v := .iface 70 (.agg #[]), recovered := true }] } :: cs) := by simp [recoverD, hc]
  rw [e0]
  refine opsS_assign h1 g1.1 g1.2.2 ?_
  rw [g0.2.1, g1.2.1]
  have hA : Ag Tryd.f26.ntmps ((envOf 0 [.pointer (some ⟨mb, 0, none⟩), .pointer (some ⟨eb, 0, none⟩)]).put (some 5) (.val (.iface 70 (.agg #[])))) (a0.put (some 5) (.iface 70 (.agg #[]))) := hA0.put (dst := some 5) (by kernel_rfl) (.val (.iface 70 (.agg #[])))
  have hv : Act.eval (a0.put (some 5) (.iface 70 (.agg #[]))) (.tmp 5) = .iface 70 (.agg #[]) := opsOk_sound hA (cd := none) (fun c w h => by cases h) [.tmp 5] [] rfl trivial (.tmp 5) (List.mem_singleton.2 rfl)
  rw [hv]
  have hA2 : Ag Tryd.f26.ntmps (((envOf 0 [.pointer (some ⟨mb, 0, none⟩), .pointer (some ⟨eb, 0, none⟩)]).put (some 5) (.val (.iface 70 (.agg #[])))).put (some 2) (.val (.iface 70 (.agg #[])))) ((a0.put (some 5) (.iface 70 (.agg #[]))).put (some 2) (.iface 70 (.agg #[]))) := hA.put (dst := some 2) (by kernel_rfl) (.val (.iface 70 (.agg #[])))
  generalize (a0.put (some 5) (.iface 70 (.agg #[]))).put (some 2) (.iface 70 (.agg #[])) = a1 at hA2
  have hw := hJ a1 w (@St.frame n _ inst _ _ _ _ _ _ _ _ _ _ s hA2)
  simp only [wpK] at hw
  show (tail26.code Tryd.f26).wpS Tryd.prog _ a1 _ w
  refine wpS_of_wp ?_
  refine wp_mono hw fun e a' w' hq => ?_
  cases e with
  | normal => exact ⟨hq.1, .panicking [{ v := .iface 70 (.agg #[]), recovered := true }], rfl, _, res26 _ _, ⟨_, rfl⟩, rfl, hq.2⟩
  | ret => exact ⟨hq.1, .panicking [{ v := .iface 70 (.agg #[]), recovered := true }], rfl, _, res26 _ _, ⟨_, rfl⟩, rfl, hq.2⟩
  | exit id => exact absurd hq (by simp [wpK])
  | goto l => exact absurd hq (by simp [wpK])
  | panic c => exact absurd hq (wpK_panic [] c a' w')
  | outgrown => exact absurd hq (by simp [wpK])
set_option maxHeartbeats 4000000 in
theorem decRet {inst : Dfr Tryd.f11.ntmps} {E : Env} {h r : List (Nat × Obj)} {F : List (List Nat × World)} {S0 : Nat → Prop} {C : List Chunk} {G G' : List (Value × D)} {a : Act} {w : World} {Rr : Ending → World → Prop} {mb eb : Nat} {x0 x1 x2 x3 x4 x5 x6 x7 x8 y : Value} (gs : List Nat) (s : @St Tryd.f11.ntmps inst E h r F ⟨S0, C, G⟩ a w)
    (hd : inst.ds = [{ target := .fn (.func 26) (cDec mb eb), args := #[] }]) (hE : keepE E (pins Tryd.f11) = [(2, .val (.pointer (some ⟨mb, 0, none⟩))), (3, .val (.pointer (some ⟨eb, 0, none⟩)))]) (hh : pick h [0, 1] = [(mb, .cells #[x0, x1, x2, x3, x4, x5, x6, x7, x8] 34 (0, 0)), (eb, .cells #[y] 31 (0, 0))]) (hG : pick G gs = G')
    (H : ∀ E' a' w', @St Tryd.f11.ntmps (instDfr _) E' [(mb, .cells #[x0, x1, x2, x3, x4, x5, x6, x7, x8] 34 (0, 0)), (eb, .cells #[y] 31 (0, 0))] [] F ⟨S0, [], G'⟩ a' w' → Rr (.returned (.tuple #[.agg #[x0, x1, x2, x3, x4, x5, x6, x7, x8], y])) w') : leaveR Tryd.prog Tryd.f11 Rr .returning a w := by
  intro tmps hs ht
  have hA := Ag.pinned s.ag hs ht
  rw [hE] at hA
  have s' := @St.cut Tryd.f11.ntmps inst E h r F ⟨S0, C, G⟩ a w s [] [0, 1] [] gs [] _ [] [] _ rfl hh rfl hG (by simp) (by decide) (by decide)
  rw [s.ag.defers, hd]
  refine leaves_cons (by simp) (inv26 _ w) ((clos0 s').mono fun e u' w' hh2 => ?_)
  obtain ⟨⟨v, rfl⟩, hset, E2, a2, s2⟩ := hh2
  show Leaves _ _ _ _ [] (settle u') w'
  rw [hset]
  have s3 := @St.frame _ _ (instDfr _) (instDfr _) _ _ _ _ _ _ _ _ _ s2 hA
  obtain ⟨p, he, hp⟩ := chkV_sound (show chkV (retV Tryd.prog Tryd.f11 [(2, .val (.pointer (some ⟨mb, 0, none⟩))), (3, .val (.pointer (some ⟨eb, 0, none⟩)))] [(mb, .cells #[x0, x1, x2, x3, x4, x5, x6, x7, x8] 34 (0, 0)), (eb, .cells #[y] 31 (0, 0))] [] [[.o 0 none, .o 0 none, .o 0 none, .o 0 none, .o 0 none, .o 0 none, .o 0 none, .o 0 none, .o 0 none], [.o 1 none]]) = (some (.tuple #[.agg #[x0, x1, x2, x3, x4, x5, x6, x7, x8], y]), trivV (retV Tryd.prog Tryd.f11 [(2, .val (.pointer (some ⟨mb, 0, none⟩))), (3, .val (.pointer (some ⟨eb, 0, none⟩)))] [(mb, .cells #[x0, x1, x2, x3, x4, x5, x6, x7, x8] 34 (0, 0)), (eb, .cells #[y] 31 (0, 0))] [] [[.o 0 none, .o 0 none, .o 0 none, .o 0 none, .o 0 none, .o 0 none, .o 0 none, .o 0 none, .o 0 none], [.o 1 none]]), 0) by kernel_rfl)
  obtain ⟨_, v', g1, g2⟩ := retV_sound (Rr := Rr) he hp s3 (H _ _ _ s3)
  exact ⟨v', g1, g2⟩
set_option maxHeartbeats 4000000 in
theorem decPan {inst : Dfr Tryd.f11.ntmps} {E : Env} {h r : List (Nat × Obj)} {F : List (List Nat × World)} {S0 : Nat → Prop} {C : List Chunk} {G : List (Value × D)} {er : Nat → Addr} {ebs : Nat → Array Value × TypeId} {a : Act} {w : World} {Rr : Ending → World → Prop} {mb eb : Nat} {x0 x1 x2 x3 x4 x5 x6 x7 x8 y : Value} (s : @St Tryd.f11.ntmps inst E h r F ⟨S0, C, G⟩ a w)
    (hd : inst.ds = [{ target := .fn (.func 26) (cDec mb eb), args := #[] }]) (hE : keepE E (pins Tryd.f11) = [(2, .val (.pointer (some ⟨mb, 0, none⟩))), (3, .val (.pointer (some ⟨eb, 0, none⟩)))]) (hh : pick h [0, 1] = [(mb, .cells #[x0, x1, x2, x3, x4, x5, x6, x7, x8] 34 (0, 0)), (eb, .cells #[y] 31 (0, 0))]) (hG : pick G [0] = [(.nilIface, dC er ebs)])
    (H : ∀ E' a' w', @St Tryd.f11.ntmps (instDfr _) E' [(mb, .cells #[.int .i64 0, .int .i64 0, .int .i64 0, .int .i64 0, .int .i64 0, .bool false, .slice none 0 0, .int .i64 0, .slice none 0 0] 34 (0, 0)), (eb, .cells #[.iface 122 (.pointer (some (er 1)))] 31 (0, 0))] [] F ⟨S0, [], []⟩ a' w' → Rr (.returned (.tuple #[.agg #[.int .i64 0, .int .i64 0, .int .i64 0, .int .i64 0, .int .i64 0, .bool false, .slice none 0 0, .int .i64 0, .slice none 0 0], .iface 122 (.pointer (some (er 1)))])) w') : leaveR Tryd.prog Tryd.f11 Rr (.panicking blind) a w := by
  intro tmps hs ht
  have hA := Ag.pinned s.ag hs ht
  rw [hE] at hA
  have s' := @St.cut Tryd.f11.ntmps inst E h r F ⟨S0, C, G⟩ a w s [] [0, 1] [] [0] [] _ [] [] _ rfl hh rfl hG (by simp) (by decide) (by decide)
  rw [s.ag.defers, hd]
  refine leaves_cons (by simp) (inv26 _ w) ((clos1 s').mono fun e u' w' hh2 => ?_)
  obtain ⟨⟨v, rfl⟩, hset, E2, a2, s2⟩ := hh2
  show Leaves _ _ _ _ [] (settle u') w'
  rw [hset]
  have s3 := @St.frame _ _ (instDfr _) (instDfr _) _ _ _ _ _ _ _ _ _ s2 hA
  obtain ⟨p, he, hp⟩ := chkV_sound (show chkV (retV Tryd.prog Tryd.f11 [(2, .val (.pointer (some ⟨mb, 0, none⟩))), (3, .val (.pointer (some ⟨eb, 0, none⟩)))] [(mb, .cells #[.int .i64 0, .int .i64 0, .int .i64 0, .int .i64 0, .int .i64 0, .bool false, .slice none 0 0, .int .i64 0, .slice none 0 0] 34 (0, 0)), (eb, .cells #[.iface 122 (.pointer (some (er 1)))] 31 (0, 0))] [] [[.o 0 none, .o 0 none, .o 0 none, .o 0 none, .o 0 none, .o 0 none, .o 0 none, .o 0 none, .o 0 none], [.o 1 none]]) = (some (.tuple #[.agg #[.int .i64 0, .int .i64 0, .int .i64 0, .int .i64 0, .int .i64 0, .bool false, .slice none 0 0, .int .i64 0, .slice none 0 0], .iface 122 (.pointer (some (er 1)))]), trivV (retV Tryd.prog Tryd.f11 [(2, .val (.pointer (some ⟨mb, 0, none⟩))), (3, .val (.pointer (some ⟨eb, 0, none⟩)))] [(mb, .cells #[.int .i64 0, .int .i64 0, .int .i64 0, .int .i64 0, .int .i64 0, .bool false, .slice none 0 0, .int .i64 0, .slice none 0 0] 34 (0, 0)), (eb, .cells #[.iface 122 (.pointer (some (er 1)))] 31 (0, 0))] [] [[.o 0 none, .o 0 none, .o 0 none, .o 0 none, .o 0 none, .o 0 none, .o 0 none, .o 0 none, .o 0 none], [.o 1 none]]), 0) by kernel_rfl)
  obtain ⟨_, v', g1, g2⟩ := retV_sound (Rr := Rr) he hp s3 (H _ _ _ s3)
  exact ⟨v', g1, g2⟩
end Go.Proofs.YtonhcoeneahpaaaDoor
end
