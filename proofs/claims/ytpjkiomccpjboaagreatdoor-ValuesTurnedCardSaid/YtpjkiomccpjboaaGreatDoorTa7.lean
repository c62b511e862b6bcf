/- Part 7 of the texts of a claim: Worth Light Ref2 Turned Tx9. -/
import Derived.Stop.LaidErr
import Derived.Below
import Derived.Carry
import Derived.ChangeSame
import Derived.OpenShut
import Derived.ChangeSlices
import Derived.Test.YtpjkiomccpjboaaGreatDoorTa6
section
namespace Go.Proofs.YtpjkiomccpjboaaGreatDoor
open Go Go.Sx
abbrev keyK : ByteArray := ByteArray.mk #[107]
abbrev opK : OpT := ⟨0, ByteArray.mk #[107], 1, ByteArray.mk #[120], 0, false, []⟩
abbrev comK : ComT := ⟨[1], 0, [opK]⟩
theorem faultK : valFault keyK [comK] = ⟨0, -1⟩ := rfl
theorem opsK : opsOf keyK [comK] = [⟨opK, ⟨0, 1, 0⟩, 1⟩] := by
  simp [opsOf, sortDone, opsRaw, allDone, firsts, doneOf, dotOf, wsum]
theorem valK : Sx.valOf keyK [comK] = ⟨1, ByteArray.mk #[120], 0, []⟩ := by
  simp [Sx.valOf, opsK, kindOf, ofKey, kindL, lastText]
theorem worth {w : World} {S : Nat → Prop} {er : Nat → Addr} {eb : Nat → Array Value × TypeId} (hC : Rep w S .nilIface (dC er eb)) :
    Calls Tryz.prog 11 #[] w fun e w' => Ret [] w S w' e (.bool true) [] [] := by
  refine ep11 (args := []) (G := [(_, dC er eb)]) (by kernel_rfl) (.cons hC (.nil _ _)) ?_
  refine J_seq ?_
  refine J_reg mixed [.rd 0 [] 0 0] [] [0] (E1 := fun _ => [(0, .val (.bool false))]) (h1 := fun _ => []) (p1 := fun _ => []) (W1 := []) (by kernel_rfl) (fun _ => by kernel_rfl) (fun _ => trivial) (fun _ => ?_)
  refine J_seq ?_
  refine JR_begin mixed [(0, false), (1, true), (2, false), (3, true), (4, false), (5, false), (6, true), (7, true), (8, true), (9, false), (10, false), (11, true)] [] (by kernel_rfl) (by kernel_rfl) ?_
  refine JR_run (id := 1) (rest := [(5, false), (6, true), (7, true), (8, true), (9, false), (10, false), (11, true)]) [.wr 0 [] 0, .rd 1 [] 0 0, .wr 2 [] 0, .rd 3 [] 0 0, .wr 4 [] 0] [0, 8] (E1 := fun nu1 => [(0, .val (.bool false)), (8, .val (.slice (some (⟨nu1 2, 0, none⟩)) 1 1))]) (h1 := fun nu1 => [(nu1 0, .cells #[.int .i64 1] 3 (0, 0)), (nu1 1, .cells #[.int .i64 0, .string (ByteArray.mk #[107]), .int .i64 1, .string (ByteArray.mk #[120]), .int .i64 0, .bool false, .slice none 0 0] 24 (0, 0)), (nu1 2, .cells #[.slice (some (⟨nu1 0, 0, none⟩)) 1 1, .int .i64 0, .slice (some (⟨nu1 1, 0, none⟩)) 1 1] 28 (0, 0))]) (p1 := fun nu1 => []) (W1 := []) (fun _ => by kernel_rfl) (fun _ => trivial) (fun nu1 => ?_)
  refine JR_data (size := 1) 0 eI [(1 : Int)] 1 rfl (by kernel_rfl) (by decide) (by intro x _; rfl) (by simp) ⟨.inl ⟨rfl, rfl⟩, trivial⟩ ?_
  refine JR_data (size := 7) 0 eOp [opK] 1 rfl (by kernel_rfl) (by decide) (by intro x _; rfl) (by simp) ⟨.inl ⟨rfl, rfl⟩, ⟨.inl ⟨rfl, rfl⟩, ⟨.inl ⟨rfl, rfl⟩, ⟨.inl ⟨rfl, rfl⟩, ⟨.inl ⟨rfl, rfl⟩, ⟨.inl ⟨rfl, rfl⟩, ⟨.inr (.inr ⟨_, _, _, rfl, rfl⟩), trivial⟩⟩⟩⟩⟩⟩⟩ ?_
  refine JR_data (size := 3) 0 eCom [comK] 1 rfl (by kernel_rfl) (by decide) (by intro x _; rfl) (by simp) ⟨.inr (.inl (List.mem_of_getElem? (i := 1) rfl)), ⟨.inl ⟨rfl, rfl⟩, ⟨.inr (.inl (List.mem_of_getElem? (i := 2) rfl)), trivial⟩⟩⟩ ?_
  refine JR_callp [] 21 #[.string (ByteArray.mk #[107]), .slice (some (⟨nu1 2, 0, none⟩)) 1 1] (some 9) (by kernel_rfl) (fun w S hG => ?_)
  refine (vOfR (l := [comK]) (hG.at 0 rfl) (hG.at 3 rfl) (by simp) (by simp) (by simp) (by rw [opsK]; decide)).mono ?_
  rintro e1 w1 (⟨hc, _⟩ | ⟨hc, hR⟩)
  · exact absurd (by rw [faultK]) hc
  refine ⟨_, _, _, hR, ?_⟩
  rw [valK]
  try simp only [List.cons_append, List.nil_append, List.append_nil]
  refine JR_run (id := 1) (rest := []) [.rd 6 [] 0 0, .rd 7 [] 0 0, .rd 8 [] 0 0, .wr 9 [] 0, .wr 10 [.o 0 none, .o 0 none, .o 0 none, .o 0 none] 0, .rd 11 [] 0 0] [0, 1, 2] (E1 := fun nu2 => [(0, .val (.bool false)), (1, .val (.pointer (some (⟨nu2 0, 0, none⟩)))), (2, .val (.nilIface))]) (h1 := fun nu2 => [(nu2 0, .cells #[.int .i64 1, .string (ByteArray.mk #[120]), .int .i64 0, .slice none 0 0] 47 (0, 0))]) (p1 := fun nu2 => []) (W1 := []) (fun _ => by kernel_rfl) (fun _ => trivial) (fun nu2 => ?_)
  refine JR_end ?_
  refine J_seq ?_
  refine J_reg mixed [.rd 0 [] 0 0, .rd 1 [] 0 0, .rd 2 [] 0 0, .rd 3 [] 0 0, .rd 4 [.o 0 none] 0 0, .rd 5 [] 0 0, .rd 6 [] 0 0, .rd 7 [] 0 0, .rd 8 [] 0 0, .rd 9 [.o 0 none] 0 0, .rd 10 [] 0 0, .rd 11 [] 0 0, .rd 12 [] 0 0, .rd 13 [] 0 0, .rd 14 [.o 0 none] 0 0, .rd 15 [] 0 0, .rd 16 [] 0 0, .rd 17 [] 0 0, .rd 18 [] 0 0] [] [0] (E1 := fun _ => [(0, .val (.bool true))]) (h1 := fun _ => [(nu2 0, .cells #[.int .i64 1, .string (ByteArray.mk #[120]), .int .i64 0, .slice none 0 0] 47 (0, 0))]) (p1 := fun _ => []) (W1 := []) (by kernel_rfl) (fun _ => by kernel_rfl) (fun _ => trivial) (fun _ => ?_)
  refine J_return [[]] (.bool true) (by kernel_rfl) (fun a w s => ?_)
  exact s.ret (by simp) [] [] rfl rfl
end Go.Proofs.YtpjkiomccpjboaaGreatDoor
end
section
namespace Go.Proofs.YtpjkiomccpjboaaGreatDoor
open Go Go.Sx
theorem light {l : List ComT} (h : heavyL l = false) : l.length ≤ 30 ∧ ∀ c ∈ l, heavyC c = 0 := by
  simp only [heavyL, Bool.or_eq_false_iff, List.any_eq_false, decide_eq_false_iff_not, decide_eq_true_eq] at h
  obtain ⟨h1, h2⟩ := h
  refine ⟨by omega, fun c hc => ?_⟩
  have h3 := h2 c hc
  unfold heavyC at h3 ⊢
  split at h3
  · omega
  · split at h3
    · omega
    · rename_i h5 h6
      rw [if_neg h5, if_neg h6]
theorem light_com {c : ComT} (h : heavyC c = 0) : c.when.length ≤ 20 ∧ c.ops.length ≤ 20 ∧ ∀ o ∈ c.ops, o.dots.length ≤ 70 := by
  unfold heavyC at h
  split at h
  · cases h
  · split at h
    · cases h
    · rename_i h1 h2
      refine ⟨by omega, by omega, fun o ho => ?_⟩
      have h3 : heavyOp o = false := by
        cases h4 : heavyOp o with
        | false => rfl
        | true => exact absurd (List.any_eq_true.2 ⟨o, ho, h4⟩) h2
      simp [heavyOp] at h3
      omega
theorem enterB_len (l : List ByteArray) (s : ByteArray) : (enterB l s).length ≤ l.length + 1 := by
  induction l with
  | nil => simp [enterB]
  | cons x l ih =>
    unfold enterB
    split
    · rw [List.length_cons, List.length_cons]
      omega
    · split
      · omega
      · simp
theorem setOf_lenF : ∀ (l p : List ByteArray), (l.foldl enterB p).length ≤ p.length + l.length
  | [], p => by simp
  | x :: l, p => by
    have h1 := setOf_lenF l (enterB p x)
    have h2 := enterB_len p x
    rw [List.foldl_cons, List.length_cons]
    omega
theorem valOf_len {key : ByteArray} {l : List ComT} (h : (valFault key l).code = 0) : (Sx.valOf key l).set.length ≤ 12 * l.length := by
  unfold Sx.valOf
  dsimp only
  split
  · refine Nat.le_trans (setOf_lenF _ _) ?_
    rw [List.length_map, List.length_nil, Nat.zero_add]
    exact Nat.le_trans (List.length_filter_le _ _) (ofKey_len h)
  · simp
theorem Rep.someA {w : World} {S : Nat → Prop} {a : Option Addr} {n c k : Nat} {rows : List (List D)} (h : Rep w S (.slice a n c) (.sl k rows)) (h0 : rows ≠ []) : ∃ b off, a = some ⟨b, off, none⟩ := by
  cases h with
  | nil => exact absurd rfl h0
  | sl u hb hS hc => exact ⟨_, _, rfl⟩
end Go.Proofs.YtpjkiomccpjboaaGreatDoor
end
section
namespace Go.Sx
open Go
theorem Rep.takeS {w : World} {S : Nat → Prop} {a : Option Addr} {n c k : Nat} {rows : List (List D)} (h : Rep w S (.slice a n c) (.sl k rows)) (i : Nat) (hi : i ≤ rows.length) : Rep w S (.slice a i c) (.sl k (rows.take i)) := by
  cases h with
  | nil =>
    obtain rfl : i = 0 := by simpa using hi
    exact .nil
  | sl u hb hS hc hk hl hcell hrep =>
    have := Rep.sl (rows := rows.take i) u hb hS (Nat.le_trans (by rw [List.length_take]; exact Nat.min_le_right ..) hc) hk (fun row hr => hl row (List.mem_of_mem_take hr)) (fun j q hj hq => hcell j q (by rw [List.length_take] at hj; omega) hq) (fun j q row d hj hd => hrep j q row d (by
      rw [List.getElem?_take] at hj
      split at hj
      · exact hj
      · cases hj) hd)
    have e : (rows.take i).length = i := by rw [List.length_take]; omega
    rw [e] at this
    exact this
theorem Rep.dropS {w : World} {S : Nat → Prop} {b off n c k : Nat} {rows : List (List D)} (h : Rep w S (.slice (some ⟨b, off, none⟩) n c) (.sl k rows)) (i : Nat) (hi : i ≤ rows.length) : Rep w S (.slice (some ⟨b, off + i * k, none⟩) (n - i) (c - i)) (.sl k (rows.drop i)) := by
  cases h with
  | nil =>
    obtain rfl : i = 0 := by simpa using hi
    exact .nil
  | sl u hb hS hc hk hl hcell hrep =>
    have := Rep.sl (rows := rows.drop i) (off := off + i * k) (cap := c - i) (fun j q => u (i + j) q) hb hS (by rw [List.length_drop]; omega) hk (fun row hr => hl row (List.mem_of_mem_drop hr)) (fun j q hj hq => by
      have h1 := hcell (i + j) q (by rw [List.length_drop] at hj; omega) hq
      rw [← h1, Nat.add_mul]
      congr 1
      omega) (fun j q row d hj hd => hrep (i + j) q row d (by rw [List.getElem?_drop] at hj; exact hj) hd)
    rwa [List.length_drop] at this
theorem Rep.takeM {β : Type} {enc : β → List D} {l : List β} {w : World} {S : Nat → Prop} {a : Option Addr} {n c k : Nat} (h : Rep w S (.slice a n c) (.sl k (l.map enc))) (i : Nat) (hi : i ≤ l.length) : Rep w S (.slice a i c) (.sl k ((l.take i).map enc)) := by
  rw [List.map_take]
  exact h.takeS i (by rw [List.length_map]; exact hi)
theorem Rep.dropM {β : Type} {enc : β → List D} {l : List β} {w : World} {S : Nat → Prop} {b off n c k : Nat} (h : Rep w S (.slice (some ⟨b, off, none⟩) n c) (.sl k (l.map enc))) (i : Nat) (hi : i ≤ l.length) : Rep w S (.slice (some ⟨b, off + i * k, none⟩) (n - i) (c - i)) (.sl k ((l.drop i).map enc)) := by
  rw [List.map_drop]
  exact h.dropS i (by rw [List.length_map]; exact hi)
theorem Rep.cap {w : World} {S : Nat → Prop} {a : Option Addr} {n c k : Nat} {rows : List (List D)} (h : Rep w S (.slice a n c) (.sl k rows)) : n ≤ c := by
  cases h with
  | nil => exact Nat.zero_le _
  | sl u hb hS hc => exact hc
end Go.Sx
end
section
namespace Go.Proofs.YtpjkiomccpjboaaGreatDoor
open Go Go.Sx
def ApartN (l : List ComT) (n : Nat) (m : Nat) : Prop := ∀ (i k : Nat) (c d : ComT), (i < n ∨ i = n ∧ k < m) → k < i → l[i]? = some c → l[k]? = some d → ¬ (d.place = c.place ∧ d.when.getD d.place.toNat 0 = c.when.getD c.place.toNat 0)
theorem ApartN.next {l : List ComT} {n : Nat} (h : ApartN l n n) : ApartN l (n + 1) 0 := fun i k c d h1 h2 => by
  rcases h1 with h1 | ⟨_, h1⟩
  · exact h i k c d (by omega) h2
  · omega
theorem ApartN.step {l : List ComT} {n m : Nat} {c d : ComT} (h : ApartN l n m) (hc : l[n]? = some c) (hd : l[m]? = some d) (hne : ¬ (d.place = c.place ∧ d.when.getD d.place.toNat 0 = c.when.getD c.place.toNat 0)) : ApartN l n (m + 1) := fun i k c' d' h1 h2 h3 h4 => by
  by_cases h5 : i < n ∨ i = n ∧ k < m
  · exact h i k c' d' h5 h2 h3 h4
  · have h6 : i = n ∧ k = m := by omega
    obtain ⟨rfl, rfl⟩ := h6
    rw [hc] at h3
    rw [hd] at h4
    cases h3
    cases h4
    exact hne
theorem ApartN.all {l : List ComT} (h : ApartN l l.length 0) : Apart l := fun i k c d h1 h2 h3 => h i k c d (.inl (List.getElem?_eq_some_iff.1 h2).1) h1 h2 h3
theorem getD_at {l : List Int} {i : Nat} {x : Int} (h : l[i]? = some x) : l.getD i 0 = x := by simp [List.getD_eq_getElem?_getD, h]
structure TurnI where
  i : Int
  a : Option Addr
  k : Nat
  c : Nat
set_option maxHeartbeats 4000000 in
theorem valuesTurned {w : World} {S : Nat → Prop} {er : Nat → Addr} {eb : Nat → Array Value × TypeId} {a a2 : Option Addr} {n c n2 c2 : Nat} {key : ByteArray} {l : List ComT} {order : List Int} {cut : Int} (hC : Rep w S .nilIface (dC er eb)) (h : Rep w S (.slice a n c) (.sl 3 (l.map eCom))) (ho : Rep w S (.slice a2 n2 c2) (dInts order)) :
    Calls Tryz.prog 5 #[.string key, .slice a n c, .slice a2 n2 c2, .int .i64 cut] w fun e w' => Ret [] (zero w) S w' e (.bool true) [] [] := by
  have e1 := h.slen
  rw [List.length_map] at e1
  subst e1
  obtain rfl := rep_ints_len ho
  refine ep5 (args := [.string key, .slice a l.length c, .slice a2 order.length c2, .int .i64 cut]) (S := S) (G := [(_, dC er eb), (_, .sl 3 (l.map eCom)), (_, dInts order)]) (by kernel_rfl) (.cons hC (.cons h (.cons ho (.nil _ _)))) ?_
  refine J_zero ?_
  refine J_seq ?_
  refine J_reg mixed [.rd 0 [] 0 0] [] [0, 1, 2, 3, 8] (E1 := fun _ => [(0, .val (.string key)), (1, .val (.slice a l.length c)), (2, .val (.slice a2 order.length c2)), (3, .val (.int .i64 cut)), (8, .val (.bool false))]) (h1 := fun _ => []) (p1 := fun _ => []) (W1 := []) (by kernel_rfl) (fun _ => by kernel_rfl) (fun _ => trivial) (fun _ => ?_)
  refine J_seq ?_
  refine JR_begin mixed [(0, false), (1, true)] [] (by kernel_rfl) (by kernel_rfl) ?_
  refine JR_callp [] 11 #[] (some 20) (by kernel_rfl) (fun w S hG => ?_)
  refine (worth (hG.at 0 rfl)).mono ?_
  rintro e1 w1 hR
  refine ⟨_, _, _, hR, ?_⟩
  by_cases hkey : key.size ≤ 60
  · try simp only [List.cons_append, List.nil_append, List.append_nil]
    refine JR_run (id := 1) (rest := []) [.rd 1 [] 0 0] [0, 1, 2, 3, 8, 9] (E1 := fun _ => [(0, .val (.string key)), (1, .val (.slice a l.length c)), (2, .val (.slice a2 order.length c2)), (3, .val (.int .i64 cut)), (8, .val (.bool false)), (9, .val (.bool true))]) (h1 := fun _ => []) (p1 := fun _ => []) (W1 := []) (fun _ => by kernel_rfl) (fun _ => trivial) (fun _ => ?_)
    refine JR_end ?_
    refine J_seq ?_
    refine J_seq ?_
    refine JR_begin mixed [(0, true), (1, true), (2, true), (3, true), (4, true), (5, true), (6, true), (7, true), (8, true), (9, false), (10, true), (11, true), (12, true), (13, true), (14, true), (15, true)] [] (by kernel_rfl) (by kernel_rfl) ?_
    refine JR_run (id := 2) (rest := [(9, false), (10, true), (11, true), (12, true), (13, true), (14, true), (15, true)]) [.rd 0 [] 0 0, .rd 1 [] 0 0, .rd 2 [] 0 0, .rd 3 [] 0 0, .rd 4 [] 0 0, .rd 5 [] 0 7, .rd 6 [] 0 0, .rd 7 [] 0 0, .rd 8 [] 0 0] [0, 1, 2, 3, 8, 9, 28, 29] (E1 := fun _ => [(0, .val (.string key)), (1, .val (.slice a l.length c)), (2, .val (.slice a2 order.length c2)), (3, .val (.int .i64 cut)), (8, .val (.bool false)), (9, .val (.bool true)), (28, .val (.bool false)), (29, .val (.slice a l.length c))]) (h1 := fun _ => []) (p1 := fun _ => [decide ((↑key.size : Int) > (60 : Int)) = false]) (W1 := []) (fun _ => by kernel_rfl) (fun _ => ⟨by simp; omega, trivial⟩) (fun _ => ?_)
    refine JR_callp [] 20 #[.slice a l.length c] (some 30) (by kernel_rfl) (fun w S hG => ?_)
    refine (heavyB (hG.at 1 rfl)).mono ?_
    rintro e2 w2 hR
    refine ⟨_, _, _, hR, ?_⟩
    cases hhv : heavyL l with
    | true =>
      try simp only [List.cons_append, List.nil_append, List.append_nil]
      refine JR_run (id := 2) (rest := []) [.rd 10 [] 0 0, .rd 11 [] 0 0, .rd 12 [] 1 0, .rd 13 [] 1 0, .rd 14 [] 1 0, .rd 15 [] 0 0] [0, 1, 2, 3, 8, 9, 36] (E1 := fun _ => [(0, .val (.string key)), (1, .val (.slice a l.length c)), (2, .val (.slice a2 order.length c2)), (3, .val (.int .i64 cut)), (8, .val (.bool false)), (9, .val (.bool true)), (36, .val (.bool true))]) (h1 := fun _ => []) (p1 := fun _ => []) (W1 := []) (fun _ => by kernel_rfl) (fun _ => trivial) (fun _ => ?_)
      refine JR_end ?_
      refine J_cond_t (by kernel_rfl) (by kernel_rfl) ?_
      refine J_seq ?_
      refine J_reg mixed [.rd 0 [] 0 0, .rd 1 [] 0 0] [] [0, 1, 2, 3, 8] (E1 := fun _ => [(0, .val (.string key)), (1, .val (.slice a l.length c)), (2, .val (.slice a2 order.length c2)), (3, .val (.int .i64 cut)), (8, .val (.bool true))]) (h1 := fun _ => []) (p1 := fun _ => []) (W1 := []) (by kernel_rfl) (fun _ => by kernel_rfl) (fun _ => trivial) (fun _ => ?_)
      refine J_return [[]] (.bool true) (by kernel_rfl) (fun a w s => ?_)
      exact s.retz (by simp) [] [] rfl rfl
    | false =>
      obtain ⟨hl30, hlc⟩ := light hhv
      by_cases hord : order.length ≤ 60
      · try simp only [List.cons_append, List.nil_append, List.append_nil]
        refine JR_run (id := 2) (rest := []) [.rd 10 [] 0 0, .rd 11 [] 0 0, .rd 12 [] 0 0, .rd 13 [] 0 0, .rd 14 [] 0 7, .rd 15 [] 0 0] [0, 1, 2, 3, 8, 9, 36] (E1 := fun _ => [(0, .val (.string key)), (1, .val (.slice a l.length c)), (2, .val (.slice a2 order.length c2)), (3, .val (.int .i64 cut)), (8, .val (.bool false)), (9, .val (.bool true)), (36, .val (.bool false))]) (h1 := fun _ => []) (p1 := fun _ => [decide ((↑order.length : Int) > (60 : Int)) = false]) (W1 := []) (fun _ => by kernel_rfl) (fun _ => ⟨by simp; omega, trivial⟩) (fun _ => ?_)
        refine JR_end ?_
        refine J_cond_f (by kernel_rfl) (by kernel_rfl) ?_
        refine J_skip ?_
        refine J_seq ?_
        refine J_seq ?_
        refine J_reg mixed [.rd 0 [] 0 0] [] [0, 1, 2, 3, 8, 10] (E1 := fun _ => [(0, .val (.string key)), (1, .val (.slice a l.length c)), (2, .val (.slice a2 order.length c2)), (3, .val (.int .i64 cut)), (8, .val (.bool false)), (10, .val (.int .i64 0))]) (h1 := fun _ => []) (p1 := fun _ => []) (W1 := []) (by kernel_rfl) (fun _ => by kernel_rfl) (fun _ => trivial) (fun _ => ?_)
        refine J_block ?_
        refine J_loopx (fun i : Int => [(0, .val (.string key)), (1, .val (.slice a l.length c)), (2, .val (.slice a2 order.length c2)), (3, .val (.int .i64 cut)), (8, .val (.bool false)), (10, .val (.int .i64 i))]) (fun i : Int => []) (fun i : Int => []) (fun i : Int => [(.nilIface, (dC er eb)), (.slice a l.length c, (D.sl 3 (List.map eCom l))), (.slice a2 order.length c2, (dInts order))]) (fun i : Int => (l.length - i).toNat) (fun i : Int => (0 ≤ i ∧ i ≤ l.length ∧ (∀ c ∈ l.take i.toNat, (comFault c).code = 0) ∧ ApartN l i.toNat 0)) 0 [0, 1, 2, 3, 8, 10] [] [] [0, 1, 2] ?_ (by kernel_rfl) rfl rfl rfl ?_
        · exact ⟨by simp, by simp, by simp, fun i k c d h1 => by simp at h1⟩
        rintro i ⟨hi0, hi, hfz, hap⟩
        refine J_seq ?_
        refine J_seq ?_
        refine J_reg mixed [.rd 0 [] 0 0, .rd 1 [] 0 0, .rd 2 [] 0 0, .rd 3 [] 0 0] [] [0, 1, 2, 3, 8, 10, 41] (E1 := fun _ => [(0, .val (.string key)), (1, .val (.slice a l.length c)), (2, .val (.slice a2 order.length c2)), (3, .val (.int .i64 cut)), (8, .val (.bool false)), (10, .val (.int .i64 i)), (41, .val (.bool (decide (i < (↑l.length : Int)))))]) (h1 := fun _ => []) (p1 := fun _ => []) (W1 := []) (by kernel_rfl) (fun _ => by kernel_rfl) (fun _ => trivial) (fun _ => ?_)
        refine J_cond (t := decide (i < (↑l.length : Int))) (by kernel_rfl) (by kernel_rfl) (fun hlt => ?_) (fun hlt => ?_)
        · have hlt2 : i < l.length := by simpa using hlt
          obtain ⟨x, hx⟩ : ∃ x, l[i.toNat]? = some x := ⟨_, List.getElem?_eq_getElem (by omega)⟩
          have hxl := light_com (hlc x (List.mem_of_getElem? hx))
          refine J_read2 1 rfl i.toNat (map_at hx) (by kernel_rfl) (fun b1 off1 cs1 ty1 fz1 a1_0 c1_0 a1_1 c1_1 ha1 hrd1 => ?_)
          cases ha1
          have hrd1_0 := rd0 (hrd1 0 _ rfl)
          have hrd1_1 := hrd1 1 _ rfl
          have hrd1_2 := hrd1 2 _ rfl
          try simp only [List.cons_append, List.nil_append, List.append_nil]
          refine J_skip ?_
          refine J_seq ?_
          refine J_block ?_
          refine J_seq ?_
          refine J_seq ?_
          refine JR_begin mixed [(0, true), (1, true), (2, true), (3, true), (4, false), (5, true), (6, true)] [] (by kernel_rfl) (by kernel_rfl) ?_
          refine JR_run (id := 7) (rest := [(4, false), (5, true), (6, true)]) [.rd 0 [] 0 0, .rd 1 [] 0 0, .rd 2 [] 0 2, .rd 3 [.r 0 (some (.slice (a1_0, c1_0).fst ((List.map eI x.when).length) c1_0)), .r 0 (some (.int .i64 x.place)), .r 0 (some (.slice (a1_1, c1_1).fst ((List.map eOp x.ops).length) c1_1))] 0 0] [0, 1, 2, 3, 8, 10, 47] (E1 := fun _ => [(0, .val (.string key)), (1, .val (.slice (some (⟨b1, off1, none⟩)) l.length c)), (2, .val (.slice a2 order.length c2)), (3, .val (.int .i64 cut)), (8, .val (.bool false)), (10, .val (.int .i64 i)), (47, .val (.agg #[.slice (a1_0, c1_0).fst ((List.map eI x.when).length) c1_0, .int .i64 x.place, .slice (a1_1, c1_1).fst ((List.map eOp x.ops).length) c1_1]))]) (h1 := fun _ => []) (p1 := fun _ => [(0 : Int) ≤ i, i < (↑l.length : Int), cs1[off1 + i.toNat * (3 : Nat)]? = some (Value.slice (a1_0, c1_0).fst (List.map eI x.when).length (a1_0, c1_0).snd), cs1[off1 + i.toNat * (3 : Nat) + (1 : Nat)]? = some (Value.int IntKind.i64 x.place), cs1[off1 + i.toNat * (3 : Nat) + (2 : Nat)]? = some (Value.slice (a1_1, c1_1).fst (List.map eOp x.ops).length (a1_1, c1_1).snd)]) (W1 := []) (fun _ => by kernel_rfl) (fun _ => ⟨hi0, hlt2, hrd1_0, hrd1_1, hrd1_2, trivial⟩) (fun _ => ?_)
          refine JR_callp [] 19 #[.agg #[.slice (a1_0, c1_0).fst ((List.map eI x.when).length) c1_0, .int .i64 x.place, .slice (a1_1, c1_1).fst ((List.map eOp x.ops).length) c1_1]] (some 48) (by kernel_rfl) (fun w S hG => ?_)
          refine (commitFault (c := x) (hG.at 3 rfl) (hG.at 4 rfl) (by omega) (by omega)).mono ?_
          rintro e3 w3 hR
          refine ⟨_, _, _, hR, ?_⟩
          by_cases hx0 : (comFault x).code = 0
          · have hx1 : ¬ ((comFault x).code : Int) > 0 := by omega
            have hrx := right_of hx0
            obtain ⟨t, ht⟩ : ∃ t, x.when[x.place.toNat]? = some t := ⟨_, List.getElem?_eq_getElem (by have := hrx.p0; have := hrx.p1; omega)⟩
            have hp0 := hrx.p0
            have hp1 := hrx.p1
            try simp only [List.cons_append, List.nil_append, List.append_nil]
            refine JR_run (id := 7) (rest := []) [.rd 5 [] 0 0, .rd 6 [] 0 7] [0, 1, 2, 3, 8, 10, 50] (E1 := fun _ => [(0, .val (.string key)), (1, .val (.slice (some (⟨b1, off1, none⟩)) l.length c)), (2, .val (.slice a2 order.length c2)), (3, .val (.int .i64 cut)), (8, .val (.bool false)), (10, .val (.int .i64 i)), (50, .val (.bool false))]) (h1 := fun _ => []) (p1 := fun _ => [decide ((↑(comFault x).code : Int) > (0 : Int)) = false]) (W1 := []) (fun _ => by kernel_rfl) (fun _ => ⟨by simp; omega, trivial⟩) (fun _ => ?_)
            refine JR_end ?_
            refine J_cond_f (by kernel_rfl) (by kernel_rfl) ?_
            refine J_skip ?_
            refine J_seq ?_
            refine J_reg mixed [.rd 0 [] 0 0] [] [0, 1, 2, 3, 8, 10, 11] (E1 := fun _ => [(0, .val (.string key)), (1, .val (.slice (some (⟨b1, off1, none⟩)) l.length c)), (2, .val (.slice a2 order.length c2)), (3, .val (.int .i64 cut)), (8, .val (.bool false)), (10, .val (.int .i64 i)), (11, .val (.int .i64 0))]) (h1 := fun _ => []) (p1 := fun _ => []) (W1 := []) (by kernel_rfl) (fun _ => by kernel_rfl) (fun _ => trivial) (fun _ => ?_)
            refine J_block ?_
            refine J_loopx (fun k : Int => [(0, .val (.string key)), (1, .val (.slice (some (⟨b1, off1, none⟩)) l.length c)), (2, .val (.slice a2 order.length c2)), (3, .val (.int .i64 cut)), (8, .val (.bool false)), (10, .val (.int .i64 i)), (11, .val (.int .i64 k))]) (fun k : Int => []) (fun k : Int => []) (fun k : Int => [(.nilIface, (dC er eb)), (.slice (some (⟨b1, off1, none⟩)) l.length c, (D.sl 3 (List.map eCom l))), (.slice a2 order.length c2, (dInts order)), (.slice (a1_0, c1_0).fst ((List.map eI x.when).length) c1_0, (D.sl 1 (List.map eI x.when))), (.slice (a1_1, c1_1).fst ((List.map eOp x.ops).length) c1_1, (D.sl 7 (List.map eOp x.ops)))]) (fun k : Int => (i - k).toNat) (fun k : Int => (0 ≤ k ∧ k ≤ i ∧ ApartN l i.toNat k.toNat)) 0 [0, 1, 2, 3, 8, 10, 11] [] [] [0, 1, 2, 3, 4] ?_ (by kernel_rfl) rfl rfl rfl ?_
            · exact ⟨by simp, by omega, hap⟩
            rintro k ⟨hk0, hk, hak⟩
            refine J_seq ?_
            refine J_seq ?_
            refine J_reg mixed [.rd 0 [] 0 0, .rd 1 [] 0 0, .rd 2 [] 0 0] [] [0, 1, 2, 3, 8, 10, 11, 53] (E1 := fun _ => [(0, .val (.string key)), (1, .val (.slice (some (⟨b1, off1, none⟩)) l.length c)), (2, .val (.slice a2 order.length c2)), (3, .val (.int .i64 cut)), (8, .val (.bool false)), (10, .val (.int .i64 i)), (11, .val (.int .i64 k)), (53, .val (.bool (decide (k < i))))]) (h1 := fun _ => []) (p1 := fun _ => []) (W1 := []) (by kernel_rfl) (fun _ => by kernel_rfl) (fun _ => trivial) (fun _ => ?_)
            refine J_cond (t := decide (k < i)) (by kernel_rfl) (by kernel_rfl) (fun hlt3 => ?_) (fun hlt3 => ?_)
            · have hlt4 : k < i := by simpa using hlt3
              obtain ⟨y, hy⟩ : ∃ y, l[k.toNat]? = some y := ⟨_, List.getElem?_eq_getElem (by omega)⟩
              have hry := right_of (hfz y (List.mem_of_getElem? (i := k.toNat) (by rw [List.getElem?_take, if_pos (by omega)]; exact hy)))
              obtain ⟨t2, ht2⟩ : ∃ t, y.when[y.place.toNat]? = some t := ⟨_, List.getElem?_eq_getElem (by have := hry.p0; have := hry.p1; omega)⟩
              have hq0 := hry.p0
              have hq1 := hry.p1
              have e7 : (k + 1).toNat = k.toNat + 1 := by omega
              have g1 := getD_at ht
              have g2 := getD_at ht2
              refine J_again2 1 rfl 0 rfl k.toNat (map_at hy) (by kernel_rfl) (fun a2_0 c2_0 a2_1 c2_1 hrd2 => ?_)
              have hrd2_0 := rd0 (hrd2 0 _ rfl)
              have hrd2_1 := hrd2 1 _ rfl
              have hrd2_2 := hrd2 2 _ rfl
              by_cases hpl : y.place = x.place
              · refine J_read0 5 rfl y.place.toNat (map_at ht2) (by kernel_rfl) (fun b3 off3 cs3 ty3 fz3 ha3 hrd3 => ?_)
                cases ha3
                have hrd3_0 := rd0 (hrd3 0 _ rfl)
                refine J_read0 3 rfl x.place.toNat (map_at ht) (by kernel_rfl) (fun b4 off4 cs4 ty4 fz4 ha4 hrd4 => ?_)
                cases ha4
                have hrd4_0 := rd0 (hrd4 0 _ rfl)
                by_cases htt : t2 = t
                · try simp only [List.cons_append, List.nil_append, List.append_nil]
                  refine J_skip ?_
                  refine J_seq ?_
                  refine J_block ?_
                  refine J_seq ?_
                  refine J_reg mixed [.rd 0 [] 0 0, .rd 1 [] 0 0, .rd 2 [] 0 2, .rd 3 [] 0 0, .rd 4 [.r 0 (some (.int .i64 y.place))] 0 0, .rd 5 [] 0 0, .rd 6 [] 0 0, .rd 7 [] 0 2, .rd 8 [] 0 0, .rd 9 [.r 0 (some (.int .i64 x.place))] 0 0, .rd 10 [] 0 6, .rd 11 [] 0 0, .rd 12 [] 0 0, .rd 13 [] 0 0, .rd 14 [] 0 2, .rd 15 [] 0 0, .rd 16 [.r 0 (some (.slice (some (⟨b3, off3, none⟩)) ((List.map eI y.when).length) c2_0))] 0 0, .rd 17 [] 0 0, .rd 18 [] 0 0, .rd 19 [] 0 2, .rd 20 [] 0 0, .rd 21 [.r 0 (some (.int .i64 y.place))] 0 0, .rd 22 [] 0 2, .rd 23 [.r 1 (some (.int .i64 t2))] 0 0, .rd 24 [] 0 0, .rd 25 [] 0 0, .rd 26 [] 0 2, .rd 27 [] 0 0, .rd 28 [.r 0 (some (.slice (some (⟨b4, off4, none⟩)) ((List.map eI x.when).length) c1_0))] 0 0, .rd 29 [] 0 0, .rd 30 [] 0 0, .rd 31 [] 0 2, .rd 32 [] 0 0, .rd 33 [.r 0 (some (.int .i64 x.place))] 0 0, .rd 34 [] 0 2, .rd 35 [.r 2 (some (.int .i64 t))] 0 0, .rd 36 [] 0 6, .rd 37 [] 0 0] [] [0, 1, 2, 3, 8, 10, 11, 93] (E1 := fun _ => [(0, .val (.string key)), (1, .val (.slice (some (⟨b1, off1, none⟩)) l.length c)), (2, .val (.slice a2 order.length c2)), (3, .val (.int .i64 cut)), (8, .val (.bool false)), (10, .val (.int .i64 i)), (11, .val (.int .i64 k)), (93, .val (.bool true))]) (h1 := fun _ => []) (p1 := fun _ => [(0 : Int) ≤ k, k < (↑l.length : Int), cs1[off1 + k.toNat * (3 : Nat) + (1 : Nat)]? = some (Value.int IntKind.i64 y.place), (0 : Int) ≤ i, i < (↑l.length : Int), cs1[off1 + i.toNat * (3 : Nat) + (1 : Nat)]? = some (Value.int IntKind.i64 x.place), (y.place == x.place) = true, (0 : Int) ≤ k, k < (↑l.length : Int), cs1[off1 + k.toNat * (3 : Nat)]? = some (Value.slice (some (Addr.mk b3 off3 none), c2_0).fst (List.map eI y.when).length (some (Addr.mk b3 off3 none), c2_0).snd), (0 : Int) ≤ k, k < (↑l.length : Int), cs1[off1 + k.toNat * (3 : Nat) + (1 : Nat)]? = some (Value.int IntKind.i64 y.place), (0 : Int) ≤ y.place, y.place < (↑(List.map eI y.when).length : Int), cs3[off3 + y.place.toNat * (1 : Nat)]? = some (Value.int IntKind.i64 t2), (0 : Int) ≤ i, i < (↑l.length : Int), cs1[off1 + i.toNat * (3 : Nat)]? = some (Value.slice (some (Addr.mk b4 off4 none), c1_0).fst (List.map eI x.when).length (some (Addr.mk b4 off4 none), c1_0).snd), (0 : Int) ≤ i, i < (↑l.length : Int), cs1[off1 + i.toNat * (3 : Nat) + (1 : Nat)]? = some (Value.int IntKind.i64 x.place), (0 : Int) ≤ x.place, x.place < (↑(List.map eI x.when).length : Int), cs4[off4 + x.place.toNat * (1 : Nat)]? = some (Value.int IntKind.i64 t), (t2 == t) = true]) (W1 := []) (by kernel_rfl) (fun _ => by kernel_rfl) (fun _ => ⟨hk0, by omega, hrd2_1, hi0, hlt2, hrd1_1, by simp; omega, hk0, by omega, hrd2_0, hk0, by omega, hrd2_1, hq0, by simp; omega, hrd3_0, hi0, hlt2, hrd1_0, hi0, hlt2, hrd1_1, hp0, by simp; omega, hrd4_0, by simp; omega, trivial⟩) (fun _ => ?_)
                  refine J_cond_t (by kernel_rfl) (by kernel_rfl) ?_
                  refine J_seq ?_
                  refine J_reg mixed [.rd 0 [] 0 0] [] [0, 1, 2, 3, 8, 10, 11] (E1 := fun _ => [(0, .val (.string key)), (1, .val (.slice (some (⟨b1, off1, none⟩)) l.length c)), (2, .val (.slice a2 order.length c2)), (3, .val (.int .i64 cut)), (8, .val (.bool true)), (10, .val (.int .i64 i)), (11, .val (.int .i64 k))]) (h1 := fun _ => []) (p1 := fun _ => []) (W1 := []) (by kernel_rfl) (fun _ => by kernel_rfl) (fun _ => trivial) (fun _ => ?_)
                  refine J_return [[]] (.bool true) (by kernel_rfl) (fun a w s => ?_)
                  exact s.retz (by simp) [] [] rfl rfl
                · try simp only [List.cons_append, List.nil_append, List.append_nil]
                  refine J_skip ?_
                  refine J_seq ?_
                  refine J_block ?_
                  refine J_seq ?_
                  refine J_reg mixed [.rd 0 [] 0 0, .rd 1 [] 0 0, .rd 2 [] 0 2, .rd 3 [] 0 0, .rd 4 [.r 0 (some (.int .i64 y.place))] 0 0, .rd 5 [] 0 0, .rd 6 [] 0 0, .rd 7 [] 0 2, .rd 8 [] 0 0, .rd 9 [.r 0 (some (.int .i64 x.place))] 0 0, .rd 10 [] 0 6, .rd 11 [] 0 0, .rd 12 [] 0 0, .rd 13 [] 0 0, .rd 14 [] 0 2, .rd 15 [] 0 0, .rd 16 [.r 0 (some (.slice (some (⟨b3, off3, none⟩)) ((List.map eI y.when).length) c2_0))] 0 0, .rd 17 [] 0 0, .rd 18 [] 0 0, .rd 19 [] 0 2, .rd 20 [] 0 0, .rd 21 [.r 0 (some (.int .i64 y.place))] 0 0, .rd 22 [] 0 2, .rd 23 [.r 1 (some (.int .i64 t2))] 0 0, .rd 24 [] 0 0, .rd 25 [] 0 0, .rd 26 [] 0 2, .rd 27 [] 0 0, .rd 28 [.r 0 (some (.slice (some (⟨b4, off4, none⟩)) ((List.map eI x.when).length) c1_0))] 0 0, .rd 29 [] 0 0, .rd 30 [] 0 0, .rd 31 [] 0 2, .rd 32 [] 0 0, .rd 33 [.r 0 (some (.int .i64 x.place))] 0 0, .rd 34 [] 0 2, .rd 35 [.r 2 (some (.int .i64 t))] 0 0, .rd 36 [] 0 7, .rd 37 [] 0 0] [] [0, 1, 2, 3, 8, 10, 11, 93] (E1 := fun _ => [(0, .val (.string key)), (1, .val (.slice (some (⟨b1, off1, none⟩)) l.length c)), (2, .val (.slice a2 order.length c2)), (3, .val (.int .i64 cut)), (8, .val (.bool false)), (10, .val (.int .i64 i)), (11, .val (.int .i64 k)), (93, .val (.bool false))]) (h1 := fun _ => []) (p1 := fun _ => [(0 : Int) ≤ k, k < (↑l.length : Int), cs1[off1 + k.toNat * (3 : Nat) + (1 : Nat)]? = some (Value.int IntKind.i64 y.place), (0 : Int) ≤ i, i < (↑l.length : Int), cs1[off1 + i.toNat * (3 : Nat) + (1 : Nat)]? = some (Value.int IntKind.i64 x.place), (y.place == x.place) = true, (0 : Int) ≤ k, k < (↑l.length : Int), cs1[off1 + k.toNat * (3 : Nat)]? = some (Value.slice (some (Addr.mk b3 off3 none), c2_0).fst (List.map eI y.when).length (some (Addr.mk b3 off3 none), c2_0).snd), (0 : Int) ≤ k, k < (↑l.length : Int), cs1[off1 + k.toNat * (3 : Nat) + (1 : Nat)]? = some (Value.int IntKind.i64 y.place), (0 : Int) ≤ y.place, y.place < (↑(List.map eI y.when).length : Int), cs3[off3 + y.place.toNat * (1 : Nat)]? = some (Value.int IntKind.i64 t2), (0 : Int) ≤ i, i < (↑l.length : Int), cs1[off1 + i.toNat * (3 : Nat)]? = some (Value.slice (some (Addr.mk b4 off4 none), c1_0).fst (List.map eI x.when).length (some (Addr.mk b4 off4 none), c1_0).snd), (0 : Int) ≤ i, i < (↑l.length : Int), cs1[off1 + i.toNat * (3 : Nat) + (1 : Nat)]? = some (Value.int IntKind.i64 x.place), (0 : Int) ≤ x.place, x.place < (↑(List.map eI x.when).length : Int), cs4[off4 + x.place.toNat * (1 : Nat)]? = some (Value.int IntKind.i64 t), (t2 == t) = false]) (W1 := []) (by kernel_rfl) (fun _ => by kernel_rfl) (fun _ => ⟨hk0, by omega, hrd2_1, hi0, hlt2, hrd1_1, by simp; omega, hk0, by omega, hrd2_0, hk0, by omega, hrd2_1, hq0, by simp; omega, hrd3_0, hi0, hlt2, hrd1_0, hi0, hlt2, hrd1_1, hp0, by simp; omega, hrd4_0, by simp; omega, trivial⟩) (fun _ => ?_)
                  refine J_cond_f (by kernel_rfl) (by kernel_rfl) ?_
                  refine J_skip ?_
                  refine J_eb ?_
                  refine J_reg mixed [.rd 0 [] 0 0, .rd 1 [] 0 1, .rd 2 [] 0 0] [] [0, 1, 2, 3, 8, 10, 11] (E1 := fun _ => [(0, .val (.string key)), (1, .val (.slice (some (⟨b1, off1, none⟩)) l.length c)), (2, .val (.slice a2 order.length c2)), (3, .val (.int .i64 cut)), (8, .val (.bool false)), (10, .val (.int .i64 i)), (11, .val (.int .i64 (k + 1)))]) (h1 := fun _ => []) (p1 := fun _ => [IntKind.i64.wrap (k + (1 : Int)) = k + (1 : Int)]) (W1 := []) (by kernel_rfl) (fun _ => by kernel_rfl) (fun _ => ⟨wrap_i64 (by omega) (by omega), trivial⟩) (fun _ => ?_)
                  refine J_backx (k + 1) [0, 1, 2, 3, 8, 10, 11] [] [] [0, 1, 2, 3, 4] ?_ ?_ (by kernel_rfl) rfl rfl rfl
                  · refine ⟨by omega, by omega, ?_⟩
                    rw [e7]
                    exact hak.step hx hy fun hh => htt (by rw [← g1, ← g2]; exact hh.2)
                  · omega
              · try simp only [List.cons_append, List.nil_append, List.append_nil]
                refine J_skip ?_
                refine J_seq ?_
                refine J_block ?_
                refine J_seq ?_
                refine J_reg mixed [.rd 0 [] 0 0, .rd 1 [] 0 0, .rd 2 [] 0 2, .rd 3 [] 0 0, .rd 4 [.r 0 (some (.int .i64 y.place))] 0 0, .rd 5 [] 0 0, .rd 6 [] 0 0, .rd 7 [] 0 2, .rd 8 [] 0 0, .rd 9 [.r 0 (some (.int .i64 x.place))] 0 0, .rd 10 [] 0 7, .rd 11 [] 0 0, .rd 12 [] 1 0, .rd 13 [] 1 0, .rd 14 [] 1 0, .rd 15 [] 1 0, .rd 16 [] 1 0, .rd 17 [] 1 0, .rd 18 [] 1 0, .rd 19 [] 1 0, .rd 20 [] 1 0, .rd 21 [] 1 0, .rd 22 [] 1 0, .rd 23 [] 1 0, .rd 24 [] 1 0, .rd 25 [] 1 0, .rd 26 [] 1 0, .rd 27 [] 1 0, .rd 28 [] 1 0, .rd 29 [] 1 0, .rd 30 [] 1 0, .rd 31 [] 1 0, .rd 32 [] 1 0, .rd 33 [] 1 0, .rd 34 [] 1 0, .rd 35 [] 1 0, .rd 36 [] 1 0, .rd 37 [] 0 0] [] [0, 1, 2, 3, 8, 10, 11, 93] (E1 := fun _ => [(0, .val (.string key)), (1, .val (.slice (some (⟨b1, off1, none⟩)) l.length c)), (2, .val (.slice a2 order.length c2)), (3, .val (.int .i64 cut)), (8, .val (.bool false)), (10, .val (.int .i64 i)), (11, .val (.int .i64 k)), (93, .val (.bool false))]) (h1 := fun _ => []) (p1 := fun _ => [(0 : Int) ≤ k, k < (↑l.length : Int), cs1[off1 + k.toNat * (3 : Nat) + (1 : Nat)]? = some (Value.int IntKind.i64 y.place), (0 : Int) ≤ i, i < (↑l.length : Int), cs1[off1 + i.toNat * (3 : Nat) + (1 : Nat)]? = some (Value.int IntKind.i64 x.place), (y.place == x.place) = false]) (W1 := []) (by kernel_rfl) (fun _ => by kernel_rfl) (fun _ => ⟨hk0, by omega, hrd2_1, hi0, hlt2, hrd1_1, by simp; omega, trivial⟩) (fun _ => ?_)
                refine J_cond_f (by kernel_rfl) (by kernel_rfl) ?_
                refine J_skip ?_
                refine J_eb ?_
                refine J_reg mixed [.rd 0 [] 0 0, .rd 1 [] 0 1, .rd 2 [] 0 0] [] [0, 1, 2, 3, 8, 10, 11] (E1 := fun _ => [(0, .val (.string key)), (1, .val (.slice (some (⟨b1, off1, none⟩)) l.length c)), (2, .val (.slice a2 order.length c2)), (3, .val (.int .i64 cut)), (8, .val (.bool false)), (10, .val (.int .i64 i)), (11, .val (.int .i64 (k + 1)))]) (h1 := fun _ => []) (p1 := fun _ => [IntKind.i64.wrap (k + (1 : Int)) = k + (1 : Int)]) (W1 := []) (by kernel_rfl) (fun _ => by kernel_rfl) (fun _ => ⟨wrap_i64 (by omega) (by omega), trivial⟩) (fun _ => ?_)
                refine J_backx (k + 1) [0, 1, 2, 3, 8, 10, 11] [] [] [0, 1, 2, 3, 4] ?_ ?_ (by kernel_rfl) rfl rfl rfl
                · refine ⟨by omega, by omega, ?_⟩
                  rw [e7]
                  exact hak.step hx hy fun hh => hpl hh.1
                · omega
            · have hki2 : ¬ k < i := by simpa using hlt3
              have hki : k.toNat = i.toNat := by omega
              rw [hki] at hak
              refine J_exit rfl ?_
              refine J_eb ?_
              refine J_reg mixed [.rd 0 [] 0 0, .rd 1 [] 0 1, .rd 2 [] 0 0] [] [0, 1, 2, 3, 8, 10, 11] (E1 := fun _ => [(0, .val (.string key)), (1, .val (.slice (some (⟨b1, off1, none⟩)) l.length c)), (2, .val (.slice a2 order.length c2)), (3, .val (.int .i64 cut)), (8, .val (.bool false)), (10, .val (.int .i64 (i + 1))), (11, .val (.int .i64 k))]) (h1 := fun _ => []) (p1 := fun _ => [IntKind.i64.wrap (i + (1 : Int)) = i + (1 : Int)]) (W1 := []) (by kernel_rfl) (fun _ => by kernel_rfl) (fun _ => ⟨wrap_i64 (by omega) (by omega), trivial⟩) (fun _ => ?_)
              refine J_backx (i + 1) [0, 1, 2, 3, 8, 10] [] [] [0, 1, 2] ?_ ?_ (by kernel_rfl) rfl rfl rfl
              · refine ⟨by omega, by omega, fun z hz => ?_, ?_⟩
                · rw [← take_snoc hi0 hx, List.mem_append, List.mem_singleton] at hz
                  rcases hz with hz | rfl
                  · exact hfz z hz
                  · exact hx0
                · rw [show (i + 1).toNat = i.toNat + 1 by omega]
                  exact hak.next
              · omega
          · have hx1 : ((comFault x).code : Int) > 0 := by omega
            try simp only [List.cons_append, List.nil_append, List.append_nil]
            refine JR_run (id := 7) (rest := []) [.rd 5 [] 0 0, .rd 6 [] 0 6] [0, 1, 2, 3, 8, 10, 50] (E1 := fun _ => [(0, .val (.string key)), (1, .val (.slice (some (⟨b1, off1, none⟩)) l.length c)), (2, .val (.slice a2 order.length c2)), (3, .val (.int .i64 cut)), (8, .val (.bool false)), (10, .val (.int .i64 i)), (50, .val (.bool true))]) (h1 := fun _ => []) (p1 := fun _ => [decide ((↑(comFault x).code : Int) > (0 : Int)) = true]) (W1 := []) (fun _ => by kernel_rfl) (fun _ => ⟨by simp; omega, trivial⟩) (fun _ => ?_)
            refine JR_end ?_
            refine J_cond_t (by kernel_rfl) (by kernel_rfl) ?_
            refine J_seq ?_
            refine J_reg mixed [.rd 0 [] 0 0] [] [0, 1, 2, 3, 8, 10] (E1 := fun _ => [(0, .val (.string key)), (1, .val (.slice (some (⟨b1, off1, none⟩)) l.length c)), (2, .val (.slice a2 order.length c2)), (3, .val (.int .i64 cut)), (8, .val (.bool true)), (10, .val (.int .i64 i))]) (h1 := fun _ => []) (p1 := fun _ => []) (W1 := []) (by kernel_rfl) (fun _ => by kernel_rfl) (fun _ => trivial) (fun _ => ?_)
            refine J_return [[]] (.bool true) (by kernel_rfl) (fun a w s => ?_)
            exact s.retz (by simp) [] [] rfl rfl
        · have hil : l.take i.toNat = l := List.take_of_length_le (by simp at hlt; omega)
          have hin : i.toNat = l.length := by simp at hlt; omega
          rw [hil] at hfz
          rw [hin] at hap
          have hA := hap.all
          refine J_exit rfl ?_
          refine J_seq ?_
          refine JR_begin mixed [(0, true), (1, true), (2, false), (3, false), (4, true), (5, true), (6, true), (7, false), (8, false), (9, true)] [] (by kernel_rfl) (by kernel_rfl) ?_
          refine JR_run (id := 14) (rest := [(2, false), (3, false), (4, true), (5, true), (6, true), (7, false), (8, false), (9, true)]) [.rd 0 [] 0 0, .rd 1 [] 0 0] [0, 1, 2, 3, 8, 95, 96] (E1 := fun _ => [(0, .val (.string key)), (1, .val (.slice a l.length c)), (2, .val (.slice a2 order.length c2)), (3, .val (.int .i64 cut)), (8, .val (.bool false)), (95, .val (.string key)), (96, .val (.slice a l.length c))]) (h1 := fun _ => []) (p1 := fun _ => []) (W1 := []) (fun _ => by kernel_rfl) (fun _ => trivial) (fun _ => ?_)
          refine JR_callp [] 22 #[.slice a l.length c] (some 97) (by kernel_rfl) (fun w S hG => ?_)
          refine (ownCommits (hG.at 1 rfl) (by omega) (fun x hx => by have := light_com (hlc x hx); omega) (fun x hx => by have := light_com (hlc x hx); omega) (fun x hx o ho => by have := (light_com (hlc x hx)).2.2 o ho; omega)).mono ?_
          rintro e3 w3 ⟨a3, n3, c3, hR⟩
          refine ⟨_, _, _, hR, ?_⟩
          try simp only [List.cons_append, List.nil_append, List.append_nil]
          refine JR_callzp [] 21 #[.string key, .slice a3 n3 c3] (some 98) zero_all (by kernel_rfl) (fun w S hG => ?_)
          refine (vOf (key := key) (hG.at 0 rfl) (hG.at 3 rfl) (by omega) (fun x hx => by have := light_com (hlc x hx); omega) (fun x hx => by have := light_com (hlc x hx); omega)).mono ?_
          rintro e4 w4 (⟨hc, ⟨hat, v, hR, hv⟩ | ⟨hc1, hat, pb, hR⟩⟩ | ⟨hc, ua, un, uc, hR⟩)
          · refine ⟨_, _, _, hR, ?_⟩
            rcases hv with ⟨hv0, rfl⟩ | ⟨hv0, rfl⟩
            · exact absurd hv0 hc
            · try simp only [List.cons_append, List.nil_append, List.append_nil]
              refine JR_run (id := 14) (rest := []) [.rd 4 [] 0 0, .rd 5 [] 0 0, .rd 6 [] 0 0, .wr 7 [] 0, .wr 8 [.o 0 none, .o 0 none, .o 0 none, .o 0 none] 0, .rd 9 [] 0 0] [0, 1, 2, 3, 8, 12, 13] (E1 := fun nu1 => [(0, .val (.string key)), (1, .val (.slice a l.length c)), (2, .val (.slice a2 order.length c2)), (3, .val (.int .i64 cut)), (8, .val (.bool false)), (12, .val (.pointer (some (⟨nu1 0, 0, none⟩)))), (13, .val (.iface 243 (.pointer (some (er (valFault key l).code)))))]) (h1 := fun nu1 => [(nu1 0, .cells #[.int .i64 0, .string (ByteArray.mk #[]), .int .i64 0, .slice none 0 0] 47 (0, 0))]) (p1 := fun nu1 => []) (W1 := []) (fun _ => by kernel_rfl) (fun _ => trivial) (fun nu1 => ?_)
              refine JR_end ?_
              refine J_seq ?_
              refine J_seq ?_
              refine J_reg mixed [.rd 0 [] 0 0, .rd 1 [] 0 0] [] [0, 1, 2, 3, 8, 12, 13, 102] (E1 := fun _ => [(0, .val (.string key)), (1, .val (.slice a l.length c)), (2, .val (.slice a2 order.length c2)), (3, .val (.int .i64 cut)), (8, .val (.bool false)), (12, .val (.pointer (some (⟨nu1 0, 0, none⟩)))), (13, .val (.iface 243 (.pointer (some (er (valFault key l).code))))), (102, .val (.bool true))]) (h1 := fun _ => [(nu1 0, .cells #[.int .i64 0, .string (ByteArray.mk #[]), .int .i64 0, .slice none 0 0] 47 (0, 0))]) (p1 := fun _ => []) (W1 := []) (by kernel_rfl) (fun _ => by kernel_rfl) (fun _ => trivial) (fun _ => ?_)
              refine J_cond_t (by kernel_rfl) (by kernel_rfl) ?_
              refine J_seq ?_
              refine J_reg mixed [.rd 0 [] 0 0] [] [0, 1, 2, 3, 8, 12, 13] (E1 := fun _ => [(0, .val (.string key)), (1, .val (.slice a l.length c)), (2, .val (.slice a2 order.length c2)), (3, .val (.int .i64 cut)), (8, .val (.bool true)), (12, .val (.pointer (some (⟨nu1 0, 0, none⟩)))), (13, .val (.iface 243 (.pointer (some (er (valFault key l).code)))))]) (h1 := fun _ => [(nu1 0, .cells #[.int .i64 0, .string (ByteArray.mk #[]), .int .i64 0, .slice none 0 0] 47 (0, 0))]) (p1 := fun _ => []) (W1 := []) (by kernel_rfl) (fun _ => by kernel_rfl) (fun _ => trivial) (fun _ => ?_)
              refine J_return [[]] (.bool true) (by kernel_rfl) (fun a w s => ?_)
              exact s.retz (by simp) [] [] rfl rfl
          · refine ⟨_, _, _, hR, ?_⟩
            try simp only [List.cons_append, List.nil_append, List.append_nil]
            refine JR_run (id := 14) (rest := []) [.rd 4 [] 0 0, .rd 5 [] 0 0, .rd 6 [] 0 0, .wr 7 [] 0, .wr 8 [.o 0 none, .o 0 none, .o 0 none, .o 0 none] 0, .rd 9 [] 0 0] [0, 1, 2, 3, 8, 12, 13] (E1 := fun nu1 => [(0, .val (.string key)), (1, .val (.slice a l.length c)), (2, .val (.slice a2 order.length c2)), (3, .val (.int .i64 cut)), (8, .val (.bool false)), (12, .val (.pointer (some (⟨nu1 0, 0, none⟩)))), (13, .val (.iface 102 (.pointer (some (⟨pb, 0, none⟩)))))]) (h1 := fun nu1 => [(nu1 0, .cells #[.int .i64 0, .string (ByteArray.mk #[]), .int .i64 0, .slice none 0 0] 47 (0, 0))]) (p1 := fun nu1 => []) (W1 := []) (fun _ => by kernel_rfl) (fun _ => trivial) (fun nu1 => ?_)
            refine JR_end ?_
            refine J_seq ?_
            refine J_seq ?_
            refine J_reg mixed [.rd 0 [] 0 0, .rd 1 [] 0 0] [] [0, 1, 2, 3, 8, 12, 13, 102] (E1 := fun _ => [(0, .val (.string key)), (1, .val (.slice a l.length c)), (2, .val (.slice a2 order.length c2)), (3, .val (.int .i64 cut)), (8, .val (.bool false)), (12, .val (.pointer (some (⟨nu1 0, 0, none⟩)))), (13, .val (.iface 102 (.pointer (some (⟨pb, 0, none⟩))))), (102, .val (.bool true))]) (h1 := fun _ => [(nu1 0, .cells #[.int .i64 0, .string (ByteArray.mk #[]), .int .i64 0, .slice none 0 0] 47 (0, 0))]) (p1 := fun _ => []) (W1 := []) (by kernel_rfl) (fun _ => by kernel_rfl) (fun _ => trivial) (fun _ => ?_)
            refine J_cond_t (by kernel_rfl) (by kernel_rfl) ?_
            refine J_seq ?_
            refine J_reg mixed [.rd 0 [] 0 0] [] [0, 1, 2, 3, 8, 12, 13] (E1 := fun _ => [(0, .val (.string key)), (1, .val (.slice a l.length c)), (2, .val (.slice a2 order.length c2)), (3, .val (.int .i64 cut)), (8, .val (.bool true)), (12, .val (.pointer (some (⟨nu1 0, 0, none⟩)))), (13, .val (.iface 102 (.pointer (some (⟨pb, 0, none⟩)))))]) (h1 := fun _ => [(nu1 0, .cells #[.int .i64 0, .string (ByteArray.mk #[]), .int .i64 0, .slice none 0 0] 47 (0, 0))]) (p1 := fun _ => []) (W1 := []) (by kernel_rfl) (fun _ => by kernel_rfl) (fun _ => trivial) (fun _ => ?_)
            refine J_return [[]] (.bool true) (by kernel_rfl) (fun a w s => ?_)
            exact s.retz (by simp) [] [] rfl rfl
          · refine ⟨_, _, _, hR, ?_⟩
            obtain ⟨hc2, hval⟩ := other_same (order := order) (cut := cut) hA hc
            try simp only [List.cons_append, List.nil_append, List.append_nil]
            refine JR_run (id := 14) (rest := []) [.rd 4 [] 0 0, .rd 5 [] 0 0, .rd 6 [] 0 0, .wr 7 [] 0, .wr 8 [.o 0 none, .o 0 none, .o 0 none, .o 0 none] 0, .rd 9 [] 0 0] [0, 1, 2, 3, 8, 12, 13] (E1 := fun nu1 => [(0, .val (.string key)), (1, .val (.slice a l.length c)), (2, .val (.slice a2 order.length c2)), (3, .val (.int .i64 cut)), (8, .val (.bool false)), (12, .val (.pointer (some (⟨nu1 0, 0, none⟩)))), (13, .val (.nilIface))]) (h1 := fun nu1 => [(nu1 0, .cells #[.int .i64 ((Sx.valOf key l).kind), .string ((Sx.valOf key l).text), .int .i64 ((Sx.valOf key l).n), .slice ua un uc] 47 (0, 0))]) (p1 := fun nu1 => []) (W1 := []) (fun _ => by kernel_rfl) (fun _ => trivial) (fun nu1 => ?_)
            refine JR_end ?_
            refine J_seq ?_
            refine J_seq ?_
            refine J_reg mixed [.rd 0 [] 0 0, .rd 1 [] 0 0] [] [0, 1, 2, 3, 8, 12, 13, 102] (E1 := fun _ => [(0, .val (.string key)), (1, .val (.slice a l.length c)), (2, .val (.slice a2 order.length c2)), (3, .val (.int .i64 cut)), (8, .val (.bool false)), (12, .val (.pointer (some (⟨nu1 0, 0, none⟩)))), (13, .val (.nilIface)), (102, .val (.bool false))]) (h1 := fun _ => [(nu1 0, .cells #[.int .i64 ((Sx.valOf key l).kind), .string ((Sx.valOf key l).text), .int .i64 ((Sx.valOf key l).n), .slice ua un uc] 47 (0, 0))]) (p1 := fun _ => []) (W1 := []) (by kernel_rfl) (fun _ => by kernel_rfl) (fun _ => trivial) (fun _ => ?_)
            refine J_cond_f (by kernel_rfl) (by kernel_rfl) ?_
            refine J_skip ?_
            refine J_seq ?_
            refine J_reg mixed [.rd 0 [] 0 0] [] [0, 1, 2, 3, 8, 12, 13, 14] (E1 := fun _ => [(0, .val (.string key)), (1, .val (.slice a l.length c)), (2, .val (.slice a2 order.length c2)), (3, .val (.int .i64 cut)), (8, .val (.bool false)), (12, .val (.pointer (some (⟨nu1 0, 0, none⟩)))), (13, .val (.nilIface)), (14, .val (.slice none 0 0))]) (h1 := fun _ => [(nu1 0, .cells #[.int .i64 ((Sx.valOf key l).kind), .string ((Sx.valOf key l).text), .int .i64 ((Sx.valOf key l).n), .slice ua un uc] 47 (0, 0))]) (p1 := fun _ => []) (W1 := []) (by kernel_rfl) (fun _ => by kernel_rfl) (fun _ => trivial) (fun _ => ?_)
            refine J_seq ?_
            refine J_seq ?_
            refine J_stp (stp_accm eCom 28 3) ?_
            refine J_norm (C' := [cAcc (.slice none 0 0) 28 3 (List.map eCom [])]) (G' := [(.nilIface, (dC er eb)), (.slice a l.length c, (D.sl 3 (List.map eCom l))), (.slice a2 order.length c2, (dInts order)), (.slice a3 n3 c3, (D.sl 3 (List.map eCom l))), (.slice ua un uc, (dStrs (Sx.valOf key l).set))]) (by kernel_rfl) (by kernel_rfl) ?_
            refine J_reg mixed [.rd 0 [] 0 0] [] [0, 1, 2, 3, 8, 12, 13, 14, 15] (E1 := fun _ => [(0, .val (.string key)), (1, .val (.slice a l.length c)), (2, .val (.slice a2 order.length c2)), (3, .val (.int .i64 cut)), (8, .val (.bool false)), (12, .val (.pointer (some (⟨nu1 0, 0, none⟩)))), (13, .val (.nilIface)), (14, .val (.slice none 0 0)), (15, .val (.int .i64 0))]) (h1 := fun _ => [(nu1 0, .cells #[.int .i64 ((Sx.valOf key l).kind), .string ((Sx.valOf key l).text), .int .i64 ((Sx.valOf key l).n), .slice ua un uc] 47 (0, 0))]) (p1 := fun _ => []) (W1 := []) (by kernel_rfl) (fun _ => by kernel_rfl) (fun _ => trivial) (fun _ => ?_)
            refine J_block ?_
            refine J_loopx (fun x : TurnI => [(0, .val (.string key)), (1, .val (.slice a l.length c)), (2, .val (.slice a2 order.length c2)), (3, .val (.int .i64 cut)), (8, .val (.bool false)), (12, .val (.pointer (some (⟨nu1 0, 0, none⟩)))), (13, .val (.nilIface)), (14, .val (.slice x.a x.k x.c)), (15, .val (.int .i64 x.i))]) (fun x : TurnI => [(nu1 0, .cells #[.int .i64 ((Sx.valOf key l).kind), .string ((Sx.valOf key l).text), .int .i64 ((Sx.valOf key l).n), .slice ua un uc] 47 (0, 0))]) (fun x : TurnI => [cAcc (.slice x.a x.k x.c) 28 3 ((otherL l order cut x.i.toNat).map eCom)]) (fun x : TurnI => [(.nilIface, (dC er eb)), (.slice a l.length c, (D.sl 3 (List.map eCom l))), (.slice a2 order.length c2, (dInts order)), (.slice a3 n3 c3, (D.sl 3 (List.map eCom l))), (.slice ua un uc, (dStrs (Sx.valOf key l).set))]) (fun x : TurnI => (order.length + l.length - x.i).toNat) (fun x : TurnI => (0 ≤ x.i ∧ x.i ≤ order.length + l.length)) ⟨0, none, 0, 0⟩ [0, 1, 2, 3, 8, 12, 13, 14, 15] [0] [0] [0, 1, 2, 3, 4] ?_ (by kernel_rfl) rfl rfl rfl ?_
            · exact ⟨by simp, by simp; omega⟩
            rintro ⟨i, av, k, cv⟩ ⟨hi0, hi⟩
            dsimp only at hi0 hi ⊢
            refine J_stpx (stp_acclen 0 rfl) fun _ hk => ?_
            have hlen0 := otherL_len l order cut i.toNat
            have hk2 : k ≤ 400 := by rw [List.length_map] at hk; omega
            refine J_seq ?_
            refine J_seq ?_
            refine J_reg mixed [.rd 0 [] 0 0, .rd 1 [] 0 0, .rd 2 [] 0 0, .rd 3 [] 0 0, .rd 4 [] 0 0, .rd 5 [] 0 1, .rd 6 [] 0 0] [] [0, 1, 2, 3, 8, 12, 13, 14, 15, 109] (E1 := fun _ => [(0, .val (.string key)), (1, .val (.slice a l.length c)), (2, .val (.slice a2 order.length c2)), (3, .val (.int .i64 cut)), (8, .val (.bool false)), (12, .val (.pointer (some (⟨nu1 0, 0, none⟩)))), (13, .val (.nilIface)), (14, .val (.slice av k cv)), (15, .val (.int .i64 i)), (109, .val (.bool (decide (i < (↑order.length : Int) + (↑l.length : Int)))))]) (h1 := fun _ => [(nu1 0, .cells #[.int .i64 ((Sx.valOf key l).kind), .string ((Sx.valOf key l).text), .int .i64 ((Sx.valOf key l).n), .slice ua un uc] 47 (0, 0))]) (p1 := fun _ => [IntKind.i64.wrap ((↑order.length : Int) + (↑l.length : Int)) = (↑order.length : Int) + (↑l.length : Int)]) (W1 := []) (by kernel_rfl) (fun _ => by kernel_rfl) (fun _ => ⟨wrap_i64 (by omega) (by omega), trivial⟩) (fun _ => ?_)
            refine J_cond (t := decide (i < (↑order.length : Int) + (↑l.length : Int))) (by kernel_rfl) (by kernel_rfl) (fun hlt5 => ?_) (fun hlt5 => ?_)
            · have hlt6 : i < order.length + l.length := by simpa using hlt5
              by_cases hio : i < order.length
              · obtain ⟨z, hz⟩ : ∃ z, order[i.toNat]? = some z := ⟨_, List.getElem?_eq_getElem (by omega)⟩
                have hpick : pickI order i.toNat = z := by rw [pickI, if_pos (by omega), getD_at hz]
                refine J_read0 2 rfl i.toNat (map_at hz) (by kernel_rfl) (fun b1 off1 cs1 ty1 fz1 ha1 hrd1 => ?_)
                cases ha1
                have hrd1_0 := rd0 (hrd1 0 _ rfl)
                try simp only [List.cons_append, List.nil_append, List.append_nil]
                refine J_skip ?_
                refine J_seq ?_
                refine J_block ?_
                refine J_seq ?_
                refine J_reg mixed [.rd 0 [] 0 0, .rd 1 [] 0 0, .rd 2 [] 0 0, .rd 3 [] 0 1, .rd 4 [] 0 0] [] [0, 1, 2, 3, 8, 12, 13, 14, 15, 16] (E1 := fun _ => [(0, .val (.string key)), (1, .val (.slice a l.length c)), (2, .val (.slice (some (⟨b1, off1, none⟩)) order.length c2)), (3, .val (.int .i64 cut)), (8, .val (.bool false)), (12, .val (.pointer (some (⟨nu1 0, 0, none⟩)))), (13, .val (.nilIface)), (14, .val (.slice av k cv)), (15, .val (.int .i64 i)), (16, .val (.int .i64 (i - (↑order.length : Int))))]) (h1 := fun _ => [(nu1 0, .cells #[.int .i64 ((Sx.valOf key l).kind), .string ((Sx.valOf key l).text), .int .i64 ((Sx.valOf key l).n), .slice ua un uc] 47 (0, 0))]) (p1 := fun _ => [IntKind.i64.wrap (i - (↑order.length : Int)) = i - (↑order.length : Int)]) (W1 := []) (by kernel_rfl) (fun _ => by kernel_rfl) (fun _ => ⟨wrap_i64 (by omega) (by omega), trivial⟩) (fun _ => ?_)
                refine J_seq ?_
                refine J_seq ?_
                refine J_reg mixed [.rd 0 [] 0 0, .rd 1 [] 0 0, .rd 2 [] 0 0, .rd 3 [] 0 6] [] [0, 1, 2, 3, 8, 12, 13, 14, 15, 16, 119] (E1 := fun _ => [(0, .val (.string key)), (1, .val (.slice a l.length c)), (2, .val (.slice (some (⟨b1, off1, none⟩)) order.length c2)), (3, .val (.int .i64 cut)), (8, .val (.bool false)), (12, .val (.pointer (some (⟨nu1 0, 0, none⟩)))), (13, .val (.nilIface)), (14, .val (.slice av k cv)), (15, .val (.int .i64 i)), (16, .val (.int .i64 (i - (↑order.length : Int)))), (119, .val (.bool true))]) (h1 := fun _ => [(nu1 0, .cells #[.int .i64 ((Sx.valOf key l).kind), .string ((Sx.valOf key l).text), .int .i64 ((Sx.valOf key l).n), .slice ua un uc] 47 (0, 0))]) (p1 := fun _ => [decide (i < (↑order.length : Int)) = true]) (W1 := []) (by kernel_rfl) (fun _ => by kernel_rfl) (fun _ => ⟨by simp; omega, trivial⟩) (fun _ => ?_)
                refine J_cond_t (by kernel_rfl) (by kernel_rfl) ?_
                refine J_reg mixed [.rd 0 [] 0 0, .rd 1 [] 0 0, .rd 2 [] 0 2, .rd 3 [.r 0 (some (.int .i64 z))] 0 0, .rd 4 [] 0 0] [] [0, 1, 2, 3, 8, 12, 13, 14, 15, 16] (E1 := fun _ => [(0, .val (.string key)), (1, .val (.slice a l.length c)), (2, .val (.slice (some (⟨b1, off1, none⟩)) order.length c2)), (3, .val (.int .i64 cut)), (8, .val (.bool false)), (12, .val (.pointer (some (⟨nu1 0, 0, none⟩)))), (13, .val (.nilIface)), (14, .val (.slice av k cv)), (15, .val (.int .i64 i)), (16, .val (.int .i64 z))]) (h1 := fun _ => [(nu1 0, .cells #[.int .i64 ((Sx.valOf key l).kind), .string ((Sx.valOf key l).text), .int .i64 ((Sx.valOf key l).n), .slice ua un uc] 47 (0, 0))]) (p1 := fun _ => [(0 : Int) ≤ i, i < (↑order.length : Int), cs1[off1 + i.toNat * (1 : Nat)]? = some (Value.int IntKind.i64 z)]) (W1 := []) (by kernel_rfl) (fun _ => by kernel_rfl) (fun _ => ⟨hi0, hio, hrd1_0, trivial⟩) (fun _ => ?_)
                refine J_seq ?_
                refine J_seq ?_
                by_cases hk0 : z < 0
                · have e5 : otherL l order cut i.toNat = otherL l order cut (i + 1).toNat := by
                    rw [show (i + 1).toNat = i.toNat + 1 by omega, otherL_snoc, stepL, hpick, if_pos hk0, List.append_nil]
                  refine J_reg mixed [.rd 0 [] 0 0, .rd 1 [] 0 6, .rd 2 [] 0 0, .rd 3 [] 1 0, .rd 4 [] 1 0, .rd 5 [] 1 0, .rd 6 [] 1 0, .rd 7 [] 0 0] [] [0, 1, 2, 3, 8, 12, 13, 14, 15, 16, 131] (E1 := fun _ => [(0, .val (.string key)), (1, .val (.slice a l.length c)), (2, .val (.slice (some (⟨b1, off1, none⟩)) order.length c2)), (3, .val (.int .i64 cut)), (8, .val (.bool false)), (12, .val (.pointer (some (⟨nu1 0, 0, none⟩)))), (13, .val (.nilIface)), (14, .val (.slice av k cv)), (15, .val (.int .i64 i)), (16, .val (.int .i64 z)), (131, .val (.bool true))]) (h1 := fun _ => [(nu1 0, .cells #[.int .i64 ((Sx.valOf key l).kind), .string ((Sx.valOf key l).text), .int .i64 ((Sx.valOf key l).n), .slice ua un uc] 47 (0, 0))]) (p1 := fun _ => [decide (z < (0 : Int)) = true]) (W1 := []) (by kernel_rfl) (fun _ => by kernel_rfl) (fun _ => ⟨by simp; omega, trivial⟩) (fun _ => ?_)
                  refine J_cond_t (by kernel_rfl) (by kernel_rfl) ?_
                  refine J_exit rfl ?_
                  refine J_reg mixed [.rd 0 [] 0 0, .rd 1 [] 0 1, .rd 2 [] 0 0] [] [0, 1, 2, 3, 8, 12, 13, 14, 15, 16] (E1 := fun _ => [(0, .val (.string key)), (1, .val (.slice a l.length c)), (2, .val (.slice (some (⟨b1, off1, none⟩)) order.length c2)), (3, .val (.int .i64 cut)), (8, .val (.bool false)), (12, .val (.pointer (some (⟨nu1 0, 0, none⟩)))), (13, .val (.nilIface)), (14, .val (.slice av k cv)), (15, .val (.int .i64 (i + 1))), (16, .val (.int .i64 z))]) (h1 := fun _ => [(nu1 0, .cells #[.int .i64 ((Sx.valOf key l).kind), .string ((Sx.valOf key l).text), .int .i64 ((Sx.valOf key l).n), .slice ua un uc] 47 (0, 0))]) (p1 := fun _ => [IntKind.i64.wrap (i + (1 : Int)) = i + (1 : Int)]) (W1 := []) (by kernel_rfl) (fun _ => by kernel_rfl) (fun _ => ⟨wrap_i64 (by omega) (by omega), trivial⟩) (fun _ => ?_)
                  rw [e5]
                  refine J_backx ⟨i + 1, _, _, _⟩ [0, 1, 2, 3, 8, 12, 13, 14, 15] [0] [0] [0, 1, 2, 3, 4] ?_ ?_ (by kernel_rfl) rfl rfl rfl
                  · exact ⟨by simp only; omega, by simp only; omega⟩
                  · simp only
                    omega
                by_cases hkl : z < (l.length : Int)
                case neg =>
                  have e5 : otherL l order cut i.toNat = otherL l order cut (i + 1).toNat := by
                    rw [show (i + 1).toNat = i.toNat + 1 by omega, otherL_snoc, stepL, hpick, if_neg hk0, List.getElem?_eq_none (by omega), List.append_nil]
                  refine J_reg mixed [.rd 0 [] 0 0, .rd 1 [] 0 7, .rd 2 [] 0 0, .rd 3 [] 0 0, .rd 4 [] 0 0, .rd 5 [] 0 0, .rd 6 [] 0 6, .rd 7 [] 0 0] [] [0, 1, 2, 3, 8, 12, 13, 14, 15, 16, 131] (E1 := fun _ => [(0, .val (.string key)), (1, .val (.slice a l.length c)), (2, .val (.slice (some (⟨b1, off1, none⟩)) order.length c2)), (3, .val (.int .i64 cut)), (8, .val (.bool false)), (12, .val (.pointer (some (⟨nu1 0, 0, none⟩)))), (13, .val (.nilIface)), (14, .val (.slice av k cv)), (15, .val (.int .i64 i)), (16, .val (.int .i64 z)), (131, .val (.bool true))]) (h1 := fun _ => [(nu1 0, .cells #[.int .i64 ((Sx.valOf key l).kind), .string ((Sx.valOf key l).text), .int .i64 ((Sx.valOf key l).n), .slice ua un uc] 47 (0, 0))]) (p1 := fun _ => [decide (z < (0 : Int)) = false, decide (z ≥ (↑l.length : Int)) = true]) (W1 := []) (by kernel_rfl) (fun _ => by kernel_rfl) (fun _ => ⟨by simp; omega, by simp; omega, trivial⟩) (fun _ => ?_)
                  refine J_cond_t (by kernel_rfl) (by kernel_rfl) ?_
                  refine J_exit rfl ?_
                  refine J_reg mixed [.rd 0 [] 0 0, .rd 1 [] 0 1, .rd 2 [] 0 0] [] [0, 1, 2, 3, 8, 12, 13, 14, 15, 16] (E1 := fun _ => [(0, .val (.string key)), (1, .val (.slice a l.length c)), (2, .val (.slice (some (⟨b1, off1, none⟩)) order.length c2)), (3, .val (.int .i64 cut)), (8, .val (.bool false)), (12, .val (.pointer (some (⟨nu1 0, 0, none⟩)))), (13, .val (.nilIface)), (14, .val (.slice av k cv)), (15, .val (.int .i64 (i + 1))), (16, .val (.int .i64 z))]) (h1 := fun _ => [(nu1 0, .cells #[.int .i64 ((Sx.valOf key l).kind), .string ((Sx.valOf key l).text), .int .i64 ((Sx.valOf key l).n), .slice ua un uc] 47 (0, 0))]) (p1 := fun _ => [IntKind.i64.wrap (i + (1 : Int)) = i + (1 : Int)]) (W1 := []) (by kernel_rfl) (fun _ => by kernel_rfl) (fun _ => ⟨wrap_i64 (by omega) (by omega), trivial⟩) (fun _ => ?_)
                  rw [e5]
                  refine J_backx ⟨i + 1, _, _, _⟩ [0, 1, 2, 3, 8, 12, 13, 14, 15] [0] [0] [0, 1, 2, 3, 4] ?_ ?_ (by kernel_rfl) rfl rfl rfl
                  · exact ⟨by simp only; omega, by simp only; omega⟩
                  · simp only
                    omega
                obtain ⟨x, hx⟩ : ∃ x, l[(z).toNat]? = some x := ⟨_, List.getElem?_eq_getElem (by omega)⟩
                have hxl := light_com (hlc x (List.mem_of_getElem? hx))
                have hst : stepL l order cut i.toNat = partsC cut x := by rw [stepL, hpick, if_neg hk0, hx]
                have hln := otherL_len l order cut i.toNat
                refine J_reg mixed [.rd 0 [] 0 0, .rd 1 [] 0 7, .rd 2 [] 0 0, .rd 3 [] 0 0, .rd 4 [] 0 0, .rd 5 [] 0 0, .rd 6 [] 0 7, .rd 7 [] 0 0] [] [0, 1, 2, 3, 8, 12, 13, 14, 15, 16, 131] (E1 := fun _ => [(0, .val (.string key)), (1, .val (.slice a l.length c)), (2, .val (.slice (some (⟨b1, off1, none⟩)) order.length c2)), (3, .val (.int .i64 cut)), (8, .val (.bool false)), (12, .val (.pointer (some (⟨nu1 0, 0, none⟩)))), (13, .val (.nilIface)), (14, .val (.slice av k cv)), (15, .val (.int .i64 i)), (16, .val (.int .i64 z)), (131, .val (.bool false))]) (h1 := fun _ => [(nu1 0, .cells #[.int .i64 ((Sx.valOf key l).kind), .string ((Sx.valOf key l).text), .int .i64 ((Sx.valOf key l).n), .slice ua un uc] 47 (0, 0))]) (p1 := fun _ => [decide (z < (0 : Int)) = false, decide (z ≥ (↑l.length : Int)) = false]) (W1 := []) (by kernel_rfl) (fun _ => by kernel_rfl) (fun _ => ⟨by simp; omega, by simp; omega, trivial⟩) (fun _ => ?_)
                refine J_cond_f (by kernel_rfl) (by kernel_rfl) ?_
                refine J_skip ?_
                refine J_seq ?_
                refine J_read2 1 rfl z.toNat (map_at hx) (by kernel_rfl) (fun b2 off2 cs2 ty2 fz2 a2_0 c2_0 a2_1 c2_1 ha2 hrd2 => ?_)
                cases ha2
                have hrd2_0 := rd0 (hrd2 0 _ rfl)
                have hrd2_1 := hrd2 1 _ rfl
                have hrd2_2 := hrd2 2 _ rfl
                try simp only [List.cons_append, List.nil_append, List.append_nil]
                refine JR_begin mixed [(0, true), (1, true), (2, true), (3, true), (4, false), (5, false), (6, false)] [] (by kernel_rfl) (by kernel_rfl) ?_
                refine JR_run (id := 25) (rest := [(4, false), (5, false), (6, false)]) [.rd 0 [] 0 0, .rd 1 [] 0 0, .rd 2 [] 0 2, .rd 3 [.r 1 (some (.slice (a2_0, c2_0).fst ((List.map eI x.when).length) c2_0)), .r 1 (some (.int .i64 x.place)), .r 1 (some (.slice (a2_1, c2_1).fst ((List.map eOp x.ops).length) c2_1))] 0 0] [0, 1, 2, 3, 8, 12, 13, 14, 15, 16, 135] (E1 := fun _ => [(0, .val (.string key)), (1, .val (.slice (some (⟨b2, off2, none⟩)) l.length c)), (2, .val (.slice (some (⟨b1, off1, none⟩)) order.length c2)), (3, .val (.int .i64 cut)), (8, .val (.bool false)), (12, .val (.pointer (some (⟨nu1 0, 0, none⟩)))), (13, .val (.nilIface)), (14, .val (.slice av k cv)), (15, .val (.int .i64 i)), (16, .val (.int .i64 z)), (135, .val (.agg #[.slice (a2_0, c2_0).fst ((List.map eI x.when).length) c2_0, .int .i64 x.place, .slice (a2_1, c2_1).fst ((List.map eOp x.ops).length) c2_1]))]) (h1 := fun _ => [(nu1 0, .cells #[.int .i64 ((Sx.valOf key l).kind), .string ((Sx.valOf key l).text), .int .i64 ((Sx.valOf key l).n), .slice ua un uc] 47 (0, 0))]) (p1 := fun _ => [(0 : Int) ≤ z, z < (↑l.length : Int), cs2[off2 + z.toNat * (3 : Nat)]? = some (Value.slice (a2_0, c2_0).fst (List.map eI x.when).length (a2_0, c2_0).snd), cs2[off2 + z.toNat * (3 : Nat) + (1 : Nat)]? = some (Value.int IntKind.i64 x.place), cs2[off2 + z.toNat * (3 : Nat) + (2 : Nat)]? = some (Value.slice (a2_1, c2_1).fst (List.map eOp x.ops).length (a2_1, c2_1).snd)]) (W1 := []) (fun _ => by kernel_rfl) (fun _ => ⟨by omega, hkl, hrd2_0, hrd2_1, hrd2_2, trivial⟩) (fun _ => ?_)
                refine JR_callp [] 18 #[.agg #[.slice (a2_0, c2_0).fst ((List.map eI x.when).length) c2_0, .int .i64 x.place, .slice (a2_1, c2_1).fst ((List.map eOp x.ops).length) c2_1]] (some 136) (by kernel_rfl) (fun w S hG => ?_)
                refine (ownCommit (c := x) (hG.at 5 rfl) (hG.at 6 rfl) (by omega) (by omega) (fun o ho => by have := hxl.2.2 o ho; omega)).mono ?_
                rintro e5 w5 ⟨q1, m1, d1, q2, m2, d2, hR⟩
                refine ⟨_, _, _, hR, ?_⟩
                try simp only [List.cons_append, List.nil_append, List.append_nil]
                refine JR_run (id := 25) (rest := []) [.wr 5 [] 0, .wr 6 [.o 1 none, .o 1 none, .o 1 none] 0] [0, 1, 2, 3, 8, 12, 13, 14, 15, 16, 17] (E1 := fun nu2 => [(0, .val (.string key)), (1, .val (.slice (some (⟨b2, off2, none⟩)) l.length c)), (2, .val (.slice (some (⟨b1, off1, none⟩)) order.length c2)), (3, .val (.int .i64 cut)), (8, .val (.bool false)), (12, .val (.pointer (some (⟨nu1 0, 0, none⟩)))), (13, .val (.nilIface)), (14, .val (.slice av k cv)), (15, .val (.int .i64 i)), (16, .val (.int .i64 z)), (17, .val (.pointer (some (⟨nu2 0, 0, none⟩))))]) (h1 := fun nu2 => [(nu1 0, .cells #[.int .i64 ((Sx.valOf key l).kind), .string ((Sx.valOf key l).text), .int .i64 ((Sx.valOf key l).n), .slice ua un uc] 47 (0, 0)), (nu2 0, .cells #[.slice q1 m1 d1, .int .i64 x.place, .slice q2 m2 d2] 28 (0, 0))]) (p1 := fun nu2 => []) (W1 := []) (fun _ => by kernel_rfl) (fun _ => trivial) (fun nu2 => ?_)
                refine JR_end ?_
                refine J_seq ?_
                refine J_seq ?_
                refine J_stpx (stp_replen 8 rfl) fun _ hm2 => ?_
                rw [List.length_map] at hm2
                subst hm2
                by_cases hcut : 0 < cut ∧ cut < x.ops.length
                · obtain ⟨hcut1, hcut2⟩ := hcut
                  have e5 : otherL l order cut i.toNat ++ [⟨x.when, x.place, x.ops.drop cut.toNat⟩] ++ [⟨x.when, x.place, x.ops.take cut.toNat⟩] = otherL l order cut (i + 1).toNat := by
                    rw [show (i + 1).toNat = i.toNat + 1 by omega, otherL_snoc, hst, partsC, if_pos ⟨hcut1, hcut2⟩, List.append_assoc]
                    rfl
                  have hne : x.ops.map eOp ≠ [] := fun h => by
                    rw [List.map_eq_nil_iff] at h
                    rw [h, List.length_nil] at hcut2
                    omega
                  refine J_stpx (stp_know (p := ∃ b off, q2 = some ⟨b, off, none⟩) fun _ _ H => Rep.someA (H.g (.slice q2 x.ops.length d2, .sl 7 (x.ops.map eOp)) (List.mem_of_getElem? (i := 8) rfl)) hne) fun _ hq2 => ?_
                  obtain ⟨bq, oq, rfl⟩ := hq2
                  refine J_stpx (stp_know (p := x.ops.length ≤ d2) fun _ _ H => (H.g (_, _) (List.mem_of_getElem? (i := 8) rfl)).cap) fun _ hd2 => ?_
                  refine J_stp (stp_fact fun w S H => (H (_, _) (List.mem_of_getElem? (i := 8) rfl)).dropM cut.toNat (by omega)) ?_
                  refine J_stp (stp_fact fun w S H => (H (_, _) (List.mem_of_getElem? (i := 8) rfl)).takeM cut.toNat (by omega)) ?_
                  refine J_norm (C' := [cAcc (.slice av k cv) 28 3 (List.map eCom (otherL l order cut i.toNat))]) (G' := [(.nilIface, (dC er eb)), (.slice (some (⟨b2, off2, none⟩)) l.length c, (D.sl 3 (List.map eCom l))), (.slice (some (⟨b1, off1, none⟩)) order.length c2, (dInts order)), (.slice a3 n3 c3, (D.sl 3 (List.map eCom l))), (.slice ua un uc, (dStrs (Sx.valOf key l).set)), (.slice (a2_0, c2_0).fst ((List.map eI x.when).length) c2_0, (D.sl 1 (List.map eI x.when))), (.slice (a2_1, c2_1).fst ((List.map eOp x.ops).length) c2_1, (D.sl 7 (List.map eOp x.ops))), (.slice q1 m1 d1, (dInts x.when)), (.slice (some (⟨bq, oq, none⟩)) x.ops.length d2, (D.sl 7 (List.map eOp x.ops))), (.slice (some (⟨bq, oq + cut.toNat * 7, none⟩)) (x.ops.length - cut.toNat) (d2 - cut.toNat), (D.sl 7 (List.map eOp (List.drop cut.toNat x.ops)))), (.slice (some (⟨bq, oq, none⟩)) cut.toNat d2, (D.sl 7 (List.map eOp (List.take cut.toNat x.ops))))]) (by kernel_rfl) (by kernel_rfl) ?_
                  refine J_reg mixed [.rd 0 [] 0 0, .rd 1 [] 0 6, .rd 2 [] 0 0, .rd 3 [] 0 0, .rd 4 [] 0 0, .rd 5 [.o 1 none] 0 0, .rd 6 [] 0 0, .rd 7 [] 0 6, .rd 8 [] 0 0] [] [0, 1, 2, 3, 8, 12, 13, 14, 15, 16, 17, 145] (E1 := fun _ => [(0, .val (.string key)), (1, .val (.slice (some (⟨b2, off2, none⟩)) l.length c)), (2, .val (.slice (some (⟨b1, off1, none⟩)) order.length c2)), (3, .val (.int .i64 cut)), (8, .val (.bool false)), (12, .val (.pointer (some (⟨nu1 0, 0, none⟩)))), (13, .val (.nilIface)), (14, .val (.slice av k cv)), (15, .val (.int .i64 i)), (16, .val (.int .i64 z)), (17, .val (.pointer (some (⟨nu2 0, 0, none⟩)))), (145, .val (.bool true))]) (h1 := fun _ => [(nu1 0, .cells #[.int .i64 ((Sx.valOf key l).kind), .string ((Sx.valOf key l).text), .int .i64 ((Sx.valOf key l).n), .slice ua un uc] 47 (0, 0)), (nu2 0, .cells #[.slice q1 m1 d1, .int .i64 x.place, .slice (some (⟨bq, oq, none⟩)) x.ops.length d2] 28 (0, 0))]) (p1 := fun _ => [decide (cut > (0 : Int)) = true, decide (cut < (↑x.ops.length : Int)) = true]) (W1 := []) (by kernel_rfl) (fun _ => by kernel_rfl) (fun _ => ⟨by simp; omega, by simp; omega, trivial⟩) (fun _ => ?_)
                  refine J_cond_t (by kernel_rfl) (by kernel_rfl) ?_
                  refine J_seq ?_
                  refine J_reg mixed [.rd 0 [.o 1 none, .o 1 none, .o 1 none] 0 0, .wr 1 [] 0, .wr 2 [.o 2 none, .o 2 none, .o 2 none] 0] [(2, [])] [0, 1, 2, 3, 8, 12, 13, 14, 15, 16, 17, 18] (E1 := fun nu3 => [(0, .val (.string key)), (1, .val (.slice (some (⟨b2, off2, none⟩)) l.length c)), (2, .val (.slice (some (⟨b1, off1, none⟩)) order.length c2)), (3, .val (.int .i64 cut)), (8, .val (.bool false)), (12, .val (.pointer (some (⟨nu1 0, 0, none⟩)))), (13, .val (.nilIface)), (14, .val (.slice av k cv)), (15, .val (.int .i64 i)), (16, .val (.int .i64 z)), (17, .val (.pointer (some (⟨nu2 0, 0, none⟩)))), (18, .val (.pointer (some (⟨nu3 0, 0, none⟩))))]) (h1 := fun nu3 => [(nu1 0, .cells #[.int .i64 ((Sx.valOf key l).kind), .string ((Sx.valOf key l).text), .int .i64 ((Sx.valOf key l).n), .slice ua un uc] 47 (0, 0)), (nu2 0, .cells #[.slice q1 m1 d1, .int .i64 x.place, .slice (some (⟨bq, oq, none⟩)) x.ops.length d2] 28 (0, 0)), (nu3 0, .cells #[.slice q1 m1 d1, .int .i64 x.place, .slice (some (⟨bq, oq, none⟩)) x.ops.length d2] 28 (0, 0))]) (p1 := fun nu3 => []) (W1 := []) (by kernel_rfl) (fun _ => by kernel_rfl) (fun _ => trivial) (fun nu3 => ?_)
                  refine J_seq ?_
                  refine J_reg mixed [.rd 0 [] 0 0, .rd 1 [.o 1 none] 0 0, .rd 2 [] 0 0, .rd 3 [] 0 4, .rd 4 [] 0 0, .wr 5 [.o 2 none] 0] [(5, [2])] [0, 1, 2, 3, 8, 12, 13, 14, 15, 16, 17, 18] (E1 := fun _ => [(0, .val (.string key)), (1, .val (.slice (some (⟨b2, off2, none⟩)) l.length c)), (2, .val (.slice (some (⟨b1, off1, none⟩)) order.length c2)), (3, .val (.int .i64 cut)), (8, .val (.bool false)), (12, .val (.pointer (some (⟨nu1 0, 0, none⟩)))), (13, .val (.nilIface)), (14, .val (.slice av k cv)), (15, .val (.int .i64 i)), (16, .val (.int .i64 z)), (17, .val (.pointer (some (⟨nu2 0, 0, none⟩)))), (18, .val (.pointer (some (⟨nu3 0, 0, none⟩))))]) (h1 := fun _ => [(nu1 0, .cells #[.int .i64 ((Sx.valOf key l).kind), .string ((Sx.valOf key l).text), .int .i64 ((Sx.valOf key l).n), .slice ua un uc] 47 (0, 0)), (nu2 0, .cells #[.slice q1 m1 d1, .int .i64 x.place, .slice (some (⟨bq, oq, none⟩)) x.ops.length d2] 28 (0, 0)), (nu3 0, .cells #[.slice q1 m1 d1, .int .i64 x.place, .slice (some (⟨bq, oq + cut.toNat * 7, none⟩)) (x.ops.length - cut.toNat) (d2 - cut.toNat)] 28 (0, 0))]) (p1 := fun _ => [(0 : Int) ≤ cut, cut ≤ (↑x.ops.length : Int), cut < (↑d2 : Int)]) (W1 := []) (by kernel_rfl) (fun _ => by kernel_rfl) (fun _ => ⟨by omega, by omega, by omega, trivial⟩) (fun _ => ?_)
                  refine J_seq ?_
                  refine J_reg mixed [.rd 0 [] 0 0, .rd 1 [.o 1 none] 0 0, .rd 2 [] 0 0, .rd 3 [] 0 4, .rd 4 [] 0 0, .wr 5 [.o 1 none] 0] [(5, [1])] [0, 1, 2, 3, 8, 12, 13, 14, 15, 16, 17, 18] (E1 := fun _ => [(0, .val (.string key)), (1, .val (.slice (some (⟨b2, off2, none⟩)) l.length c)), (2, .val (.slice (some (⟨b1, off1, none⟩)) order.length c2)), (3, .val (.int .i64 cut)), (8, .val (.bool false)), (12, .val (.pointer (some (⟨nu1 0, 0, none⟩)))), (13, .val (.nilIface)), (14, .val (.slice av k cv)), (15, .val (.int .i64 i)), (16, .val (.int .i64 z)), (17, .val (.pointer (some (⟨nu2 0, 0, none⟩)))), (18, .val (.pointer (some (⟨nu3 0, 0, none⟩))))]) (h1 := fun _ => [(nu1 0, .cells #[.int .i64 ((Sx.valOf key l).kind), .string ((Sx.valOf key l).text), .int .i64 ((Sx.valOf key l).n), .slice ua un uc] 47 (0, 0)), (nu2 0, .cells #[.slice q1 m1 d1, .int .i64 x.place, .slice (some (⟨bq, oq, none⟩)) cut.toNat d2] 28 (0, 0)), (nu3 0, .cells #[.slice q1 m1 d1, .int .i64 x.place, .slice (some (⟨bq, oq + cut.toNat * 7, none⟩)) (x.ops.length - cut.toNat) (d2 - cut.toNat)] 28 (0, 0))]) (p1 := fun _ => [(0 : Int) ≤ cut, cut ≤ (↑d2 : Int)]) (W1 := []) (by kernel_rfl) (fun _ => by kernel_rfl) (fun _ => ⟨by omega, by omega, trivial⟩) (fun _ => ?_)
                  refine JR_begin mixed [(0, true), (1, true), (2, false), (3, false), (4, true)] [] (by kernel_rfl) (by kernel_rfl) ?_
                  refine JR_run (id := 30) (rest := [(3, false), (4, true)]) [.rd 0 [] 0 0, .rd 1 [.o 2 none, .o 2 none, .o 2 none] 0 0, .wr 2 [] 0] [0, 1, 2, 3, 8, 12, 13, 14, 15, 16, 17, 18, 157, 159] (E1 := fun nu4 => [(0, .val (.string key)), (1, .val (.slice (some (⟨b2, off2, none⟩)) l.length c)), (2, .val (.slice (some (⟨b1, off1, none⟩)) order.length c2)), (3, .val (.int .i64 cut)), (8, .val (.bool false)), (12, .val (.pointer (some (⟨nu1 0, 0, none⟩)))), (13, .val (.nilIface)), (14, .val (.slice av k cv)), (15, .val (.int .i64 i)), (16, .val (.int .i64 z)), (17, .val (.pointer (some (⟨nu2 0, 0, none⟩)))), (18, .val (.pointer (some (⟨nu3 0, 0, none⟩)))), (157, .val (.slice av k cv)), (159, .val (.slice (some (⟨nu4 0, 0, none⟩)) 1 1))]) (h1 := fun nu4 => [(nu1 0, .cells #[.int .i64 ((Sx.valOf key l).kind), .string ((Sx.valOf key l).text), .int .i64 ((Sx.valOf key l).n), .slice ua un uc] 47 (0, 0)), (nu2 0, .cells #[.slice q1 m1 d1, .int .i64 x.place, .slice (some (⟨bq, oq, none⟩)) cut.toNat d2] 28 (0, 0)), (nu3 0, .cells #[.slice q1 m1 d1, .int .i64 x.place, .slice (some (⟨bq, oq + cut.toNat * 7, none⟩)) (x.ops.length - cut.toNat) (d2 - cut.toNat)] 28 (0, 0)), (nu4 0, .cells #[.slice q1 m1 d1, .int .i64 x.place, .slice (some (⟨bq, oq + cut.toNat * 7, none⟩)) (x.ops.length - cut.toNat) (d2 - cut.toNat)] 28 (0, 0))]) (p1 := fun nu4 => []) (W1 := []) (fun _ => by kernel_rfl) (fun _ => trivial) (fun nu4 => ?_)
                  refine JR_appm 0 43 28 3 56 (.agg #[.slice none 0 0, .int .i64 0, .slice none 0 0]) (a0 := av) (len := k) (cap0 := cv) (ax := (some (⟨nu4 0, 0, none⟩))) (m := 1) (c := 1) (dst := (some 160)) [(⟨x.when, x.place, x.ops.drop cut.toNat⟩ : ComT)] (by kernel_rfl) (by kernel_rfl) (by kernel_rfl) (by kernel_rfl) rfl (by decide) rfl (fun _ _ _ s => src_one s 3 rfl rfl ⟨.inr (.inl (List.mem_of_getElem? (i := 7) rfl)), ⟨.inl ⟨rfl, rfl⟩, ⟨.inr (.inl (List.mem_of_getElem? (i := 9) rfl)), trivial⟩⟩⟩) (by simp only [maxLen]; omega) (by omega) (fun av1 cv1 => ?_)
                  try simp only [List.cons_append, List.nil_append, List.append_nil]
                  refine JR_run (id := 30) (rest := []) [.rd 4 [] 0 0] [0, 1, 2, 3, 8, 12, 13, 14, 15, 16, 17, 18] (E1 := fun _ => [(0, .val (.string key)), (1, .val (.slice (some (⟨b2, off2, none⟩)) l.length c)), (2, .val (.slice (some (⟨b1, off1, none⟩)) order.length c2)), (3, .val (.int .i64 cut)), (8, .val (.bool false)), (12, .val (.pointer (some (⟨nu1 0, 0, none⟩)))), (13, .val (.nilIface)), (14, .val (.slice av1 (k + 1) cv1)), (15, .val (.int .i64 i)), (16, .val (.int .i64 z)), (17, .val (.pointer (some (⟨nu2 0, 0, none⟩)))), (18, .val (.pointer (some (⟨nu3 0, 0, none⟩))))]) (h1 := fun _ => [(nu1 0, .cells #[.int .i64 ((Sx.valOf key l).kind), .string ((Sx.valOf key l).text), .int .i64 ((Sx.valOf key l).n), .slice ua un uc] 47 (0, 0)), (nu2 0, .cells #[.slice q1 m1 d1, .int .i64 x.place, .slice (some (⟨bq, oq, none⟩)) cut.toNat d2] 28 (0, 0)), (nu3 0, .cells #[.slice q1 m1 d1, .int .i64 x.place, .slice (some (⟨bq, oq + cut.toNat * 7, none⟩)) (x.ops.length - cut.toNat) (d2 - cut.toNat)] 28 (0, 0)), (nu4 0, .cells #[.slice q1 m1 d1, .int .i64 x.place, .slice (some (⟨bq, oq + cut.toNat * 7, none⟩)) (x.ops.length - cut.toNat) (d2 - cut.toNat)] 28 (0, 0))]) (p1 := fun _ => []) (W1 := []) (fun _ => by kernel_rfl) (fun _ => trivial) (fun _ => ?_)
                  try simp only [List.cons_append, List.nil_append, List.append_nil]
                  refine JR_end ?_
                  try simp only [List.cons_append, List.nil_append, List.append_nil]
                  refine JR_begin mixed [(0, true), (1, true), (2, false), (3, false), (4, true)] [] (by kernel_rfl) (by kernel_rfl) ?_
                  refine JR_run (id := 31) (rest := [(3, false), (4, true)]) [.rd 0 [] 0 0, .rd 1 [.o 1 none, .o 1 none, .o 1 none] 0 0, .wr 2 [] 0] [0, 1, 2, 3, 8, 12, 13, 14, 15, 16, 17, 18, 161, 163] (E1 := fun nu5 => [(0, .val (.string key)), (1, .val (.slice (some (⟨b2, off2, none⟩)) l.length c)), (2, .val (.slice (some (⟨b1, off1, none⟩)) order.length c2)), (3, .val (.int .i64 cut)), (8, .val (.bool false)), (12, .val (.pointer (some (⟨nu1 0, 0, none⟩)))), (13, .val (.nilIface)), (14, .val (.slice av1 (k + 1) cv1)), (15, .val (.int .i64 i)), (16, .val (.int .i64 z)), (17, .val (.pointer (some (⟨nu2 0, 0, none⟩)))), (18, .val (.pointer (some (⟨nu3 0, 0, none⟩)))), (161, .val (.slice av1 (k + 1) cv1)), (163, .val (.slice (some (⟨nu5 0, 0, none⟩)) 1 1))]) (h1 := fun nu5 => [(nu1 0, .cells #[.int .i64 ((Sx.valOf key l).kind), .string ((Sx.valOf key l).text), .int .i64 ((Sx.valOf key l).n), .slice ua un uc] 47 (0, 0)), (nu2 0, .cells #[.slice q1 m1 d1, .int .i64 x.place, .slice (some (⟨bq, oq, none⟩)) cut.toNat d2] 28 (0, 0)), (nu3 0, .cells #[.slice q1 m1 d1, .int .i64 x.place, .slice (some (⟨bq, oq + cut.toNat * 7, none⟩)) (x.ops.length - cut.toNat) (d2 - cut.toNat)] 28 (0, 0)), (nu4 0, .cells #[.slice q1 m1 d1, .int .i64 x.place, .slice (some (⟨bq, oq + cut.toNat * 7, none⟩)) (x.ops.length - cut.toNat) (d2 - cut.toNat)] 28 (0, 0)), (nu5 0, .cells #[.slice q1 m1 d1, .int .i64 x.place, .slice (some (⟨bq, oq, none⟩)) cut.toNat d2] 28 (0, 0))]) (p1 := fun nu5 => []) (W1 := []) (fun _ => by kernel_rfl) (fun _ => trivial) (fun nu5 => ?_)
                  refine JR_appm 0 43 28 3 56 (.agg #[.slice none 0 0, .int .i64 0, .slice none 0 0]) (a0 := av1) (len := k + 1) (cap0 := cv1) (ax := (some (⟨nu5 0, 0, none⟩))) (m := 1) (c := 1) (dst := (some 164)) [(⟨x.when, x.place, x.ops.take cut.toNat⟩ : ComT)] (by kernel_rfl) (by kernel_rfl) (by kernel_rfl) (by kernel_rfl) rfl (by decide) rfl (fun _ _ _ s => src_one s 4 rfl rfl ⟨.inr (.inl (List.mem_of_getElem? (i := 7) rfl)), ⟨.inl ⟨rfl, rfl⟩, ⟨.inr (.inl (List.mem_of_getElem? (i := 10) rfl)), trivial⟩⟩⟩) (by simp only [maxLen]; omega) (by omega) (fun av2 cv2 => ?_)
                  rw [e5]
                  try simp only [List.cons_append, List.nil_append, List.append_nil]
                  refine JR_run (id := 31) (rest := []) [.rd 4 [] 0 0] [0, 1, 2, 3, 8, 12, 13, 14, 15, 16, 17, 18] (E1 := fun _ => [(0, .val (.string key)), (1, .val (.slice (some (⟨b2, off2, none⟩)) l.length c)), (2, .val (.slice (some (⟨b1, off1, none⟩)) order.length c2)), (3, .val (.int .i64 cut)), (8, .val (.bool false)), (12, .val (.pointer (some (⟨nu1 0, 0, none⟩)))), (13, .val (.nilIface)), (14, .val (.slice av2 (k + 2) cv2)), (15, .val (.int .i64 i)), (16, .val (.int .i64 z)), (17, .val (.pointer (some (⟨nu2 0, 0, none⟩)))), (18, .val (.pointer (some (⟨nu3 0, 0, none⟩))))]) (h1 := fun _ => [(nu1 0, .cells #[.int .i64 ((Sx.valOf key l).kind), .string ((Sx.valOf key l).text), .int .i64 ((Sx.valOf key l).n), .slice ua un uc] 47 (0, 0)), (nu2 0, .cells #[.slice q1 m1 d1, .int .i64 x.place, .slice (some (⟨bq, oq, none⟩)) cut.toNat d2] 28 (0, 0)), (nu3 0, .cells #[.slice q1 m1 d1, .int .i64 x.place, .slice (some (⟨bq, oq + cut.toNat * 7, none⟩)) (x.ops.length - cut.toNat) (d2 - cut.toNat)] 28 (0, 0)), (nu4 0, .cells #[.slice q1 m1 d1, .int .i64 x.place, .slice (some (⟨bq, oq + cut.toNat * 7, none⟩)) (x.ops.length - cut.toNat) (d2 - cut.toNat)] 28 (0, 0)), (nu5 0, .cells #[.slice q1 m1 d1, .int .i64 x.place, .slice (some (⟨bq, oq, none⟩)) cut.toNat d2] 28 (0, 0))]) (p1 := fun _ => []) (W1 := []) (fun _ => by kernel_rfl) (fun _ => trivial) (fun _ => ?_)
                  try simp only [List.cons_append, List.nil_append, List.append_nil]
                  refine JR_end ?_
                  try simp only [List.cons_append, List.nil_append, List.append_nil]
                  refine J_eb ?_
                  try simp only [List.cons_append, List.nil_append, List.append_nil]
                  refine J_reg mixed [.rd 0 [] 0 0, .rd 1 [] 0 1, .rd 2 [] 0 0] [] [0, 1, 2, 3, 8, 12, 13, 14, 15, 16, 17, 18] (E1 := fun _ => [(0, .val (.string key)), (1, .val (.slice (some (⟨b2, off2, none⟩)) l.length c)), (2, .val (.slice (some (⟨b1, off1, none⟩)) order.length c2)), (3, .val (.int .i64 cut)), (8, .val (.bool false)), (12, .val (.pointer (some (⟨nu1 0, 0, none⟩)))), (13, .val (.nilIface)), (14, .val (.slice av2 (k + 2) cv2)), (15, .val (.int .i64 (i + 1))), (16, .val (.int .i64 z)), (17, .val (.pointer (some (⟨nu2 0, 0, none⟩)))), (18, .val (.pointer (some (⟨nu3 0, 0, none⟩))))]) (h1 := fun _ => [(nu1 0, .cells #[.int .i64 ((Sx.valOf key l).kind), .string ((Sx.valOf key l).text), .int .i64 ((Sx.valOf key l).n), .slice ua un uc] 47 (0, 0)), (nu2 0, .cells #[.slice q1 m1 d1, .int .i64 x.place, .slice (some (⟨bq, oq, none⟩)) cut.toNat d2] 28 (0, 0)), (nu3 0, .cells #[.slice q1 m1 d1, .int .i64 x.place, .slice (some (⟨bq, oq + cut.toNat * 7, none⟩)) (x.ops.length - cut.toNat) (d2 - cut.toNat)] 28 (0, 0)), (nu4 0, .cells #[.slice q1 m1 d1, .int .i64 x.place, .slice (some (⟨bq, oq + cut.toNat * 7, none⟩)) (x.ops.length - cut.toNat) (d2 - cut.toNat)] 28 (0, 0)), (nu5 0, .cells #[.slice q1 m1 d1, .int .i64 x.place, .slice (some (⟨bq, oq, none⟩)) cut.toNat d2] 28 (0, 0))]) (p1 := fun _ => [IntKind.i64.wrap (i + (1 : Int)) = i + (1 : Int)]) (W1 := []) (by kernel_rfl) (fun _ => by kernel_rfl) (fun _ => ⟨wrap_i64 (by omega) (by omega), trivial⟩) (fun _ => ?_)
                  try simp only [List.cons_append, List.nil_append, List.append_nil]
                  refine J_backx ⟨i + 1, _, _, _⟩ [0, 1, 2, 3, 8, 12, 13, 14, 15] [0] [0] [0, 1, 2, 3, 4] ?_ ?_ (by kernel_rfl) rfl rfl rfl
                  · exact ⟨by simp only; omega, by simp only; omega⟩
                  · simp only
                    omega
                · have e5 : otherL l order cut i.toNat ++ [x] = otherL l order cut (i + 1).toNat := by
                    rw [show (i + 1).toNat = i.toNat + 1 by omega, otherL_snoc, hst, partsC, if_neg hcut]
                  refine J_reg mixed [.rd 0 [] 0 0, .rd 1 [] 0 0, .rd 2 [] 0 0, .rd 3 [] 2 0, .rd 4 [] 2 0, .rd 5 [.o 1 none] 2 0, .rd 6 [] 2 0, .rd 7 [] 2 0, .rd 8 [] 0 3] [] [0, 1, 2, 3, 8, 12, 13, 14, 15, 16, 17, 145] (E1 := fun _ => [(0, .val (.string key)), (1, .val (.slice (some (⟨b2, off2, none⟩)) l.length c)), (2, .val (.slice (some (⟨b1, off1, none⟩)) order.length c2)), (3, .val (.int .i64 cut)), (8, .val (.bool false)), (12, .val (.pointer (some (⟨nu1 0, 0, none⟩)))), (13, .val (.nilIface)), (14, .val (.slice av k cv)), (15, .val (.int .i64 i)), (16, .val (.int .i64 z)), (17, .val (.pointer (some (⟨nu2 0, 0, none⟩)))), (145, .val (.bool (decide (cut > 0) && decide (cut < (↑x.ops.length : Int)))))]) (h1 := fun _ => [(nu1 0, .cells #[.int .i64 ((Sx.valOf key l).kind), .string ((Sx.valOf key l).text), .int .i64 ((Sx.valOf key l).n), .slice ua un uc] 47 (0, 0)), (nu2 0, .cells #[.slice q1 m1 d1, .int .i64 x.place, .slice q2 x.ops.length d2] 28 (0, 0))]) (p1 := fun _ => []) (W1 := []) (by kernel_rfl) (fun _ => by kernel_rfl) (fun _ => trivial) (fun _ => ?_)
                  refine J_condF (decide (cut > 0) && decide (cut < (↑x.ops.length : Int))) (by kernel_rfl) (by kernel_rfl) (by simp; omega) ?_
                  refine J_skip ?_
                  refine JR_begin mixed [(0, true), (1, true), (2, false), (3, false), (4, true)] [] (by kernel_rfl) (by kernel_rfl) ?_
                  refine JR_run (id := 31) (rest := [(3, false), (4, true)]) [.rd 0 [] 0 0, .rd 1 [.o 1 none, .o 1 none, .o 1 none] 0 0, .wr 2 [] 0] [0, 1, 2, 3, 8, 12, 13, 14, 15, 16, 17, 161, 163] (E1 := fun nu3 => [(0, .val (.string key)), (1, .val (.slice (some (⟨b2, off2, none⟩)) l.length c)), (2, .val (.slice (some (⟨b1, off1, none⟩)) order.length c2)), (3, .val (.int .i64 cut)), (8, .val (.bool false)), (12, .val (.pointer (some (⟨nu1 0, 0, none⟩)))), (13, .val (.nilIface)), (14, .val (.slice av k cv)), (15, .val (.int .i64 i)), (16, .val (.int .i64 z)), (17, .val (.pointer (some (⟨nu2 0, 0, none⟩)))), (161, .val (.slice av k cv)), (163, .val (.slice (some (⟨nu3 0, 0, none⟩)) 1 1))]) (h1 := fun nu3 => [(nu1 0, .cells #[.int .i64 ((Sx.valOf key l).kind), .string ((Sx.valOf key l).text), .int .i64 ((Sx.valOf key l).n), .slice ua un uc] 47 (0, 0)), (nu2 0, .cells #[.slice q1 m1 d1, .int .i64 x.place, .slice q2 x.ops.length d2] 28 (0, 0)), (nu3 0, .cells #[.slice q1 m1 d1, .int .i64 x.place, .slice q2 x.ops.length d2] 28 (0, 0))]) (p1 := fun nu3 => []) (W1 := []) (fun _ => by kernel_rfl) (fun _ => trivial) (fun nu3 => ?_)
                  refine JR_appm 0 43 28 3 56 (.agg #[.slice none 0 0, .int .i64 0, .slice none 0 0]) (a0 := av) (len := k) (cap0 := cv) (ax := (some (⟨nu3 0, 0, none⟩))) (m := 1) (c := 1) (dst := (some 164)) [x] (by kernel_rfl) (by kernel_rfl) (by kernel_rfl) (by kernel_rfl) rfl (by decide) rfl (fun _ _ _ s => src_one s 2 rfl rfl ⟨.inr (.inl (List.mem_of_getElem? (i := 7) rfl)), ⟨.inl ⟨rfl, rfl⟩, ⟨.inr (.inl (List.mem_of_getElem? (i := 8) rfl)), trivial⟩⟩⟩) (by simp only [maxLen]; omega) (by omega) (fun av1 cv1 => ?_)
                  rw [e5]
                  try simp only [List.cons_append, List.nil_append, List.append_nil]
                  refine JR_run (id := 31) (rest := []) [.rd 4 [] 0 0] [0, 1, 2, 3, 8, 12, 13, 14, 15, 16, 17] (E1 := fun _ => [(0, .val (.string key)), (1, .val (.slice (some (⟨b2, off2, none⟩)) l.length c)), (2, .val (.slice (some (⟨b1, off1, none⟩)) order.length c2)), (3, .val (.int .i64 cut)), (8, .val (.bool false)), (12, .val (.pointer (some (⟨nu1 0, 0, none⟩)))), (13, .val (.nilIface)), (14, .val (.slice av1 (k + 1) cv1)), (15, .val (.int .i64 i)), (16, .val (.int .i64 z)), (17, .val (.pointer (some (⟨nu2 0, 0, none⟩))))]) (h1 := fun _ => [(nu1 0, .cells #[.int .i64 ((Sx.valOf key l).kind), .string ((Sx.valOf key l).text), .int .i64 ((Sx.valOf key l).n), .slice ua un uc] 47 (0, 0)), (nu2 0, .cells #[.slice q1 m1 d1, .int .i64 x.place, .slice q2 x.ops.length d2] 28 (0, 0)), (nu3 0, .cells #[.slice q1 m1 d1, .int .i64 x.place, .slice q2 x.ops.length d2] 28 (0, 0))]) (p1 := fun _ => []) (W1 := []) (fun _ => by kernel_rfl) (fun _ => trivial) (fun _ => ?_)
                  try simp only [List.cons_append, List.nil_append, List.append_nil]
                  refine JR_end ?_
                  try simp only [List.cons_append, List.nil_append, List.append_nil]
                  refine J_eb ?_
                  try simp only [List.cons_append, List.nil_append, List.append_nil]
                  refine J_reg mixed [.rd 0 [] 0 0, .rd 1 [] 0 1, .rd 2 [] 0 0] [] [0, 1, 2, 3, 8, 12, 13, 14, 15, 16, 17] (E1 := fun _ => [(0, .val (.string key)), (1, .val (.slice (some (⟨b2, off2, none⟩)) l.length c)), (2, .val (.slice (some (⟨b1, off1, none⟩)) order.length c2)), (3, .val (.int .i64 cut)), (8, .val (.bool false)), (12, .val (.pointer (some (⟨nu1 0, 0, none⟩)))), (13, .val (.nilIface)), (14, .val (.slice av1 (k + 1) cv1)), (15, .val (.int .i64 (i + 1))), (16, .val (.int .i64 z)), (17, .val (.pointer (some (⟨nu2 0, 0, none⟩))))]) (h1 := fun _ => [(nu1 0, .cells #[.int .i64 ((Sx.valOf key l).kind), .string ((Sx.valOf key l).text), .int .i64 ((Sx.valOf key l).n), .slice ua un uc] 47 (0, 0)), (nu2 0, .cells #[.slice q1 m1 d1, .int .i64 x.place, .slice q2 x.ops.length d2] 28 (0, 0)), (nu3 0, .cells #[.slice q1 m1 d1, .int .i64 x.place, .slice q2 x.ops.length d2] 28 (0, 0))]) (p1 := fun _ => [IntKind.i64.wrap (i + (1 : Int)) = i + (1 : Int)]) (W1 := []) (by kernel_rfl) (fun _ => by kernel_rfl) (fun _ => ⟨wrap_i64 (by omega) (by omega), trivial⟩) (fun _ => ?_)
                  try simp only [List.cons_append, List.nil_append, List.append_nil]
                  refine J_backx ⟨i + 1, _, _, _⟩ [0, 1, 2, 3, 8, 12, 13, 14, 15] [0] [0] [0, 1, 2, 3, 4] ?_ ?_ (by kernel_rfl) rfl rfl rfl
                  · exact ⟨by simp only; omega, by simp only; omega⟩
                  · simp only
                    omega
              · have hpick : pickI order i.toNat = i - order.length := by rw [pickI, if_neg (by omega)]; omega
                refine J_skip ?_
                refine J_seq ?_
                refine J_block ?_
                refine J_seq ?_
                refine J_reg mixed [.rd 0 [] 0 0, .rd 1 [] 0 0, .rd 2 [] 0 0, .rd 3 [] 0 1, .rd 4 [] 0 0] [] [0, 1, 2, 3, 8, 12, 13, 14, 15, 16] (E1 := fun _ => [(0, .val (.string key)), (1, .val (.slice a l.length c)), (2, .val (.slice a2 order.length c2)), (3, .val (.int .i64 cut)), (8, .val (.bool false)), (12, .val (.pointer (some (⟨nu1 0, 0, none⟩)))), (13, .val (.nilIface)), (14, .val (.slice av k cv)), (15, .val (.int .i64 i)), (16, .val (.int .i64 (i - (↑order.length : Int))))]) (h1 := fun _ => [(nu1 0, .cells #[.int .i64 ((Sx.valOf key l).kind), .string ((Sx.valOf key l).text), .int .i64 ((Sx.valOf key l).n), .slice ua un uc] 47 (0, 0))]) (p1 := fun _ => [IntKind.i64.wrap (i - (↑order.length : Int)) = i - (↑order.length : Int)]) (W1 := []) (by kernel_rfl) (fun _ => by kernel_rfl) (fun _ => ⟨wrap_i64 (by omega) (by omega), trivial⟩) (fun _ => ?_)
                refine J_seq ?_
                refine J_seq ?_
                refine J_reg mixed [.rd 0 [] 0 0, .rd 1 [] 0 0, .rd 2 [] 0 0, .rd 3 [] 0 7] [] [0, 1, 2, 3, 8, 12, 13, 14, 15, 16, 119] (E1 := fun _ => [(0, .val (.string key)), (1, .val (.slice a l.length c)), (2, .val (.slice a2 order.length c2)), (3, .val (.int .i64 cut)), (8, .val (.bool false)), (12, .val (.pointer (some (⟨nu1 0, 0, none⟩)))), (13, .val (.nilIface)), (14, .val (.slice av k cv)), (15, .val (.int .i64 i)), (16, .val (.int .i64 (i - (↑order.length : Int)))), (119, .val (.bool false))]) (h1 := fun _ => [(nu1 0, .cells #[.int .i64 ((Sx.valOf key l).kind), .string ((Sx.valOf key l).text), .int .i64 ((Sx.valOf key l).n), .slice ua un uc] 47 (0, 0))]) (p1 := fun _ => [decide (i < (↑order.length : Int)) = false]) (W1 := []) (by kernel_rfl) (fun _ => by kernel_rfl) (fun _ => ⟨by simp; omega, trivial⟩) (fun _ => ?_)
                refine J_cond_f (by kernel_rfl) (by kernel_rfl) ?_
                refine J_skip ?_
                refine J_seq ?_
                refine J_seq ?_
                by_cases hk0 : i - order.length < 0
                · have e5 : otherL l order cut i.toNat = otherL l order cut (i + 1).toNat := by
                    rw [show (i + 1).toNat = i.toNat + 1 by omega, otherL_snoc, stepL, hpick, if_pos hk0, List.append_nil]
                  refine J_reg mixed [.rd 0 [] 0 0, .rd 1 [] 0 6, .rd 2 [] 0 0, .rd 3 [] 1 0, .rd 4 [] 1 0, .rd 5 [] 1 0, .rd 6 [] 1 0, .rd 7 [] 0 0] [] [0, 1, 2, 3, 8, 12, 13, 14, 15, 16, 131] (E1 := fun _ => [(0, .val (.string key)), (1, .val (.slice a l.length c)), (2, .val (.slice a2 order.length c2)), (3, .val (.int .i64 cut)), (8, .val (.bool false)), (12, .val (.pointer (some (⟨nu1 0, 0, none⟩)))), (13, .val (.nilIface)), (14, .val (.slice av k cv)), (15, .val (.int .i64 i)), (16, .val (.int .i64 (i - (↑order.length : Int)))), (131, .val (.bool true))]) (h1 := fun _ => [(nu1 0, .cells #[.int .i64 ((Sx.valOf key l).kind), .string ((Sx.valOf key l).text), .int .i64 ((Sx.valOf key l).n), .slice ua un uc] 47 (0, 0))]) (p1 := fun _ => [decide (i - (↑order.length : Int) < (0 : Int)) = true]) (W1 := []) (by kernel_rfl) (fun _ => by kernel_rfl) (fun _ => ⟨by simp; omega, trivial⟩) (fun _ => ?_)
                  refine J_cond_t (by kernel_rfl) (by kernel_rfl) ?_
                  refine J_exit rfl ?_
                  refine J_reg mixed [.rd 0 [] 0 0, .rd 1 [] 0 1, .rd 2 [] 0 0] [] [0, 1, 2, 3, 8, 12, 13, 14, 15, 16] (E1 := fun _ => [(0, .val (.string key)), (1, .val (.slice a l.length c)), (2, .val (.slice a2 order.length c2)), (3, .val (.int .i64 cut)), (8, .val (.bool false)), (12, .val (.pointer (some (⟨nu1 0, 0, none⟩)))), (13, .val (.nilIface)), (14, .val (.slice av k cv)), (15, .val (.int .i64 (i + 1))), (16, .val (.int .i64 (i - (↑order.length : Int))))]) (h1 := fun _ => [(nu1 0, .cells #[.int .i64 ((Sx.valOf key l).kind), .string ((Sx.valOf key l).text), .int .i64 ((Sx.valOf key l).n), .slice ua un uc] 47 (0, 0))]) (p1 := fun _ => [IntKind.i64.wrap (i + (1 : Int)) = i + (1 : Int)]) (W1 := []) (by kernel_rfl) (fun _ => by kernel_rfl) (fun _ => ⟨wrap_i64 (by omega) (by omega), trivial⟩) (fun _ => ?_)
                  rw [e5]
                  refine J_backx ⟨i + 1, _, _, _⟩ [0, 1, 2, 3, 8, 12, 13, 14, 15] [0] [0] [0, 1, 2, 3, 4] ?_ ?_ (by kernel_rfl) rfl rfl rfl
                  · exact ⟨by simp only; omega, by simp only; omega⟩
                  · simp only
                    omega
                by_cases hkl : i - order.length < (l.length : Int)
                case neg =>
                  have e5 : otherL l order cut i.toNat = otherL l order cut (i + 1).toNat := by
                    rw [show (i + 1).toNat = i.toNat + 1 by omega, otherL_snoc, stepL, hpick, if_neg hk0, List.getElem?_eq_none (by omega), List.append_nil]
                  refine J_reg mixed [.rd 0 [] 0 0, .rd 1 [] 0 6, .rd 2 [] 0 0, .rd 3 [] 1 0, .rd 4 [] 1 0, .rd 5 [] 1 0, .rd 6 [] 1 0, .rd 7 [] 0 0] [] [0, 1, 2, 3, 8, 12, 13, 14, 15, 16, 131] (E1 := fun _ => [(0, .val (.string key)), (1, .val (.slice a l.length c)), (2, .val (.slice a2 order.length c2)), (3, .val (.int .i64 cut)), (8, .val (.bool false)), (12, .val (.pointer (some (⟨nu1 0, 0, none⟩)))), (13, .val (.nilIface)), (14, .val (.slice av k cv)), (15, .val (.int .i64 i)), (16, .val (.int .i64 (i - (↑order.length : Int)))), (131, .val (.bool true))]) (h1 := fun _ => [(nu1 0, .cells #[.int .i64 ((Sx.valOf key l).kind), .string ((Sx.valOf key l).text), .int .i64 ((Sx.valOf key l).n), .slice ua un uc] 47 (0, 0))]) (p1 := fun _ => [decide (i - (↑order.length : Int) < (0 : Int)) = true]) (W1 := []) (by kernel_rfl) (fun _ => by kernel_rfl) (fun _ => ⟨by simp; omega, trivial⟩) (fun _ => ?_)
                  refine J_cond_t (by kernel_rfl) (by kernel_rfl) ?_
                  refine J_exit rfl ?_
                  refine J_reg mixed [.rd 0 [] 0 0, .rd 1 [] 0 1, .rd 2 [] 0 0] [] [0, 1, 2, 3, 8, 12, 13, 14, 15, 16] (E1 := fun _ => [(0, .val (.string key)), (1, .val (.slice a l.length c)), (2, .val (.slice a2 order.length c2)), (3, .val (.int .i64 cut)), (8, .val (.bool false)), (12, .val (.pointer (some (⟨nu1 0, 0, none⟩)))), (13, .val (.nilIface)), (14, .val (.slice av k cv)), (15, .val (.int .i64 (i + 1))), (16, .val (.int .i64 (i - (↑order.length : Int))))]) (h1 := fun _ => [(nu1 0, .cells #[.int .i64 ((Sx.valOf key l).kind), .string ((Sx.valOf key l).text), .int .i64 ((Sx.valOf key l).n), .slice ua un uc] 47 (0, 0))]) (p1 := fun _ => [IntKind.i64.wrap (i + (1 : Int)) = i + (1 : Int)]) (W1 := []) (by kernel_rfl) (fun _ => by kernel_rfl) (fun _ => ⟨wrap_i64 (by omega) (by omega), trivial⟩) (fun _ => ?_)
                  rw [e5]
                  refine J_backx ⟨i + 1, _, _, _⟩ [0, 1, 2, 3, 8, 12, 13, 14, 15] [0] [0] [0, 1, 2, 3, 4] ?_ ?_ (by kernel_rfl) rfl rfl rfl
                  · exact ⟨by simp only; omega, by simp only; omega⟩
                  · simp only
                    omega
                obtain ⟨x, hx⟩ : ∃ x, l[(i - order.length).toNat]? = some x := ⟨_, List.getElem?_eq_getElem (by omega)⟩
                have hxl := light_com (hlc x (List.mem_of_getElem? hx))
                have hst : stepL l order cut i.toNat = partsC cut x := by rw [stepL, hpick, if_neg hk0, hx]
                have hln := otherL_len l order cut i.toNat
                refine J_reg mixed [.rd 0 [] 0 0, .rd 1 [] 0 7, .rd 2 [] 0 0, .rd 3 [] 0 0, .rd 4 [] 0 0, .rd 5 [] 0 0, .rd 6 [] 0 7, .rd 7 [] 0 0] [] [0, 1, 2, 3, 8, 12, 13, 14, 15, 16, 131] (E1 := fun _ => [(0, .val (.string key)), (1, .val (.slice a l.length c)), (2, .val (.slice a2 order.length c2)), (3, .val (.int .i64 cut)), (8, .val (.bool false)), (12, .val (.pointer (some (⟨nu1 0, 0, none⟩)))), (13, .val (.nilIface)), (14, .val (.slice av k cv)), (15, .val (.int .i64 i)), (16, .val (.int .i64 (i - (↑order.length : Int)))), (131, .val (.bool false))]) (h1 := fun _ => [(nu1 0, .cells #[.int .i64 ((Sx.valOf key l).kind), .string ((Sx.valOf key l).text), .int .i64 ((Sx.valOf key l).n), .slice ua un uc] 47 (0, 0))]) (p1 := fun _ => [decide (i - (↑order.length : Int) < (0 : Int)) = false, decide (i - (↑order.length : Int) ≥ (↑l.length : Int)) = false]) (W1 := []) (by kernel_rfl) (fun _ => by kernel_rfl) (fun _ => ⟨by simp; omega, by simp; omega, trivial⟩) (fun _ => ?_)
                refine J_cond_f (by kernel_rfl) (by kernel_rfl) ?_
                refine J_skip ?_
                refine J_seq ?_
                refine J_read2 1 rfl ((i - (↑order.length : Int)).toNat) (map_at hx) (by kernel_rfl) (fun b1 off1 cs1 ty1 fz1 a1_0 c1_0 a1_1 c1_1 ha1 hrd1 => ?_)
                cases ha1
                have hrd1_0 := rd0 (hrd1 0 _ rfl)
                have hrd1_1 := hrd1 1 _ rfl
                have hrd1_2 := hrd1 2 _ rfl
                try simp only [List.cons_append, List.nil_append, List.append_nil]
                refine JR_begin mixed [(0, true), (1, true), (2, true), (3, true), (4, false), (5, false), (6, false)] [] (by kernel_rfl) (by kernel_rfl) ?_
                refine JR_run (id := 25) (rest := [(4, false), (5, false), (6, false)]) [.rd 0 [] 0 0, .rd 1 [] 0 0, .rd 2 [] 0 2, .rd 3 [.r 0 (some (.slice (a1_0, c1_0).fst ((List.map eI x.when).length) c1_0)), .r 0 (some (.int .i64 x.place)), .r 0 (some (.slice (a1_1, c1_1).fst ((List.map eOp x.ops).length) c1_1))] 0 0] [0, 1, 2, 3, 8, 12, 13, 14, 15, 16, 135] (E1 := fun _ => [(0, .val (.string key)), (1, .val (.slice (some (⟨b1, off1, none⟩)) l.length c)), (2, .val (.slice a2 order.length c2)), (3, .val (.int .i64 cut)), (8, .val (.bool false)), (12, .val (.pointer (some (⟨nu1 0, 0, none⟩)))), (13, .val (.nilIface)), (14, .val (.slice av k cv)), (15, .val (.int .i64 i)), (16, .val (.int .i64 (i - (↑order.length : Int)))), (135, .val (.agg #[.slice (a1_0, c1_0).fst ((List.map eI x.when).length) c1_0, .int .i64 x.place, .slice (a1_1, c1_1).fst ((List.map eOp x.ops).length) c1_1]))]) (h1 := fun _ => [(nu1 0, .cells #[.int .i64 ((Sx.valOf key l).kind), .string ((Sx.valOf key l).text), .int .i64 ((Sx.valOf key l).n), .slice ua un uc] 47 (0, 0))]) (p1 := fun _ => [(0 : Int) ≤ i - (↑order.length : Int), i - (↑order.length : Int) < (↑l.length : Int), cs1[off1 + (i - (↑order.length : Int)).toNat * (3 : Nat)]? = some (Value.slice (a1_0, c1_0).fst (List.map eI x.when).length (a1_0, c1_0).snd), cs1[off1 + (i - (↑order.length : Int)).toNat * (3 : Nat) + (1 : Nat)]? = some (Value.int IntKind.i64 x.place), cs1[off1 + (i - (↑order.length : Int)).toNat * (3 : Nat) + (2 : Nat)]? = some (Value.slice (a1_1, c1_1).fst (List.map eOp x.ops).length (a1_1, c1_1).snd)]) (W1 := []) (fun _ => by kernel_rfl) (fun _ => ⟨by omega, hkl, hrd1_0, hrd1_1, hrd1_2, trivial⟩) (fun _ => ?_)
                refine JR_callp [] 18 #[.agg #[.slice (a1_0, c1_0).fst ((List.map eI x.when).length) c1_0, .int .i64 x.place, .slice (a1_1, c1_1).fst ((List.map eOp x.ops).length) c1_1]] (some 136) (by kernel_rfl) (fun w S hG => ?_)
                refine (ownCommit (c := x) (hG.at 5 rfl) (hG.at 6 rfl) (by omega) (by omega) (fun o ho => by have := hxl.2.2 o ho; omega)).mono ?_
                rintro e5 w5 ⟨q1, m1, d1, q2, m2, d2, hR⟩
                refine ⟨_, _, _, hR, ?_⟩
                try simp only [List.cons_append, List.nil_append, List.append_nil]
                refine JR_run (id := 25) (rest := []) [.wr 5 [] 0, .wr 6 [.o 1 none, .o 1 none, .o 1 none] 0] [0, 1, 2, 3, 8, 12, 13, 14, 15, 16, 17] (E1 := fun nu2 => [(0, .val (.string key)), (1, .val (.slice (some (⟨b1, off1, none⟩)) l.length c)), (2, .val (.slice a2 order.length c2)), (3, .val (.int .i64 cut)), (8, .val (.bool false)), (12, .val (.pointer (some (⟨nu1 0, 0, none⟩)))), (13, .val (.nilIface)), (14, .val (.slice av k cv)), (15, .val (.int .i64 i)), (16, .val (.int .i64 (i - (↑order.length : Int)))), (17, .val (.pointer (some (⟨nu2 0, 0, none⟩))))]) (h1 := fun nu2 => [(nu1 0, .cells #[.int .i64 ((Sx.valOf key l).kind), .string ((Sx.valOf key l).text), .int .i64 ((Sx.valOf key l).n), .slice ua un uc] 47 (0, 0)), (nu2 0, .cells #[.slice q1 m1 d1, .int .i64 x.place, .slice q2 m2 d2] 28 (0, 0))]) (p1 := fun nu2 => []) (W1 := []) (fun _ => by kernel_rfl) (fun _ => trivial) (fun nu2 => ?_)
                refine JR_end ?_
                refine J_seq ?_
                refine J_seq ?_
                refine J_stpx (stp_replen 8 rfl) fun _ hm2 => ?_
                rw [List.length_map] at hm2
                subst hm2
                by_cases hcut : 0 < cut ∧ cut < x.ops.length
                · obtain ⟨hcut1, hcut2⟩ := hcut
                  have e5 : otherL l order cut i.toNat ++ [⟨x.when, x.place, x.ops.drop cut.toNat⟩] ++ [⟨x.when, x.place, x.ops.take cut.toNat⟩] = otherL l order cut (i + 1).toNat := by
                    rw [show (i + 1).toNat = i.toNat + 1 by omega, otherL_snoc, hst, partsC, if_pos ⟨hcut1, hcut2⟩, List.append_assoc]
                    rfl
                  have hne : x.ops.map eOp ≠ [] := fun h => by
                    rw [List.map_eq_nil_iff] at h
                    rw [h, List.length_nil] at hcut2
                    omega
                  refine J_stpx (stp_know (p := ∃ b off, q2 = some ⟨b, off, none⟩) fun _ _ H => Rep.someA (H.g (.slice q2 x.ops.length d2, .sl 7 (x.ops.map eOp)) (List.mem_of_getElem? (i := 8) rfl)) hne) fun _ hq2 => ?_
                  obtain ⟨bq, oq, rfl⟩ := hq2
                  refine J_stpx (stp_know (p := x.ops.length ≤ d2) fun _ _ H => (H.g (_, _) (List.mem_of_getElem? (i := 8) rfl)).cap) fun _ hd2 => ?_
                  refine J_stp (stp_fact fun w S H => (H (_, _) (List.mem_of_getElem? (i := 8) rfl)).dropM cut.toNat (by omega)) ?_
                  refine J_stp (stp_fact fun w S H => (H (_, _) (List.mem_of_getElem? (i := 8) rfl)).takeM cut.toNat (by omega)) ?_
                  refine J_norm (C' := [cAcc (.slice av k cv) 28 3 (List.map eCom (otherL l order cut i.toNat))]) (G' := [(.nilIface, (dC er eb)), (.slice (some (⟨b1, off1, none⟩)) l.length c, (D.sl 3 (List.map eCom l))), (.slice a2 order.length c2, (dInts order)), (.slice a3 n3 c3, (D.sl 3 (List.map eCom l))), (.slice ua un uc, (dStrs (Sx.valOf key l).set)), (.slice (a1_0, c1_0).fst ((List.map eI x.when).length) c1_0, (D.sl 1 (List.map eI x.when))), (.slice (a1_1, c1_1).fst ((List.map eOp x.ops).length) c1_1, (D.sl 7 (List.map eOp x.ops))), (.slice q1 m1 d1, (dInts x.when)), (.slice (some (⟨bq, oq, none⟩)) x.ops.length d2, (D.sl 7 (List.map eOp x.ops))), (.slice (some (⟨bq, oq + cut.toNat * 7, none⟩)) (x.ops.length - cut.toNat) (d2 - cut.toNat), (D.sl 7 (List.map eOp (List.drop cut.toNat x.ops)))), (.slice (some (⟨bq, oq, none⟩)) cut.toNat d2, (D.sl 7 (List.map eOp (List.take cut.toNat x.ops))))]) (by kernel_rfl) (by kernel_rfl) ?_
                  refine J_reg mixed [.rd 0 [] 0 0, .rd 1 [] 0 6, .rd 2 [] 0 0, .rd 3 [] 0 0, .rd 4 [] 0 0, .rd 5 [.o 1 none] 0 0, .rd 6 [] 0 0, .rd 7 [] 0 6, .rd 8 [] 0 0] [] [0, 1, 2, 3, 8, 12, 13, 14, 15, 16, 17, 145] (E1 := fun _ => [(0, .val (.string key)), (1, .val (.slice (some (⟨b1, off1, none⟩)) l.length c)), (2, .val (.slice a2 order.length c2)), (3, .val (.int .i64 cut)), (8, .val (.bool false)), (12, .val (.pointer (some (⟨nu1 0, 0, none⟩)))), (13, .val (.nilIface)), (14, .val (.slice av k cv)), (15, .val (.int .i64 i)), (16, .val (.int .i64 (i - (↑order.length : Int)))), (17, .val (.pointer (some (⟨nu2 0, 0, none⟩)))), (145, .val (.bool true))]) (h1 := fun _ => [(nu1 0, .cells #[.int .i64 ((Sx.valOf key l).kind), .string ((Sx.valOf key l).text), .int .i64 ((Sx.valOf key l).n), .slice ua un uc] 47 (0, 0)), (nu2 0, .cells #[.slice q1 m1 d1, .int .i64 x.place, .slice (some (⟨bq, oq, none⟩)) x.ops.length d2] 28 (0, 0))]) (p1 := fun _ => [decide (cut > (0 : Int)) = true, decide (cut < (↑x.ops.length : Int)) = true]) (W1 := []) (by kernel_rfl) (fun _ => by kernel_rfl) (fun _ => ⟨by simp; omega, by simp; omega, trivial⟩) (fun _ => ?_)
                  refine J_cond_t (by kernel_rfl) (by kernel_rfl) ?_
                  refine J_seq ?_
                  refine J_reg mixed [.rd 0 [.o 1 none, .o 1 none, .o 1 none] 0 0, .wr 1 [] 0, .wr 2 [.o 2 none, .o 2 none, .o 2 none] 0] [(2, [])] [0, 1, 2, 3, 8, 12, 13, 14, 15, 16, 17, 18] (E1 := fun nu3 => [(0, .val (.string key)), (1, .val (.slice (some (⟨b1, off1, none⟩)) l.length c)), (2, .val (.slice a2 order.length c2)), (3, .val (.int .i64 cut)), (8, .val (.bool false)), (12, .val (.pointer (some (⟨nu1 0, 0, none⟩)))), (13, .val (.nilIface)), (14, .val (.slice av k cv)), (15, .val (.int .i64 i)), (16, .val (.int .i64 (i - (↑order.length : Int)))), (17, .val (.pointer (some (⟨nu2 0, 0, none⟩)))), (18, .val (.pointer (some (⟨nu3 0, 0, none⟩))))]) (h1 := fun nu3 => [(nu1 0, .cells #[.int .i64 ((Sx.valOf key l).kind), .string ((Sx.valOf key l).text), .int .i64 ((Sx.valOf key l).n), .slice ua un uc] 47 (0, 0)), (nu2 0, .cells #[.slice q1 m1 d1, .int .i64 x.place, .slice (some (⟨bq, oq, none⟩)) x.ops.length d2] 28 (0, 0)), (nu3 0, .cells #[.slice q1 m1 d1, .int .i64 x.place, .slice (some (⟨bq, oq, none⟩)) x.ops.length d2] 28 (0, 0))]) (p1 := fun nu3 => []) (W1 := []) (by kernel_rfl) (fun _ => by kernel_rfl) (fun _ => trivial) (fun nu3 => ?_)
                  refine J_seq ?_
                  refine J_reg mixed [.rd 0 [] 0 0, .rd 1 [.o 1 none] 0 0, .rd 2 [] 0 0, .rd 3 [] 0 4, .rd 4 [] 0 0, .wr 5 [.o 2 none] 0] [(5, [2])] [0, 1, 2, 3, 8, 12, 13, 14, 15, 16, 17, 18] (E1 := fun _ => [(0, .val (.string key)), (1, .val (.slice (some (⟨b1, off1, none⟩)) l.length c)), (2, .val (.slice a2 order.length c2)), (3, .val (.int .i64 cut)), (8, .val (.bool false)), (12, .val (.pointer (some (⟨nu1 0, 0, none⟩)))), (13, .val (.nilIface)), (14, .val (.slice av k cv)), (15, .val (.int .i64 i)), (16, .val (.int .i64 (i - (↑order.length : Int)))), (17, .val (.pointer (some (⟨nu2 0, 0, none⟩)))), (18, .val (.pointer (some (⟨nu3 0, 0, none⟩))))]) (h1 := fun _ => [(nu1 0, .cells #[.int .i64 ((Sx.valOf key l).kind), .string ((Sx.valOf key l).text), .int .i64 ((Sx.valOf key l).n), .slice ua un uc] 47 (0, 0)), (nu2 0, .cells #[.slice q1 m1 d1, .int .i64 x.place, .slice (some (⟨bq, oq, none⟩)) x.ops.length d2] 28 (0, 0)), (nu3 0, .cells #[.slice q1 m1 d1, .int .i64 x.place, .slice (some (⟨bq, oq + cut.toNat * 7, none⟩)) (x.ops.length - cut.toNat) (d2 - cut.toNat)] 28 (0, 0))]) (p1 := fun _ => [(0 : Int) ≤ cut, cut ≤ (↑x.ops.length : Int), cut < (↑d2 : Int)]) (W1 := []) (by kernel_rfl) (fun _ => by kernel_rfl) (fun _ => ⟨by omega, by omega, by omega, trivial⟩) (fun _ => ?_)
                  refine J_seq ?_
                  refine J_reg mixed [.rd 0 [] 0 0, .rd 1 [.o 1 none] 0 0, .rd 2 [] 0 0, .rd 3 [] 0 4, .rd 4 [] 0 0, .wr 5 [.o 1 none] 0] [(5, [1])] [0, 1, 2, 3, 8, 12, 13, 14, 15, 16, 17, 18] (E1 := fun _ => [(0, .val (.string key)), (1, .val (.slice (some (⟨b1, off1, none⟩)) l.length c)), (2, .val (.slice a2 order.length c2)), (3, .val (.int .i64 cut)), (8, .val (.bool false)), (12, .val (.pointer (some (⟨nu1 0, 0, none⟩)))), (13, .val (.nilIface)), (14, .val (.slice av k cv)), (15, .val (.int .i64 i)), (16, .val (.int .i64 (i - (↑order.length : Int)))), (17, .val (.pointer (some (⟨nu2 0, 0, none⟩)))), (18, .val (.pointer (some (⟨nu3 0, 0, none⟩))))]) (h1 := fun _ => [(nu1 0, .cells #[.int .i64 ((Sx.valOf key l).kind), .string ((Sx.valOf key l).text), .int .i64 ((Sx.valOf key l).n), .slice ua un uc] 47 (0, 0)), (nu2 0, .cells #[.slice q1 m1 d1, .int .i64 x.place, .slice (some (⟨bq, oq, none⟩)) cut.toNat d2] 28 (0, 0)), (nu3 0, .cells #[.slice q1 m1 d1, .int .i64 x.place, .slice (some (⟨bq, oq + cut.toNat * 7, none⟩)) (x.ops.length - cut.toNat) (d2 - cut.toNat)] 28 (0, 0))]) (p1 := fun _ => [(0 : Int) ≤ cut, cut ≤ (↑d2 : Int)]) (W1 := []) (by kernel_rfl) (fun _ => by kernel_rfl) (fun _ => ⟨by omega, by omega, trivial⟩) (fun _ => ?_)
                  refine JR_begin mixed [(0, true), (1, true), (2, false), (3, false), (4, true)] [] (by kernel_rfl) (by kernel_rfl) ?_
                  refine JR_run (id := 30) (rest := [(3, false), (4, true)]) [.rd 0 [] 0 0, .rd 1 [.o 2 none, .o 2 none, .o 2 none] 0 0, .wr 2 [] 0] [0, 1, 2, 3, 8, 12, 13, 14, 15, 16, 17, 18, 157, 159] (E1 := fun nu4 => [(0, .val (.string key)), (1, .val (.slice (some (⟨b1, off1, none⟩)) l.length c)), (2, .val (.slice a2 order.length c2)), (3, .val (.int .i64 cut)), (8, .val (.bool false)), (12, .val (.pointer (some (⟨nu1 0, 0, none⟩)))), (13, .val (.nilIface)), (14, .val (.slice av k cv)), (15, .val (.int .i64 i)), (16, .val (.int .i64 (i - (↑order.length : Int)))), (17, .val (.pointer (some (⟨nu2 0, 0, none⟩)))), (18, .val (.pointer (some (⟨nu3 0, 0, none⟩)))), (157, .val (.slice av k cv)), (159, .val (.slice (some (⟨nu4 0, 0, none⟩)) 1 1))]) (h1 := fun nu4 => [(nu1 0, .cells #[.int .i64 ((Sx.valOf key l).kind), .string ((Sx.valOf key l).text), .int .i64 ((Sx.valOf key l).n), .slice ua un uc] 47 (0, 0)), (nu2 0, .cells #[.slice q1 m1 d1, .int .i64 x.place, .slice (some (⟨bq, oq, none⟩)) cut.toNat d2] 28 (0, 0)), (nu3 0, .cells #[.slice q1 m1 d1, .int .i64 x.place, .slice (some (⟨bq, oq + cut.toNat * 7, none⟩)) (x.ops.length - cut.toNat) (d2 - cut.toNat)] 28 (0, 0)), (nu4 0, .cells #[.slice q1 m1 d1, .int .i64 x.place, .slice (some (⟨bq, oq + cut.toNat * 7, none⟩)) (x.ops.length - cut.toNat) (d2 - cut.toNat)] 28 (0, 0))]) (p1 := fun nu4 => []) (W1 := []) (fun _ => by kernel_rfl) (fun _ => trivial) (fun nu4 => ?_)
                  refine JR_appm 0 43 28 3 56 (.agg #[.slice none 0 0, .int .i64 0, .slice none 0 0]) (a0 := av) (len := k) (cap0 := cv) (ax := (some (⟨nu4 0, 0, none⟩))) (m := 1) (c := 1) (dst := (some 160)) [(⟨x.when, x.place, x.ops.drop cut.toNat⟩ : ComT)] (by kernel_rfl) (by kernel_rfl) (by kernel_rfl) (by kernel_rfl) rfl (by decide) rfl (fun _ _ _ s => src_one s 3 rfl rfl ⟨.inr (.inl (List.mem_of_getElem? (i := 7) rfl)), ⟨.inl ⟨rfl, rfl⟩, ⟨.inr (.inl (List.mem_of_getElem? (i := 9) rfl)), trivial⟩⟩⟩) (by simp only [maxLen]; omega) (by omega) (fun av1 cv1 => ?_)
                  try simp only [List.cons_append, List.nil_append, List.append_nil]
                  refine JR_run (id := 30) (rest := []) [.rd 4 [] 0 0] [0, 1, 2, 3, 8, 12, 13, 14, 15, 16, 17, 18] (E1 := fun _ => [(0, .val (.string key)), (1, .val (.slice (some (⟨b1, off1, none⟩)) l.length c)), (2, .val (.slice a2 order.length c2)), (3, .val (.int .i64 cut)), (8, .val (.bool false)), (12, .val (.pointer (some (⟨nu1 0, 0, none⟩)))), (13, .val (.nilIface)), (14, .val (.slice av1 (k + 1) cv1)), (15, .val (.int .i64 i)), (16, .val (.int .i64 (i - (↑order.length : Int)))), (17, .val (.pointer (some (⟨nu2 0, 0, none⟩)))), (18, .val (.pointer (some (⟨nu3 0, 0, none⟩))))]) (h1 := fun _ => [(nu1 0, .cells #[.int .i64 ((Sx.valOf key l).kind), .string ((Sx.valOf key l).text), .int .i64 ((Sx.valOf key l).n), .slice ua un uc] 47 (0, 0)), (nu2 0, .cells #[.slice q1 m1 d1, .int .i64 x.place, .slice (some (⟨bq, oq, none⟩)) cut.toNat d2] 28 (0, 0)), (nu3 0, .cells #[.slice q1 m1 d1, .int .i64 x.place, .slice (some (⟨bq, oq + cut.toNat * 7, none⟩)) (x.ops.length - cut.toNat) (d2 - cut.toNat)] 28 (0, 0)), (nu4 0, .cells #[.slice q1 m1 d1, .int .i64 x.place, .slice (some (⟨bq, oq + cut.toNat * 7, none⟩)) (x.ops.length - cut.toNat) (d2 - cut.toNat)] 28 (0, 0))]) (p1 := fun _ => []) (W1 := []) (fun _ => by kernel_rfl) (fun _ => trivial) (fun _ => ?_)
                  try simp only [List.cons_append, List.nil_append, List.append_nil]
                  refine JR_end ?_
                  try simp only [List.cons_append, List.nil_append, List.append_nil]
                  refine JR_begin mixed [(0, true), (1, true), (2, false), (3, false), (4, true)] [] (by kernel_rfl) (by kernel_rfl) ?_
                  refine JR_run (id := 31) (rest := [(3, false), (4, true)]) [.rd 0 [] 0 0, .rd 1 [.o 1 none, .o 1 none, .o 1 none] 0 0, .wr 2 [] 0] [0, 1, 2, 3, 8, 12, 13, 14, 15, 16, 17, 18, 161, 163] (E1 := fun nu5 => [(0, .val (.string key)), (1, .val (.slice (some (⟨b1, off1, none⟩)) l.length c)), (2, .val (.slice a2 order.length c2)), (3, .val (.int .i64 cut)), (8, .val (.bool false)), (12, .val (.pointer (some (⟨nu1 0, 0, none⟩)))), (13, .val (.nilIface)), (14, .val (.slice av1 (k + 1) cv1)), (15, .val (.int .i64 i)), (16, .val (.int .i64 (i - (↑order.length : Int)))), (17, .val (.pointer (some (⟨nu2 0, 0, none⟩)))), (18, .val (.pointer (some (⟨nu3 0, 0, none⟩)))), (161, .val (.slice av1 (k + 1) cv1)), (163, .val (.slice (some (⟨nu5 0, 0, none⟩)) 1 1))]) (h1 := fun nu5 => [(nu1 0, .cells #[.int .i64 ((Sx.valOf key l).kind), .string ((Sx.valOf key l).text), .int .i64 ((Sx.valOf key l).n), .slice ua un uc] 47 (0, 0)), (nu2 0, .cells #[.slice q1 m1 d1, .int .i64 x.place, .slice (some (⟨bq, oq, none⟩)) cut.toNat d2] 28 (0, 0)), (nu3 0, .cells #[.slice q1 m1 d1, .int .i64 x.place, .slice (some (⟨bq, oq + cut.toNat * 7, none⟩)) (x.ops.length - cut.toNat) (d2 - cut.toNat)] 28 (0, 0)), (nu4 0, .cells #[.slice q1 m1 d1, .int .i64 x.place, .slice (some (⟨bq, oq + cut.toNat * 7, none⟩)) (x.ops.length - cut.toNat) (d2 - cut.toNat)] 28 (0, 0)), (nu5 0, .cells #[.slice q1 m1 d1, .int .i64 x.place, .slice (some (⟨bq, oq, none⟩)) cut.toNat d2] 28 (0, 0))]) (p1 := fun nu5 => []) (W1 := []) (fun _ => by kernel_rfl) (fun _ => trivial) (fun nu5 => ?_)
                  refine JR_appm 0 43 28 3 56 (.agg #[.slice none 0 0, .int .i64 0, .slice none 0 0]) (a0 := av1) (len := k + 1) (cap0 := cv1) (ax := (some (⟨nu5 0, 0, none⟩))) (m := 1) (c := 1) (dst := (some 164)) [(⟨x.when, x.place, x.ops.take cut.toNat⟩ : ComT)] (by kernel_rfl) (by kernel_rfl) (by kernel_rfl) (by kernel_rfl) rfl (by decide) rfl (fun _ _ _ s => src_one s 4 rfl rfl ⟨.inr (.inl (List.mem_of_getElem? (i := 7) rfl)), ⟨.inl ⟨rfl, rfl⟩, ⟨.inr (.inl (List.mem_of_getElem? (i := 10) rfl)), trivial⟩⟩⟩) (by simp only [maxLen]; omega) (by omega) (fun av2 cv2 => ?_)
                  rw [e5]
                  try simp only [List.cons_append, List.nil_append, List.append_nil]
                  refine JR_run (id := 31) (rest := []) [.rd 4 [] 0 0] [0, 1, 2, 3, 8, 12, 13, 14, 15, 16, 17, 18] (E1 := fun _ => [(0, .val (.string key)), (1, .val (.slice (some (⟨b1, off1, none⟩)) l.length c)), (2, .val (.slice a2 order.length c2)), (3, .val (.int .i64 cut)), (8, .val (.bool false)), (12, .val (.pointer (some (⟨nu1 0, 0, none⟩)))), (13, .val (.nilIface)), (14, .val (.slice av2 (k + 2) cv2)), (15, .val (.int .i64 i)), (16, .val (.int .i64 (i - (↑order.length : Int)))), (17, .val (.pointer (some (⟨nu2 0, 0, none⟩)))), (18, .val (.pointer (some (⟨nu3 0, 0, none⟩))))]) (h1 := fun _ => [(nu1 0, .cells #[.int .i64 ((Sx.valOf key l).kind), .string ((Sx.valOf key l).text), .int .i64 ((Sx.valOf key l).n), .slice ua un uc] 47 (0, 0)), (nu2 0, .cells #[.slice q1 m1 d1, .int .i64 x.place, .slice (some (⟨bq, oq, none⟩)) cut.toNat d2] 28 (0, 0)), (nu3 0, .cells #[.slice q1 m1 d1, .int .i64 x.place, .slice (some (⟨bq, oq + cut.toNat * 7, none⟩)) (x.ops.length - cut.toNat) (d2 - cut.toNat)] 28 (0, 0)), (nu4 0, .cells #[.slice q1 m1 d1, .int .i64 x.place, .slice (some (⟨bq, oq + cut.toNat * 7, none⟩)) (x.ops.length - cut.toNat) (d2 - cut.toNat)] 28 (0, 0)), (nu5 0, .cells #[.slice q1 m1 d1, .int .i64 x.place, .slice (some (⟨bq, oq, none⟩)) cut.toNat d2] 28 (0, 0))]) (p1 := fun _ => []) (W1 := []) (fun _ => by kernel_rfl) (fun _ => trivial) (fun _ => ?_)
                  try simp only [List.cons_append, List.nil_append, List.append_nil]
                  refine JR_end ?_
                  try simp only [List.cons_append, List.nil_append, List.append_nil]
                  refine J_eb ?_
                  try simp only [List.cons_append, List.nil_append, List.append_nil]
                  refine J_reg mixed [.rd 0 [] 0 0, .rd 1 [] 0 1, .rd 2 [] 0 0] [] [0, 1, 2, 3, 8, 12, 13, 14, 15, 16, 17, 18] (E1 := fun _ => [(0, .val (.string key)), (1, .val (.slice (some (⟨b1, off1, none⟩)) l.length c)), (2, .val (.slice a2 order.length c2)), (3, .val (.int .i64 cut)), (8, .val (.bool false)), (12, .val (.pointer (some (⟨nu1 0, 0, none⟩)))), (13, .val (.nilIface)), (14, .val (.slice av2 (k + 2) cv2)), (15, .val (.int .i64 (i + 1))), (16, .val (.int .i64 (i - (↑order.length : Int)))), (17, .val (.pointer (some (⟨nu2 0, 0, none⟩)))), (18, .val (.pointer (some (⟨nu3 0, 0, none⟩))))]) (h1 := fun _ => [(nu1 0, .cells #[.int .i64 ((Sx.valOf key l).kind), .string ((Sx.valOf key l).text), .int .i64 ((Sx.valOf key l).n), .slice ua un uc] 47 (0, 0)), (nu2 0, .cells #[.slice q1 m1 d1, .int .i64 x.place, .slice (some (⟨bq, oq, none⟩)) cut.toNat d2] 28 (0, 0)), (nu3 0, .cells #[.slice q1 m1 d1, .int .i64 x.place, .slice (some (⟨bq, oq + cut.toNat * 7, none⟩)) (x.ops.length - cut.toNat) (d2 - cut.toNat)] 28 (0, 0)), (nu4 0, .cells #[.slice q1 m1 d1, .int .i64 x.place, .slice (some (⟨bq, oq + cut.toNat * 7, none⟩)) (x.ops.length - cut.toNat) (d2 - cut.toNat)] 28 (0, 0)), (nu5 0, .cells #[.slice q1 m1 d1, .int .i64 x.place, .slice (some (⟨bq, oq, none⟩)) cut.toNat d2] 28 (0, 0))]) (p1 := fun _ => [IntKind.i64.wrap (i + (1 : Int)) = i + (1 : Int)]) (W1 := []) (by kernel_rfl) (fun _ => by kernel_rfl) (fun _ => ⟨wrap_i64 (by omega) (by omega), trivial⟩) (fun _ => ?_)
                  try simp only [List.cons_append, List.nil_append, List.append_nil]
                  refine J_backx ⟨i + 1, _, _, _⟩ [0, 1, 2, 3, 8, 12, 13, 14, 15] [0] [0] [0, 1, 2, 3, 4] ?_ ?_ (by kernel_rfl) rfl rfl rfl
                  · exact ⟨by simp only; omega, by simp only; omega⟩
                  · simp only
                    omega
                · have e5 : otherL l order cut i.toNat ++ [x] = otherL l order cut (i + 1).toNat := by
                    rw [show (i + 1).toNat = i.toNat + 1 by omega, otherL_snoc, hst, partsC, if_neg hcut]
                  refine J_reg mixed [.rd 0 [] 0 0, .rd 1 [] 0 0, .rd 2 [] 0 0, .rd 3 [] 2 0, .rd 4 [] 2 0, .rd 5 [.o 1 none] 2 0, .rd 6 [] 2 0, .rd 7 [] 2 0, .rd 8 [] 0 3] [] [0, 1, 2, 3, 8, 12, 13, 14, 15, 16, 17, 145] (E1 := fun _ => [(0, .val (.string key)), (1, .val (.slice (some (⟨b1, off1, none⟩)) l.length c)), (2, .val (.slice a2 order.length c2)), (3, .val (.int .i64 cut)), (8, .val (.bool false)), (12, .val (.pointer (some (⟨nu1 0, 0, none⟩)))), (13, .val (.nilIface)), (14, .val (.slice av k cv)), (15, .val (.int .i64 i)), (16, .val (.int .i64 (i - (↑order.length : Int)))), (17, .val (.pointer (some (⟨nu2 0, 0, none⟩)))), (145, .val (.bool (decide (cut > 0) && decide (cut < (↑x.ops.length : Int)))))]) (h1 := fun _ => [(nu1 0, .cells #[.int .i64 ((Sx.valOf key l).kind), .string ((Sx.valOf key l).text), .int .i64 ((Sx.valOf key l).n), .slice ua un uc] 47 (0, 0)), (nu2 0, .cells #[.slice q1 m1 d1, .int .i64 x.place, .slice q2 x.ops.length d2] 28 (0, 0))]) (p1 := fun _ => []) (W1 := []) (by kernel_rfl) (fun _ => by kernel_rfl) (fun _ => trivial) (fun _ => ?_)
                  refine J_condF (decide (cut > 0) && decide (cut < (↑x.ops.length : Int))) (by kernel_rfl) (by kernel_rfl) (by simp; omega) ?_
                  refine J_skip ?_
                  refine JR_begin mixed [(0, true), (1, true), (2, false), (3, false), (4, true)] [] (by kernel_rfl) (by kernel_rfl) ?_
                  refine JR_run (id := 31) (rest := [(3, false), (4, true)]) [.rd 0 [] 0 0, .rd 1 [.o 1 none, .o 1 none, .o 1 none] 0 0, .wr 2 [] 0] [0, 1, 2, 3, 8, 12, 13, 14, 15, 16, 17, 161, 163] (E1 := fun nu3 => [(0, .val (.string key)), (1, .val (.slice (some (⟨b1, off1, none⟩)) l.length c)), (2, .val (.slice a2 order.length c2)), (3, .val (.int .i64 cut)), (8, .val (.bool false)), (12, .val (.pointer (some (⟨nu1 0, 0, none⟩)))), (13, .val (.nilIface)), (14, .val (.slice av k cv)), (15, .val (.int .i64 i)), (16, .val (.int .i64 (i - (↑order.length : Int)))), (17, .val (.pointer (some (⟨nu2 0, 0, none⟩)))), (161, .val (.slice av k cv)), (163, .val (.slice (some (⟨nu3 0, 0, none⟩)) 1 1))]) (h1 := fun nu3 => [(nu1 0, .cells #[.int .i64 ((Sx.valOf key l).kind), .string ((Sx.valOf key l).text), .int .i64 ((Sx.valOf key l).n), .slice ua un uc] 47 (0, 0)), (nu2 0, .cells #[.slice q1 m1 d1, .int .i64 x.place, .slice q2 x.ops.length d2] 28 (0, 0)), (nu3 0, .cells #[.slice q1 m1 d1, .int .i64 x.place, .slice q2 x.ops.length d2] 28 (0, 0))]) (p1 := fun nu3 => []) (W1 := []) (fun _ => by kernel_rfl) (fun _ => trivial) (fun nu3 => ?_)
                  refine JR_appm 0 43 28 3 56 (.agg #[.slice none 0 0, .int .i64 0, .slice none 0 0]) (a0 := av) (len := k) (cap0 := cv) (ax := (some (⟨nu3 0, 0, none⟩))) (m := 1) (c := 1) (dst := (some 164)) [x] (by kernel_rfl) (by kernel_rfl) (by kernel_rfl) (by kernel_rfl) rfl (by decide) rfl (fun _ _ _ s => src_one s 2 rfl rfl ⟨.inr (.inl (List.mem_of_getElem? (i := 7) rfl)), ⟨.inl ⟨rfl, rfl⟩, ⟨.inr (.inl (List.mem_of_getElem? (i := 8) rfl)), trivial⟩⟩⟩) (by simp only [maxLen]; omega) (by omega) (fun av1 cv1 => ?_)
                  rw [e5]
                  try simp only [List.cons_append, List.nil_append, List.append_nil]
                  refine JR_run (id := 31) (rest := []) [.rd 4 [] 0 0] [0, 1, 2, 3, 8, 12, 13, 14, 15, 16, 17] (E1 := fun _ => [(0, .val (.string key)), (1, .val (.slice (some (⟨b1, off1, none⟩)) l.length c)), (2, .val (.slice a2 order.length c2)), (3, .val (.int .i64 cut)), (8, .val (.bool false)), (12, .val (.pointer (some (⟨nu1 0, 0, none⟩)))), (13, .val (.nilIface)), (14, .val (.slice av1 (k + 1) cv1)), (15, .val (.int .i64 i)), (16, .val (.int .i64 (i - (↑order.length : Int)))), (17, .val (.pointer (some (⟨nu2 0, 0, none⟩))))]) (h1 := fun _ => [(nu1 0, .cells #[.int .i64 ((Sx.valOf key l).kind), .string ((Sx.valOf key l).text), .int .i64 ((Sx.valOf key l).n), .slice ua un uc] 47 (0, 0)), (nu2 0, .cells #[.slice q1 m1 d1, .int .i64 x.place, .slice q2 x.ops.length d2] 28 (0, 0)), (nu3 0, .cells #[.slice q1 m1 d1, .int .i64 x.place, .slice q2 x.ops.length d2] 28 (0, 0))]) (p1 := fun _ => []) (W1 := []) (fun _ => by kernel_rfl) (fun _ => trivial) (fun _ => ?_)
                  try simp only [List.cons_append, List.nil_append, List.append_nil]
                  refine JR_end ?_
                  try simp only [List.cons_append, List.nil_append, List.append_nil]
                  refine J_eb ?_
                  try simp only [List.cons_append, List.nil_append, List.append_nil]
                  refine J_reg mixed [.rd 0 [] 0 0, .rd 1 [] 0 1, .rd 2 [] 0 0] [] [0, 1, 2, 3, 8, 12, 13, 14, 15, 16, 17] (E1 := fun _ => [(0, .val (.string key)), (1, .val (.slice (some (⟨b1, off1, none⟩)) l.length c)), (2, .val (.slice a2 order.length c2)), (3, .val (.int .i64 cut)), (8, .val (.bool false)), (12, .val (.pointer (some (⟨nu1 0, 0, none⟩)))), (13, .val (.nilIface)), (14, .val (.slice av1 (k + 1) cv1)), (15, .val (.int .i64 (i + 1))), (16, .val (.int .i64 (i - (↑order.length : Int)))), (17, .val (.pointer (some (⟨nu2 0, 0, none⟩))))]) (h1 := fun _ => [(nu1 0, .cells #[.int .i64 ((Sx.valOf key l).kind), .string ((Sx.valOf key l).text), .int .i64 ((Sx.valOf key l).n), .slice ua un uc] 47 (0, 0)), (nu2 0, .cells #[.slice q1 m1 d1, .int .i64 x.place, .slice q2 x.ops.length d2] 28 (0, 0)), (nu3 0, .cells #[.slice q1 m1 d1, .int .i64 x.place, .slice q2 x.ops.length d2] 28 (0, 0))]) (p1 := fun _ => [IntKind.i64.wrap (i + (1 : Int)) = i + (1 : Int)]) (W1 := []) (by kernel_rfl) (fun _ => by kernel_rfl) (fun _ => ⟨wrap_i64 (by omega) (by omega), trivial⟩) (fun _ => ?_)
                  try simp only [List.cons_append, List.nil_append, List.append_nil]
                  refine J_backx ⟨i + 1, _, _, _⟩ [0, 1, 2, 3, 8, 12, 13, 14, 15] [0] [0] [0, 1, 2, 3, 4] ?_ ?_ (by kernel_rfl) rfl rfl rfl
                  · exact ⟨by simp only; omega, by simp only; omega⟩
                  · simp only
                    omega
            · have hin2 : i.toNat = order.length + l.length := by simp at hlt5; omega
              rw [hin2]
              have hOl := otherL_len l order cut (order.length + l.length)
              have hOm : ∀ c' ∈ otherL l order cut (order.length + l.length), c'.when.length ≤ 1000000 ∧ c'.ops.length ≤ 1000000 := fun c' hc' => by
                obtain ⟨c, hcm, hp⟩ := otherL_mem hc'
                have h1 := light_com (hlc c hcm)
                have h2 := partsC_part (fun h3 => by have := (right_of (right_mem hc hcm)).o1; rw [h3] at this; simp at this) c' hp
                have h4 := h2.ops.length_le
                rw [h2.time]
                omega
              have hvl := valOf_len hc
              refine J_stp (stp_freeze 0 rfl) ?_
              refine J_norm (C' := []) (G' := [(.nilIface, (dC er eb)), (.slice a l.length c, (D.sl 3 (List.map eCom l))), (.slice a2 order.length c2, (dInts order)), (.slice a3 n3 c3, (D.sl 3 (List.map eCom l))), (.slice ua un uc, (dStrs (Sx.valOf key l).set)), (.slice av k cv, (D.sl 3 (List.map eCom (otherL l order cut (order.length + l.length)))))]) (by kernel_rfl) (by kernel_rfl) ?_
              refine J_exit rfl ?_
              refine J_seq ?_
              refine JR_begin mixed [(0, true), (1, true), (2, false), (3, true), (4, true), (5, true), (6, false), (7, false), (8, true)] [] (by kernel_rfl) (by kernel_rfl) ?_
              refine JR_run (id := 32) (rest := [(2, false), (3, true), (4, true), (5, true), (6, false), (7, false), (8, true)]) [.rd 0 [] 0 0, .rd 1 [] 0 0] [8, 12, 13, 166, 167] (E1 := fun _ => [(8, .val (.bool false)), (12, .val (.pointer (some (⟨nu1 0, 0, none⟩)))), (13, .val (.nilIface)), (166, .val (.string key)), (167, .val (.slice av k cv))]) (h1 := fun _ => [(nu1 0, .cells #[.int .i64 ((Sx.valOf key l).kind), .string ((Sx.valOf key l).text), .int .i64 ((Sx.valOf key l).n), .slice ua un uc] 47 (0, 0))]) (p1 := fun _ => []) (W1 := []) (fun _ => by kernel_rfl) (fun _ => trivial) (fun _ => ?_)
              refine JR_callzp [] 21 #[.string key, .slice av k cv] (some 168) zero_all (by kernel_rfl) (fun w S hG => ?_)
              refine (vOf (key := key) (hG.at 0 rfl) (hG.at 5 rfl) (by omega) (fun x hx => (hOm x hx).1) (fun x hx => (hOm x hx).2)).mono ?_
              rintro e5 w5 (⟨hc3, _⟩ | ⟨hc3, va, vn, vc, hR⟩)
              · exact absurd hc2 hc3
              rw [hval] at hR
              refine ⟨_, _, _, hR, ?_⟩
              try simp only [List.cons_append, List.nil_append, List.append_nil]
              refine JR_run (id := 32) (rest := []) [.rd 3 [] 0 0, .rd 4 [] 0 0, .rd 5 [] 0 0, .wr 6 [] 0, .wr 7 [.o 1 none, .o 1 none, .o 1 none, .o 1 none] 0, .rd 8 [] 0 0] [8, 12, 13, 19] (E1 := fun nu2 => [(8, .val (.bool false)), (12, .val (.pointer (some (⟨nu1 0, 0, none⟩)))), (13, .val (.nilIface)), (19, .val (.pointer (some (⟨nu2 0, 0, none⟩))))]) (h1 := fun nu2 => [(nu1 0, .cells #[.int .i64 ((Sx.valOf key l).kind), .string ((Sx.valOf key l).text), .int .i64 ((Sx.valOf key l).n), .slice ua un uc] 47 (0, 0)), (nu2 0, .cells #[.int .i64 ((Sx.valOf key l).kind), .string ((Sx.valOf key l).text), .int .i64 ((Sx.valOf key l).n), .slice va vn vc] 47 (0, 0))]) (p1 := fun nu2 => []) (W1 := []) (fun _ => by kernel_rfl) (fun _ => trivial) (fun nu2 => ?_)
              refine JR_end ?_
              refine J_seq ?_
              refine JR_begin mixed [(0, true), (1, true), (2, true), (3, true), (4, true), (5, false), (6, true), (7, true)] [] (by kernel_rfl) (by kernel_rfl) ?_
              refine JR_run (id := 33) (rest := [(5, false), (6, true), (7, true)]) [.rd 0 [] 0 0, .rd 1 [] 0 0, .rd 2 [] 0 0, .rd 3 [.o 0 none, .o 0 none, .o 0 none, .o 0 none] 0 0, .rd 4 [.o 1 none, .o 1 none, .o 1 none, .o 1 none] 0 0] [8, 173, 174, 175] (E1 := fun _ => [(8, .val (.bool false)), (173, .val (.bool true)), (174, .val (.agg #[.int .i64 ((Sx.valOf key l).kind), .string ((Sx.valOf key l).text), .int .i64 ((Sx.valOf key l).n), .slice ua un uc])), (175, .val (.agg #[.int .i64 ((Sx.valOf key l).kind), .string ((Sx.valOf key l).text), .int .i64 ((Sx.valOf key l).n), .slice va vn vc]))]) (h1 := fun _ => [(nu1 0, .cells #[.int .i64 ((Sx.valOf key l).kind), .string ((Sx.valOf key l).text), .int .i64 ((Sx.valOf key l).n), .slice ua un uc] 47 (0, 0)), (nu2 0, .cells #[.int .i64 ((Sx.valOf key l).kind), .string ((Sx.valOf key l).text), .int .i64 ((Sx.valOf key l).n), .slice va vn vc] 47 (0, 0))]) (p1 := fun _ => []) (W1 := []) (fun _ => by kernel_rfl) (fun _ => trivial) (fun _ => ?_)
              refine JR_callp [] 27 #[.agg #[.int .i64 ((Sx.valOf key l).kind), .string ((Sx.valOf key l).text), .int .i64 ((Sx.valOf key l).n), .slice ua un uc], .agg #[.int .i64 ((Sx.valOf key l).kind), .string ((Sx.valOf key l).text), .int .i64 ((Sx.valOf key l).n), .slice va vn vc]] (some 176) (by kernel_rfl) (fun w S hG => ?_)
              refine (sameValue_eq (v := Sx.valOf key l) (hG.at 4 rfl) (hG.at 6 rfl) (by omega)).mono ?_
              rintro e6 w6 hR
              refine ⟨_, _, _, hR, ?_⟩
              try simp only [List.cons_append, List.nil_append, List.append_nil]
              refine JR_run (id := 33) (rest := []) [.rd 6 [] 0 0, .rd 7 [] 0 0] [8] (E1 := fun _ => [(8, .val (.bool true))]) (h1 := fun _ => [(nu1 0, .cells #[.int .i64 ((Sx.valOf key l).kind), .string ((Sx.valOf key l).text), .int .i64 ((Sx.valOf key l).n), .slice ua un uc] 47 (0, 0)), (nu2 0, .cells #[.int .i64 ((Sx.valOf key l).kind), .string ((Sx.valOf key l).text), .int .i64 ((Sx.valOf key l).n), .slice va vn vc] 47 (0, 0))]) (p1 := fun _ => []) (W1 := []) (fun _ => by kernel_rfl) (fun _ => trivial) (fun _ => ?_)
              refine JR_end ?_
              refine J_return [[]] (.bool true) (by kernel_rfl) (fun a w s => ?_)
              exact s.retz (by simp) [] [] rfl rfl
      · try simp only [List.cons_append, List.nil_append, List.append_nil]
        refine JR_run (id := 2) (rest := []) [.rd 10 [] 0 0, .rd 11 [] 0 0, .rd 12 [] 0 0, .rd 13 [] 0 0, .rd 14 [] 0 6, .rd 15 [] 0 0] [0, 1, 2, 3, 8, 9, 36] (E1 := fun _ => [(0, .val (.string key)), (1, .val (.slice a l.length c)), (2, .val (.slice a2 order.length c2)), (3, .val (.int .i64 cut)), (8, .val (.bool false)), (9, .val (.bool true)), (36, .val (.bool true))]) (h1 := fun _ => []) (p1 := fun _ => [decide ((↑order.length : Int) > (60 : Int)) = true]) (W1 := []) (fun _ => by kernel_rfl) (fun _ => ⟨by simp; omega, trivial⟩) (fun _ => ?_)
        refine JR_end ?_
        refine J_cond_t (by kernel_rfl) (by kernel_rfl) ?_
        refine J_seq ?_
        refine J_reg mixed [.rd 0 [] 0 0, .rd 1 [] 0 0] [] [0, 1, 2, 3, 8] (E1 := fun _ => [(0, .val (.string key)), (1, .val (.slice a l.length c)), (2, .val (.slice a2 order.length c2)), (3, .val (.int .i64 cut)), (8, .val (.bool true))]) (h1 := fun _ => []) (p1 := fun _ => []) (W1 := []) (by kernel_rfl) (fun _ => by kernel_rfl) (fun _ => trivial) (fun _ => ?_)
        refine J_return [[]] (.bool true) (by kernel_rfl) (fun a w s => ?_)
        exact s.retz (by simp) [] [] rfl rfl
  · try simp only [List.cons_append, List.nil_append, List.append_nil]
    refine JR_run (id := 1) (rest := []) [.rd 1 [] 0 0] [0, 1, 2, 3, 8, 9] (E1 := fun _ => [(0, .val (.string key)), (1, .val (.slice a l.length c)), (2, .val (.slice a2 order.length c2)), (3, .val (.int .i64 cut)), (8, .val (.bool false)), (9, .val (.bool true))]) (h1 := fun _ => []) (p1 := fun _ => []) (W1 := []) (fun _ => by kernel_rfl) (fun _ => trivial) (fun _ => ?_)
    refine JR_end ?_
    refine J_seq ?_
    refine J_seq ?_
    refine J_reg mixed [.rd 0 [] 0 0, .rd 1 [] 0 0, .rd 2 [] 0 0, .rd 3 [] 0 0, .rd 4 [] 0 0, .rd 5 [] 0 6, .rd 6 [] 0 0, .rd 7 [] 0 0, .rd 8 [] 1 0, .wr 9 [] 1, .rd 10 [] 0 0, .rd 11 [] 0 0, .rd 12 [] 1 0, .rd 13 [] 1 0, .rd 14 [] 1 0, .rd 15 [] 0 0] [] [0, 1, 2, 3, 8, 9, 36] (E1 := fun _ => [(0, .val (.string key)), (1, .val (.slice a l.length c)), (2, .val (.slice a2 order.length c2)), (3, .val (.int .i64 cut)), (8, .val (.bool false)), (9, .val (.bool true)), (36, .val (.bool true))]) (h1 := fun _ => []) (p1 := fun _ => [decide ((↑key.size : Int) > (60 : Int)) = true]) (W1 := []) (by kernel_rfl) (fun _ => by kernel_rfl) (fun _ => ⟨by simp; omega, trivial⟩) (fun _ => ?_)
    refine J_cond_t (by kernel_rfl) (by kernel_rfl) ?_
    refine J_seq ?_
    refine J_reg mixed [.rd 0 [] 0 0, .rd 1 [] 0 0] [] [0, 1, 2, 3, 8] (E1 := fun _ => [(0, .val (.string key)), (1, .val (.slice a l.length c)), (2, .val (.slice a2 order.length c2)), (3, .val (.int .i64 cut)), (8, .val (.bool true))]) (h1 := fun _ => []) (p1 := fun _ => []) (W1 := []) (by kernel_rfl) (fun _ => by kernel_rfl) (fun _ => trivial) (fun _ => ?_)
    refine J_return [[]] (.bool true) (by kernel_rfl) (fun a w s => ?_)
    exact s.retz (by simp) [] [] rfl rfl
end Go.Proofs.YtpjkiomccpjboaaGreatDoor
end
section
namespace Go.Sx
open Go Go.RowKit Go.ChangeShapes Go.WideShapes
theorem Fr.below {w w' : World} (h : Fr [] w w') : Below w.heap.size w w' := ⟨h.os, h.tape, h.output, h.size, fun b hb => h.block b hb (by simp)⟩
def IntsAt (w : World) (ad : Option Addr) (zs : List Int) : Prop := zs ≠ [] → ∃ bo off cs ty fz, ad = some ⟨bo, off, none⟩ ∧ w.heap[bo]? = some (.cells cs ty fz) ∧ ∀ (i : Nat) z, zs[i]? = some z → cs[off + i]? = some (.int .i64 z)
theorem cell_blk {w : World} {a : Addr} {v : Value} (h : w.cell? a = some v) : ∃ cs ty fz, w.heap[a.block]? = some (.cells cs ty fz) ∧ a.spot = none ∧ cs[a.off]? = some v := by
  unfold World.cell? at h
  split at h
  · rename_i cs ty fz hb
    split at h
    · cases h
    · rename_i hs
      exact ⟨cs, ty, fz, hb, by simpa using hs, h⟩
  · cases h
section
variable {H : Type} {enc : TypeId × Value → H} {P : Program}
theorem open_intsAt {W : World} {base : Nat} {t e : TypeId} {v : Value} {d : DataW H} {ps : List MemPlace} (ht : P.underlying t = some (.slice e)) (he : P.underlying e = some (.int .i64)) (hc : P.cellsOf e = 1)
    (hv : Value.okWide P W .any base t v) (h : DataW.Trod enc P W 0 (fun _ => true) true t v d ps) : ∃ ad zs c, v = .slice ad zs.length c ∧ IntsAt W ad zs ∧ (∀ z ∈ zs, -9223372036854775808 ≤ z ∧ z ≤ 9223372036854775807) ∧ zs.length ≤ maxLen := by
  obtain ⟨a0, len, cap, rfl⟩ := okWide_slice ht hv
  obtain ⟨fuel, hf⟩ := h
  rcases open_ints ht he hc hf with ⟨hcs, hx⟩ | ⟨a, len', cap', zs, hcs, _, hl, hm, hz, hx, hcell, hwz⟩
  · simp [Value.cells] at hcs
    obtain ⟨rfl, rfl, rfl⟩ := hcs
    exact ⟨none, [], 0, rfl, fun h => absurd rfl h, by simp, by simp⟩
  · simp [Value.cells] at hcs
    obtain ⟨rfl, rfl, rfl⟩ := hcs
    simp only [if_true] at hz
    refine ⟨some a, zs.take len, cap, by rw [List.length_take, Nat.min_eq_left (by omega)], fun hne => ?_, fun z hz => ?_, by rw [List.length_take]; omega⟩
    · have hpos : 0 < zs.length := by
        rcases zs with _ | ⟨z, zs⟩
        · simp at hne
        · simp
      obtain ⟨cs, ty, fz, hb, hs, _⟩ := cell_blk (hcell 0 hpos)
      have e0 : a.add 0 = a := by simp [Addr.add]
      rw [e0] at hb hs
      obtain ⟨b, off, sp⟩ := a
      simp only at hb hs
      subst hs
      refine ⟨b, off, cs, ty, fz, rfl, hb, fun i z hi => ?_⟩
      rw [List.getElem?_take] at hi
      split at hi
      · have hil := (List.getElem?_eq_some_iff.1 hi).1
        obtain ⟨cs', ty', fz', hb', _, hc'⟩ := cell_blk (hcell i hil)
        rw [addr_add] at hb' hc'
        simp only at hb' hc'
        rw [hb] at hb'
        cases hb'
        rw [hc', List.getD_eq_getElem?_getD, hi]
        rfl
      · cases hi
    · have := hwz z (List.mem_of_mem_take hz)
      simp [Lit.wf, IntKind.min, IntKind.max, IntKind.signed, IntKind.bits] at this
      exact this
theorem open_intsRep {W : World} {base : Nat} {t e : TypeId} {v : Value} {d : DataW H} {ps : List MemPlace} (ht : P.underlying t = some (.slice e)) (he : P.underlying e = some (.int .i64)) (hc : P.cellsOf e = 1)
    (hv : Value.okWide P W .any base t v) (h : DataW.Trod enc P W 0 (fun _ => true) true t v d ps) : ∃ ad zs c, v = .slice ad zs.length c ∧ Rep W (fun _ => True) (.slice ad zs.length c) (dInts zs) ∧ (∀ z ∈ zs, -9223372036854775808 ≤ z ∧ z ≤ 9223372036854775807) ∧ zs.length ≤ maxLen := by
  obtain ⟨a0, len, cap, rfl⟩ := okWide_slice ht hv
  obtain ⟨ad, zs, c, hx, hat, hz, hl⟩ := open_intsAt ht he hc hv h
  injection hx with h1 h2 h3
  subst h1 h2 h3
  refine ⟨a0, zs, cap, rfl, ?_, hz, hl⟩
  by_cases hne : zs = []
  · subst hne
    exact .nil
  · obtain ⟨fuel, hf⟩ := h
    have hcap : zs.length ≤ cap := by
      rcases open_ints ht he hc hf with ⟨hcs, _⟩ | ⟨a, len', cap', zs', hcs, _, hl', _⟩
      · simp [Value.cells] at hcs
        exact absurd hcs.2.1 hne
      · simp [Value.cells] at hcs
        obtain ⟨rfl, rfl, rfl⟩ := hcs
        exact hl'
    obtain ⟨bo, off, cs, ty, fz, rfl, hb, hcell⟩ := hat hne
    have hlen : (zs.map eI).length = zs.length := by simp
    have := Rep.sl (S := fun _ => True) (off := off) (cap := cap) (k := 1) (rows := zs.map eI) (fun i _ => .int .i64 (zs.getD i 0)) hb trivial (by simpa using hcap) (by decide) (by simp) (fun i j hi hj => ?_) (fun i j row d hi hj => ?_)
    · simpa using this
    · obtain rfl : j = 0 := by omega
      rw [hlen] at hi
      have := hcell i (zs[i]) (List.getElem?_eq_getElem hi)
      rw [Nat.mul_one, Nat.add_zero, this]
      simp [List.getD_eq_getElem?_getD, List.getElem?_eq_getElem hi]
    · rw [List.getElem?_map] at hi
      obtain ⟨z, hz', rfl⟩ := Option.map_eq_some_iff.1 hi
      match j, hj with
      | 0, hj =>
        simp only [List.getElem?_cons_zero, Option.some.injEq] at hj
        subst hj
        simp only [List.getD_eq_getElem?_getD, hz', Option.getD_some]
        exact .v rfl
      | j + 1, hj => simp at hj
theorem rep_var {W : World} {n : String} {g : Nat} {x : Value} (hg : P.globalNamed n = some g) (h : W.var? P n = some #[x]) (hx : x.oneCell' = true) : Rep W (fun _ => True) (.pointer (some ⟨g, 0, none⟩)) (.ptr [.v x]) := by
  unfold World.var? at h
  simp only [hg, Option.bind_some] at h
  split at h
  · rename_i cs ty fz hb
    cases h
    refine .ptr (fun _ => x) hb trivial (fun j hj => ?_) (fun j d hj => ?_)
    · obtain rfl : j = 0 := by simpa using hj
      rfl
    · match j, hj with
      | 0, hj =>
        simp only [List.getElem?_cons_zero, Option.some.injEq] at hj
        subst hj
        exact .v hx
      | j + 1, hj => simp at hj
  · cases h
theorem sents {W : World} {ti tp te ts : TypeId} {ms : Array (String × TypeId)} {nm : String} {f : Field} (hi : P.underlying ti = some (.interface ms)) (hrow : ∀ u, P.typeName? 3 u = some nm → u = tp)
    (hp : P.underlying tp = some (.pointer te)) (he : P.underlying te = some (.struct #[f])) (hft : f.type = ts) (hfo : f.offset = 0) (hs : P.underlying ts = some .string) (hc : P.cellsOf te = 1) (hcs : P.cellsOf ts = 1) :
    ∀ (ns : List (String × List UInt8)) (ps : List MemPlace), DataW.LaidVars P W (ns.map fun x => (x.1, DataW.iface nm (.ptr (.agg [.lit (.string x.2)])))) ps →
      ns.all (fun x => match P.globalNamed x.1 with
        | some g => (P.globals[g]?).map (·.type) == some ti
        | none => false) = true →
      (∀ b off, MemPlace.cell b off ∈ ps → ∀ u v, W.cell? ⟨b, off, none⟩ = some (.iface u v) → Value.okWide P W .any 0 u v) →
      ∃ adz : List Addr, adz.length = ns.length ∧ (∀ (i : Nat) x a, ns[i]? = some x → adz[i]? = some a → W.var? P x.1 = some #[.iface tp (.pointer (some a))] ∧ a.spot = none) ∧ (adz.map fun a => MemPlace.cell a.block a.off).Sublist ps
  | [], ps, _, _, _ => ⟨[], rfl, by simp, by simp⟩
  | (n, text) :: ns, ps, h, hg, hr => by
    rw [List.map_cons] at h
    obtain ⟨g0, t0, cs0, f0, p0, q0, hg0, ht0, hv0, hd0, hq, e0⟩ := h
    rw [List.all_cons, Bool.and_eq_true] at hg
    obtain ⟨hg1, hg2⟩ := hg
    simp only [hg0, ht0, beq_iff_eq, Option.some.injEq] at hg1
    subst hg1 e0
    obtain ⟨l0⟩ := cs0
    have ok0 : ∀ u v, l0 = [.iface u v] → Value.okWide P W .any 0 u v := fun u v e => by
      subst e
      exact hr g0 0 (by simp [MemPlace.row]) u v (by simpa using World.var?_cell hg0 hv0 0)
    obtain ⟨a0, s0, rfl, hc0, hs0, hz0, rfl⟩ := errorString_of_trod hi hrow hp he hft hfo hs hc hcs hd0 ok0
    obtain ⟨adz, h1, h2, h3⟩ := sents hi hrow hp he hft hfo hs hc hcs ns q0 hq hg2 fun b off hm => hr b off (List.mem_append_right _ hm)
    obtain ⟨_, _, _, _, hspot, _⟩ := cell_blk hc0
    refine ⟨a0 :: adz, by simp [h1], fun i x a hx ha => ?_, ?_⟩
    · cases i with
      | zero =>
        simp only [List.getElem?_cons_zero, Option.some.injEq] at hx ha
        subst hx ha
        exact ⟨hv0, hspot⟩
      | succ i =>
        simp only [List.getElem?_cons_succ] at hx ha
        exact h2 i x a hx ha
    · rw [List.map_cons, List.append_assoc]
      refine (List.Sublist.cons_cons _ h3).trans (?_ : List.Sublist _ (MemPlace.row a0 1 ++ q0)) |>.trans (List.sublist_append_right _ _)
      simp [MemPlace.row]
theorem errs_of {W : World} {ti tp te ts : TypeId} {ms : Array (String × TypeId)} {nm : String} {f : Field} (hi : P.underlying ti = some (.interface ms)) (hrow : ∀ u, P.typeName? 3 u = some nm → u = tp)
    (hp : P.underlying tp = some (.pointer te)) (he : P.underlying te = some (.struct #[f])) (hft : f.type = ts) (hfo : f.offset = 0) (hs : P.underlying ts = some .string) (hc : P.cellsOf te = 1) (hcs : P.cellsOf ts = 1)
    (ns : List (String × List UInt8)) (h : laidMet P (ns.map fun x => (x.1, DataW.iface nm (.ptr (.agg [.lit (.string x.2)])))) W)
    (hg : ns.all (fun x => match P.globalNamed x.1 with
        | some g => (P.globals[g]?).map (·.type) == some ti
        | none => false) = true) :
    ∃ (er : Nat → Addr) (eb : Nat → Array Value × TypeId), (∀ (i : Nat) x, ns[i]? = some x → W.var? P x.1 = some #[.iface tp (.pointer (some (er (i + 1))))] ∧ W.heap[(er (i + 1)).block]? = some (.cells (eb (i + 1)).1 (eb (i + 1)).2 (0, 0))) ∧
      ∀ i j, 1 ≤ i → i ≤ ns.length → 1 ≤ j → j ≤ ns.length → er i = er j → i = j := by
  obtain ⟨ps, hv, hnd, hrows⟩ := h
  obtain ⟨adz, h1, h2, h3⟩ := sents hi hrow hp he hft hfo hs hc hcs ns ps hv hg fun b off hm => (hrows b off hm).2
  have hnd2 := h3.nodup hnd
  have key : ∀ i : Nat, i < ns.length → ∃ a, adz[i]? = some a := fun i hi => ⟨_, List.getElem?_eq_getElem (by omega)⟩
  have hcell : ∀ (i : Nat) a, adz[i]? = some a → ∃ c : Array Value × TypeId, W.heap[a.block]? = some (.cells c.1 c.2 (0, 0)) := fun i a ha => by
    obtain ⟨c, t, hct⟩ := (hrows a.block a.off (h3.subset (List.mem_map.2 ⟨a, List.mem_of_getElem? ha, rfl⟩))).1
    exact ⟨(c, t), hct⟩
  classical
  refine ⟨fun k => adz.getD (k - 1) ⟨0, 0, none⟩, fun k => if hx : ∃ c : Array Value × TypeId, W.heap[(adz.getD (k - 1) ⟨0, 0, none⟩).block]? = some (.cells c.1 c.2 (0, 0)) then hx.choose else (#[], 0), fun i x hx => ?_, fun i j hi1 hi2 hj1 hj2 he => ?_⟩
  · obtain ⟨a, ha⟩ := key i (List.getElem?_eq_some_iff.1 hx).1
    have e : adz.getD (i + 1 - 1) ⟨0, 0, none⟩ = a := by simp [List.getD_eq_getElem?_getD, ha]
    have hh := hcell i a ha
    simp only [e]
    refine ⟨(h2 i x a hx ha).1, ?_⟩
    rw [dif_pos hh]
    exact hh.choose_spec
  · obtain ⟨a, ha⟩ := key (i - 1) (by omega)
    obtain ⟨b, hb⟩ := key (j - 1) (by omega)
    simp only [List.getD_eq_getElem?_getD, ha, hb, Option.getD_some] at he
    subst he
    have e1 : (adz.map fun a => MemPlace.cell a.block a.off)[i - 1]? = some (.cell a.block a.off) := by simp [ha]
    have e2 : (adz.map fun a => MemPlace.cell a.block a.off)[j - 1]? = some (.cell a.block a.off) := by simp [hb]
    have := (List.getElem?_inj (List.getElem?_eq_some_iff.1 e1).1 hnd2).1 (e1.trans e2.symm)
    omega
theorem trodAll_again (hl : laidOutB P = true) {W W' : World} {sp : Nat → Bool} (hb : Below W.heap.size W W') : ∀ {ts : List TypeId} {vs : List Value} {ds : List (DataW H)} {ps : List MemPlace},
    (∀ t ∈ ts, P.readableRec t = true ∧ t < P.types.size) → DataW.TrodAll enc P W 0 (fun _ => true) true ts vs ds ps → (∀ x ∈ ps, x.block < W.heap.size) → (∀ x ∈ ps, sp x.block = true) → DataW.TrodAll enc P W' 0 sp true ts vs ds ps
  | [], vs, ds, ps, _, h, _, _ => by
    obtain ⟨rfl, rfl, rfl⟩ := trodAll_nil h
    exact trodAll_mk0
  | t :: ts, vs, ds, ps, ht, h, hlt, hsp => by
    obtain ⟨v, vs', d, ds', p, q, rfl, rfl, rfl, h0, h1⟩ := trodAll_cons h
    obtain ⟨hr, hrow⟩ := ht t (List.mem_cons_self ..)
    refine trodAll_cons_mk (WideElems.Trod_stays hl hr hrow h0 (fun x hx => hb.same (hlt x (List.mem_append_left _ hx))) fun x hx => hsp x (List.mem_append_left _ hx)) ?_
    exact trodAll_again hl hb (fun t ht' => ht t (List.mem_cons_of_mem _ ht')) h1 (fun x hx => hlt x (List.mem_append_right _ hx)) fun x hx => hsp x (List.mem_append_right _ hx)
theorem law_post {f : Func} {s : ChangeSpec} {apart fresh handsOn again : Bool} {W W' : World} {args : Array Value} {ds gs : List (DataW H)} {before : List MemPlace} {tb : TypeId}
    (hl : laidOutB P = true) (hts : f.params.toList.all (fun t => P.readableRec t && Nat.blt t P.types.size) = true) (hb4 : P.underlying tb = some .bool) (hrt : f.resultTypes = #[tb]) (hvs : s.vars = [])
    (hW : DataW.Whole enc P f.params.toList s.vars apart W args.toList ds gs before) (hfn : ∀ gs, gs = [] → s.fn H (ds ++ gs) = { results := [.lit (.bool true)], args := ds })
    (hb : Below W.heap.size W W') : s.post enc P f apart fresh handsOn again W args (.bool true) W' := by
  have hlt : ∀ x ∈ before, x.block < W.heap.size := fun x hx => hW.lt x hx
  have hold : ∀ x ∈ before, (fun b => decide (b < W.heap.size)) x.block = true := fun x hx => by simpa using hlt x hx
  have hW' := hW
  obtain ⟨p, q, hA, hV, hpq, hz, hn⟩ := hW'
  rw [hvs] at hV
  obtain ⟨rfl, rfl⟩ := trodVars_none hV
  rw [List.append_nil] at hpq
  subst hpq
  have hfn := hfn [] rfl
  have htt : ∀ t ∈ f.params.toList, P.readableRec t = true ∧ t < P.types.size := fun t ht => by
    have := List.all_eq_true.1 hts t ht
    simp only [Bool.and_eq_true] at this
    exact ⟨this.1, Nat.lt_of_succ_le (Nat.le_of_ble_eq_true this.2)⟩
  have hres : ∀ (b : Nat) (sp : Nat → Bool) (hd : Bool), DataW.TrodAll enc P W' b sp hd f.resultTypes.toList ((Value.bool true).resultList f.resultTypes.size) (s.fn H (ds ++ [])).results [] := fun b sp hd => by
    rw [hfn, hrt]
    exact trodAll_mk1 ⟨1, by simp [DataW.trod, Value.cells, hb4]⟩
  have hargs : ∀ sp : Nat → Bool, (∀ x ∈ before, sp x.block = true) → DataW.TrodAll enc P W' 0 sp true f.params.toList args.toList (s.fn H (ds ++ [])).args before := fun sp hsp => by
    rw [hfn]
    exact trodAll_again hl hb htt hA hlt hsp
  have hvars : ∀ sp : Nat → Bool, DataW.TrodVars enc P W' sp s.vars (s.fn H (ds ++ [])).vars [] := fun sp => by
    rw [hvs, hfn]
    rfl
  refine ⟨ds, [], before, [], before, [], hW, hres _ _ _, hargs _ hold, hvars _, World.keptBut_mono (fun x hx => ⟨hx, .inr (.inl hx)⟩) (hb.frame (· ∈ before)), fun _ => ?_⟩
  refine ⟨?_, _, _, ([] ++ before) ++ [], ⟨[] ++ before, [], trodAll_append (hargs _ (fun _ _ => rfl)) (hres _ _ _), hvars _, rfl, ?_, ?_⟩, ?_⟩
  · intro j t r hj hv
    rw [hrt] at hj hv
    match j, hj, hv with
    | 0, hj, hv =>
      simp [Value.resultList] at hj hv
      subst hj; subst hv
      simp [Value.okWide, hb4, Cell.okWide, Cell.ok]
    | j + 1, hj, hv => simp at hj
  · intro b off hp
    have hin : MemPlace.cell b off ∈ before := by simpa using hp
    rw [hb.frozen (hlt _ hin)]
    exact hz b off hin
  · intro ha
    simpa using hn ha
  · intro x hx _
    simpa using hx
end
end Go.Sx
end
